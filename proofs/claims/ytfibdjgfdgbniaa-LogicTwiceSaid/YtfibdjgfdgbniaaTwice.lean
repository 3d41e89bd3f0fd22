/- The walk of the law LogicTwice: what its calls come to makes it answer true. -/
import Derived.Test.YtfibdjgfdgbniaaQLOx7
set_option linter.unusedVariables false
set_option linter.unusedSimpArgs false
namespace Go.Proofs.Ytfibdjgfdgbniaa.QLO
open Go.RowKit Go.Proofs.YtfibdjgfdgbniaaW.PrintWords Go.Proofs.YtfibdjgfdgbniaaW.PrintLast Go.Proofs.YtfibdjgfdgbniaaW.PrintMore
attribute [local go_sem] max2_int min2_int max_two min_two max_three min_three max_four min_four   -- for this text's walks alone
attribute [local go_sem high] eqA23
/-- a variable in memory -/
abbrev Bx (W : World) (b : Nat) (x0 x1 : Int) (x2 : ByteArray) : Prop := W.heap[b]? = some (.cells #[.int .i64 x0, .int .i64 x1, .string x2] 23 (0, 0))
theorem Bx.c0 {W : World} {b : Nat} {x0 x1 : Int} {x2 : ByteArray} (h : Bx W b x0 x1 x2) : W.cell? ⟨b, 0, none⟩ = some (.int .i64 x0) := (blk_cell h 0).trans rfl
theorem Bx.c1 {W : World} {b : Nat} {x0 x1 : Int} {x2 : ByteArray} (h : Bx W b x0 x1 x2) : W.cell? ⟨b, 1, none⟩ = some (.int .i64 x1) := (blk_cell h 1).trans rfl
theorem Bx.c2 {W : World} {b : Nat} {x0 x1 : Int} {x2 : ByteArray} (h : Bx W b x0 x1 x2) : W.cell? ⟨b, 2, none⟩ = some (.string x2) := (blk_cell h 2).trans rfl
/-! the last region's table (printed) -/
def boscagelaw02_LogicTwice.T15 : Bool × List (List Nat × List Nat) := (true, [([], []), ([0], [0]), ([1], [1]), ([2, 1], [1, 2]), ([3, 1, 1], [1, 3]), ([4], [4]), ([5, 4, 4], [4, 5]), ([4], [4]), ([4], [4]), ([7, 8, 4], [4, 7, 8]), ([6, 9, 4], [4, 6, 9]), ([4, 10, 1], [1, 4, 10]), ([1, 11], [1, 11]), ([12, 6], [12]), ([13], [13]), ([14, 13], [13, 14]), ([15, 13, 13], [13, 15]), ([16], [16]), ([17, 16], [16, 17]), ([18, 16], [16, 18]), ([16, 19, 13], [13, 16, 19]), ([20, 16, 13], [13, 20]), ([21], [21]), ([22, 21], [21, 22]), ([23, 21], [21, 23]), ([21, 24, 13], [13, 21, 24]), ([25, 21, 13], [13, 25]), ([26], [26]), ([26], [26]), ([27, 28, 26], [26, 27, 28]), ([26, 29, 13], [13, 26, 29]), ([13, 30], [13, 30]), ([31, 26, 0, 1, 2, 3, 4, 5, 6, 7, 8, 9, 10, 11, 12, 13, 14, 15, 16, 17, 18, 19, 20, 21, 22, 23, 24, 25, 26, 27, 28, 29, 30, 31], [31])])
def boscagelaw02_LogicTwice.B15 : List Nat := [0, 1, 3, 7, 15, 31, 63, 31, 31, 415, 1023, 2047, 4095, 8191, 16383, 32767, 65535, 131071, 262143, 524287, 1048575, 2097151, 4194303, 8388607, 16777215, 33554431, 67108863, 134217727, 134217727, 536870911, 1073741823, 2147483647, 4294967295]
theorem boscagelaw02_LogicTwice.tab15 : rtab .any (opsOf Try.f7 15) = boscagelaw02_LogicTwice.T15 := by kernel_rfl
theorem boscagelaw02_LogicTwice.bits15 : waitsOk boscagelaw02_LogicTwice.T15.2 boscagelaw02_LogicTwice.B15 = true := by kernel_rfl
/-- what the last region holds to -/
abbrev S4 (w0 : World) (b1 b2 b6 b7 : Nat) (v0 v1 : Int) (v2 : ByteArray) (u0 u1 : Int) (u2 : ByteArray) (s1 s2 : Int) (s3 : ByteArray) (q1 q2 : Int) (q3 : ByteArray) (w : World) : Prop := (w.cell? ⟨b1, 0, none⟩ = some (.int .i64 v0) ∧ w.cell? ⟨b1, 1, none⟩ = some (.int .i64 v1) ∧ w.cell? ⟨b1, 2, none⟩ = some (.string v2) ∧ w.cell? ⟨b2, 0, none⟩ = some (.int .i64 u0) ∧ w.cell? ⟨b2, 1, none⟩ = some (.int .i64 u1) ∧ w.cell? ⟨b2, 2, none⟩ = some (.string u2) ∧ w.cell? ⟨b6, 0, none⟩ = some (.int .i64 s1) ∧ w.cell? ⟨b6, 1, none⟩ = some (.int .i64 s2) ∧ w.cell? ⟨b6, 2, none⟩ = some (.string s3) ∧ w.cell? ⟨b7, 0, none⟩ = some (.int .i64 q1) ∧ w.cell? ⟨b7, 1, none⟩ = some (.int .i64 q2) ∧ w.cell? ⟨b7, 2, none⟩ = some (.string q3)) ∧ Aside0 (Bx w b1 v0 v1 v2 ∧ Bx w b2 u0 u1 u2 ∧ Bx w b6 s1 s2 s3 ∧ Bx w b7 q1 q2 q3 ∧ Below w0.heap.size w0 w)
theorem S4.mk' {w0 : World} {b1 b2 b6 b7 : Nat} {v0 v1 : Int} {v2 : ByteArray} {u0 u1 : Int} {u2 : ByteArray} {s1 s2 : Int} {s3 : ByteArray} {q1 q2 : Int} {q3 : ByteArray} {w : World} (h : Bx w b1 v0 v1 v2 ∧ Bx w b2 u0 u1 u2 ∧ Bx w b6 s1 s2 s3 ∧ Bx w b7 q1 q2 q3 ∧ Below w0.heap.size w0 w) : S4 w0 b1 b2 b6 b7 v0 v1 v2 u0 u1 u2 s1 s2 s3 q1 q2 q3 w := by
  obtain ⟨k1, k2, k6, k7, hb⟩ := h
  exact ⟨⟨k1.c0, k1.c1, k1.c2, k2.c0, k2.c1, k2.c2, k6.c0, k6.c1, k6.c2, k7.c0, k7.c1, k7.c2⟩, ⟨⟨k1, k2, k6, k7, hb⟩⟩⟩
theorem S4.drew {w0 : World} {b1 b2 b6 b7 : Nat} {v0 v1 : Int} {v2 : ByteArray} {u0 u1 : Int} {u2 : ByteArray} {s1 s2 : Int} {s3 : ByteArray} {q1 q2 : Int} {q3 : ByteArray} {w : World} (h : S4 w0 b1 b2 b6 b7 v0 v1 v2 u0 u1 u2 s1 s2 s3 q1 q2 q3 w) : S4 w0 b1 b2 b6 b7 v0 v1 v2 u0 u1 u2 s1 s2 s3 q1 q2 q3 w.drew := by
  obtain ⟨k1, k2, k6, k7, hb⟩ := h.2.out
  exact S4.mk' ⟨k1, k2, k6, k7, hb.drew⟩
theorem S4.below {w0 : World} {b1 b2 b6 b7 : Nat} {v0 v1 : Int} {v2 : ByteArray} {u0 u1 : Int} {u2 : ByteArray} {s1 s2 : Int} {s3 : ByteArray} {q1 q2 : Int} {q3 : ByteArray} {w w1 : World} (hw : Below w.heap.size w w1) (h : S4 w0 b1 b2 b6 b7 v0 v1 v2 u0 u1 u2 s1 s2 s3 q1 q2 q3 w) : S4 w0 b1 b2 b6 b7 v0 v1 v2 u0 u1 u2 s1 s2 s3 q1 q2 q3 w1 := by
  obtain ⟨k1, k2, k6, k7, hb⟩ := h.2.out
  exact S4.mk' ⟨blk_below k1 hw, blk_below k2 hw, blk_below k6 hw, blk_below k7 hw, below_step hb hw⟩
theorem S4.end {w0 : World} {b1 b2 b6 b7 : Nat} {v0 v1 : Int} {v2 : ByteArray} {u0 u1 : Int} {u2 : ByteArray} {s1 s2 : Int} {s3 : ByteArray} {q1 q2 : Int} {q3 : ByteArray} {w : World} (h : S4 w0 b1 b2 b6 b7 v0 v1 v2 u0 u1 u2 s1 s2 s3 q1 q2 q3 w) : Below w0.heap.size w0 w := h.2.out.2.2.2.2
set_option maxHeartbeats 4000000 in
set_option maxRecDepth 100000 in
theorem twice_walk (k : Nat) (v0 v1 : Int) (v2 : ByteArray) (u0 u1 : Int) (u2 : ByteArray) (op : ByteArray) (w : World)
    (cv cu : Int) (hcv : boscageref01_Check.f k v0 v1 v2 = some cv) (hcu : boscageref01_Check.f k u0 u1 u2 = some cu)
    (n1 n2 : Int) (n3 : ByteArray) (ne : Int) (hn : logic_Not.f k v0 v1 v2 = some (n1, n2, n3, ne))
    (m1 m2 : Int) (m3 : ByteArray) (me : Int) (hm : logic_Not.f k n1 n2 n3 = some (m1, m2, m3, me))
    (x1 x2 : Int) (x3 : ByteArray) (xe : Int) (hx : logic_Rel.f k op v0 v1 v2 0 0 ⟨#[]⟩ = some (x1, x2, x3, xe))
    (s1 s2 : Int) (s3 : ByteArray) (se : Int) (hs : logic_Is.f k v0 v1 v2 u0 u1 u2 = some (s1, s2, s3, se))
    (q1 q2 : Int) (q3 : ByteArray) (qe : Int) (hq : logic_Rel.f k ⟨#[61]⟩ v0 v1 v2 u0 u1 u2 = some (q1, q2, q3, qe))
    (hd : Bool) (hh : logic_Holds.f s1 s2 s3 = some hd)
    (HA : Aside0 ((ne == 0) = false ∨ ((ne == 0) = true ∧ (me != 0) = false ∧ (m1 == v0) = true ∧ (m2 == v1) = true ∧ (m3.toList == v2.toList) = true)))
    (HX2 : Aside0 ((xe == 0) = false ∨ ((xe == 0) = true ∧ (x1 == 0) = true ∧ (x2 == 0) = true ∧ x3.toList = [])))
    (HC : Aside0 ((se != qe) = false))
    (HD : Aside0 (((se != 0) = true ∧ (qe != 0) = true) ∨ ((se != 0) = false ∧ (qe != 0) = false ∧ (hd == (v0 == u0 && (v1 == u1 && (v2.toList == u2.toList)))) = true ∧ ((v0 == 0) = true ∨ ((v0 == 0) = false ∧ (u0 == 0) = true) ∨ ((v0 == 0) = false ∧ (u0 == 0) = false ∧ (q1 == s1) = true ∧ (q2 == s2) = true ∧ (q3.toList == s3.toList) = true))))) :
    Calls Try.prog 7 #[.agg #[.int .i64 v0, .int .i64 v1, .string v2], .agg #[.int .i64 u0, .int .i64 u1, .string u2], .string op] w fun e w' => e = .returned (.bool true) ∧ Below w.heap.size w w' := by
  have HN := Aside0.mk hn
  have HM := Aside0.mk hm
  have HX := Aside0.mk hx
  have HS := Aside0.mk hs
  have HQ := Aside0.mk hq
  have HH := Aside0.mk hh
  have HCV := Aside0.mk hcv
  have HCU := Aside0.mk hcu
  clear hn hm hx hs hq hh hcv hcu
  go_enter Try.func7, Try.ntmps7
  go_wp2_with fail
  refine (boscagelaw02_live.calls true _ rfl).mono ?_
  rintro e wa ⟨rfl, hba⟩
  obtain ⟨b1, hb1⟩ : ∃ b, b = w.heap.size := ⟨_, rfl⟩
  obtain ⟨b2, hb2⟩ : ∃ b, b = b1 + 1 := ⟨_, rfl⟩
  have K1 : Aside0 (Bx wa b1 v0 v1 v2) := ⟨blk_below (at_old _ _ _ (by simp; omega) (at_new _ _ _ hb1)) hba⟩
  have K2 : Aside0 (Bx wa b2 u0 u1 u2) := ⟨blk_below (at_new _ _ _ (by simp; omega)) hba⟩
  have HB := Aside0.mk (below_step (((Below.refl w.heap.size w).alloc (Nat.le_refl _) _).alloc (by simp) _) hba)
  have hne : b1 ≠ b2 := by omega
  have hne' : b2 ≠ b1 := by omega
  have GE1 : Aside0 (w.heap.size ≤ b1) := ⟨by omega⟩
  have GE2 : Aside0 (w.heap.size ≤ b2) := ⟨by omega⟩
  rw [← hb1, ← hb2]
  clear hb1 hb2 hba
  have c10 := K1.out.c0
  have c11 := K1.out.c1
  have c12 := K1.out.c2
  have c20 := K2.out.c0
  have c21 := K2.out.c1
  have c22 := K2.out.c2
  go_wp2_with fail
  refine (boscageref01_Check.calls k v0 v1 v2 cv _ HCV.out).mono ?_
  rintro e wb ⟨rfl, hbb⟩
  have L1 : Aside0 (Bx wb b1 v0 v1 v2) := ⟨blk_below K1.out hbb⟩
  have L2 : Aside0 (Bx wb b2 u0 u1 u2) := ⟨blk_below K2.out hbb⟩
  have LB := Aside0.mk (below_step HB.out hbb)
  clear hbb
  clear c10 c11 c12 K1
  try clear t1
  have K1 := L1
  clear L1
  clear c20 c21 c22 K2
  try clear t2
  have K2 := L2
  clear L2
  clear HB
  have HB := LB
  clear LB
  have c10 := K1.out.c0
  have c11 := K1.out.c1
  have c12 := K1.out.c2
  have t1 := blk_lt K1.out
  have c20 := K2.out.c0
  have c21 := K2.out.c1
  have c22 := K2.out.c2
  have t2 := blk_lt K2.out
  by_cases hcv : cv = 0
  case neg =>
    have hcv' : (cv != 0) = true := bne_iff_ne.mpr hcv
    go_wp2
    go_ret
    exact ⟨rfl, HB.out⟩
  have hcv' : (cv != 0) = false := bne_eq_false_iff_eq.mpr hcv
  go_wp2_with fail
  refine (boscageref01_Check.calls k u0 u1 u2 cu _ HCU.out).mono ?_
  rintro e wc ⟨rfl, hbc⟩
  have L1 : Aside0 (Bx wc b1 v0 v1 v2) := ⟨blk_below K1.out hbc⟩
  have L2 : Aside0 (Bx wc b2 u0 u1 u2) := ⟨blk_below K2.out hbc⟩
  have LB := Aside0.mk (below_step HB.out hbc)
  clear hbc
  clear c10 c11 c12 K1
  try clear t1
  have K1 := L1
  clear L1
  clear c20 c21 c22 K2
  try clear t2
  have K2 := L2
  clear L2
  clear HB
  have HB := LB
  clear LB
  have c10 := K1.out.c0
  have c11 := K1.out.c1
  have c12 := K1.out.c2
  have t1 := blk_lt K1.out
  have c20 := K2.out.c0
  have c21 := K2.out.c1
  have c22 := K2.out.c2
  have t2 := blk_lt K2.out
  by_cases hcu : cu = 0
  case neg =>
    have hcu' : (cu != 0) = true := bne_iff_ne.mpr hcu
    go_wp2
    go_ret
    exact ⟨rfl, HB.out⟩
  have hcu' : (cu != 0) = false := bne_eq_false_iff_eq.mpr hcu
  by_cases lv : (v2.size : Int) > 10000
  case pos =>
    go_wp2
    go_ret
    exact ⟨rfl, HB.out⟩
  by_cases lu : (u2.size : Int) > 10000
  case pos =>
    go_wp2
    go_ret
    exact ⟨rfl, HB.out⟩
  go_wp2_with fail
  refine (logic_Not.calls k v0 v1 v2 n1 n2 n3 ne _ HN.out).mono ?_
  rintro e wd ⟨rfl, hbd⟩
  have L1 : Aside0 (Bx wd b1 v0 v1 v2) := ⟨blk_below K1.out hbd⟩
  have L2 : Aside0 (Bx wd b2 u0 u1 u2) := ⟨blk_below K2.out hbd⟩
  have LB := Aside0.mk (below_step HB.out hbd)
  clear hbd
  clear c10 c11 c12 K1
  try clear t1
  have K1 := L1
  clear L1
  clear c20 c21 c22 K2
  try clear t2
  have K2 := L2
  clear L2
  clear HB
  have HB := LB
  clear LB
  have c10 := K1.out.c0
  have c11 := K1.out.c1
  have c12 := K1.out.c2
  have t1 := blk_lt K1.out
  have c20 := K2.out.c0
  have c21 := K2.out.c1
  have c22 := K2.out.c2
  have t2 := blk_lt K2.out
  go_wp2_with fail
  refine (logic_Not.calls k n1 n2 n3 m1 m2 m3 me _ HM.out).mono ?_
  rintro e we ⟨rfl, hbe⟩
  obtain ⟨b3, hb3⟩ : ∃ b, b = wd.heap.size := ⟨_, rfl⟩
  have L1 : Aside0 (Bx we b1 v0 v1 v2) := ⟨blk_below (at_old _ _ _ (blk_lt K1.out) K1.out) hbe⟩
  have L2 : Aside0 (Bx we b2 u0 u1 u2) := ⟨blk_below (at_old _ _ _ (blk_lt K2.out) K2.out) hbe⟩
  have K3 : Aside0 (Bx we b3 n1 n2 n3) := ⟨blk_below (at_new _ _ _ hb3) hbe⟩
  have LB := Aside0.mk (below_step (HB.out.alloc HB.out.size _) hbe)
  have GE3 : Aside0 (w.heap.size ≤ b3) := ⟨by rw [hb3]; exact HB.out.size⟩
  have n13 : b1 ≠ b3 := by rw [hb3]; exact Nat.ne_of_lt (blk_lt K1.out)
  have n31 : b3 ≠ b1 := fun h => n13 h.symm
  have n23 : b2 ≠ b3 := by rw [hb3]; exact Nat.ne_of_lt (blk_lt K2.out)
  have n32 : b3 ≠ b2 := fun h => n23 h.symm
  rw [← hb3]
  clear hbe hb3
  clear c10 c11 c12 K1
  try clear t1
  have K1 := L1
  clear L1
  clear c20 c21 c22 K2
  try clear t2
  have K2 := L2
  clear L2
  clear HB
  have HB := LB
  clear LB
  have c10 := K1.out.c0
  have c11 := K1.out.c1
  have c12 := K1.out.c2
  have t1 := blk_lt K1.out
  have c20 := K2.out.c0
  have c21 := K2.out.c1
  have c22 := K2.out.c2
  have t2 := blk_lt K2.out
  have c30 := K3.out.c0
  have c31 := K3.out.c1
  have c32 := K3.out.c2
  have t3 := blk_lt K3.out
  go_upto_region 6 with fail
  obtain ⟨b4, hb4⟩ : ∃ b, b = we.heap.size := ⟨_, rfl⟩
  have L1 : Aside0 (Bx (we.alloc (.cells #[.int .i64 m1, .int .i64 m2, .string m3] 23)) b1 v0 v1 v2) := ⟨at_old _ _ _ (blk_lt K1.out) K1.out⟩
  have L2 : Aside0 (Bx (we.alloc (.cells #[.int .i64 m1, .int .i64 m2, .string m3] 23)) b2 u0 u1 u2) := ⟨at_old _ _ _ (blk_lt K2.out) K2.out⟩
  have L3 : Aside0 (Bx (we.alloc (.cells #[.int .i64 m1, .int .i64 m2, .string m3] 23)) b3 n1 n2 n3) := ⟨at_old _ _ _ (blk_lt K3.out) K3.out⟩
  have K4 : Aside0 (Bx (we.alloc (.cells #[.int .i64 m1, .int .i64 m2, .string m3] 23)) b4 m1 m2 m3) := ⟨at_new _ _ _ hb4⟩
  have LB : Aside0 (Below w.heap.size w (we.alloc (.cells #[.int .i64 m1, .int .i64 m2, .string m3] 23))) := ⟨HB.out.alloc HB.out.size _⟩
  have GE4 : Aside0 (w.heap.size ≤ b4) := ⟨by rw [hb4]; exact HB.out.size⟩
  have n14 : b1 ≠ b4 := by rw [hb4]; exact Nat.ne_of_lt (blk_lt K1.out)
  have n41 : b4 ≠ b1 := fun h => n14 h.symm
  have n24 : b2 ≠ b4 := by rw [hb4]; exact Nat.ne_of_lt (blk_lt K2.out)
  have n42 : b4 ≠ b2 := fun h => n24 h.symm
  have n34 : b3 ≠ b4 := by rw [hb4]; exact Nat.ne_of_lt (blk_lt K3.out)
  have n43 : b4 ≠ b3 := fun h => n34 h.symm
  rw [← hb4]
  clear hb4
  clear c10 c11 c12 K1
  try clear t1
  have K1 := L1
  clear L1
  clear c20 c21 c22 K2
  try clear t2
  have K2 := L2
  clear L2
  clear c30 c31 c32 K3
  try clear t3
  have K3 := L3
  clear L3
  clear HB
  have HB := LB
  clear LB
  generalize we.alloc (.cells #[.int .i64 m1, .int .i64 m2, .string m3] 23) = W4 at *
  have c10 := K1.out.c0
  have c11 := K1.out.c1
  have c12 := K1.out.c2
  have t1 := blk_lt K1.out
  have c20 := K2.out.c0
  have c21 := K2.out.c1
  have c22 := K2.out.c2
  have t2 := blk_lt K2.out
  have c30 := K3.out.c0
  have c31 := K3.out.c1
  have c32 := K3.out.c2
  have t3 := blk_lt K3.out
  have c40 := K4.out.c0
  have c41 := K4.out.c1
  have c42 := K4.out.c2
  have t4 := blk_lt K4.out
  go_cut [60] (fun v60 w4 => v60 = .bool false ∧ Aside0 (Bx w4 b1 v0 v1 v2) ∧ Aside0 (Bx w4 b2 u0 u1 u2) ∧ Aside0 (Bx w4 b3 n1 n2 n3) ∧ Aside0 (Bx w4 b4 m1 m2 m3) ∧ Aside0 (Below w.heap.size w w4))
  case first =>
    rcases HA.out with a0 | ⟨a0, a1, a2, a3, a4⟩
    all_goals (go_wp2; go_meet; exact ⟨by first | rfl | (simp; done) | (simp [*]; done), ⟨K1.out⟩, ⟨K2.out⟩, ⟨K3.out⟩, ⟨K4.out⟩, ⟨HB.out⟩⟩)
  case rest =>
  obtain ⟨rfl, L1, L2, L3, L4, LB⟩ := hcut
  clear c10 c11 c12 K1
  try clear t1
  have K1 := L1
  clear L1
  clear c20 c21 c22 K2
  try clear t2
  have K2 := L2
  clear L2
  clear c30 c31 c32 K3
  try clear t3
  have K3 := L3
  clear L3
  clear c40 c41 c42 K4
  try clear t4
  have K4 := L4
  clear L4
  clear HB
  have HB := LB
  clear LB
  have c10 := K1.out.c0
  have c11 := K1.out.c1
  have c12 := K1.out.c2
  have t1 := blk_lt K1.out
  have c20 := K2.out.c0
  have c21 := K2.out.c1
  have c22 := K2.out.c2
  have t2 := blk_lt K2.out
  have c30 := K3.out.c0
  have c31 := K3.out.c1
  have c32 := K3.out.c2
  have t3 := blk_lt K3.out
  have c40 := K4.out.c0
  have c41 := K4.out.c1
  have c42 := K4.out.c2
  have t4 := blk_lt K4.out
  go_wp2_with fail
  refine (logic_Rel.calls k op v0 v1 v2 0 0 ⟨#[]⟩ x1 x2 x3 xe _ HX.out).mono ?_
  rintro e wf ⟨rfl, hbf⟩
  have L1 : Aside0 (Bx wf b1 v0 v1 v2) := ⟨blk_below K1.out hbf⟩
  have L2 : Aside0 (Bx wf b2 u0 u1 u2) := ⟨blk_below K2.out hbf⟩
  have L3 : Aside0 (Bx wf b3 n1 n2 n3) := ⟨blk_below K3.out hbf⟩
  have L4 : Aside0 (Bx wf b4 m1 m2 m3) := ⟨blk_below K4.out hbf⟩
  have LB := Aside0.mk (below_step HB.out hbf)
  clear hbf
  clear c10 c11 c12 K1
  try clear t1
  have K1 := L1
  clear L1
  clear c20 c21 c22 K2
  try clear t2
  have K2 := L2
  clear L2
  clear c30 c31 c32 K3
  try clear t3
  have K3 := L3
  clear L3
  clear c40 c41 c42 K4
  try clear t4
  have K4 := L4
  clear L4
  clear HB
  have HB := LB
  clear LB
  have c10 := K1.out.c0
  have c11 := K1.out.c1
  have c12 := K1.out.c2
  have t1 := blk_lt K1.out
  have c20 := K2.out.c0
  have c21 := K2.out.c1
  have c22 := K2.out.c2
  have t2 := blk_lt K2.out
  have c30 := K3.out.c0
  have c31 := K3.out.c1
  have c32 := K3.out.c2
  have t3 := blk_lt K3.out
  have c40 := K4.out.c0
  have c41 := K4.out.c1
  have c42 := K4.out.c2
  have t4 := blk_lt K4.out
  go_upto_region 9 with fail
  obtain ⟨b5, hb5⟩ : ∃ b, b = wf.heap.size := ⟨_, rfl⟩
  have L1 : Aside0 (Bx (wf.alloc (.cells #[.int .i64 x1, .int .i64 x2, .string x3] 23)) b1 v0 v1 v2) := ⟨at_old _ _ _ (blk_lt K1.out) K1.out⟩
  have L2 : Aside0 (Bx (wf.alloc (.cells #[.int .i64 x1, .int .i64 x2, .string x3] 23)) b2 u0 u1 u2) := ⟨at_old _ _ _ (blk_lt K2.out) K2.out⟩
  have L3 : Aside0 (Bx (wf.alloc (.cells #[.int .i64 x1, .int .i64 x2, .string x3] 23)) b3 n1 n2 n3) := ⟨at_old _ _ _ (blk_lt K3.out) K3.out⟩
  have L4 : Aside0 (Bx (wf.alloc (.cells #[.int .i64 x1, .int .i64 x2, .string x3] 23)) b4 m1 m2 m3) := ⟨at_old _ _ _ (blk_lt K4.out) K4.out⟩
  have K5 : Aside0 (Bx (wf.alloc (.cells #[.int .i64 x1, .int .i64 x2, .string x3] 23)) b5 x1 x2 x3) := ⟨at_new _ _ _ hb5⟩
  have LB : Aside0 (Below w.heap.size w (wf.alloc (.cells #[.int .i64 x1, .int .i64 x2, .string x3] 23))) := ⟨HB.out.alloc HB.out.size _⟩
  have GE5 : Aside0 (w.heap.size ≤ b5) := ⟨by rw [hb5]; exact HB.out.size⟩
  have n15 : b1 ≠ b5 := by rw [hb5]; exact Nat.ne_of_lt (blk_lt K1.out)
  have n51 : b5 ≠ b1 := fun h => n15 h.symm
  have n25 : b2 ≠ b5 := by rw [hb5]; exact Nat.ne_of_lt (blk_lt K2.out)
  have n52 : b5 ≠ b2 := fun h => n25 h.symm
  have n35 : b3 ≠ b5 := by rw [hb5]; exact Nat.ne_of_lt (blk_lt K3.out)
  have n53 : b5 ≠ b3 := fun h => n35 h.symm
  have n45 : b4 ≠ b5 := by rw [hb5]; exact Nat.ne_of_lt (blk_lt K4.out)
  have n54 : b5 ≠ b4 := fun h => n45 h.symm
  rw [← hb5]
  clear hb5
  clear c10 c11 c12 K1
  try clear t1
  have K1 := L1
  clear L1
  clear c20 c21 c22 K2
  try clear t2
  have K2 := L2
  clear L2
  clear c30 c31 c32 K3
  try clear t3
  have K3 := L3
  clear L3
  clear c40 c41 c42 K4
  try clear t4
  have K4 := L4
  clear L4
  clear HB
  have HB := LB
  clear LB
  generalize wf.alloc (.cells #[.int .i64 x1, .int .i64 x2, .string x3] 23) = W5 at *
  have c10 := K1.out.c0
  have c11 := K1.out.c1
  have c12 := K1.out.c2
  have t1 := blk_lt K1.out
  have c20 := K2.out.c0
  have c21 := K2.out.c1
  have c22 := K2.out.c2
  have t2 := blk_lt K2.out
  have c30 := K3.out.c0
  have c31 := K3.out.c1
  have c32 := K3.out.c2
  have t3 := blk_lt K3.out
  have c40 := K4.out.c0
  have c41 := K4.out.c1
  have c42 := K4.out.c2
  have t4 := blk_lt K4.out
  have c50 := K5.out.c0
  have c51 := K5.out.c1
  have c52 := K5.out.c2
  have t5 := blk_lt K5.out
  go_cut [74] (fun v74 w5 => v74 = .bool false ∧ Aside0 (Bx w5 b1 v0 v1 v2) ∧ Aside0 (Bx w5 b2 u0 u1 u2) ∧ Aside0 (Bx w5 b3 n1 n2 n3) ∧ Aside0 (Bx w5 b4 m1 m2 m3) ∧ Aside0 (Bx w5 b5 x1 x2 x3) ∧ Aside0 (Below w.heap.size w w5))
  case first =>
    rcases HX2.out with e0 | ⟨e0, e1, e2, e3⟩
    all_goals (go_wp2; go_meet; exact ⟨by first | rfl | (simp; done) | (simp [*]; done), ⟨K1.out⟩, ⟨K2.out⟩, ⟨K3.out⟩, ⟨K4.out⟩, ⟨K5.out⟩, ⟨HB.out⟩⟩)
  case rest =>
  obtain ⟨rfl, L1, L2, L3, L4, L5, LB⟩ := hcut
  clear c10 c11 c12 K1
  try clear t1
  have K1 := L1
  clear L1
  clear c20 c21 c22 K2
  try clear t2
  have K2 := L2
  clear L2
  clear c30 c31 c32 K3
  try clear t3
  have K3 := L3
  clear L3
  clear c40 c41 c42 K4
  try clear t4
  have K4 := L4
  clear L4
  clear c50 c51 c52 K5
  try clear t5
  have K5 := L5
  clear L5
  clear HB
  have HB := LB
  clear LB
  have c10 := K1.out.c0
  have c11 := K1.out.c1
  have c12 := K1.out.c2
  have t1 := blk_lt K1.out
  have c20 := K2.out.c0
  have c21 := K2.out.c1
  have c22 := K2.out.c2
  have t2 := blk_lt K2.out
  have c30 := K3.out.c0
  have c31 := K3.out.c1
  have c32 := K3.out.c2
  have t3 := blk_lt K3.out
  have c40 := K4.out.c0
  have c41 := K4.out.c1
  have c42 := K4.out.c2
  have t4 := blk_lt K4.out
  have c50 := K5.out.c0
  have c51 := K5.out.c1
  have c52 := K5.out.c2
  have t5 := blk_lt K5.out
  go_wp2_with fail
  refine (logic_Is.calls k v0 v1 v2 u0 u1 u2 s1 s2 s3 se _ HS.out).mono ?_
  rintro e wg ⟨rfl, hbg⟩
  have L1 : Aside0 (Bx wg b1 v0 v1 v2) := ⟨blk_below K1.out hbg⟩
  have L2 : Aside0 (Bx wg b2 u0 u1 u2) := ⟨blk_below K2.out hbg⟩
  have L3 : Aside0 (Bx wg b3 n1 n2 n3) := ⟨blk_below K3.out hbg⟩
  have L4 : Aside0 (Bx wg b4 m1 m2 m3) := ⟨blk_below K4.out hbg⟩
  have L5 : Aside0 (Bx wg b5 x1 x2 x3) := ⟨blk_below K5.out hbg⟩
  have LB := Aside0.mk (below_step HB.out hbg)
  clear hbg
  clear c10 c11 c12 K1
  try clear t1
  have K1 := L1
  clear L1
  clear c20 c21 c22 K2
  try clear t2
  have K2 := L2
  clear L2
  clear c30 c31 c32 K3
  try clear t3
  have K3 := L3
  clear L3
  clear c40 c41 c42 K4
  try clear t4
  have K4 := L4
  clear L4
  clear c50 c51 c52 K5
  try clear t5
  have K5 := L5
  clear L5
  clear HB
  have HB := LB
  clear LB
  have c10 := K1.out.c0
  have c11 := K1.out.c1
  have c12 := K1.out.c2
  have t1 := blk_lt K1.out
  have c20 := K2.out.c0
  have c21 := K2.out.c1
  have c22 := K2.out.c2
  have t2 := blk_lt K2.out
  have c30 := K3.out.c0
  have c31 := K3.out.c1
  have c32 := K3.out.c2
  have t3 := blk_lt K3.out
  have c40 := K4.out.c0
  have c41 := K4.out.c1
  have c42 := K4.out.c2
  have t4 := blk_lt K4.out
  have c50 := K5.out.c0
  have c51 := K5.out.c1
  have c52 := K5.out.c2
  have t5 := blk_lt K5.out
  go_wp2_with fail
  refine (logic_Rel.calls k ⟨#[61]⟩ v0 v1 v2 u0 u1 u2 q1 q2 q3 qe _ HQ.out).mono ?_
  rintro e wh ⟨rfl, hbh⟩
  obtain ⟨b6, hb6⟩ : ∃ b, b = wg.heap.size := ⟨_, rfl⟩
  have L1 : Aside0 (Bx wh b1 v0 v1 v2) := ⟨blk_below (at_old _ _ _ (blk_lt K1.out) K1.out) hbh⟩
  have L2 : Aside0 (Bx wh b2 u0 u1 u2) := ⟨blk_below (at_old _ _ _ (blk_lt K2.out) K2.out) hbh⟩
  have L3 : Aside0 (Bx wh b3 n1 n2 n3) := ⟨blk_below (at_old _ _ _ (blk_lt K3.out) K3.out) hbh⟩
  have L4 : Aside0 (Bx wh b4 m1 m2 m3) := ⟨blk_below (at_old _ _ _ (blk_lt K4.out) K4.out) hbh⟩
  have L5 : Aside0 (Bx wh b5 x1 x2 x3) := ⟨blk_below (at_old _ _ _ (blk_lt K5.out) K5.out) hbh⟩
  have K6 : Aside0 (Bx wh b6 s1 s2 s3) := ⟨blk_below (at_new _ _ _ hb6) hbh⟩
  have LB := Aside0.mk (below_step (HB.out.alloc HB.out.size _) hbh)
  have GE6 : Aside0 (w.heap.size ≤ b6) := ⟨by rw [hb6]; exact HB.out.size⟩
  have n16 : b1 ≠ b6 := by rw [hb6]; exact Nat.ne_of_lt (blk_lt K1.out)
  have n61 : b6 ≠ b1 := fun h => n16 h.symm
  have n26 : b2 ≠ b6 := by rw [hb6]; exact Nat.ne_of_lt (blk_lt K2.out)
  have n62 : b6 ≠ b2 := fun h => n26 h.symm
  have n36 : b3 ≠ b6 := by rw [hb6]; exact Nat.ne_of_lt (blk_lt K3.out)
  have n63 : b6 ≠ b3 := fun h => n36 h.symm
  have n46 : b4 ≠ b6 := by rw [hb6]; exact Nat.ne_of_lt (blk_lt K4.out)
  have n64 : b6 ≠ b4 := fun h => n46 h.symm
  have n56 : b5 ≠ b6 := by rw [hb6]; exact Nat.ne_of_lt (blk_lt K5.out)
  have n65 : b6 ≠ b5 := fun h => n56 h.symm
  rw [← hb6]
  clear hbh hb6
  clear c10 c11 c12 K1
  try clear t1
  have K1 := L1
  clear L1
  clear c20 c21 c22 K2
  try clear t2
  have K2 := L2
  clear L2
  clear c30 c31 c32 K3
  try clear t3
  have K3 := L3
  clear L3
  clear c40 c41 c42 K4
  try clear t4
  have K4 := L4
  clear L4
  clear c50 c51 c52 K5
  try clear t5
  have K5 := L5
  clear L5
  clear HB
  have HB := LB
  clear LB
  have c10 := K1.out.c0
  have c11 := K1.out.c1
  have c12 := K1.out.c2
  have t1 := blk_lt K1.out
  have c20 := K2.out.c0
  have c21 := K2.out.c1
  have c22 := K2.out.c2
  have t2 := blk_lt K2.out
  have c30 := K3.out.c0
  have c31 := K3.out.c1
  have c32 := K3.out.c2
  have t3 := blk_lt K3.out
  have c40 := K4.out.c0
  have c41 := K4.out.c1
  have c42 := K4.out.c2
  have t4 := blk_lt K4.out
  have c50 := K5.out.c0
  have c51 := K5.out.c1
  have c52 := K5.out.c2
  have t5 := blk_lt K5.out
  have c60 := K6.out.c0
  have c61 := K6.out.c1
  have c62 := K6.out.c2
  have t6 := blk_lt K6.out
  have c0 := HC.out
  go_upto_region 15 with fail
  obtain ⟨b7, hb7⟩ : ∃ b, b = wh.heap.size := ⟨_, rfl⟩
  have L1 : Aside0 (Bx (wh.alloc (.cells #[.int .i64 q1, .int .i64 q2, .string q3] 23)) b1 v0 v1 v2) := ⟨at_old _ _ _ (blk_lt K1.out) K1.out⟩
  have L2 : Aside0 (Bx (wh.alloc (.cells #[.int .i64 q1, .int .i64 q2, .string q3] 23)) b2 u0 u1 u2) := ⟨at_old _ _ _ (blk_lt K2.out) K2.out⟩
  have L3 : Aside0 (Bx (wh.alloc (.cells #[.int .i64 q1, .int .i64 q2, .string q3] 23)) b3 n1 n2 n3) := ⟨at_old _ _ _ (blk_lt K3.out) K3.out⟩
  have L4 : Aside0 (Bx (wh.alloc (.cells #[.int .i64 q1, .int .i64 q2, .string q3] 23)) b4 m1 m2 m3) := ⟨at_old _ _ _ (blk_lt K4.out) K4.out⟩
  have L5 : Aside0 (Bx (wh.alloc (.cells #[.int .i64 q1, .int .i64 q2, .string q3] 23)) b5 x1 x2 x3) := ⟨at_old _ _ _ (blk_lt K5.out) K5.out⟩
  have L6 : Aside0 (Bx (wh.alloc (.cells #[.int .i64 q1, .int .i64 q2, .string q3] 23)) b6 s1 s2 s3) := ⟨at_old _ _ _ (blk_lt K6.out) K6.out⟩
  have K7 : Aside0 (Bx (wh.alloc (.cells #[.int .i64 q1, .int .i64 q2, .string q3] 23)) b7 q1 q2 q3) := ⟨at_new _ _ _ hb7⟩
  have LB : Aside0 (Below w.heap.size w (wh.alloc (.cells #[.int .i64 q1, .int .i64 q2, .string q3] 23))) := ⟨HB.out.alloc HB.out.size _⟩
  have GE7 : Aside0 (w.heap.size ≤ b7) := ⟨by rw [hb7]; exact HB.out.size⟩
  have n17 : b1 ≠ b7 := by rw [hb7]; exact Nat.ne_of_lt (blk_lt K1.out)
  have n71 : b7 ≠ b1 := fun h => n17 h.symm
  have n27 : b2 ≠ b7 := by rw [hb7]; exact Nat.ne_of_lt (blk_lt K2.out)
  have n72 : b7 ≠ b2 := fun h => n27 h.symm
  have n37 : b3 ≠ b7 := by rw [hb7]; exact Nat.ne_of_lt (blk_lt K3.out)
  have n73 : b7 ≠ b3 := fun h => n37 h.symm
  have n47 : b4 ≠ b7 := by rw [hb7]; exact Nat.ne_of_lt (blk_lt K4.out)
  have n74 : b7 ≠ b4 := fun h => n47 h.symm
  have n57 : b5 ≠ b7 := by rw [hb7]; exact Nat.ne_of_lt (blk_lt K5.out)
  have n75 : b7 ≠ b5 := fun h => n57 h.symm
  have n67 : b6 ≠ b7 := by rw [hb7]; exact Nat.ne_of_lt (blk_lt K6.out)
  have n76 : b7 ≠ b6 := fun h => n67 h.symm
  rw [← hb7]
  clear hb7
  clear c10 c11 c12 K1
  try clear t1
  have K1 := L1
  clear L1
  clear c20 c21 c22 K2
  try clear t2
  have K2 := L2
  clear L2
  clear c30 c31 c32 K3
  try clear t3
  have K3 := L3
  clear L3
  clear c40 c41 c42 K4
  try clear t4
  have K4 := L4
  clear L4
  clear c50 c51 c52 K5
  try clear t5
  have K5 := L5
  clear L5
  clear c60 c61 c62 K6
  try clear t6
  have K6 := L6
  clear L6
  clear HB
  have HB := LB
  clear LB
  generalize wh.alloc (.cells #[.int .i64 q1, .int .i64 q2, .string q3] 23) = W7 at *
  have c10 := K1.out.c0
  have c11 := K1.out.c1
  have c12 := K1.out.c2
  have t1 := blk_lt K1.out
  have c20 := K2.out.c0
  have c21 := K2.out.c1
  have c22 := K2.out.c2
  have t2 := blk_lt K2.out
  have c30 := K3.out.c0
  have c31 := K3.out.c1
  have c32 := K3.out.c2
  have t3 := blk_lt K3.out
  have c40 := K4.out.c0
  have c41 := K4.out.c1
  have c42 := K4.out.c2
  have t4 := blk_lt K4.out
  have c50 := K5.out.c0
  have c51 := K5.out.c1
  have c52 := K5.out.c2
  have t5 := blk_lt K5.out
  have c60 := K6.out.c0
  have c61 := K6.out.c1
  have c62 := K6.out.c2
  have t6 := blk_lt K6.out
  have c70 := K7.out.c0
  have c71 := K7.out.c1
  have c72 := K7.out.c2
  have t7 := blk_lt K7.out
  rcases HD.out with ⟨d0, d1⟩ | ⟨d0, d1, d2, g0 | ⟨g0, g1⟩ | ⟨g0, g1, g2, g3, g4⟩⟩
  ·
    have n0_ := Aside0.mk (blk_drew K1.out)
    have n1_ := Aside0.mk (blk_drew K2.out)
    have n2_ := Aside0.mk (blk_drew K3.out)
    have n3_ := Aside0.mk (blk_drew K4.out)
    have n4_ := Aside0.mk (blk_drew K5.out)
    have n5_ := Aside0.mk (blk_drew K6.out)
    have n6_ := Aside0.mk (blk_drew K7.out)
    have n7_ := Aside0.mk (below_drew1 HB.out)
    clear K1
    clear K2
    clear K3
    clear K4
    clear K5
    clear K6
    clear K7
    clear HB
    have K1 := n0_
    have K2 := n1_
    have K3 := n2_
    have K4 := n3_
    have K5 := n4_
    have K6 := n5_
    have K7 := n6_
    have HB := n7_
    clear n0_ n1_ n2_ n3_ n4_ n5_ n6_ n7_
    refine start_ (n := 33) (S := fun w' => True) (ds := []) #[false, false, false, false, false, false, false, false, false, false, false, false, false, false, false, false, false, false, false, false, false, false, false, false, false, false, false, false, false, false, false, false, false] (by kernel_rfl) rfl rfl trivial (fun hHeld => ?_); refine with_tabW boscagelaw02_LogicTwice.tab15 boscagelaw02_LogicTwice.bits15 (fun HT_ HW_ => ?_)
    generalize W7.drew = w338 at K1 K2 K3 K4 K5 K6 K7 HB hHeld ⊢
    refine pure_ (i := 0) (N := some 90) (v := ?_) (a' := ?_) #[true, false, false, false, false, false, false, false, false, false, false, false, false, false, false, false, false, false, false, false, false, false, false, false, false, false, false, false, false, false, false, false, false] rfl rfl (any_of HT_.out (by kernel_rfl)) (fun _ _ _ h => h) (Or.inl ⟨by rfl, ?_⟩) ?_ ?_
    rotate_left
    · intro w'
      go_simp
      with_reducible rfl
    rotate_left
    · simp only [Act.put, List.setIfInBounds_toArray, List.set_cons_zero, List.set_cons_succ, i64_w, i32_w]
      rfl
    refine pure_ (i := 1) (N := some 91) (v := ?_) (a' := ?_) #[true, true, false, false, false, false, false, false, false, false, false, false, false, false, false, false, false, false, false, false, false, false, false, false, false, false, false, false, false, false, false, false, false] rfl rfl (any_of HT_.out (by kernel_rfl)) (fun _ _ _ h => h) (Or.inl ⟨by rfl, ?_⟩) ?_ ?_
    rotate_left
    · intro w'
      go_simp
      with_reducible rfl
    rotate_left
    · simp only [Act.put, List.setIfInBounds_toArray, List.set_cons_zero, List.set_cons_succ, i64_w, i32_w]
      rfl
    refine pure_ (i := 2) (N := some 92) (v := ?_) (a' := ?_) #[true, true, true, false, false, false, false, false, false, false, false, false, false, false, false, false, false, false, false, false, false, false, false, false, false, false, false, false, false, false, false, false, false] rfl rfl (any_of HT_.out (by kernel_rfl)) (fun _ _ _ h => h) (Or.inl ⟨by rfl, ?_⟩) ?_ ?_
    rotate_left
    · intro w'
      go_simp
      with_reducible rfl
    rotate_left
    · simp only [Act.put, List.setIfInBounds_toArray, List.set_cons_zero, List.set_cons_succ, i64_w, i32_w]
      rfl
    refine pure_ (i := 3) (N := some 93) (v := ?_) (a' := ?_) #[true, true, true, true, false, false, false, false, false, false, false, false, false, false, false, false, false, false, false, false, false, false, false, false, false, false, false, false, false, false, false, false, false] rfl rfl (any_of HT_.out (by kernel_rfl)) (fun _ _ _ h => h) (Or.inl ⟨by rfl, ?_⟩) ?_ ?_
    rotate_left
    · intro w'
      go_simp
      with_reducible rfl
    rotate_left
    · simp only [Act.put, List.setIfInBounds_toArray, List.set_cons_zero, List.set_cons_succ, i64_w, i32_w]
      rfl
    refine pure_ (i := 4) (N := some 94) (v := ?_) (a' := ?_) #[true, true, true, true, true, false, false, false, false, false, false, false, false, false, false, false, false, false, false, false, false, false, false, false, false, false, false, false, false, false, false, false, false] rfl rfl (any_of HT_.out (by kernel_rfl)) (fun _ _ _ h => h) (Or.inl ⟨by rfl, ?_⟩) ?_ ?_
    rotate_left
    · intro w'
      go_simp
      with_reducible rfl
    rotate_left
    · simp only [Act.put, List.setIfInBounds_toArray, List.set_cons_zero, List.set_cons_succ, i64_w, i32_w]
      rfl
    refine pure_ (i := 5) (N := some 95) (v := undef) (a' := ?_) #[true, true, true, true, true, true, false, false, false, false, false, false, false, false, false, false, false, false, false, false, false, false, false, false, false, false, false, false, false, false, false, false, false] rfl rfl (any_of HT_.out (by kernel_rfl)) (fun _ _ _ h => h) (Or.inr ⟨by rfl, rfl⟩) ?_ ?_
    rotate_left
    · simp only [Act.put, List.setIfInBounds_toArray, List.set_cons_zero, List.set_cons_succ, i64_w, i32_w]
      rfl
    refine pure_ (i := 6) (N := some 96) (v := undef) (a' := ?_) #[true, true, true, true, true, true, true, false, false, false, false, false, false, false, false, false, false, false, false, false, false, false, false, false, false, false, false, false, false, false, false, false, false] rfl rfl (any_of HT_.out (by kernel_rfl)) (fun _ _ _ h => h) (Or.inr ⟨by rfl, rfl⟩) ?_ ?_
    rotate_left
    · simp only [Act.put, List.setIfInBounds_toArray, List.set_cons_zero, List.set_cons_succ, i64_w, i32_w]
      rfl
    refine pure_ (i := 7) (N := some 97) (v := undef) (a' := ?_) #[true, true, true, true, true, true, true, true, false, false, false, false, false, false, false, false, false, false, false, false, false, false, false, false, false, false, false, false, false, false, false, false, false] rfl rfl (any_of HT_.out (by kernel_rfl)) (fun _ _ _ h => h) (Or.inr ⟨by rfl, rfl⟩) ?_ ?_
    rotate_left
    · simp only [Act.put, List.setIfInBounds_toArray, List.set_cons_zero, List.set_cons_succ, i64_w, i32_w]
      rfl
    refine pure_ (i := 8) (N := some 98) (v := undef) (a' := ?_) #[true, true, true, true, true, true, true, true, true, false, false, false, false, false, false, false, false, false, false, false, false, false, false, false, false, false, false, false, false, false, false, false, false] rfl rfl (any_of HT_.out (by kernel_rfl)) (fun _ _ _ h => h) (Or.inr ⟨by rfl, rfl⟩) ?_ ?_
    rotate_left
    · simp only [Act.put, List.setIfInBounds_toArray, List.set_cons_zero, List.set_cons_succ, i64_w, i32_w]
      rfl
    refine pure_ (i := 9) (N := some 99) (v := undef) (a' := ?_) #[true, true, true, true, true, true, true, true, true, true, false, false, false, false, false, false, false, false, false, false, false, false, false, false, false, false, false, false, false, false, false, false, false] rfl rfl (any_of HT_.out (by kernel_rfl)) (fun _ _ _ h => h) (Or.inr ⟨by rfl, rfl⟩) ?_ ?_
    rotate_left
    · simp only [Act.put, List.setIfInBounds_toArray, List.set_cons_zero, List.set_cons_succ, i64_w, i32_w]
      rfl
    refine pure_ (i := 10) (N := some 100) (v := undef) (a' := ?_) #[true, true, true, true, true, true, true, true, true, true, true, false, false, false, false, false, false, false, false, false, false, false, false, false, false, false, false, false, false, false, false, false, false] rfl rfl (any_of HT_.out (by kernel_rfl)) (fun _ _ _ h => h) (Or.inr ⟨by rfl, rfl⟩) ?_ ?_
    rotate_left
    · simp only [Act.put, List.setIfInBounds_toArray, List.set_cons_zero, List.set_cons_succ, i64_w, i32_w]
      rfl
    refine pure_ (i := 11) (N := some 101) (v := ?_) (a' := ?_) #[true, true, true, true, true, true, true, true, true, true, true, true, false, false, false, false, false, false, false, false, false, false, false, false, false, false, false, false, false, false, false, false, false] rfl rfl (any_of HT_.out (by kernel_rfl)) (fun _ _ _ h => h) (Or.inl ⟨by rfl, ?_⟩) ?_ ?_
    rotate_left
    · intro w'
      go_simp
      with_reducible rfl
    rotate_left
    · simp only [Act.put, List.setIfInBounds_toArray, List.set_cons_zero, List.set_cons_succ, i64_w, i32_w]
      rfl
    refine pure_ (i := 12) (N := some 102) (v := ?_) (a' := ?_) #[true, true, true, true, true, true, true, true, true, true, true, true, true, false, false, false, false, false, false, false, false, false, false, false, false, false, false, false, false, false, false, false, false] rfl rfl (any_of HT_.out (by kernel_rfl)) (fun _ _ _ h => h) (Or.inl ⟨by rfl, ?_⟩) ?_ ?_
    rotate_left
    · intro w'
      go_simp
      with_reducible rfl
    rotate_left
    · simp only [Act.put, List.setIfInBounds_toArray, List.set_cons_zero, List.set_cons_succ, i64_w, i32_w]
      rfl
    refine pure_ (i := 13) (N := some 103) (v := ?_) (a' := ?_) #[true, true, true, true, true, true, true, true, true, true, true, true, true, true, false, false, false, false, false, false, false, false, false, false, false, false, false, false, false, false, false, false, false] rfl rfl (any_of HT_.out (by kernel_rfl)) (fun _ _ _ h => h) (Or.inl ⟨by rfl, ?_⟩) ?_ ?_
    rotate_left
    · intro w'
      go_simp
      with_reducible rfl
    rotate_left
    · simp only [Act.put, List.setIfInBounds_toArray, List.set_cons_zero, List.set_cons_succ, i64_w, i32_w]
      rfl
    refine pure_ (i := 14) (N := some 104) (v := ?_) (a' := ?_) #[true, true, true, true, true, true, true, true, true, true, true, true, true, true, true, false, false, false, false, false, false, false, false, false, false, false, false, false, false, false, false, false, false] rfl rfl (any_of HT_.out (by kernel_rfl)) (fun _ _ _ h => h) (Or.inl ⟨by rfl, ?_⟩) ?_ ?_
    rotate_left
    · intro w'
      go_simp
      with_reducible rfl
    rotate_left
    · simp only [Act.put, List.setIfInBounds_toArray, List.set_cons_zero, List.set_cons_succ, i64_w, i32_w]
      rfl
    refine pure_ (i := 15) (N := some 105) (v := ?_) (a' := ?_) #[true, true, true, true, true, true, true, true, true, true, true, true, true, true, true, true, false, false, false, false, false, false, false, false, false, false, false, false, false, false, false, false, false] rfl rfl (any_of HT_.out (by kernel_rfl)) (fun _ _ _ h => h) (Or.inl ⟨by rfl, ?_⟩) ?_ ?_
    rotate_left
    · intro w'
      go_simp
      with_reducible rfl
    rotate_left
    · simp only [Act.put, List.setIfInBounds_toArray, List.set_cons_zero, List.set_cons_succ, i64_w, i32_w]
      rfl
    refine pure_ (i := 16) (N := some 106) (v := ?_) (a' := ?_) #[true, true, true, true, true, true, true, true, true, true, true, true, true, true, true, true, true, false, false, false, false, false, false, false, false, false, false, false, false, false, false, false, false] rfl rfl (any_of HT_.out (by kernel_rfl)) (fun _ _ _ h => h) (Or.inl ⟨by rfl, ?_⟩) ?_ ?_
    rotate_left
    · intro w'
      go_simp
      with_reducible rfl
    rotate_left
    · simp only [Act.put, List.setIfInBounds_toArray, List.set_cons_zero, List.set_cons_succ, i64_w, i32_w]
      rfl
    refine pure_ (i := 17) (N := some 107) (v := undef) (a' := ?_) #[true, true, true, true, true, true, true, true, true, true, true, true, true, true, true, true, true, true, false, false, false, false, false, false, false, false, false, false, false, false, false, false, false] rfl rfl (any_of HT_.out (by kernel_rfl)) (fun _ _ _ h => h) (Or.inr ⟨by rfl, rfl⟩) ?_ ?_
    rotate_left
    · simp only [Act.put, List.setIfInBounds_toArray, List.set_cons_zero, List.set_cons_succ, i64_w, i32_w]
      rfl
    refine pure_ (i := 18) (N := some 108) (v := undef) (a' := ?_) #[true, true, true, true, true, true, true, true, true, true, true, true, true, true, true, true, true, true, true, false, false, false, false, false, false, false, false, false, false, false, false, false, false] rfl rfl (any_of HT_.out (by kernel_rfl)) (fun _ _ _ h => h) (Or.inr ⟨by rfl, rfl⟩) ?_ ?_
    rotate_left
    · simp only [Act.put, List.setIfInBounds_toArray, List.set_cons_zero, List.set_cons_succ, i64_w, i32_w]
      rfl
    refine pure_ (i := 19) (N := some 109) (v := undef) (a' := ?_) #[true, true, true, true, true, true, true, true, true, true, true, true, true, true, true, true, true, true, true, true, false, false, false, false, false, false, false, false, false, false, false, false, false] rfl rfl (any_of HT_.out (by kernel_rfl)) (fun _ _ _ h => h) (Or.inr ⟨by rfl, rfl⟩) ?_ ?_
    rotate_left
    · simp only [Act.put, List.setIfInBounds_toArray, List.set_cons_zero, List.set_cons_succ, i64_w, i32_w]
      rfl
    refine pure_ (i := 20) (N := some 110) (v := ?_) (a' := ?_) #[true, true, true, true, true, true, true, true, true, true, true, true, true, true, true, true, true, true, true, true, true, false, false, false, false, false, false, false, false, false, false, false, false] rfl rfl (any_of HT_.out (by kernel_rfl)) (fun _ _ _ h => h) (Or.inl ⟨by rfl, ?_⟩) ?_ ?_
    rotate_left
    · intro w'
      go_simp
      with_reducible rfl
    rotate_left
    · simp only [Act.put, List.setIfInBounds_toArray, List.set_cons_zero, List.set_cons_succ, i64_w, i32_w]
      rfl
    refine pure_ (i := 21) (N := some 111) (v := ?_) (a' := ?_) #[true, true, true, true, true, true, true, true, true, true, true, true, true, true, true, true, true, true, true, true, true, true, false, false, false, false, false, false, false, false, false, false, false] rfl rfl (any_of HT_.out (by kernel_rfl)) (fun _ _ _ h => h) (Or.inl ⟨by rfl, ?_⟩) ?_ ?_
    rotate_left
    · intro w'
      go_simp
      with_reducible rfl
    rotate_left
    · simp only [Act.put, List.setIfInBounds_toArray, List.set_cons_zero, List.set_cons_succ, i64_w, i32_w]
      rfl
    refine pure_ (i := 22) (N := some 112) (v := undef) (a' := ?_) #[true, true, true, true, true, true, true, true, true, true, true, true, true, true, true, true, true, true, true, true, true, true, true, false, false, false, false, false, false, false, false, false, false] rfl rfl (any_of HT_.out (by kernel_rfl)) (fun _ _ _ h => h) (Or.inr ⟨by rfl, rfl⟩) ?_ ?_
    rotate_left
    · simp only [Act.put, List.setIfInBounds_toArray, List.set_cons_zero, List.set_cons_succ, i64_w, i32_w]
      rfl
    refine pure_ (i := 23) (N := some 113) (v := undef) (a' := ?_) #[true, true, true, true, true, true, true, true, true, true, true, true, true, true, true, true, true, true, true, true, true, true, true, true, false, false, false, false, false, false, false, false, false] rfl rfl (any_of HT_.out (by kernel_rfl)) (fun _ _ _ h => h) (Or.inr ⟨by rfl, rfl⟩) ?_ ?_
    rotate_left
    · simp only [Act.put, List.setIfInBounds_toArray, List.set_cons_zero, List.set_cons_succ, i64_w, i32_w]
      rfl
    refine pure_ (i := 24) (N := some 114) (v := undef) (a' := ?_) #[true, true, true, true, true, true, true, true, true, true, true, true, true, true, true, true, true, true, true, true, true, true, true, true, true, false, false, false, false, false, false, false, false] rfl rfl (any_of HT_.out (by kernel_rfl)) (fun _ _ _ h => h) (Or.inr ⟨by rfl, rfl⟩) ?_ ?_
    rotate_left
    · simp only [Act.put, List.setIfInBounds_toArray, List.set_cons_zero, List.set_cons_succ, i64_w, i32_w]
      rfl
    refine pure_ (i := 25) (N := some 115) (v := ?_) (a' := ?_) #[true, true, true, true, true, true, true, true, true, true, true, true, true, true, true, true, true, true, true, true, true, true, true, true, true, true, false, false, false, false, false, false, false] rfl rfl (any_of HT_.out (by kernel_rfl)) (fun _ _ _ h => h) (Or.inl ⟨by rfl, ?_⟩) ?_ ?_
    rotate_left
    · intro w'
      go_simp
      with_reducible rfl
    rotate_left
    · simp only [Act.put, List.setIfInBounds_toArray, List.set_cons_zero, List.set_cons_succ, i64_w, i32_w]
      rfl
    refine pure_ (i := 26) (N := some 116) (v := ?_) (a' := ?_) #[true, true, true, true, true, true, true, true, true, true, true, true, true, true, true, true, true, true, true, true, true, true, true, true, true, true, true, false, false, false, false, false, false] rfl rfl (any_of HT_.out (by kernel_rfl)) (fun _ _ _ h => h) (Or.inl ⟨by rfl, ?_⟩) ?_ ?_
    rotate_left
    · intro w'
      go_simp
      with_reducible rfl
    rotate_left
    · simp only [Act.put, List.setIfInBounds_toArray, List.set_cons_zero, List.set_cons_succ, i64_w, i32_w]
      rfl
    refine pure_ (i := 27) (N := some 117) (v := undef) (a' := ?_) #[true, true, true, true, true, true, true, true, true, true, true, true, true, true, true, true, true, true, true, true, true, true, true, true, true, true, true, true, false, false, false, false, false] rfl rfl (any_of HT_.out (by kernel_rfl)) (fun _ _ _ h => h) (Or.inr ⟨by rfl, rfl⟩) ?_ ?_
    rotate_left
    · simp only [Act.put, List.setIfInBounds_toArray, List.set_cons_zero, List.set_cons_succ, i64_w, i32_w]
      rfl
    refine pure_ (i := 28) (N := some 118) (v := undef) (a' := ?_) #[true, true, true, true, true, true, true, true, true, true, true, true, true, true, true, true, true, true, true, true, true, true, true, true, true, true, true, true, true, false, false, false, false] rfl rfl (any_of HT_.out (by kernel_rfl)) (fun _ _ _ h => h) (Or.inr ⟨by rfl, rfl⟩) ?_ ?_
    rotate_left
    · simp only [Act.put, List.setIfInBounds_toArray, List.set_cons_zero, List.set_cons_succ, i64_w, i32_w]
      rfl
    refine pure_ (i := 29) (N := some 119) (v := undef) (a' := ?_) #[true, true, true, true, true, true, true, true, true, true, true, true, true, true, true, true, true, true, true, true, true, true, true, true, true, true, true, true, true, true, false, false, false] rfl rfl (any_of HT_.out (by kernel_rfl)) (fun _ _ _ h => h) (Or.inr ⟨by rfl, rfl⟩) ?_ ?_
    rotate_left
    · simp only [Act.put, List.setIfInBounds_toArray, List.set_cons_zero, List.set_cons_succ, i64_w, i32_w]
      rfl
    refine pure_ (i := 30) (N := some 120) (v := ?_) (a' := ?_) #[true, true, true, true, true, true, true, true, true, true, true, true, true, true, true, true, true, true, true, true, true, true, true, true, true, true, true, true, true, true, true, false, false] rfl rfl (any_of HT_.out (by kernel_rfl)) (fun _ _ _ h => h) (Or.inl ⟨by rfl, ?_⟩) ?_ ?_
    rotate_left
    · intro w'
      go_simp
      with_reducible rfl
    rotate_left
    · simp only [Act.put, List.setIfInBounds_toArray, List.set_cons_zero, List.set_cons_succ, i64_w, i32_w]
      rfl
    refine pure_ (i := 31) (N := some 121) (v := ?_) (a' := ?_) #[true, true, true, true, true, true, true, true, true, true, true, true, true, true, true, true, true, true, true, true, true, true, true, true, true, true, true, true, true, true, true, true, false] rfl rfl (any_of HT_.out (by kernel_rfl)) (fun _ _ _ h => h) (Or.inl ⟨by rfl, ?_⟩) ?_ ?_
    rotate_left
    · intro w'
      go_simp
      with_reducible rfl
    rotate_left
    · simp only [Act.put, List.setIfInBounds_toArray, List.set_cons_zero, List.set_cons_succ, i64_w, i32_w]
      rfl
    refine pure_ (i := 32) (N := some 6) (v := ?_) (a' := ?_) #[true, true, true, true, true, true, true, true, true, true, true, true, true, true, true, true, true, true, true, true, true, true, true, true, true, true, true, true, true, true, true, true, true] rfl rfl (any_of HT_.out (by kernel_rfl)) (fun _ _ _ h => h) (Or.inl ⟨by rfl, ?_⟩) ?_ ?_
    rotate_left
    · intro w'
      go_simp
      with_reducible rfl
    rotate_left
    · simp only [Act.put, List.setIfInBounds_toArray, List.set_cons_zero, List.set_cons_succ, i64_w, i32_w]
      rfl
    refine done_ (done_of HT_.out (by kernel_rfl)) ?_
    try go_wp2
    go_ret
    exact ⟨by first | rfl | (simp [errW_none, errW_some] <;> rfl) | (simp [*, errW_none, errW_some] <;> rfl), by repeat (first | (with_reducible first | exact HB.out | apply below_alloc | apply pw_below_drewN | apply below_drew1 | refine below_set ?_ GE1.out | refine below_set ?_ GE2.out | refine below_set ?_ GE3.out | refine below_set ?_ GE4.out | refine below_set ?_ GE5.out | refine below_set ?_ GE6.out | refine below_set ?_ GE7.out) | exact HB.out)⟩
  ·
    have n0_ := Aside0.mk (blk_drew K1.out)
    have n1_ := Aside0.mk (blk_drew K2.out)
    have n2_ := Aside0.mk (blk_drew K3.out)
    have n3_ := Aside0.mk (blk_drew K4.out)
    have n4_ := Aside0.mk (blk_drew K5.out)
    have n5_ := Aside0.mk (blk_drew K6.out)
    have n6_ := Aside0.mk (blk_drew K7.out)
    have n7_ := Aside0.mk (below_drew1 HB.out)
    clear K1
    clear K2
    clear K3
    clear K4
    clear K5
    clear K6
    clear K7
    clear HB
    have K1 := n0_
    have K2 := n1_
    have K3 := n2_
    have K4 := n3_
    have K5 := n4_
    have K6 := n5_
    have K7 := n6_
    have HB := n7_
    clear n0_ n1_ n2_ n3_ n4_ n5_ n6_ n7_
    refine start_ (n := 33) (S := fun w' => w'.cell? ⟨b6, 0, none⟩ = some (.int .i64 s1) ∧ w'.cell? ⟨b6, 1, none⟩ = some (.int .i64 s2) ∧ w'.cell? ⟨b6, 2, none⟩ = some (.string s3) ∧ w'.cell? ⟨b1, 0, none⟩ = some (.int .i64 v0) ∧ w'.cell? ⟨b1, 1, none⟩ = some (.int .i64 v1) ∧ w'.cell? ⟨b1, 2, none⟩ = some (.string v2) ∧ w'.cell? ⟨b2, 0, none⟩ = some (.int .i64 u0) ∧ w'.cell? ⟨b2, 1, none⟩ = some (.int .i64 u1) ∧ w'.cell? ⟨b2, 2, none⟩ = some (.string u2)) (ds := []) #[false, false, false, false, false, false, false, false, false, false, false, false, false, false, false, false, false, false, false, false, false, false, false, false, false, false, false, false, false, false, false, false, false] (by kernel_rfl) rfl rfl ⟨(blk_cell K6.out 0).trans rfl, (blk_cell K6.out 1).trans rfl, (blk_cell K6.out 2).trans rfl, (blk_cell K1.out 0).trans rfl, (blk_cell K1.out 1).trans rfl, (blk_cell K1.out 2).trans rfl, (blk_cell K2.out 0).trans rfl, (blk_cell K2.out 1).trans rfl, (blk_cell K2.out 2).trans rfl⟩ (fun hHeld => ?_); refine with_tabW boscagelaw02_LogicTwice.tab15 boscagelaw02_LogicTwice.bits15 (fun HT_ HW_ => ?_)
    generalize W7.drew = w120 at K1 K2 K3 K4 K5 K6 K7 HB hHeld ⊢
    refine pure_ (i := 0) (N := some 90) (v := ?_) (a' := ?_) #[true, false, false, false, false, false, false, false, false, false, false, false, false, false, false, false, false, false, false, false, false, false, false, false, false, false, false, false, false, false, false, false, false] rfl rfl (any_of HT_.out (by kernel_rfl)) (fun _ _ _ h => h) (Or.inl ⟨by rfl, ?_⟩) ?_ ?_
    rotate_left
    · intro w'
      go_simp
      with_reducible rfl
    rotate_left
    · simp only [Act.put, List.setIfInBounds_toArray, List.set_cons_zero, List.set_cons_succ, i64_w, i32_w]
      rfl
    refine pure_ (i := 1) (N := some 91) (v := ?_) (a' := ?_) #[true, true, false, false, false, false, false, false, false, false, false, false, false, false, false, false, false, false, false, false, false, false, false, false, false, false, false, false, false, false, false, false, false] rfl rfl (any_of HT_.out (by kernel_rfl)) (fun _ _ _ h => h) (Or.inl ⟨by rfl, ?_⟩) ?_ ?_
    rotate_left
    · intro w'
      go_simp
      with_reducible rfl
    rotate_left
    · simp only [Act.put, List.setIfInBounds_toArray, List.set_cons_zero, List.set_cons_succ, i64_w, i32_w]
      rfl
    refine pure_ (i := 2) (N := some 92) (v := ?_) (a' := ?_) #[true, true, true, false, false, false, false, false, false, false, false, false, false, false, false, false, false, false, false, false, false, false, false, false, false, false, false, false, false, false, false, false, false] rfl rfl (any_of HT_.out (by kernel_rfl)) (fun _ _ _ h => h) (Or.inl ⟨by rfl, ?_⟩) ?_ ?_
    rotate_left
    · intro w'
      go_simp
      with_reducible rfl
    rotate_left
    · simp only [Act.put, List.setIfInBounds_toArray, List.set_cons_zero, List.set_cons_succ, i64_w, i32_w]
      rfl
    refine pure_ (i := 3) (N := some 93) (v := ?_) (a' := ?_) #[true, true, true, true, false, false, false, false, false, false, false, false, false, false, false, false, false, false, false, false, false, false, false, false, false, false, false, false, false, false, false, false, false] rfl rfl (any_of HT_.out (by kernel_rfl)) (fun _ _ _ h => h) (Or.inl ⟨by rfl, ?_⟩) ?_ ?_
    rotate_left
    · intro w'
      go_simp
      with_reducible rfl
    rotate_left
    · simp only [Act.put, List.setIfInBounds_toArray, List.set_cons_zero, List.set_cons_succ, i64_w, i32_w]
      rfl
    refine pure_ (i := 4) (N := some 94) (v := ?_) (a' := ?_) #[true, true, true, true, true, false, false, false, false, false, false, false, false, false, false, false, false, false, false, false, false, false, false, false, false, false, false, false, false, false, false, false, false] rfl rfl (any_of HT_.out (by kernel_rfl)) (fun _ _ _ h => h) (Or.inl ⟨by rfl, ?_⟩) ?_ ?_
    rotate_left
    · intro w'
      go_simp
      with_reducible rfl
    rotate_left
    · simp only [Act.put, List.setIfInBounds_toArray, List.set_cons_zero, List.set_cons_succ, i64_w, i32_w]
      rfl
    refine take_ (i := 5) (N := some 95) (v := ?_) (a' := ?_) #[true, true, true, true, true, true, false, false, false, false, false, false, false, false, false, false, false, false, false, false, false, false, false, false, false, false, false, false, false, false, false, false, false] rfl rfl (take_ofW HT_.out HW_.out (by kernel_rfl)) (fun _ _ _ h => h) (Or.inl ⟨by rfl, ?_⟩) hHeld ?_ ?_
    rotate_left
    · rintro w' ⟨s0, s1, s2, s3, s4, s5, s6, s7, s8⟩
      go_simp
      with_reducible rfl
    rotate_left
    · simp only [Act.put, List.setIfInBounds_toArray, List.set_cons_zero, List.set_cons_succ, i64_w, i32_w]
      rfl
    refine take_ (i := 7) (N := some 97) (v := ?_) (a' := ?_) #[true, true, true, true, true, true, false, true, false, false, false, false, false, false, false, false, false, false, false, false, false, false, false, false, false, false, false, false, false, false, false, false, false] rfl rfl (take_ofW HT_.out HW_.out (by kernel_rfl)) (fun _ _ _ h => h) (Or.inl ⟨by rfl, ?_⟩) hHeld ?_ ?_
    rotate_left
    · rintro w' ⟨s0, s1, s2, s3, s4, s5, s6, s7, s8⟩
      go_simp
      with_reducible rfl
    rotate_left
    · simp only [Act.put, List.setIfInBounds_toArray, List.set_cons_zero, List.set_cons_succ, i64_w, i32_w]
      rfl
    refine take_ (i := 8) (N := some 98) (v := ?_) (a' := ?_) #[true, true, true, true, true, true, false, true, true, false, false, false, false, false, false, false, false, false, false, false, false, false, false, false, false, false, false, false, false, false, false, false, false] rfl rfl (take_ofW HT_.out HW_.out (by kernel_rfl)) (fun _ _ _ h => h) (Or.inl ⟨by rfl, ?_⟩) hHeld ?_ ?_
    rotate_left
    · rintro w' ⟨s0, s1, s2, s3, s4, s5, s6, s7, s8⟩
      go_simp
      with_reducible rfl
    rotate_left
    · simp only [Act.put, List.setIfInBounds_toArray, List.set_cons_zero, List.set_cons_succ, i64_w, i32_w]
      rfl
    refine pure_ (i := 9) (N := some 99) (v := ?_) (a' := ?_) #[true, true, true, true, true, true, false, true, true, true, false, false, false, false, false, false, false, false, false, false, false, false, false, false, false, false, false, false, false, false, false, false, false] rfl rfl (any_of HT_.out (by kernel_rfl)) (fun _ _ _ h => h) (Or.inl ⟨by rfl, ?_⟩) ?_ ?_
    rotate_left
    · intro w'
      go_simp
      with_reducible rfl
    rotate_left
    · simp only [Act.put, List.setIfInBounds_toArray, List.set_cons_zero, List.set_cons_succ, i64_w, i32_w]
      rfl
    refine one_ (i := 6) (N := some 96) #[true, true, true, true, true, true, true, true, true, true, false, false, false, false, false, false, false, false, false, false, false, false, false, false, false, false, false, false, false, false, false, false, false] rfl rfl (one_of HT_.out (by kernel_rfl)) (by decide) (fun K hK => ?_)
    refine goes_ Try.func17 (by kernel_rfl) rfl #[.agg #[.int .i64 s1, .int .i64 s2, .string s3]] (by rfl) rfl rfl (by (try simp only [List.map_toArray, List.map_cons, List.map_nil]); first | done | rfl | (simp only [List.length_drop, List.length_take]; rfl)) ?_
    with_reducible refine (logic_Holds.calls s1 s2 s3 hd _ HH.out).mono ?_
    rintro e w121 ⟨rfl, hb⟩
    refine ⟨_, rfl, ?_⟩
    have n0_ := Aside0.mk (blk_below (g := b1) (o := .cells #[.int .i64 v0, .int .i64 v1, .string v2] 23 (0, 0)) (by (with_reducible repeat (first | refine blk_drewN ?_ _ | refine blk_drew ?_ | refine blk_alloc ?_ _)); exact K1.out) hb)
    have n1_ := Aside0.mk (blk_below (g := b2) (o := .cells #[.int .i64 u0, .int .i64 u1, .string u2] 23 (0, 0)) (by (with_reducible repeat (first | refine blk_drewN ?_ _ | refine blk_drew ?_ | refine blk_alloc ?_ _)); exact K2.out) hb)
    have n2_ := Aside0.mk (blk_below (g := b3) (o := .cells #[.int .i64 n1, .int .i64 n2, .string n3] 23 (0, 0)) (by (with_reducible repeat (first | refine blk_drewN ?_ _ | refine blk_drew ?_ | refine blk_alloc ?_ _)); exact K3.out) hb)
    have n3_ := Aside0.mk (blk_below (g := b4) (o := .cells #[.int .i64 m1, .int .i64 m2, .string m3] 23 (0, 0)) (by (with_reducible repeat (first | refine blk_drewN ?_ _ | refine blk_drew ?_ | refine blk_alloc ?_ _)); exact K4.out) hb)
    have n4_ := Aside0.mk (blk_below (g := b5) (o := .cells #[.int .i64 x1, .int .i64 x2, .string x3] 23 (0, 0)) (by (with_reducible repeat (first | refine blk_drewN ?_ _ | refine blk_drew ?_ | refine blk_alloc ?_ _)); exact K5.out) hb)
    have n5_ := Aside0.mk (blk_below (g := b6) (o := .cells #[.int .i64 s1, .int .i64 s2, .string s3] 23 (0, 0)) (by (with_reducible repeat (first | refine blk_drewN ?_ _ | refine blk_drew ?_ | refine blk_alloc ?_ _)); exact K6.out) hb)
    have n6_ := Aside0.mk (blk_below (g := b7) (o := .cells #[.int .i64 q1, .int .i64 q2, .string q3] 23 (0, 0)) (by (with_reducible repeat (first | refine blk_drewN ?_ _ | refine blk_drew ?_ | refine blk_alloc ?_ _)); exact K7.out) hb)
    have n7_ := Aside0.mk (below_step (by repeat (first | (with_reducible first | exact HB.out | apply below_alloc | apply pw_below_drewN | apply below_drew1 | refine below_set ?_ GE1.out | refine below_set ?_ GE2.out | refine below_set ?_ GE3.out | refine below_set ?_ GE4.out | refine below_set ?_ GE5.out | refine below_set ?_ GE6.out | refine below_set ?_ GE7.out) | exact HB.out)) hb)
    clear K1
    clear K2
    clear K3
    clear K4
    clear K5
    clear K6
    clear K7
    clear HB
    have K1 := n0_
    have K2 := n1_
    have K3 := n2_
    have K4 := n3_
    have K5 := n4_
    have K6 := n5_
    have K7 := n6_
    have HB := n7_
    clear n0_ n1_ n2_ n3_ n4_ n5_ n6_ n7_
    (try clear hb)
    (try clear hb2)
    (try clear hk)
    (try clear hi)
    refine hK.out _ _ ⟨(blk_cell K6.out 0).trans rfl, (blk_cell K6.out 1).trans rfl, (blk_cell K6.out 2).trans rfl, (blk_cell K1.out 0).trans rfl, (blk_cell K1.out 1).trans rfl, (blk_cell K1.out 2).trans rfl, (blk_cell K2.out 0).trans rfl, (blk_cell K2.out 1).trans rfl, (blk_cell K2.out 2).trans rfl⟩ (fun hHeld => ?_)
    clear hK K
    refine norm_ (a' := ?_) ?_ ?_
    rotate_left
    · show Act.put _ (some 96) _ = _
      simp only [Act.put, List.setIfInBounds_toArray, List.set_cons_zero, List.set_cons_succ, i64_w, i32_w]
      rfl
    refine pure_ (i := 10) (N := some 100) (v := ?_) (a' := ?_) #[true, true, true, true, true, true, true, true, true, true, true, false, false, false, false, false, false, false, false, false, false, false, false, false, false, false, false, false, false, false, false, false, false] rfl rfl (any_of HT_.out (by kernel_rfl)) (fun _ _ _ h => h) (Or.inl ⟨by rfl, ?_⟩) ?_ ?_
    rotate_left
    · intro w'
      go_simp
      with_reducible rfl
    rotate_left
    · simp only [Act.put, List.setIfInBounds_toArray, List.set_cons_zero, List.set_cons_succ, i64_w, i32_w]
      rfl
    refine pure_ (i := 11) (N := some 101) (v := ?_) (a' := ?_) #[true, true, true, true, true, true, true, true, true, true, true, true, false, false, false, false, false, false, false, false, false, false, false, false, false, false, false, false, false, false, false, false, false] rfl rfl (any_of HT_.out (by kernel_rfl)) (fun _ _ _ h => h) (Or.inl ⟨by rfl, ?_⟩) ?_ ?_
    rotate_left
    · intro w'
      go_simp
      with_reducible rfl
    rotate_left
    · simp only [Act.put, List.setIfInBounds_toArray, List.set_cons_zero, List.set_cons_succ, i64_w, i32_w]
      rfl
    refine pure_ (i := 12) (N := some 102) (v := ?_) (a' := ?_) #[true, true, true, true, true, true, true, true, true, true, true, true, true, false, false, false, false, false, false, false, false, false, false, false, false, false, false, false, false, false, false, false, false] rfl rfl (any_of HT_.out (by kernel_rfl)) (fun _ _ _ h => h) (Or.inl ⟨by rfl, ?_⟩) ?_ ?_
    rotate_left
    · intro w'
      go_simp
      with_reducible rfl
    rotate_left
    · simp only [Act.put, List.setIfInBounds_toArray, List.set_cons_zero, List.set_cons_succ, i64_w, i32_w]
      rfl
    refine pure_ (i := 13) (N := some 103) (v := ?_) (a' := ?_) #[true, true, true, true, true, true, true, true, true, true, true, true, true, true, false, false, false, false, false, false, false, false, false, false, false, false, false, false, false, false, false, false, false] rfl rfl (any_of HT_.out (by kernel_rfl)) (fun _ _ _ h => h) (Or.inl ⟨by rfl, ?_⟩) ?_ ?_
    rotate_left
    · intro w'
      go_simp
      with_reducible rfl
    rotate_left
    · simp only [Act.put, List.setIfInBounds_toArray, List.set_cons_zero, List.set_cons_succ, i64_w, i32_w]
      rfl
    refine pure_ (i := 14) (N := some 104) (v := ?_) (a' := ?_) #[true, true, true, true, true, true, true, true, true, true, true, true, true, true, true, false, false, false, false, false, false, false, false, false, false, false, false, false, false, false, false, false, false] rfl rfl (any_of HT_.out (by kernel_rfl)) (fun _ _ _ h => h) (Or.inl ⟨by rfl, ?_⟩) ?_ ?_
    rotate_left
    · intro w'
      go_simp
      with_reducible rfl
    rotate_left
    · simp only [Act.put, List.setIfInBounds_toArray, List.set_cons_zero, List.set_cons_succ, i64_w, i32_w]
      rfl
    refine pure_ (i := 15) (N := some 105) (v := ?_) (a' := ?_) #[true, true, true, true, true, true, true, true, true, true, true, true, true, true, true, true, false, false, false, false, false, false, false, false, false, false, false, false, false, false, false, false, false] rfl rfl (any_of HT_.out (by kernel_rfl)) (fun _ _ _ h => h) (Or.inl ⟨by rfl, ?_⟩) ?_ ?_
    rotate_left
    · intro w'
      go_simp
      with_reducible rfl
    rotate_left
    · simp only [Act.put, List.setIfInBounds_toArray, List.set_cons_zero, List.set_cons_succ, i64_w, i32_w]
      rfl
    refine pure_ (i := 16) (N := some 106) (v := ?_) (a' := ?_) #[true, true, true, true, true, true, true, true, true, true, true, true, true, true, true, true, true, false, false, false, false, false, false, false, false, false, false, false, false, false, false, false, false] rfl rfl (any_of HT_.out (by kernel_rfl)) (fun _ _ _ h => h) (Or.inl ⟨by rfl, ?_⟩) ?_ ?_
    rotate_left
    · intro w'
      go_simp
      with_reducible rfl
    rotate_left
    · simp only [Act.put, List.setIfInBounds_toArray, List.set_cons_zero, List.set_cons_succ, i64_w, i32_w]
      rfl
    refine pure_ (i := 17) (N := some 107) (v := ?_) (a' := ?_) #[true, true, true, true, true, true, true, true, true, true, true, true, true, true, true, true, true, true, false, false, false, false, false, false, false, false, false, false, false, false, false, false, false] rfl rfl (any_of HT_.out (by kernel_rfl)) (fun _ _ _ h => h) (Or.inl ⟨by rfl, ?_⟩) ?_ ?_
    rotate_left
    · intro w'
      go_simp
      with_reducible rfl
    rotate_left
    · simp only [Act.put, List.setIfInBounds_toArray, List.set_cons_zero, List.set_cons_succ, i64_w, i32_w]
      rfl
    refine take_ (i := 18) (N := some 108) (v := ?_) (a' := ?_) #[true, true, true, true, true, true, true, true, true, true, true, true, true, true, true, true, true, true, true, false, false, false, false, false, false, false, false, false, false, false, false, false, false] rfl rfl (take_ofW HT_.out HW_.out (by kernel_rfl)) (fun _ _ _ h => h) (Or.inl ⟨by rfl, ?_⟩) hHeld ?_ ?_
    rotate_left
    · rintro w' ⟨s0, s1, s2, s3, s4, s5, s6, s7, s8⟩
      go_simp
      with_reducible rfl
    rotate_left
    · simp only [Act.put, List.setIfInBounds_toArray, List.set_cons_zero, List.set_cons_succ, i64_w, i32_w]
      rfl
    refine pure_ (i := 19) (N := some 109) (v := ?_) (a' := ?_) #[true, true, true, true, true, true, true, true, true, true, true, true, true, true, true, true, true, true, true, true, false, false, false, false, false, false, false, false, false, false, false, false, false] rfl rfl (any_of HT_.out (by kernel_rfl)) (fun _ _ _ h => h) (Or.inl ⟨by rfl, ?_⟩) ?_ ?_
    rotate_left
    · intro w'
      go_simp
      with_reducible rfl
    rotate_left
    · simp only [Act.put, List.setIfInBounds_toArray, List.set_cons_zero, List.set_cons_succ, i64_w, i32_w]
      rfl
    refine pure_ (i := 20) (N := some 110) (v := ?_) (a' := ?_) #[true, true, true, true, true, true, true, true, true, true, true, true, true, true, true, true, true, true, true, true, true, false, false, false, false, false, false, false, false, false, false, false, false] rfl rfl (any_of HT_.out (by kernel_rfl)) (fun _ _ _ h => h) (Or.inl ⟨by rfl, ?_⟩) ?_ ?_
    rotate_left
    · intro w'
      go_simp
      with_reducible rfl
    rotate_left
    · simp only [Act.put, List.setIfInBounds_toArray, List.set_cons_zero, List.set_cons_succ, i64_w, i32_w]
      rfl
    refine pure_ (i := 21) (N := some 111) (v := ?_) (a' := ?_) #[true, true, true, true, true, true, true, true, true, true, true, true, true, true, true, true, true, true, true, true, true, true, false, false, false, false, false, false, false, false, false, false, false] rfl rfl (any_of HT_.out (by kernel_rfl)) (fun _ _ _ h => h) (Or.inl ⟨by rfl, ?_⟩) ?_ ?_
    rotate_left
    · intro w'
      go_simp
      with_reducible rfl
    rotate_left
    · simp only [Act.put, List.setIfInBounds_toArray, List.set_cons_zero, List.set_cons_succ, i64_w, i32_w]
      rfl
    refine pure_ (i := 22) (N := some 112) (v := undef) (a' := ?_) #[true, true, true, true, true, true, true, true, true, true, true, true, true, true, true, true, true, true, true, true, true, true, true, false, false, false, false, false, false, false, false, false, false] rfl rfl (any_of HT_.out (by kernel_rfl)) (fun _ _ _ h => h) (Or.inr ⟨by rfl, rfl⟩) ?_ ?_
    rotate_left
    · simp only [Act.put, List.setIfInBounds_toArray, List.set_cons_zero, List.set_cons_succ, i64_w, i32_w]
      rfl
    refine pure_ (i := 23) (N := some 113) (v := undef) (a' := ?_) #[true, true, true, true, true, true, true, true, true, true, true, true, true, true, true, true, true, true, true, true, true, true, true, true, false, false, false, false, false, false, false, false, false] rfl rfl (any_of HT_.out (by kernel_rfl)) (fun _ _ _ h => h) (Or.inr ⟨by rfl, rfl⟩) ?_ ?_
    rotate_left
    · simp only [Act.put, List.setIfInBounds_toArray, List.set_cons_zero, List.set_cons_succ, i64_w, i32_w]
      rfl
    refine pure_ (i := 24) (N := some 114) (v := undef) (a' := ?_) #[true, true, true, true, true, true, true, true, true, true, true, true, true, true, true, true, true, true, true, true, true, true, true, true, true, false, false, false, false, false, false, false, false] rfl rfl (any_of HT_.out (by kernel_rfl)) (fun _ _ _ h => h) (Or.inr ⟨by rfl, rfl⟩) ?_ ?_
    rotate_left
    · simp only [Act.put, List.setIfInBounds_toArray, List.set_cons_zero, List.set_cons_succ, i64_w, i32_w]
      rfl
    refine pure_ (i := 25) (N := some 115) (v := ?_) (a' := ?_) #[true, true, true, true, true, true, true, true, true, true, true, true, true, true, true, true, true, true, true, true, true, true, true, true, true, true, false, false, false, false, false, false, false] rfl rfl (any_of HT_.out (by kernel_rfl)) (fun _ _ _ h => h) (Or.inl ⟨by rfl, ?_⟩) ?_ ?_
    rotate_left
    · intro w'
      go_simp
      with_reducible rfl
    rotate_left
    · simp only [Act.put, List.setIfInBounds_toArray, List.set_cons_zero, List.set_cons_succ, i64_w, i32_w]
      rfl
    refine pure_ (i := 26) (N := some 116) (v := ?_) (a' := ?_) #[true, true, true, true, true, true, true, true, true, true, true, true, true, true, true, true, true, true, true, true, true, true, true, true, true, true, true, false, false, false, false, false, false] rfl rfl (any_of HT_.out (by kernel_rfl)) (fun _ _ _ h => h) (Or.inl ⟨by rfl, ?_⟩) ?_ ?_
    rotate_left
    · intro w'
      go_simp
      with_reducible rfl
    rotate_left
    · simp only [Act.put, List.setIfInBounds_toArray, List.set_cons_zero, List.set_cons_succ, i64_w, i32_w]
      rfl
    refine pure_ (i := 27) (N := some 117) (v := undef) (a' := ?_) #[true, true, true, true, true, true, true, true, true, true, true, true, true, true, true, true, true, true, true, true, true, true, true, true, true, true, true, true, false, false, false, false, false] rfl rfl (any_of HT_.out (by kernel_rfl)) (fun _ _ _ h => h) (Or.inr ⟨by rfl, rfl⟩) ?_ ?_
    rotate_left
    · simp only [Act.put, List.setIfInBounds_toArray, List.set_cons_zero, List.set_cons_succ, i64_w, i32_w]
      rfl
    refine pure_ (i := 28) (N := some 118) (v := undef) (a' := ?_) #[true, true, true, true, true, true, true, true, true, true, true, true, true, true, true, true, true, true, true, true, true, true, true, true, true, true, true, true, true, false, false, false, false] rfl rfl (any_of HT_.out (by kernel_rfl)) (fun _ _ _ h => h) (Or.inr ⟨by rfl, rfl⟩) ?_ ?_
    rotate_left
    · simp only [Act.put, List.setIfInBounds_toArray, List.set_cons_zero, List.set_cons_succ, i64_w, i32_w]
      rfl
    refine pure_ (i := 29) (N := some 119) (v := undef) (a' := ?_) #[true, true, true, true, true, true, true, true, true, true, true, true, true, true, true, true, true, true, true, true, true, true, true, true, true, true, true, true, true, true, false, false, false] rfl rfl (any_of HT_.out (by kernel_rfl)) (fun _ _ _ h => h) (Or.inr ⟨by rfl, rfl⟩) ?_ ?_
    rotate_left
    · simp only [Act.put, List.setIfInBounds_toArray, List.set_cons_zero, List.set_cons_succ, i64_w, i32_w]
      rfl
    refine pure_ (i := 30) (N := some 120) (v := ?_) (a' := ?_) #[true, true, true, true, true, true, true, true, true, true, true, true, true, true, true, true, true, true, true, true, true, true, true, true, true, true, true, true, true, true, true, false, false] rfl rfl (any_of HT_.out (by kernel_rfl)) (fun _ _ _ h => h) (Or.inl ⟨by rfl, ?_⟩) ?_ ?_
    rotate_left
    · intro w'
      go_simp
      with_reducible rfl
    rotate_left
    · simp only [Act.put, List.setIfInBounds_toArray, List.set_cons_zero, List.set_cons_succ, i64_w, i32_w]
      rfl
    refine pure_ (i := 31) (N := some 121) (v := ?_) (a' := ?_) #[true, true, true, true, true, true, true, true, true, true, true, true, true, true, true, true, true, true, true, true, true, true, true, true, true, true, true, true, true, true, true, true, false] rfl rfl (any_of HT_.out (by kernel_rfl)) (fun _ _ _ h => h) (Or.inl ⟨by rfl, ?_⟩) ?_ ?_
    rotate_left
    · intro w'
      go_simp
      with_reducible rfl
    rotate_left
    · simp only [Act.put, List.setIfInBounds_toArray, List.set_cons_zero, List.set_cons_succ, i64_w, i32_w]
      rfl
    refine pure_ (i := 32) (N := some 6) (v := ?_) (a' := ?_) #[true, true, true, true, true, true, true, true, true, true, true, true, true, true, true, true, true, true, true, true, true, true, true, true, true, true, true, true, true, true, true, true, true] rfl rfl (any_of HT_.out (by kernel_rfl)) (fun _ _ _ h => h) (Or.inl ⟨by rfl, ?_⟩) ?_ ?_
    rotate_left
    · intro w'
      go_simp
      with_reducible rfl
    rotate_left
    · simp only [Act.put, List.setIfInBounds_toArray, List.set_cons_zero, List.set_cons_succ, i64_w, i32_w]
      rfl
    refine done_ (done_of HT_.out (by kernel_rfl)) ?_
    try go_wp2
    go_ret
    exact ⟨by first | rfl | (simp [errW_none, errW_some] <;> rfl) | (simp [*, errW_none, errW_some] <;> rfl), by repeat (first | (with_reducible first | exact HB.out | apply below_alloc | apply pw_below_drewN | apply below_drew1 | refine below_set ?_ GE1.out | refine below_set ?_ GE2.out | refine below_set ?_ GE3.out | refine below_set ?_ GE4.out | refine below_set ?_ GE5.out | refine below_set ?_ GE6.out | refine below_set ?_ GE7.out) | exact HB.out)⟩
  ·
    have n0_ := Aside0.mk (blk_drew K1.out)
    have n1_ := Aside0.mk (blk_drew K2.out)
    have n2_ := Aside0.mk (blk_drew K3.out)
    have n3_ := Aside0.mk (blk_drew K4.out)
    have n4_ := Aside0.mk (blk_drew K5.out)
    have n5_ := Aside0.mk (blk_drew K6.out)
    have n6_ := Aside0.mk (blk_drew K7.out)
    have n7_ := Aside0.mk (below_drew1 HB.out)
    clear K1
    clear K2
    clear K3
    clear K4
    clear K5
    clear K6
    clear K7
    clear HB
    have K1 := n0_
    have K2 := n1_
    have K3 := n2_
    have K4 := n3_
    have K5 := n4_
    have K6 := n5_
    have K7 := n6_
    have HB := n7_
    clear n0_ n1_ n2_ n3_ n4_ n5_ n6_ n7_
    refine start_ (n := 33) (S := fun w' => w'.cell? ⟨b6, 0, none⟩ = some (.int .i64 s1) ∧ w'.cell? ⟨b6, 1, none⟩ = some (.int .i64 s2) ∧ w'.cell? ⟨b6, 2, none⟩ = some (.string s3) ∧ w'.cell? ⟨b1, 0, none⟩ = some (.int .i64 v0) ∧ w'.cell? ⟨b1, 1, none⟩ = some (.int .i64 v1) ∧ w'.cell? ⟨b1, 2, none⟩ = some (.string v2) ∧ w'.cell? ⟨b2, 0, none⟩ = some (.int .i64 u0) ∧ w'.cell? ⟨b2, 1, none⟩ = some (.int .i64 u1) ∧ w'.cell? ⟨b2, 2, none⟩ = some (.string u2)) (ds := []) #[false, false, false, false, false, false, false, false, false, false, false, false, false, false, false, false, false, false, false, false, false, false, false, false, false, false, false, false, false, false, false, false, false] (by kernel_rfl) rfl rfl ⟨(blk_cell K6.out 0).trans rfl, (blk_cell K6.out 1).trans rfl, (blk_cell K6.out 2).trans rfl, (blk_cell K1.out 0).trans rfl, (blk_cell K1.out 1).trans rfl, (blk_cell K1.out 2).trans rfl, (blk_cell K2.out 0).trans rfl, (blk_cell K2.out 1).trans rfl, (blk_cell K2.out 2).trans rfl⟩ (fun hHeld => ?_); refine with_tabW boscagelaw02_LogicTwice.tab15 boscagelaw02_LogicTwice.bits15 (fun HT_ HW_ => ?_)
    generalize W7.drew = w152 at K1 K2 K3 K4 K5 K6 K7 HB hHeld ⊢
    refine pure_ (i := 0) (N := some 90) (v := ?_) (a' := ?_) #[true, false, false, false, false, false, false, false, false, false, false, false, false, false, false, false, false, false, false, false, false, false, false, false, false, false, false, false, false, false, false, false, false] rfl rfl (any_of HT_.out (by kernel_rfl)) (fun _ _ _ h => h) (Or.inl ⟨by rfl, ?_⟩) ?_ ?_
    rotate_left
    · intro w'
      go_simp
      with_reducible rfl
    rotate_left
    · simp only [Act.put, List.setIfInBounds_toArray, List.set_cons_zero, List.set_cons_succ, i64_w, i32_w]
      rfl
    refine pure_ (i := 1) (N := some 91) (v := ?_) (a' := ?_) #[true, true, false, false, false, false, false, false, false, false, false, false, false, false, false, false, false, false, false, false, false, false, false, false, false, false, false, false, false, false, false, false, false] rfl rfl (any_of HT_.out (by kernel_rfl)) (fun _ _ _ h => h) (Or.inl ⟨by rfl, ?_⟩) ?_ ?_
    rotate_left
    · intro w'
      go_simp
      with_reducible rfl
    rotate_left
    · simp only [Act.put, List.setIfInBounds_toArray, List.set_cons_zero, List.set_cons_succ, i64_w, i32_w]
      rfl
    refine pure_ (i := 2) (N := some 92) (v := ?_) (a' := ?_) #[true, true, true, false, false, false, false, false, false, false, false, false, false, false, false, false, false, false, false, false, false, false, false, false, false, false, false, false, false, false, false, false, false] rfl rfl (any_of HT_.out (by kernel_rfl)) (fun _ _ _ h => h) (Or.inl ⟨by rfl, ?_⟩) ?_ ?_
    rotate_left
    · intro w'
      go_simp
      with_reducible rfl
    rotate_left
    · simp only [Act.put, List.setIfInBounds_toArray, List.set_cons_zero, List.set_cons_succ, i64_w, i32_w]
      rfl
    refine pure_ (i := 3) (N := some 93) (v := ?_) (a' := ?_) #[true, true, true, true, false, false, false, false, false, false, false, false, false, false, false, false, false, false, false, false, false, false, false, false, false, false, false, false, false, false, false, false, false] rfl rfl (any_of HT_.out (by kernel_rfl)) (fun _ _ _ h => h) (Or.inl ⟨by rfl, ?_⟩) ?_ ?_
    rotate_left
    · intro w'
      go_simp
      with_reducible rfl
    rotate_left
    · simp only [Act.put, List.setIfInBounds_toArray, List.set_cons_zero, List.set_cons_succ, i64_w, i32_w]
      rfl
    refine pure_ (i := 4) (N := some 94) (v := ?_) (a' := ?_) #[true, true, true, true, true, false, false, false, false, false, false, false, false, false, false, false, false, false, false, false, false, false, false, false, false, false, false, false, false, false, false, false, false] rfl rfl (any_of HT_.out (by kernel_rfl)) (fun _ _ _ h => h) (Or.inl ⟨by rfl, ?_⟩) ?_ ?_
    rotate_left
    · intro w'
      go_simp
      with_reducible rfl
    rotate_left
    · simp only [Act.put, List.setIfInBounds_toArray, List.set_cons_zero, List.set_cons_succ, i64_w, i32_w]
      rfl
    refine take_ (i := 5) (N := some 95) (v := ?_) (a' := ?_) #[true, true, true, true, true, true, false, false, false, false, false, false, false, false, false, false, false, false, false, false, false, false, false, false, false, false, false, false, false, false, false, false, false] rfl rfl (take_ofW HT_.out HW_.out (by kernel_rfl)) (fun _ _ _ h => h) (Or.inl ⟨by rfl, ?_⟩) hHeld ?_ ?_
    rotate_left
    · rintro w' ⟨s0, s1, s2, s3, s4, s5, s6, s7, s8⟩
      go_simp
      with_reducible rfl
    rotate_left
    · simp only [Act.put, List.setIfInBounds_toArray, List.set_cons_zero, List.set_cons_succ, i64_w, i32_w]
      rfl
    refine take_ (i := 7) (N := some 97) (v := ?_) (a' := ?_) #[true, true, true, true, true, true, false, true, false, false, false, false, false, false, false, false, false, false, false, false, false, false, false, false, false, false, false, false, false, false, false, false, false] rfl rfl (take_ofW HT_.out HW_.out (by kernel_rfl)) (fun _ _ _ h => h) (Or.inl ⟨by rfl, ?_⟩) hHeld ?_ ?_
    rotate_left
    · rintro w' ⟨s0, s1, s2, s3, s4, s5, s6, s7, s8⟩
      go_simp
      with_reducible rfl
    rotate_left
    · simp only [Act.put, List.setIfInBounds_toArray, List.set_cons_zero, List.set_cons_succ, i64_w, i32_w]
      rfl
    refine take_ (i := 8) (N := some 98) (v := ?_) (a' := ?_) #[true, true, true, true, true, true, false, true, true, false, false, false, false, false, false, false, false, false, false, false, false, false, false, false, false, false, false, false, false, false, false, false, false] rfl rfl (take_ofW HT_.out HW_.out (by kernel_rfl)) (fun _ _ _ h => h) (Or.inl ⟨by rfl, ?_⟩) hHeld ?_ ?_
    rotate_left
    · rintro w' ⟨s0, s1, s2, s3, s4, s5, s6, s7, s8⟩
      go_simp
      with_reducible rfl
    rotate_left
    · simp only [Act.put, List.setIfInBounds_toArray, List.set_cons_zero, List.set_cons_succ, i64_w, i32_w]
      rfl
    refine pure_ (i := 9) (N := some 99) (v := ?_) (a' := ?_) #[true, true, true, true, true, true, false, true, true, true, false, false, false, false, false, false, false, false, false, false, false, false, false, false, false, false, false, false, false, false, false, false, false] rfl rfl (any_of HT_.out (by kernel_rfl)) (fun _ _ _ h => h) (Or.inl ⟨by rfl, ?_⟩) ?_ ?_
    rotate_left
    · intro w'
      go_simp
      with_reducible rfl
    rotate_left
    · simp only [Act.put, List.setIfInBounds_toArray, List.set_cons_zero, List.set_cons_succ, i64_w, i32_w]
      rfl
    refine one_ (i := 6) (N := some 96) #[true, true, true, true, true, true, true, true, true, true, false, false, false, false, false, false, false, false, false, false, false, false, false, false, false, false, false, false, false, false, false, false, false] rfl rfl (one_of HT_.out (by kernel_rfl)) (by decide) (fun K hK => ?_)
    refine goes_ Try.func17 (by kernel_rfl) rfl #[.agg #[.int .i64 s1, .int .i64 s2, .string s3]] (by rfl) rfl rfl (by (try simp only [List.map_toArray, List.map_cons, List.map_nil]); first | done | rfl | (simp only [List.length_drop, List.length_take]; rfl)) ?_
    with_reducible refine (logic_Holds.calls s1 s2 s3 hd _ HH.out).mono ?_
    rintro e w153 ⟨rfl, hb⟩
    refine ⟨_, rfl, ?_⟩
    have n0_ := Aside0.mk (blk_below (g := b1) (o := .cells #[.int .i64 v0, .int .i64 v1, .string v2] 23 (0, 0)) (by (with_reducible repeat (first | refine blk_drewN ?_ _ | refine blk_drew ?_ | refine blk_alloc ?_ _)); exact K1.out) hb)
    have n1_ := Aside0.mk (blk_below (g := b2) (o := .cells #[.int .i64 u0, .int .i64 u1, .string u2] 23 (0, 0)) (by (with_reducible repeat (first | refine blk_drewN ?_ _ | refine blk_drew ?_ | refine blk_alloc ?_ _)); exact K2.out) hb)
    have n2_ := Aside0.mk (blk_below (g := b3) (o := .cells #[.int .i64 n1, .int .i64 n2, .string n3] 23 (0, 0)) (by (with_reducible repeat (first | refine blk_drewN ?_ _ | refine blk_drew ?_ | refine blk_alloc ?_ _)); exact K3.out) hb)
    have n3_ := Aside0.mk (blk_below (g := b4) (o := .cells #[.int .i64 m1, .int .i64 m2, .string m3] 23 (0, 0)) (by (with_reducible repeat (first | refine blk_drewN ?_ _ | refine blk_drew ?_ | refine blk_alloc ?_ _)); exact K4.out) hb)
    have n4_ := Aside0.mk (blk_below (g := b5) (o := .cells #[.int .i64 x1, .int .i64 x2, .string x3] 23 (0, 0)) (by (with_reducible repeat (first | refine blk_drewN ?_ _ | refine blk_drew ?_ | refine blk_alloc ?_ _)); exact K5.out) hb)
    have n5_ := Aside0.mk (blk_below (g := b6) (o := .cells #[.int .i64 s1, .int .i64 s2, .string s3] 23 (0, 0)) (by (with_reducible repeat (first | refine blk_drewN ?_ _ | refine blk_drew ?_ | refine blk_alloc ?_ _)); exact K6.out) hb)
    have n6_ := Aside0.mk (blk_below (g := b7) (o := .cells #[.int .i64 q1, .int .i64 q2, .string q3] 23 (0, 0)) (by (with_reducible repeat (first | refine blk_drewN ?_ _ | refine blk_drew ?_ | refine blk_alloc ?_ _)); exact K7.out) hb)
    have n7_ := Aside0.mk (below_step (by repeat (first | (with_reducible first | exact HB.out | apply below_alloc | apply pw_below_drewN | apply below_drew1 | refine below_set ?_ GE1.out | refine below_set ?_ GE2.out | refine below_set ?_ GE3.out | refine below_set ?_ GE4.out | refine below_set ?_ GE5.out | refine below_set ?_ GE6.out | refine below_set ?_ GE7.out) | exact HB.out)) hb)
    clear K1
    clear K2
    clear K3
    clear K4
    clear K5
    clear K6
    clear K7
    clear HB
    have K1 := n0_
    have K2 := n1_
    have K3 := n2_
    have K4 := n3_
    have K5 := n4_
    have K6 := n5_
    have K7 := n6_
    have HB := n7_
    clear n0_ n1_ n2_ n3_ n4_ n5_ n6_ n7_
    (try clear hb)
    (try clear hb2)
    (try clear hk)
    (try clear hi)
    refine hK.out _ _ ⟨(blk_cell K6.out 0).trans rfl, (blk_cell K6.out 1).trans rfl, (blk_cell K6.out 2).trans rfl, (blk_cell K1.out 0).trans rfl, (blk_cell K1.out 1).trans rfl, (blk_cell K1.out 2).trans rfl, (blk_cell K2.out 0).trans rfl, (blk_cell K2.out 1).trans rfl, (blk_cell K2.out 2).trans rfl⟩ (fun hHeld => ?_)
    clear hK K
    refine norm_ (a' := ?_) ?_ ?_
    rotate_left
    · show Act.put _ (some 96) _ = _
      simp only [Act.put, List.setIfInBounds_toArray, List.set_cons_zero, List.set_cons_succ, i64_w, i32_w]
      rfl
    refine pure_ (i := 10) (N := some 100) (v := ?_) (a' := ?_) #[true, true, true, true, true, true, true, true, true, true, true, false, false, false, false, false, false, false, false, false, false, false, false, false, false, false, false, false, false, false, false, false, false] rfl rfl (any_of HT_.out (by kernel_rfl)) (fun _ _ _ h => h) (Or.inl ⟨by rfl, ?_⟩) ?_ ?_
    rotate_left
    · intro w'
      go_simp
      with_reducible rfl
    rotate_left
    · simp only [Act.put, List.setIfInBounds_toArray, List.set_cons_zero, List.set_cons_succ, i64_w, i32_w]
      rfl
    refine pure_ (i := 11) (N := some 101) (v := ?_) (a' := ?_) #[true, true, true, true, true, true, true, true, true, true, true, true, false, false, false, false, false, false, false, false, false, false, false, false, false, false, false, false, false, false, false, false, false] rfl rfl (any_of HT_.out (by kernel_rfl)) (fun _ _ _ h => h) (Or.inl ⟨by rfl, ?_⟩) ?_ ?_
    rotate_left
    · intro w'
      go_simp
      with_reducible rfl
    rotate_left
    · simp only [Act.put, List.setIfInBounds_toArray, List.set_cons_zero, List.set_cons_succ, i64_w, i32_w]
      rfl
    refine pure_ (i := 12) (N := some 102) (v := ?_) (a' := ?_) #[true, true, true, true, true, true, true, true, true, true, true, true, true, false, false, false, false, false, false, false, false, false, false, false, false, false, false, false, false, false, false, false, false] rfl rfl (any_of HT_.out (by kernel_rfl)) (fun _ _ _ h => h) (Or.inl ⟨by rfl, ?_⟩) ?_ ?_
    rotate_left
    · intro w'
      go_simp
      with_reducible rfl
    rotate_left
    · simp only [Act.put, List.setIfInBounds_toArray, List.set_cons_zero, List.set_cons_succ, i64_w, i32_w]
      rfl
    refine pure_ (i := 13) (N := some 103) (v := ?_) (a' := ?_) #[true, true, true, true, true, true, true, true, true, true, true, true, true, true, false, false, false, false, false, false, false, false, false, false, false, false, false, false, false, false, false, false, false] rfl rfl (any_of HT_.out (by kernel_rfl)) (fun _ _ _ h => h) (Or.inl ⟨by rfl, ?_⟩) ?_ ?_
    rotate_left
    · intro w'
      go_simp
      with_reducible rfl
    rotate_left
    · simp only [Act.put, List.setIfInBounds_toArray, List.set_cons_zero, List.set_cons_succ, i64_w, i32_w]
      rfl
    refine pure_ (i := 14) (N := some 104) (v := ?_) (a' := ?_) #[true, true, true, true, true, true, true, true, true, true, true, true, true, true, true, false, false, false, false, false, false, false, false, false, false, false, false, false, false, false, false, false, false] rfl rfl (any_of HT_.out (by kernel_rfl)) (fun _ _ _ h => h) (Or.inl ⟨by rfl, ?_⟩) ?_ ?_
    rotate_left
    · intro w'
      go_simp
      with_reducible rfl
    rotate_left
    · simp only [Act.put, List.setIfInBounds_toArray, List.set_cons_zero, List.set_cons_succ, i64_w, i32_w]
      rfl
    refine pure_ (i := 15) (N := some 105) (v := ?_) (a' := ?_) #[true, true, true, true, true, true, true, true, true, true, true, true, true, true, true, true, false, false, false, false, false, false, false, false, false, false, false, false, false, false, false, false, false] rfl rfl (any_of HT_.out (by kernel_rfl)) (fun _ _ _ h => h) (Or.inl ⟨by rfl, ?_⟩) ?_ ?_
    rotate_left
    · intro w'
      go_simp
      with_reducible rfl
    rotate_left
    · simp only [Act.put, List.setIfInBounds_toArray, List.set_cons_zero, List.set_cons_succ, i64_w, i32_w]
      rfl
    refine pure_ (i := 16) (N := some 106) (v := ?_) (a' := ?_) #[true, true, true, true, true, true, true, true, true, true, true, true, true, true, true, true, true, false, false, false, false, false, false, false, false, false, false, false, false, false, false, false, false] rfl rfl (any_of HT_.out (by kernel_rfl)) (fun _ _ _ h => h) (Or.inl ⟨by rfl, ?_⟩) ?_ ?_
    rotate_left
    · intro w'
      go_simp
      with_reducible rfl
    rotate_left
    · simp only [Act.put, List.setIfInBounds_toArray, List.set_cons_zero, List.set_cons_succ, i64_w, i32_w]
      rfl
    refine pure_ (i := 17) (N := some 107) (v := ?_) (a' := ?_) #[true, true, true, true, true, true, true, true, true, true, true, true, true, true, true, true, true, true, false, false, false, false, false, false, false, false, false, false, false, false, false, false, false] rfl rfl (any_of HT_.out (by kernel_rfl)) (fun _ _ _ h => h) (Or.inl ⟨by rfl, ?_⟩) ?_ ?_
    rotate_left
    · intro w'
      go_simp
      with_reducible rfl
    rotate_left
    · simp only [Act.put, List.setIfInBounds_toArray, List.set_cons_zero, List.set_cons_succ, i64_w, i32_w]
      rfl
    refine take_ (i := 18) (N := some 108) (v := ?_) (a' := ?_) #[true, true, true, true, true, true, true, true, true, true, true, true, true, true, true, true, true, true, true, false, false, false, false, false, false, false, false, false, false, false, false, false, false] rfl rfl (take_ofW HT_.out HW_.out (by kernel_rfl)) (fun _ _ _ h => h) (Or.inl ⟨by rfl, ?_⟩) hHeld ?_ ?_
    rotate_left
    · rintro w' ⟨s0, s1, s2, s3, s4, s5, s6, s7, s8⟩
      go_simp
      with_reducible rfl
    rotate_left
    · simp only [Act.put, List.setIfInBounds_toArray, List.set_cons_zero, List.set_cons_succ, i64_w, i32_w]
      rfl
    refine pure_ (i := 19) (N := some 109) (v := ?_) (a' := ?_) #[true, true, true, true, true, true, true, true, true, true, true, true, true, true, true, true, true, true, true, true, false, false, false, false, false, false, false, false, false, false, false, false, false] rfl rfl (any_of HT_.out (by kernel_rfl)) (fun _ _ _ h => h) (Or.inl ⟨by rfl, ?_⟩) ?_ ?_
    rotate_left
    · intro w'
      go_simp
      with_reducible rfl
    rotate_left
    · simp only [Act.put, List.setIfInBounds_toArray, List.set_cons_zero, List.set_cons_succ, i64_w, i32_w]
      rfl
    refine pure_ (i := 20) (N := some 110) (v := ?_) (a' := ?_) #[true, true, true, true, true, true, true, true, true, true, true, true, true, true, true, true, true, true, true, true, true, false, false, false, false, false, false, false, false, false, false, false, false] rfl rfl (any_of HT_.out (by kernel_rfl)) (fun _ _ _ h => h) (Or.inl ⟨by rfl, ?_⟩) ?_ ?_
    rotate_left
    · intro w'
      go_simp
      with_reducible rfl
    rotate_left
    · simp only [Act.put, List.setIfInBounds_toArray, List.set_cons_zero, List.set_cons_succ, i64_w, i32_w]
      rfl
    refine pure_ (i := 21) (N := some 111) (v := ?_) (a' := ?_) #[true, true, true, true, true, true, true, true, true, true, true, true, true, true, true, true, true, true, true, true, true, true, false, false, false, false, false, false, false, false, false, false, false] rfl rfl (any_of HT_.out (by kernel_rfl)) (fun _ _ _ h => h) (Or.inl ⟨by rfl, ?_⟩) ?_ ?_
    rotate_left
    · intro w'
      go_simp
      with_reducible rfl
    rotate_left
    · simp only [Act.put, List.setIfInBounds_toArray, List.set_cons_zero, List.set_cons_succ, i64_w, i32_w]
      rfl
    refine pure_ (i := 22) (N := some 112) (v := ?_) (a' := ?_) #[true, true, true, true, true, true, true, true, true, true, true, true, true, true, true, true, true, true, true, true, true, true, true, false, false, false, false, false, false, false, false, false, false] rfl rfl (any_of HT_.out (by kernel_rfl)) (fun _ _ _ h => h) (Or.inl ⟨by rfl, ?_⟩) ?_ ?_
    rotate_left
    · intro w'
      go_simp
      with_reducible rfl
    rotate_left
    · simp only [Act.put, List.setIfInBounds_toArray, List.set_cons_zero, List.set_cons_succ, i64_w, i32_w]
      rfl
    refine take_ (i := 23) (N := some 113) (v := ?_) (a' := ?_) #[true, true, true, true, true, true, true, true, true, true, true, true, true, true, true, true, true, true, true, true, true, true, true, true, false, false, false, false, false, false, false, false, false] rfl rfl (take_ofW HT_.out HW_.out (by kernel_rfl)) (fun _ _ _ h => h) (Or.inl ⟨by rfl, ?_⟩) hHeld ?_ ?_
    rotate_left
    · rintro w' ⟨s0, s1, s2, s3, s4, s5, s6, s7, s8⟩
      go_simp
      with_reducible rfl
    rotate_left
    · simp only [Act.put, List.setIfInBounds_toArray, List.set_cons_zero, List.set_cons_succ, i64_w, i32_w]
      rfl
    refine pure_ (i := 24) (N := some 114) (v := ?_) (a' := ?_) #[true, true, true, true, true, true, true, true, true, true, true, true, true, true, true, true, true, true, true, true, true, true, true, true, true, false, false, false, false, false, false, false, false] rfl rfl (any_of HT_.out (by kernel_rfl)) (fun _ _ _ h => h) (Or.inl ⟨by rfl, ?_⟩) ?_ ?_
    rotate_left
    · intro w'
      go_simp
      with_reducible rfl
    rotate_left
    · simp only [Act.put, List.setIfInBounds_toArray, List.set_cons_zero, List.set_cons_succ, i64_w, i32_w]
      rfl
    refine pure_ (i := 25) (N := some 115) (v := ?_) (a' := ?_) #[true, true, true, true, true, true, true, true, true, true, true, true, true, true, true, true, true, true, true, true, true, true, true, true, true, true, false, false, false, false, false, false, false] rfl rfl (any_of HT_.out (by kernel_rfl)) (fun _ _ _ h => h) (Or.inl ⟨by rfl, ?_⟩) ?_ ?_
    rotate_left
    · intro w'
      go_simp
      with_reducible rfl
    rotate_left
    · simp only [Act.put, List.setIfInBounds_toArray, List.set_cons_zero, List.set_cons_succ, i64_w, i32_w]
      rfl
    refine pure_ (i := 26) (N := some 116) (v := ?_) (a' := ?_) #[true, true, true, true, true, true, true, true, true, true, true, true, true, true, true, true, true, true, true, true, true, true, true, true, true, true, true, false, false, false, false, false, false] rfl rfl (any_of HT_.out (by kernel_rfl)) (fun _ _ _ h => h) (Or.inl ⟨by rfl, ?_⟩) ?_ ?_
    rotate_left
    · intro w'
      go_simp
      with_reducible rfl
    rotate_left
    · simp only [Act.put, List.setIfInBounds_toArray, List.set_cons_zero, List.set_cons_succ, i64_w, i32_w]
      rfl
    refine pure_ (i := 27) (N := some 117) (v := undef) (a' := ?_) #[true, true, true, true, true, true, true, true, true, true, true, true, true, true, true, true, true, true, true, true, true, true, true, true, true, true, true, true, false, false, false, false, false] rfl rfl (any_of HT_.out (by kernel_rfl)) (fun _ _ _ h => h) (Or.inr ⟨by rfl, rfl⟩) ?_ ?_
    rotate_left
    · simp only [Act.put, List.setIfInBounds_toArray, List.set_cons_zero, List.set_cons_succ, i64_w, i32_w]
      rfl
    refine pure_ (i := 28) (N := some 118) (v := undef) (a' := ?_) #[true, true, true, true, true, true, true, true, true, true, true, true, true, true, true, true, true, true, true, true, true, true, true, true, true, true, true, true, true, false, false, false, false] rfl rfl (any_of HT_.out (by kernel_rfl)) (fun _ _ _ h => h) (Or.inr ⟨by rfl, rfl⟩) ?_ ?_
    rotate_left
    · simp only [Act.put, List.setIfInBounds_toArray, List.set_cons_zero, List.set_cons_succ, i64_w, i32_w]
      rfl
    refine pure_ (i := 29) (N := some 119) (v := undef) (a' := ?_) #[true, true, true, true, true, true, true, true, true, true, true, true, true, true, true, true, true, true, true, true, true, true, true, true, true, true, true, true, true, true, false, false, false] rfl rfl (any_of HT_.out (by kernel_rfl)) (fun _ _ _ h => h) (Or.inr ⟨by rfl, rfl⟩) ?_ ?_
    rotate_left
    · simp only [Act.put, List.setIfInBounds_toArray, List.set_cons_zero, List.set_cons_succ, i64_w, i32_w]
      rfl
    refine pure_ (i := 30) (N := some 120) (v := ?_) (a' := ?_) #[true, true, true, true, true, true, true, true, true, true, true, true, true, true, true, true, true, true, true, true, true, true, true, true, true, true, true, true, true, true, true, false, false] rfl rfl (any_of HT_.out (by kernel_rfl)) (fun _ _ _ h => h) (Or.inl ⟨by rfl, ?_⟩) ?_ ?_
    rotate_left
    · intro w'
      go_simp
      with_reducible rfl
    rotate_left
    · simp only [Act.put, List.setIfInBounds_toArray, List.set_cons_zero, List.set_cons_succ, i64_w, i32_w]
      rfl
    refine pure_ (i := 31) (N := some 121) (v := ?_) (a' := ?_) #[true, true, true, true, true, true, true, true, true, true, true, true, true, true, true, true, true, true, true, true, true, true, true, true, true, true, true, true, true, true, true, true, false] rfl rfl (any_of HT_.out (by kernel_rfl)) (fun _ _ _ h => h) (Or.inl ⟨by rfl, ?_⟩) ?_ ?_
    rotate_left
    · intro w'
      go_simp
      with_reducible rfl
    rotate_left
    · simp only [Act.put, List.setIfInBounds_toArray, List.set_cons_zero, List.set_cons_succ, i64_w, i32_w]
      rfl
    refine pure_ (i := 32) (N := some 6) (v := ?_) (a' := ?_) #[true, true, true, true, true, true, true, true, true, true, true, true, true, true, true, true, true, true, true, true, true, true, true, true, true, true, true, true, true, true, true, true, true] rfl rfl (any_of HT_.out (by kernel_rfl)) (fun _ _ _ h => h) (Or.inl ⟨by rfl, ?_⟩) ?_ ?_
    rotate_left
    · intro w'
      go_simp
      with_reducible rfl
    rotate_left
    · simp only [Act.put, List.setIfInBounds_toArray, List.set_cons_zero, List.set_cons_succ, i64_w, i32_w]
      rfl
    refine done_ (done_of HT_.out (by kernel_rfl)) ?_
    try go_wp2
    go_ret
    exact ⟨by first | rfl | (simp [errW_none, errW_some] <;> rfl) | (simp [*, errW_none, errW_some] <;> rfl), by repeat (first | (with_reducible first | exact HB.out | apply below_alloc | apply pw_below_drewN | apply below_drew1 | refine below_set ?_ GE1.out | refine below_set ?_ GE2.out | refine below_set ?_ GE3.out | refine below_set ?_ GE4.out | refine below_set ?_ GE5.out | refine below_set ?_ GE6.out | refine below_set ?_ GE7.out) | exact HB.out)⟩
  ·
    have n0_ := Aside0.mk (blk_drew K1.out)
    have n1_ := Aside0.mk (blk_drew K2.out)
    have n2_ := Aside0.mk (blk_drew K3.out)
    have n3_ := Aside0.mk (blk_drew K4.out)
    have n4_ := Aside0.mk (blk_drew K5.out)
    have n5_ := Aside0.mk (blk_drew K6.out)
    have n6_ := Aside0.mk (blk_drew K7.out)
    have n7_ := Aside0.mk (below_drew1 HB.out)
    clear K1
    clear K2
    clear K3
    clear K4
    clear K5
    clear K6
    clear K7
    clear HB
    have K1 := n0_
    have K2 := n1_
    have K3 := n2_
    have K4 := n3_
    have K5 := n4_
    have K6 := n5_
    have K7 := n6_
    have HB := n7_
    clear n0_ n1_ n2_ n3_ n4_ n5_ n6_ n7_
    refine start_ (n := 33) (S := fun w' => w'.cell? ⟨b6, 0, none⟩ = some (.int .i64 s1) ∧ w'.cell? ⟨b6, 1, none⟩ = some (.int .i64 s2) ∧ w'.cell? ⟨b6, 2, none⟩ = some (.string s3) ∧ w'.cell? ⟨b1, 0, none⟩ = some (.int .i64 v0) ∧ w'.cell? ⟨b1, 1, none⟩ = some (.int .i64 v1) ∧ w'.cell? ⟨b1, 2, none⟩ = some (.string v2) ∧ w'.cell? ⟨b2, 0, none⟩ = some (.int .i64 u0) ∧ w'.cell? ⟨b2, 1, none⟩ = some (.int .i64 u1) ∧ w'.cell? ⟨b2, 2, none⟩ = some (.string u2) ∧ w'.cell? ⟨b7, 0, none⟩ = some (.int .i64 q1) ∧ w'.cell? ⟨b7, 1, none⟩ = some (.int .i64 q2) ∧ w'.cell? ⟨b7, 2, none⟩ = some (.string q3)) (ds := []) #[false, false, false, false, false, false, false, false, false, false, false, false, false, false, false, false, false, false, false, false, false, false, false, false, false, false, false, false, false, false, false, false, false] (by kernel_rfl) rfl rfl ⟨(blk_cell K6.out 0).trans rfl, (blk_cell K6.out 1).trans rfl, (blk_cell K6.out 2).trans rfl, (blk_cell K1.out 0).trans rfl, (blk_cell K1.out 1).trans rfl, (blk_cell K1.out 2).trans rfl, (blk_cell K2.out 0).trans rfl, (blk_cell K2.out 1).trans rfl, (blk_cell K2.out 2).trans rfl, (blk_cell K7.out 0).trans rfl, (blk_cell K7.out 1).trans rfl, (blk_cell K7.out 2).trans rfl⟩ (fun hHeld => ?_); refine with_tabW boscagelaw02_LogicTwice.tab15 boscagelaw02_LogicTwice.bits15 (fun HT_ HW_ => ?_)
    generalize W7.drew = w183 at K1 K2 K3 K4 K5 K6 K7 HB hHeld ⊢
    refine pure_ (i := 0) (N := some 90) (v := ?_) (a' := ?_) #[true, false, false, false, false, false, false, false, false, false, false, false, false, false, false, false, false, false, false, false, false, false, false, false, false, false, false, false, false, false, false, false, false] rfl rfl (any_of HT_.out (by kernel_rfl)) (fun _ _ _ h => h) (Or.inl ⟨by rfl, ?_⟩) ?_ ?_
    rotate_left
    · intro w'
      go_simp
      with_reducible rfl
    rotate_left
    · simp only [Act.put, List.setIfInBounds_toArray, List.set_cons_zero, List.set_cons_succ, i64_w, i32_w]
      rfl
    refine pure_ (i := 1) (N := some 91) (v := ?_) (a' := ?_) #[true, true, false, false, false, false, false, false, false, false, false, false, false, false, false, false, false, false, false, false, false, false, false, false, false, false, false, false, false, false, false, false, false] rfl rfl (any_of HT_.out (by kernel_rfl)) (fun _ _ _ h => h) (Or.inl ⟨by rfl, ?_⟩) ?_ ?_
    rotate_left
    · intro w'
      go_simp
      with_reducible rfl
    rotate_left
    · simp only [Act.put, List.setIfInBounds_toArray, List.set_cons_zero, List.set_cons_succ, i64_w, i32_w]
      rfl
    refine pure_ (i := 2) (N := some 92) (v := ?_) (a' := ?_) #[true, true, true, false, false, false, false, false, false, false, false, false, false, false, false, false, false, false, false, false, false, false, false, false, false, false, false, false, false, false, false, false, false] rfl rfl (any_of HT_.out (by kernel_rfl)) (fun _ _ _ h => h) (Or.inl ⟨by rfl, ?_⟩) ?_ ?_
    rotate_left
    · intro w'
      go_simp
      with_reducible rfl
    rotate_left
    · simp only [Act.put, List.setIfInBounds_toArray, List.set_cons_zero, List.set_cons_succ, i64_w, i32_w]
      rfl
    refine pure_ (i := 3) (N := some 93) (v := ?_) (a' := ?_) #[true, true, true, true, false, false, false, false, false, false, false, false, false, false, false, false, false, false, false, false, false, false, false, false, false, false, false, false, false, false, false, false, false] rfl rfl (any_of HT_.out (by kernel_rfl)) (fun _ _ _ h => h) (Or.inl ⟨by rfl, ?_⟩) ?_ ?_
    rotate_left
    · intro w'
      go_simp
      with_reducible rfl
    rotate_left
    · simp only [Act.put, List.setIfInBounds_toArray, List.set_cons_zero, List.set_cons_succ, i64_w, i32_w]
      rfl
    refine pure_ (i := 4) (N := some 94) (v := ?_) (a' := ?_) #[true, true, true, true, true, false, false, false, false, false, false, false, false, false, false, false, false, false, false, false, false, false, false, false, false, false, false, false, false, false, false, false, false] rfl rfl (any_of HT_.out (by kernel_rfl)) (fun _ _ _ h => h) (Or.inl ⟨by rfl, ?_⟩) ?_ ?_
    rotate_left
    · intro w'
      go_simp
      with_reducible rfl
    rotate_left
    · simp only [Act.put, List.setIfInBounds_toArray, List.set_cons_zero, List.set_cons_succ, i64_w, i32_w]
      rfl
    refine take_ (i := 5) (N := some 95) (v := ?_) (a' := ?_) #[true, true, true, true, true, true, false, false, false, false, false, false, false, false, false, false, false, false, false, false, false, false, false, false, false, false, false, false, false, false, false, false, false] rfl rfl (take_ofW HT_.out HW_.out (by kernel_rfl)) (fun _ _ _ h => h) (Or.inl ⟨by rfl, ?_⟩) hHeld ?_ ?_
    rotate_left
    · rintro w' ⟨s0, s1, s2, s3, s4, s5, s6, s7, s8, s9, s10, s11⟩
      go_simp
      with_reducible rfl
    rotate_left
    · simp only [Act.put, List.setIfInBounds_toArray, List.set_cons_zero, List.set_cons_succ, i64_w, i32_w]
      rfl
    refine take_ (i := 7) (N := some 97) (v := ?_) (a' := ?_) #[true, true, true, true, true, true, false, true, false, false, false, false, false, false, false, false, false, false, false, false, false, false, false, false, false, false, false, false, false, false, false, false, false] rfl rfl (take_ofW HT_.out HW_.out (by kernel_rfl)) (fun _ _ _ h => h) (Or.inl ⟨by rfl, ?_⟩) hHeld ?_ ?_
    rotate_left
    · rintro w' ⟨s0, s1, s2, s3, s4, s5, s6, s7, s8, s9, s10, s11⟩
      go_simp
      with_reducible rfl
    rotate_left
    · simp only [Act.put, List.setIfInBounds_toArray, List.set_cons_zero, List.set_cons_succ, i64_w, i32_w]
      rfl
    refine take_ (i := 8) (N := some 98) (v := ?_) (a' := ?_) #[true, true, true, true, true, true, false, true, true, false, false, false, false, false, false, false, false, false, false, false, false, false, false, false, false, false, false, false, false, false, false, false, false] rfl rfl (take_ofW HT_.out HW_.out (by kernel_rfl)) (fun _ _ _ h => h) (Or.inl ⟨by rfl, ?_⟩) hHeld ?_ ?_
    rotate_left
    · rintro w' ⟨s0, s1, s2, s3, s4, s5, s6, s7, s8, s9, s10, s11⟩
      go_simp
      with_reducible rfl
    rotate_left
    · simp only [Act.put, List.setIfInBounds_toArray, List.set_cons_zero, List.set_cons_succ, i64_w, i32_w]
      rfl
    refine pure_ (i := 9) (N := some 99) (v := ?_) (a' := ?_) #[true, true, true, true, true, true, false, true, true, true, false, false, false, false, false, false, false, false, false, false, false, false, false, false, false, false, false, false, false, false, false, false, false] rfl rfl (any_of HT_.out (by kernel_rfl)) (fun _ _ _ h => h) (Or.inl ⟨by rfl, ?_⟩) ?_ ?_
    rotate_left
    · intro w'
      go_simp
      with_reducible rfl
    rotate_left
    · simp only [Act.put, List.setIfInBounds_toArray, List.set_cons_zero, List.set_cons_succ, i64_w, i32_w]
      rfl
    refine one_ (i := 6) (N := some 96) #[true, true, true, true, true, true, true, true, true, true, false, false, false, false, false, false, false, false, false, false, false, false, false, false, false, false, false, false, false, false, false, false, false] rfl rfl (one_of HT_.out (by kernel_rfl)) (by decide) (fun K hK => ?_)
    refine goes_ Try.func17 (by kernel_rfl) rfl #[.agg #[.int .i64 s1, .int .i64 s2, .string s3]] (by rfl) rfl rfl (by (try simp only [List.map_toArray, List.map_cons, List.map_nil]); first | done | rfl | (simp only [List.length_drop, List.length_take]; rfl)) ?_
    with_reducible refine (logic_Holds.calls s1 s2 s3 hd _ HH.out).mono ?_
    rintro e w184 ⟨rfl, hb⟩
    refine ⟨_, rfl, ?_⟩
    have n0_ := Aside0.mk (blk_below (g := b1) (o := .cells #[.int .i64 v0, .int .i64 v1, .string v2] 23 (0, 0)) (by (with_reducible repeat (first | refine blk_drewN ?_ _ | refine blk_drew ?_ | refine blk_alloc ?_ _)); exact K1.out) hb)
    have n1_ := Aside0.mk (blk_below (g := b2) (o := .cells #[.int .i64 u0, .int .i64 u1, .string u2] 23 (0, 0)) (by (with_reducible repeat (first | refine blk_drewN ?_ _ | refine blk_drew ?_ | refine blk_alloc ?_ _)); exact K2.out) hb)
    have n2_ := Aside0.mk (blk_below (g := b3) (o := .cells #[.int .i64 n1, .int .i64 n2, .string n3] 23 (0, 0)) (by (with_reducible repeat (first | refine blk_drewN ?_ _ | refine blk_drew ?_ | refine blk_alloc ?_ _)); exact K3.out) hb)
    have n3_ := Aside0.mk (blk_below (g := b4) (o := .cells #[.int .i64 m1, .int .i64 m2, .string m3] 23 (0, 0)) (by (with_reducible repeat (first | refine blk_drewN ?_ _ | refine blk_drew ?_ | refine blk_alloc ?_ _)); exact K4.out) hb)
    have n4_ := Aside0.mk (blk_below (g := b5) (o := .cells #[.int .i64 x1, .int .i64 x2, .string x3] 23 (0, 0)) (by (with_reducible repeat (first | refine blk_drewN ?_ _ | refine blk_drew ?_ | refine blk_alloc ?_ _)); exact K5.out) hb)
    have n5_ := Aside0.mk (blk_below (g := b6) (o := .cells #[.int .i64 s1, .int .i64 s2, .string s3] 23 (0, 0)) (by (with_reducible repeat (first | refine blk_drewN ?_ _ | refine blk_drew ?_ | refine blk_alloc ?_ _)); exact K6.out) hb)
    have n6_ := Aside0.mk (blk_below (g := b7) (o := .cells #[.int .i64 q1, .int .i64 q2, .string q3] 23 (0, 0)) (by (with_reducible repeat (first | refine blk_drewN ?_ _ | refine blk_drew ?_ | refine blk_alloc ?_ _)); exact K7.out) hb)
    have n7_ := Aside0.mk (below_step (by repeat (first | (with_reducible first | exact HB.out | apply below_alloc | apply pw_below_drewN | apply below_drew1 | refine below_set ?_ GE1.out | refine below_set ?_ GE2.out | refine below_set ?_ GE3.out | refine below_set ?_ GE4.out | refine below_set ?_ GE5.out | refine below_set ?_ GE6.out | refine below_set ?_ GE7.out) | exact HB.out)) hb)
    clear K1
    clear K2
    clear K3
    clear K4
    clear K5
    clear K6
    clear K7
    clear HB
    have K1 := n0_
    have K2 := n1_
    have K3 := n2_
    have K4 := n3_
    have K5 := n4_
    have K6 := n5_
    have K7 := n6_
    have HB := n7_
    clear n0_ n1_ n2_ n3_ n4_ n5_ n6_ n7_
    (try clear hb)
    (try clear hb2)
    (try clear hk)
    (try clear hi)
    refine hK.out _ _ ⟨(blk_cell K6.out 0).trans rfl, (blk_cell K6.out 1).trans rfl, (blk_cell K6.out 2).trans rfl, (blk_cell K1.out 0).trans rfl, (blk_cell K1.out 1).trans rfl, (blk_cell K1.out 2).trans rfl, (blk_cell K2.out 0).trans rfl, (blk_cell K2.out 1).trans rfl, (blk_cell K2.out 2).trans rfl, (blk_cell K7.out 0).trans rfl, (blk_cell K7.out 1).trans rfl, (blk_cell K7.out 2).trans rfl⟩ (fun hHeld => ?_)
    clear hK K
    refine norm_ (a' := ?_) ?_ ?_
    rotate_left
    · show Act.put _ (some 96) _ = _
      simp only [Act.put, List.setIfInBounds_toArray, List.set_cons_zero, List.set_cons_succ, i64_w, i32_w]
      rfl
    refine pure_ (i := 10) (N := some 100) (v := ?_) (a' := ?_) #[true, true, true, true, true, true, true, true, true, true, true, false, false, false, false, false, false, false, false, false, false, false, false, false, false, false, false, false, false, false, false, false, false] rfl rfl (any_of HT_.out (by kernel_rfl)) (fun _ _ _ h => h) (Or.inl ⟨by rfl, ?_⟩) ?_ ?_
    rotate_left
    · intro w'
      go_simp
      with_reducible rfl
    rotate_left
    · simp only [Act.put, List.setIfInBounds_toArray, List.set_cons_zero, List.set_cons_succ, i64_w, i32_w]
      rfl
    refine pure_ (i := 11) (N := some 101) (v := ?_) (a' := ?_) #[true, true, true, true, true, true, true, true, true, true, true, true, false, false, false, false, false, false, false, false, false, false, false, false, false, false, false, false, false, false, false, false, false] rfl rfl (any_of HT_.out (by kernel_rfl)) (fun _ _ _ h => h) (Or.inl ⟨by rfl, ?_⟩) ?_ ?_
    rotate_left
    · intro w'
      go_simp
      with_reducible rfl
    rotate_left
    · simp only [Act.put, List.setIfInBounds_toArray, List.set_cons_zero, List.set_cons_succ, i64_w, i32_w]
      rfl
    refine pure_ (i := 12) (N := some 102) (v := ?_) (a' := ?_) #[true, true, true, true, true, true, true, true, true, true, true, true, true, false, false, false, false, false, false, false, false, false, false, false, false, false, false, false, false, false, false, false, false] rfl rfl (any_of HT_.out (by kernel_rfl)) (fun _ _ _ h => h) (Or.inl ⟨by rfl, ?_⟩) ?_ ?_
    rotate_left
    · intro w'
      go_simp
      with_reducible rfl
    rotate_left
    · simp only [Act.put, List.setIfInBounds_toArray, List.set_cons_zero, List.set_cons_succ, i64_w, i32_w]
      rfl
    refine pure_ (i := 13) (N := some 103) (v := ?_) (a' := ?_) #[true, true, true, true, true, true, true, true, true, true, true, true, true, true, false, false, false, false, false, false, false, false, false, false, false, false, false, false, false, false, false, false, false] rfl rfl (any_of HT_.out (by kernel_rfl)) (fun _ _ _ h => h) (Or.inl ⟨by rfl, ?_⟩) ?_ ?_
    rotate_left
    · intro w'
      go_simp
      with_reducible rfl
    rotate_left
    · simp only [Act.put, List.setIfInBounds_toArray, List.set_cons_zero, List.set_cons_succ, i64_w, i32_w]
      rfl
    refine pure_ (i := 14) (N := some 104) (v := ?_) (a' := ?_) #[true, true, true, true, true, true, true, true, true, true, true, true, true, true, true, false, false, false, false, false, false, false, false, false, false, false, false, false, false, false, false, false, false] rfl rfl (any_of HT_.out (by kernel_rfl)) (fun _ _ _ h => h) (Or.inl ⟨by rfl, ?_⟩) ?_ ?_
    rotate_left
    · intro w'
      go_simp
      with_reducible rfl
    rotate_left
    · simp only [Act.put, List.setIfInBounds_toArray, List.set_cons_zero, List.set_cons_succ, i64_w, i32_w]
      rfl
    refine pure_ (i := 15) (N := some 105) (v := ?_) (a' := ?_) #[true, true, true, true, true, true, true, true, true, true, true, true, true, true, true, true, false, false, false, false, false, false, false, false, false, false, false, false, false, false, false, false, false] rfl rfl (any_of HT_.out (by kernel_rfl)) (fun _ _ _ h => h) (Or.inl ⟨by rfl, ?_⟩) ?_ ?_
    rotate_left
    · intro w'
      go_simp
      with_reducible rfl
    rotate_left
    · simp only [Act.put, List.setIfInBounds_toArray, List.set_cons_zero, List.set_cons_succ, i64_w, i32_w]
      rfl
    refine pure_ (i := 16) (N := some 106) (v := ?_) (a' := ?_) #[true, true, true, true, true, true, true, true, true, true, true, true, true, true, true, true, true, false, false, false, false, false, false, false, false, false, false, false, false, false, false, false, false] rfl rfl (any_of HT_.out (by kernel_rfl)) (fun _ _ _ h => h) (Or.inl ⟨by rfl, ?_⟩) ?_ ?_
    rotate_left
    · intro w'
      go_simp
      with_reducible rfl
    rotate_left
    · simp only [Act.put, List.setIfInBounds_toArray, List.set_cons_zero, List.set_cons_succ, i64_w, i32_w]
      rfl
    refine pure_ (i := 17) (N := some 107) (v := ?_) (a' := ?_) #[true, true, true, true, true, true, true, true, true, true, true, true, true, true, true, true, true, true, false, false, false, false, false, false, false, false, false, false, false, false, false, false, false] rfl rfl (any_of HT_.out (by kernel_rfl)) (fun _ _ _ h => h) (Or.inl ⟨by rfl, ?_⟩) ?_ ?_
    rotate_left
    · intro w'
      go_simp
      with_reducible rfl
    rotate_left
    · simp only [Act.put, List.setIfInBounds_toArray, List.set_cons_zero, List.set_cons_succ, i64_w, i32_w]
      rfl
    refine take_ (i := 18) (N := some 108) (v := ?_) (a' := ?_) #[true, true, true, true, true, true, true, true, true, true, true, true, true, true, true, true, true, true, true, false, false, false, false, false, false, false, false, false, false, false, false, false, false] rfl rfl (take_ofW HT_.out HW_.out (by kernel_rfl)) (fun _ _ _ h => h) (Or.inl ⟨by rfl, ?_⟩) hHeld ?_ ?_
    rotate_left
    · rintro w' ⟨s0, s1, s2, s3, s4, s5, s6, s7, s8, s9, s10, s11⟩
      go_simp
      with_reducible rfl
    rotate_left
    · simp only [Act.put, List.setIfInBounds_toArray, List.set_cons_zero, List.set_cons_succ, i64_w, i32_w]
      rfl
    refine pure_ (i := 19) (N := some 109) (v := ?_) (a' := ?_) #[true, true, true, true, true, true, true, true, true, true, true, true, true, true, true, true, true, true, true, true, false, false, false, false, false, false, false, false, false, false, false, false, false] rfl rfl (any_of HT_.out (by kernel_rfl)) (fun _ _ _ h => h) (Or.inl ⟨by rfl, ?_⟩) ?_ ?_
    rotate_left
    · intro w'
      go_simp
      with_reducible rfl
    rotate_left
    · simp only [Act.put, List.setIfInBounds_toArray, List.set_cons_zero, List.set_cons_succ, i64_w, i32_w]
      rfl
    refine pure_ (i := 20) (N := some 110) (v := ?_) (a' := ?_) #[true, true, true, true, true, true, true, true, true, true, true, true, true, true, true, true, true, true, true, true, true, false, false, false, false, false, false, false, false, false, false, false, false] rfl rfl (any_of HT_.out (by kernel_rfl)) (fun _ _ _ h => h) (Or.inl ⟨by rfl, ?_⟩) ?_ ?_
    rotate_left
    · intro w'
      go_simp
      with_reducible rfl
    rotate_left
    · simp only [Act.put, List.setIfInBounds_toArray, List.set_cons_zero, List.set_cons_succ, i64_w, i32_w]
      rfl
    refine pure_ (i := 21) (N := some 111) (v := ?_) (a' := ?_) #[true, true, true, true, true, true, true, true, true, true, true, true, true, true, true, true, true, true, true, true, true, true, false, false, false, false, false, false, false, false, false, false, false] rfl rfl (any_of HT_.out (by kernel_rfl)) (fun _ _ _ h => h) (Or.inl ⟨by rfl, ?_⟩) ?_ ?_
    rotate_left
    · intro w'
      go_simp
      with_reducible rfl
    rotate_left
    · simp only [Act.put, List.setIfInBounds_toArray, List.set_cons_zero, List.set_cons_succ, i64_w, i32_w]
      rfl
    refine pure_ (i := 22) (N := some 112) (v := ?_) (a' := ?_) #[true, true, true, true, true, true, true, true, true, true, true, true, true, true, true, true, true, true, true, true, true, true, true, false, false, false, false, false, false, false, false, false, false] rfl rfl (any_of HT_.out (by kernel_rfl)) (fun _ _ _ h => h) (Or.inl ⟨by rfl, ?_⟩) ?_ ?_
    rotate_left
    · intro w'
      go_simp
      with_reducible rfl
    rotate_left
    · simp only [Act.put, List.setIfInBounds_toArray, List.set_cons_zero, List.set_cons_succ, i64_w, i32_w]
      rfl
    refine take_ (i := 23) (N := some 113) (v := ?_) (a' := ?_) #[true, true, true, true, true, true, true, true, true, true, true, true, true, true, true, true, true, true, true, true, true, true, true, true, false, false, false, false, false, false, false, false, false] rfl rfl (take_ofW HT_.out HW_.out (by kernel_rfl)) (fun _ _ _ h => h) (Or.inl ⟨by rfl, ?_⟩) hHeld ?_ ?_
    rotate_left
    · rintro w' ⟨s0, s1, s2, s3, s4, s5, s6, s7, s8, s9, s10, s11⟩
      go_simp
      with_reducible rfl
    rotate_left
    · simp only [Act.put, List.setIfInBounds_toArray, List.set_cons_zero, List.set_cons_succ, i64_w, i32_w]
      rfl
    refine pure_ (i := 24) (N := some 114) (v := ?_) (a' := ?_) #[true, true, true, true, true, true, true, true, true, true, true, true, true, true, true, true, true, true, true, true, true, true, true, true, true, false, false, false, false, false, false, false, false] rfl rfl (any_of HT_.out (by kernel_rfl)) (fun _ _ _ h => h) (Or.inl ⟨by rfl, ?_⟩) ?_ ?_
    rotate_left
    · intro w'
      go_simp
      with_reducible rfl
    rotate_left
    · simp only [Act.put, List.setIfInBounds_toArray, List.set_cons_zero, List.set_cons_succ, i64_w, i32_w]
      rfl
    refine pure_ (i := 25) (N := some 115) (v := ?_) (a' := ?_) #[true, true, true, true, true, true, true, true, true, true, true, true, true, true, true, true, true, true, true, true, true, true, true, true, true, true, false, false, false, false, false, false, false] rfl rfl (any_of HT_.out (by kernel_rfl)) (fun _ _ _ h => h) (Or.inl ⟨by rfl, ?_⟩) ?_ ?_
    rotate_left
    · intro w'
      go_simp
      with_reducible rfl
    rotate_left
    · simp only [Act.put, List.setIfInBounds_toArray, List.set_cons_zero, List.set_cons_succ, i64_w, i32_w]
      rfl
    refine pure_ (i := 26) (N := some 116) (v := ?_) (a' := ?_) #[true, true, true, true, true, true, true, true, true, true, true, true, true, true, true, true, true, true, true, true, true, true, true, true, true, true, true, false, false, false, false, false, false] rfl rfl (any_of HT_.out (by kernel_rfl)) (fun _ _ _ h => h) (Or.inl ⟨by rfl, ?_⟩) ?_ ?_
    rotate_left
    · intro w'
      go_simp
      with_reducible rfl
    rotate_left
    · simp only [Act.put, List.setIfInBounds_toArray, List.set_cons_zero, List.set_cons_succ, i64_w, i32_w]
      rfl
    refine take_ (i := 27) (N := some 117) (v := ?_) (a' := ?_) #[true, true, true, true, true, true, true, true, true, true, true, true, true, true, true, true, true, true, true, true, true, true, true, true, true, true, true, true, false, false, false, false, false] rfl rfl (take_ofW HT_.out HW_.out (by kernel_rfl)) (fun _ _ _ h => h) (Or.inl ⟨by rfl, ?_⟩) hHeld ?_ ?_
    rotate_left
    · rintro w' ⟨s0, s1, s2, s3, s4, s5, s6, s7, s8, s9, s10, s11⟩
      go_simp
      with_reducible rfl
    rotate_left
    · simp only [Act.put, List.setIfInBounds_toArray, List.set_cons_zero, List.set_cons_succ, i64_w, i32_w]
      rfl
    refine take_ (i := 28) (N := some 118) (v := ?_) (a' := ?_) #[true, true, true, true, true, true, true, true, true, true, true, true, true, true, true, true, true, true, true, true, true, true, true, true, true, true, true, true, true, false, false, false, false] rfl rfl (take_ofW HT_.out HW_.out (by kernel_rfl)) (fun _ _ _ h => h) (Or.inl ⟨by rfl, ?_⟩) hHeld ?_ ?_
    rotate_left
    · rintro w' ⟨s0, s1, s2, s3, s4, s5, s6, s7, s8, s9, s10, s11⟩
      go_simp
      with_reducible rfl
    rotate_left
    · simp only [Act.put, List.setIfInBounds_toArray, List.set_cons_zero, List.set_cons_succ, i64_w, i32_w]
      rfl
    refine pure_ (i := 29) (N := some 119) (v := ?_) (a' := ?_) #[true, true, true, true, true, true, true, true, true, true, true, true, true, true, true, true, true, true, true, true, true, true, true, true, true, true, true, true, true, true, false, false, false] rfl rfl (any_of HT_.out (by kernel_rfl)) (fun _ _ _ h => h) (Or.inl ⟨by rfl, ?_⟩) ?_ ?_
    rotate_left
    · intro w'
      go_simp
      with_reducible rfl
    rotate_left
    · simp only [Act.put, List.setIfInBounds_toArray, List.set_cons_zero, List.set_cons_succ, i64_w, i32_w]
      rfl
    refine pure_ (i := 30) (N := some 120) (v := ?_) (a' := ?_) #[true, true, true, true, true, true, true, true, true, true, true, true, true, true, true, true, true, true, true, true, true, true, true, true, true, true, true, true, true, true, true, false, false] rfl rfl (any_of HT_.out (by kernel_rfl)) (fun _ _ _ h => h) (Or.inl ⟨by rfl, ?_⟩) ?_ ?_
    rotate_left
    · intro w'
      go_simp
      with_reducible rfl
    rotate_left
    · simp only [Act.put, List.setIfInBounds_toArray, List.set_cons_zero, List.set_cons_succ, i64_w, i32_w]
      rfl
    refine pure_ (i := 31) (N := some 121) (v := ?_) (a' := ?_) #[true, true, true, true, true, true, true, true, true, true, true, true, true, true, true, true, true, true, true, true, true, true, true, true, true, true, true, true, true, true, true, true, false] rfl rfl (any_of HT_.out (by kernel_rfl)) (fun _ _ _ h => h) (Or.inl ⟨by rfl, ?_⟩) ?_ ?_
    rotate_left
    · intro w'
      go_simp
      with_reducible rfl
    rotate_left
    · simp only [Act.put, List.setIfInBounds_toArray, List.set_cons_zero, List.set_cons_succ, i64_w, i32_w]
      rfl
    refine pure_ (i := 32) (N := some 6) (v := ?_) (a' := ?_) #[true, true, true, true, true, true, true, true, true, true, true, true, true, true, true, true, true, true, true, true, true, true, true, true, true, true, true, true, true, true, true, true, true] rfl rfl (any_of HT_.out (by kernel_rfl)) (fun _ _ _ h => h) (Or.inl ⟨by rfl, ?_⟩) ?_ ?_
    rotate_left
    · intro w'
      go_simp
      with_reducible rfl
    rotate_left
    · simp only [Act.put, List.setIfInBounds_toArray, List.set_cons_zero, List.set_cons_succ, i64_w, i32_w]
      rfl
    refine done_ (done_of HT_.out (by kernel_rfl)) ?_
    try go_wp2
    go_ret
    exact ⟨by first | rfl | (simp [errW_none, errW_some] <;> rfl) | (simp [*, errW_none, errW_some] <;> rfl), by repeat (first | (with_reducible first | exact HB.out | apply below_alloc | apply pw_below_drewN | apply below_drew1 | refine below_set ?_ GE1.out | refine below_set ?_ GE2.out | refine below_set ?_ GE3.out | refine below_set ?_ GE4.out | refine below_set ?_ GE5.out | refine below_set ?_ GE6.out | refine below_set ?_ GE7.out) | exact HB.out)⟩
/-- what the law's calls come to at so many rounds, and what the law asks of it -/
def Twice.Facts (k : Nat) (v0 v1 : Int) (v2 : ByteArray) (u0 u1 : Int) (u2 : ByteArray) (op : ByteArray) : Prop :=
  ∃ cv cu : Int, boscageref01_Check.f k v0 v1 v2 = some cv ∧ boscageref01_Check.f k u0 u1 u2 = some cu ∧
  ∃ (n1 n2 : Int) (n3 : ByteArray) (ne : Int), logic_Not.f k v0 v1 v2 = some (n1, n2, n3, ne) ∧
  ∃ (m1 m2 : Int) (m3 : ByteArray) (me : Int), logic_Not.f k n1 n2 n3 = some (m1, m2, m3, me) ∧
  ∃ (x1 x2 : Int) (x3 : ByteArray) (xe : Int), logic_Rel.f k op v0 v1 v2 0 0 ⟨#[]⟩ = some (x1, x2, x3, xe) ∧
  ∃ (s1 s2 : Int) (s3 : ByteArray) (se : Int), logic_Is.f k v0 v1 v2 u0 u1 u2 = some (s1, s2, s3, se) ∧
  ∃ (q1 q2 : Int) (q3 : ByteArray) (qe : Int), logic_Rel.f k ⟨#[61]⟩ v0 v1 v2 u0 u1 u2 = some (q1, q2, q3, qe) ∧
  ∃ hd : Bool, logic_Holds.f s1 s2 s3 = some hd ∧
    ((ne == 0) = false ∨ ((ne == 0) = true ∧ (me != 0) = false ∧ (m1 == v0) = true ∧ (m2 == v1) = true ∧ (m3.toList == v2.toList) = true)) ∧
    ((xe == 0) = false ∨ ((xe == 0) = true ∧ (x1 == 0) = true ∧ (x2 == 0) = true ∧ x3.toList = [])) ∧
    (se != qe) = false ∧
    (((se != 0) = true ∧ (qe != 0) = true) ∨ ((se != 0) = false ∧ (qe != 0) = false ∧ (hd == (v0 == u0 && (v1 == u1 && (v2.toList == u2.toList)))) = true ∧ ((v0 == 0) = true ∨ ((v0 == 0) = false ∧ (u0 == 0) = true) ∨ ((v0 == 0) = false ∧ (u0 == 0) = false ∧ (q1 == s1) = true ∧ (q2 == s2) = true ∧ (q3.toList == s3.toList) = true))))
theorem boscagelaw02_LogicTwice.calls (k : Nat) (v0 v1 : Int) (v2 : ByteArray) (u0 u1 : Int) (u2 : ByteArray) (op : ByteArray) (r : Bool) (w : World) (h : Twice.Facts k v0 v1 v2 u0 u1 u2 op) (hr : r = true) :
    Calls Try.prog 7 #[.agg #[.int .i64 v0, .int .i64 v1, .string v2], .agg #[.int .i64 u0, .int .i64 u1, .string u2], .string op] w fun e w' => e = .returned (.bool r) ∧ Below w.heap.size w w' := by
  subst hr
  obtain ⟨cv, cu, hcv, hcu, n1, n2, n3, ne, hn, m1, m2, m3, me, hm, x1, x2, x3, xe, hx, s1, s2, s3, se, hs, q1, q2, q3, qe, hq, hd, hh, HA, HX2, HC, HD⟩ := h
  exact twice_walk k v0 v1 v2 u0 u1 u2 op w cv cu hcv hcu n1 n2 n3 ne hn m1 m2 m3 me hm x1 x2 x3 xe hx s1 s2 s3 se hs q1 q2 q3 qe hq hd hh ⟨HA⟩ ⟨HX2⟩ ⟨HC⟩ ⟨HD⟩
end Go.Proofs.Ytfibdjgfdgbniaa.QLO
