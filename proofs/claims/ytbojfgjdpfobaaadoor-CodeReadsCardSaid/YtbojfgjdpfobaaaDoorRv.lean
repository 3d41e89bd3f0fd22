/- The reader of layer 5: a value, a row, a key. -/
import Derived.Test.YtbojfgjdpfobaaaDoorRd
set_option linter.unusedVariables false
set_option linter.unusedSimpArgs false
namespace Go.Proofs.YtbojfgjdpfobaaaDoor.Rd
open Go.RowKit Go.Proofs.YtbojfgjdpfobaaaDoorW.PrintWords Go.Proofs.YtbojfgjdpfobaaaDoorW.PrintLast Go.Proofs.YtbojfgjdpfobaaaDoorW.PrintMore
def valueS (xs : List Int) (turned : Int) (tx : Nat × Bool → List Int × (Nat × Bool)) (s : Nat × Bool) : (Int × Int × List Int) × (Nat × Bool) :=
  if (byteS xs 4 s).1 = 1 then ((1, (byteS xs 1 (byteS xs 4 s).2).1, []), (byteS xs 1 (byteS xs 4 s).2).2)
  else if (byteS xs 4 s).1 = 2 then ((2, wrap64 (Go.bits .xor .u64 (numS (takeS xs 8 (byteS xs 4 s).2).1) turned), []), (takeS xs 8 (byteS xs 4 s).2).2)
  else if (byteS xs 4 s).1 = 3 ∨ (byteS xs 4 s).1 = 4 then (((byteS xs 4 s).1, 0, (tx (byteS xs 4 s).2).1), (tx (byteS xs 4 s).2).2)
  else (((byteS xs 4 s).1, 0, []), (byteS xs 4 s).2)
theorem Kp.far {B g : Nat} {w w1 : World} (h : Kp B g w w1) (hB : B ≤ w.heap.size) {b : Nat} (hb : w.heap.size ≤ b) (j : Nat) (u : Value) : Kp B g w (w1.setCell ⟨b, j, none⟩ u) := ⟨keep_far h.kb hb u, h.bl.setCell (Nat.le_trans hB hb) _⟩
theorem results_c1 {P : Program} {fn : Func} {p : Tmp} {ty : TypeId} (h : fn.results = #[.cell p ty]) (tmps : Array Value) (w : World) (g : Nat) (t : TypeId) (cs : Array Value) (fr : Nat × Nat) (d : TypeDesc)
    (hp : tmps.getD p undef = .pointer (some ⟨g, 0, none⟩)) (hg : w.heap[g]? = some (.cells cs t fr))
    (hu : P.underlying ty = some d) (hd : (match d with | .struct _ | .array _ _ => true | _ => false) = true) (hi : (P.info? ty).map (·.size) = some cs.size) :
    (results fn tmps).run P w = .ok (.agg cs) w := by
  have hp' : tmps[p]?.getD undef = .pointer (some ⟨g, 0, none⟩) := by simpa using hp
  simp [results, h, hp', asAddr, run_loadVar_row w g t ty cs fr d hg hu hd hi]
theorem at_new (W : World) (o : Obj) (b : Nat) (hb : b = W.heap.size) : (W.alloc o).heap[b]? = some o := by subst hb; exact blk_new W o
/-- what the text's reader does -/
def Tx (F : Nat) (B g : Nat) (A : Option Addr) (c : Nat) (xs : List Int) (tx : Nat × Bool → List Int × (Nat × Bool)) : Prop :=
  ∀ (s : Nat × Bool) (W : World), s.1 ≤ xs.length → Rdr W g A xs.length c s → Bs W A xs.length xs → B ≤ W.heap.size →
    Calls Tryd.prog F #[.pointer (some ⟨g, 0, none⟩)] W fun e w' => e = .returned (.string (strOfNums (tx s).1)) ∧ Rdr w' g A xs.length c (tx s).2 ∧ Kp B g W w'
theorem tx_counted {B g : Nat} {A : Option Addr} {c : Nat} {xs : List Int} (S : Src B g A c xs) : Tx 34 B g A c xs (countedS xs) := fun s W hs R X _ => counted B g A c xs s W S R hs X
theorem tx_ended {B g : Nat} {A : Option Addr} {c : Nat} {xs : List Int} (S : Src B g A c xs) : Tx 36 B g A c xs (endedS (xs.length + 2) xs []) := fun s W hs R X hB => ended B g A c xs s W S R hs X hB
/-- a value's block -/
abbrev Vb (W : World) (b : Nat) (k i : Int) (t : ByteArray) : Prop := W.heap[b]? = some (.cells #[.int .i64 k, .int .i64 i, .string t] 43 (0, 0))
theorem Vb.cells {W : World} {b : Nat} {k i : Int} {t : ByteArray} (h : Vb W b k i t) :
    W.cell? ⟨b, 0, none⟩ = some (.int .i64 k) ∧ W.cell? ⟨b, 1, none⟩ = some (.int .i64 i) ∧ W.cell? ⟨b, 2, none⟩ = some (.string t) ∧
    W.frozen? ⟨b, 0, none⟩ = false ∧ W.frozen? ⟨b, 1, none⟩ = false ∧ W.frozen? ⟨b, 2, none⟩ = false :=
  ⟨(blk_cell h 0).trans rfl, (blk_cell h 1).trans rfl, (blk_cell h 2).trans rfl, blk_frozen h 0, blk_frozen h 1, blk_frozen h 2⟩
theorem Vb.kp {W W' : World} {b B g : Nat} {k i : Int} {t : ByteArray} (h : Vb W b k i t) (hk : Kp B g W W') (hne : b ≠ g) : Vb W' b k i t := hk.kb.blk h hne (by simp)
set_option maxHeartbeats 4000000 in
set_option maxRecDepth 100000 in
theorem value34 (B g : Nat) (A : Option Addr) (c : Nat) (xs : List Int) (s : Nat × Bool) (turned : Int) (tx : Nat × Bool → List Int × (Nat × Bool)) (w : World) (S : Src B g A c xs) (TX : Tx 34 B g A c xs tx) (R : Rdr w g A xs.length c s) (hs : s.1 ≤ xs.length) (hx : Bs w A xs.length xs) (hBw : B ≤ w.heap.size) :
    Calls Tryd.prog 33 #[.pointer (some ⟨g, 0, none⟩), .int .u64 turned, .func (.func 34) #[.pointer (some ⟨g, 0, none⟩)] #[]] w fun e w' =>
      e = .returned (.agg #[.int .i64 (valueS xs turned tx s).1.1, .int .i64 (valueS xs turned tx s).1.2.1, .string (strOfNums (valueS xs turned tx s).1.2.2)]) ∧ Rdr w' g A xs.length c (valueS xs turned tx s).2 ∧ Kp B g w w' := by
  have HS := Aside0.mk S
  have HX := Aside0.mk hx
  have HG := Aside0.mk (blk_lt R)
  have HBW := Aside0.mk hBw
  have HTX := Aside0.mk TX
  obtain ⟨b, hb⟩ : ∃ b, b = w.heap.size := ⟨_, rfl⟩
  have HBK : Aside0 (Vb (w.alloc (.cells #[.int .i64 0, .int .i64 0, .string ⟨#[]⟩] 43)) b 0 0 ⟨#[]⟩) := ⟨at_new _ _ _ hb⟩
  have HR0 : Aside0 (Rdr (w.alloc (.cells #[.int .i64 0, .int .i64 0, .string ⟨#[]⟩] 43)) g A xs.length c s) := ⟨blk_alloc R _⟩
  have HK0 : Aside0 (Kp B g w (w.alloc (.cells #[.int .i64 0, .int .i64 0, .string ⟨#[]⟩] 43))) := ⟨(Kp.refl B g w).alloc hBw _⟩
  have GE : Aside0 (w.heap.size ≤ b ∧ b ≠ g) := ⟨by omega, by have := blk_lt R; omega⟩
  have H1 := Aside0.mk (byte B g A c xs s 4 _ S.hB HR0.out hs S.hn S.hc S.hc2 (hx.kp HK0.out S.hf) S.hf S.hv)
  have hat := Aside0.mk (byteS_at xs 4 s hs)
  have hm := byteS_mem (m := 4) (s := s) S.hv
  clear S hx hBw R TX hs
  unfold valueS
  generalize byteS xs 4 s = Y at *
  obtain ⟨k, s1⟩ := Y
  simp only at H1 hat hm ⊢
  obtain ⟨hm0, hm1⟩ := hm
  by_cases hk1 : k = 1
  · subst hk1
    rw [if_pos rfl]
    have H2 := fun (W : World) (R' : Rdr W g A xs.length c s1) (X' : Bs W A xs.length xs) => byte B g A c xs s1 1 W HS.out.hB R' hat.out HS.out.hn HS.out.hc HS.out.hc2 X' HS.out.hf HS.out.hv
    have H2' := Aside0.mk H2
    clear H2
    generalize byteS xs 1 s1 = Y2 at *
    obtain ⟨i, s2⟩ := Y2
    simp only at H2' ⊢
    go_enter Tryd.func33, Tryd.ntmps33
    go_wp2_with fail
    rw [← hb]
    clear hb
    refine H1.out.mono ?_
    rintro e w1 ⟨rfl, hR1, hK1⟩
    have HR1 := Aside0.mk hR1
    have HK1 := Aside0.mk (HK0.out.trans hK1)
    have HB1 := Aside0.mk (HBK.out.kp hK1 GE.out.2)
    clear hR1 hK1 H1 HR0 HK0 HBK
    obtain ⟨c0, c1, c2, f0, f1, f2⟩ := HB1.out.cells
    go_wp2_with fail
    have HRx := Aside0.mk (show Rdr (w1.setCell ⟨b, 0, none⟩ (.int .i64 1)) g A xs.length c s1 from blk_far HR1.out (p := ⟨b, 0, none⟩) (Ne.symm GE.out.2) _)
    have HBx := Aside0.mk (show Vb (w1.setCell ⟨b, 0, none⟩ (.int .i64 1)) b 1 0 ⟨#[]⟩ from blk_put HB1.out 0 _ rfl)
    have HKx := Aside0.mk (Kp.far HK1.out HBW.out GE.out.1 0 (.int .i64 1))
    clear HR1 HB1 HK1 c0 c1 c2 f0 f1 f2
    refine (H2'.out _ HRx.out (HX.out.kp HKx.out HS.out.hf)).mono ?_
    rintro e w2 ⟨rfl, hR2, hK2⟩
    have HR2 := Aside0.mk hR2
    have HK2 := Aside0.mk (HKx.out.trans hK2)
    have HB2 := Aside0.mk (HBx.out.kp hK2 GE.out.2)
    clear hR2 hK2 H2' HRx HBx HKx
    obtain ⟨c0, c1, c2, f0, f1, f2⟩ := HB2.out.cells
    go_wp2
    refine bodyPost_ret (results_c1 (p := 6) (ty := 43) rfl _ _ b 43 #[.int .i64 1, .int .i64 i, .string ⟨#[]⟩] (0, 0) _ rfl (blk_put (blk_put (blk_put (blk_put HB2.out 1 _ rfl) 0 _ rfl) 1 _ rfl) 2 _ rfl) Tryd.underlying43 rfl (by kernel_rfl)) rfl ⟨rfl, (blk_far (blk_far (blk_far (blk_far HR2.out (p := ⟨b, 1, none⟩) (Ne.symm GE.out.2) _) (p := ⟨b, 0, none⟩) (Ne.symm GE.out.2) _) (p := ⟨b, 1, none⟩) (Ne.symm GE.out.2) _) (p := ⟨b, 2, none⟩) (Ne.symm GE.out.2) _), (Kp.far (Kp.far (Kp.far (Kp.far HK2.out HBW.out GE.out.1 1 _) HBW.out GE.out.1 0 _) HBW.out GE.out.1 1 _) HBW.out GE.out.1 2 _)⟩
  · by_cases hk2 : k = 2
    · subst hk2
      rw [if_neg (by decide), if_pos rfl]
      have H2 := fun (W : World) (R' : Rdr W g A xs.length c s1) (X' : Bs W A xs.length xs) => take B g A c xs s1 8 W HS.out.hB R' hat.out HS.out.hn HS.out.hc HS.out.hc2 (by decide) X' HS.out.hf
      have H2' := Aside0.mk H2
      have hmem : Aside0 (∀ x ∈ (takeS xs 8 s1).1, 0 ≤ x ∧ x ≤ 255) := ⟨fun x h => HS.out.hv x (takeS_mem x h)⟩
      have hsm : Aside0 ((takeS xs 8 s1).1.length ≤ 1000000000) := ⟨by have h := takeS_len xs 8 s1; have : (8 : Int).toNat = 8 := rfl; omega⟩
      clear H2 hk1
      generalize takeS xs 8 s1 = Y2 at *
      obtain ⟨l8, s2⟩ := Y2
      simp only at H2' hmem hsm ⊢
      generalize hN : numS l8 = N
      have HN := Aside0.mk hN
      clear hN
      go_enter Tryd.func33, Tryd.ntmps33
      go_wp2_with fail
      rw [← hb]
      clear hb
      refine H1.out.mono ?_
      rintro e w1 ⟨rfl, hR1, hK1⟩
      have HR1 := Aside0.mk hR1
      have HK1 := Aside0.mk (HK0.out.trans hK1)
      have HB1 := Aside0.mk (HBK.out.kp hK1 GE.out.2)
      clear hR1 hK1 H1 HR0 HK0 HBK
      obtain ⟨c0, c1, c2, f0, f1, f2⟩ := HB1.out.cells
      go_wp2_with fail
      have HRx := Aside0.mk (show Rdr (w1.setCell ⟨b, 0, none⟩ (.int .i64 2)) g A xs.length c s1 from blk_far HR1.out (p := ⟨b, 0, none⟩) (Ne.symm GE.out.2) _)
      have HBx := Aside0.mk (show Vb (w1.setCell ⟨b, 0, none⟩ (.int .i64 2)) b 2 0 ⟨#[]⟩ from blk_put HB1.out 0 _ rfl)
      have HKx := Aside0.mk (Kp.far HK1.out HBW.out GE.out.1 0 (.int .i64 2))
      clear HR1 HB1 HK1 c0 c1 c2 f0 f1 f2
      refine (H2'.out _ HRx.out (HX.out.kp HKx.out HS.out.hf)).mono ?_
      rintro e w2 ⟨A', c', rfl, _, hb8, hR2, hK2⟩
      have HR2 := Aside0.mk hR2
      have HK2 := Aside0.mk (HKx.out.trans hK2)
      have HB2 := Aside0.mk (HBx.out.kp hK2 GE.out.2)
      have HB8 := Aside0.mk hb8
      clear hR2 hK2 hb8 H2' HRx HBx HKx
      obtain ⟨c0, c1, c2, f0, f1, f2⟩ := HB2.out.cells
      go_wp2_with fail
      refine (number A' c' l8 _ hsm.out HB8.out hmem.out).mono ?_
      rintro e w3 ⟨rfl, rfl⟩
      rw [HN.out]
      go_wp2
      refine bodyPost_ret (results_c1 (p := 6) (ty := 43) rfl _ _ b 43 #[.int .i64 2, .int .i64 (wrap64 (Go.bits .xor .u64 N turned)), .string ⟨#[]⟩] (0, 0) _ rfl (blk_put (blk_put (blk_put (blk_put HB2.out 1 _ rfl) 0 _ rfl) 1 _ rfl) 2 _ rfl) Tryd.underlying43 rfl (by kernel_rfl)) rfl ⟨rfl, (blk_far (blk_far (blk_far (blk_far HR2.out (p := ⟨b, 1, none⟩) (Ne.symm GE.out.2) _) (p := ⟨b, 0, none⟩) (Ne.symm GE.out.2) _) (p := ⟨b, 1, none⟩) (Ne.symm GE.out.2) _) (p := ⟨b, 2, none⟩) (Ne.symm GE.out.2) _), (Kp.far (Kp.far (Kp.far (Kp.far HK2.out HBW.out GE.out.1 1 _) HBW.out GE.out.1 0 _) HBW.out GE.out.1 1 _) HBW.out GE.out.1 2 _)⟩
    · by_cases hk3 : k = 3 ∨ k = 4
      · rw [if_neg hk1, if_neg hk2, if_pos hk3]
        have e1 : (k == 1) = false := by simpa using hk1
        have e2 : (k == 2) = false := by simpa using hk2
        have H2' := Aside0.mk (fun (W : World) (R' : Rdr W g A xs.length c s1) (X' : Bs W A xs.length xs) (hW : B ≤ W.heap.size) => HTX.out s1 W hat.out R' X' hW)
        generalize tx s1 = Y2 at *
        obtain ⟨l, s2⟩ := Y2
        simp only at H2' ⊢
        clear hk1 hk2
        rcases hk3 with rfl | rfl
        · go_enter Tryd.func33, Tryd.ntmps33
          go_wp2_with fail
          rw [← hb]
          clear hb
          refine H1.out.mono ?_
          rintro e w1 ⟨rfl, hR1, hK1⟩
          have HR1 := Aside0.mk hR1
          have HK1 := Aside0.mk (HK0.out.trans hK1)
          have HB1 := Aside0.mk (HBK.out.kp hK1 GE.out.2)
          clear hR1 hK1 H1 HR0 HK0 HBK
          obtain ⟨c0, c1, c2, f0, f1, f2⟩ := HB1.out.cells
          go_wp2_with fail
          have HRx := Aside0.mk (show Rdr (w1.setCell ⟨b, 0, none⟩ (.int .i64 3)) g A xs.length c s1 from blk_far HR1.out (p := ⟨b, 0, none⟩) (Ne.symm GE.out.2) _)
          have HBx := Aside0.mk (show Vb (w1.setCell ⟨b, 0, none⟩ (.int .i64 3)) b 3 0 ⟨#[]⟩ from blk_put HB1.out 0 _ rfl)
          have HKx := Aside0.mk (Kp.far HK1.out HBW.out GE.out.1 0 (.int .i64 3))
          clear HR1 HB1 HK1 c0 c1 c2 f0 f1 f2
          refine (H2'.out _ HRx.out (HX.out.kp HKx.out HS.out.hf) (Nat.le_trans HBW.out HKx.out.kb.1)).mono ?_
          rintro e w2 ⟨rfl, hR2, hK2⟩
          have HR2 := Aside0.mk hR2
          have HK2 := Aside0.mk (HKx.out.trans hK2)
          have HB2 := Aside0.mk (HBx.out.kp hK2 GE.out.2)
          clear hR2 hK2 H2' HRx HBx HKx
          obtain ⟨c0, c1, c2, f0, f1, f2⟩ := HB2.out.cells
          go_wp2
          refine bodyPost_ret (results_c1 (p := 6) (ty := 43) rfl _ _ b 43 #[.int .i64 3, .int .i64 0, .string (strOfNums l)] (0, 0) _ rfl (blk_put (blk_put (blk_put (blk_put HB2.out 2 _ rfl) 0 _ rfl) 1 _ rfl) 2 _ rfl) Tryd.underlying43 rfl (by kernel_rfl)) rfl ⟨rfl, (blk_far (blk_far (blk_far (blk_far HR2.out (p := ⟨b, 2, none⟩) (Ne.symm GE.out.2) _) (p := ⟨b, 0, none⟩) (Ne.symm GE.out.2) _) (p := ⟨b, 1, none⟩) (Ne.symm GE.out.2) _) (p := ⟨b, 2, none⟩) (Ne.symm GE.out.2) _), (Kp.far (Kp.far (Kp.far (Kp.far HK2.out HBW.out GE.out.1 2 _) HBW.out GE.out.1 0 _) HBW.out GE.out.1 1 _) HBW.out GE.out.1 2 _)⟩
        · go_enter Tryd.func33, Tryd.ntmps33
          go_wp2_with fail
          rw [← hb]
          clear hb
          refine H1.out.mono ?_
          rintro e w1 ⟨rfl, hR1, hK1⟩
          have HR1 := Aside0.mk hR1
          have HK1 := Aside0.mk (HK0.out.trans hK1)
          have HB1 := Aside0.mk (HBK.out.kp hK1 GE.out.2)
          clear hR1 hK1 H1 HR0 HK0 HBK
          obtain ⟨c0, c1, c2, f0, f1, f2⟩ := HB1.out.cells
          go_wp2_with fail
          have HRx := Aside0.mk (show Rdr (w1.setCell ⟨b, 0, none⟩ (.int .i64 4)) g A xs.length c s1 from blk_far HR1.out (p := ⟨b, 0, none⟩) (Ne.symm GE.out.2) _)
          have HBx := Aside0.mk (show Vb (w1.setCell ⟨b, 0, none⟩ (.int .i64 4)) b 4 0 ⟨#[]⟩ from blk_put HB1.out 0 _ rfl)
          have HKx := Aside0.mk (Kp.far HK1.out HBW.out GE.out.1 0 (.int .i64 4))
          clear HR1 HB1 HK1 c0 c1 c2 f0 f1 f2
          refine (H2'.out _ HRx.out (HX.out.kp HKx.out HS.out.hf) (Nat.le_trans HBW.out HKx.out.kb.1)).mono ?_
          rintro e w2 ⟨rfl, hR2, hK2⟩
          have HR2 := Aside0.mk hR2
          have HK2 := Aside0.mk (HKx.out.trans hK2)
          have HB2 := Aside0.mk (HBx.out.kp hK2 GE.out.2)
          clear hR2 hK2 H2' HRx HBx HKx
          obtain ⟨c0, c1, c2, f0, f1, f2⟩ := HB2.out.cells
          go_wp2
          refine bodyPost_ret (results_c1 (p := 6) (ty := 43) rfl _ _ b 43 #[.int .i64 4, .int .i64 0, .string (strOfNums l)] (0, 0) _ rfl (blk_put (blk_put (blk_put (blk_put HB2.out 2 _ rfl) 0 _ rfl) 1 _ rfl) 2 _ rfl) Tryd.underlying43 rfl (by kernel_rfl)) rfl ⟨rfl, (blk_far (blk_far (blk_far (blk_far HR2.out (p := ⟨b, 2, none⟩) (Ne.symm GE.out.2) _) (p := ⟨b, 0, none⟩) (Ne.symm GE.out.2) _) (p := ⟨b, 1, none⟩) (Ne.symm GE.out.2) _) (p := ⟨b, 2, none⟩) (Ne.symm GE.out.2) _), (Kp.far (Kp.far (Kp.far (Kp.far HK2.out HBW.out GE.out.1 2 _) HBW.out GE.out.1 0 _) HBW.out GE.out.1 1 _) HBW.out GE.out.1 2 _)⟩
      · rw [if_neg hk1, if_neg hk2, if_neg hk3]
        have e1 : (k == 1) = false := by simpa using hk1
        have e2 : (k == 2) = false := by simpa using hk2
        have e3 : (k == 3) = false := by simpa using fun h => hk3 (.inl h)
        have e4 : (k == 4) = false := by simpa using fun h => hk3 (.inr h)
        clear hk1 hk2 hk3
        go_enter Tryd.func33, Tryd.ntmps33
        go_wp2_with fail
        rw [← hb]
        clear hb
        refine H1.out.mono ?_
        rintro e w1 ⟨rfl, hR1, hK1⟩
        have HR1 := Aside0.mk hR1
        have HK1 := Aside0.mk (HK0.out.trans hK1)
        have HB1 := Aside0.mk (HBK.out.kp hK1 GE.out.2)
        clear hR1 hK1 H1 HR0 HK0 HBK
        obtain ⟨c0, c1, c2, f0, f1, f2⟩ := HB1.out.cells
        go_wp2
        refine bodyPost_ret (results_c1 (p := 6) (ty := 43) rfl _ _ b 43 #[.int .i64 k, .int .i64 0, .string ⟨#[]⟩] (0, 0) _ rfl (blk_put (blk_put (blk_put (blk_put HB1.out 0 _ rfl) 0 _ rfl) 1 _ rfl) 2 _ rfl) Tryd.underlying43 rfl (by kernel_rfl)) rfl ⟨rfl, (blk_far (blk_far (blk_far (blk_far HR1.out (p := ⟨b, 0, none⟩) (Ne.symm GE.out.2) _) (p := ⟨b, 0, none⟩) (Ne.symm GE.out.2) _) (p := ⟨b, 1, none⟩) (Ne.symm GE.out.2) _) (p := ⟨b, 2, none⟩) (Ne.symm GE.out.2) _), (Kp.far (Kp.far (Kp.far (Kp.far HK1.out HBW.out GE.out.1 0 _) HBW.out GE.out.1 0 _) HBW.out GE.out.1 1 _) HBW.out GE.out.1 2 _)⟩
set_option maxHeartbeats 4000000 in
set_option maxRecDepth 100000 in
theorem value36 (B g : Nat) (A : Option Addr) (c : Nat) (xs : List Int) (s : Nat × Bool) (turned : Int) (tx : Nat × Bool → List Int × (Nat × Bool)) (w : World) (S : Src B g A c xs) (TX : Tx 36 B g A c xs tx) (R : Rdr w g A xs.length c s) (hs : s.1 ≤ xs.length) (hx : Bs w A xs.length xs) (hBw : B ≤ w.heap.size) :
    Calls Tryd.prog 33 #[.pointer (some ⟨g, 0, none⟩), .int .u64 turned, .func (.func 36) #[.pointer (some ⟨g, 0, none⟩)] #[]] w fun e w' =>
      e = .returned (.agg #[.int .i64 (valueS xs turned tx s).1.1, .int .i64 (valueS xs turned tx s).1.2.1, .string (strOfNums (valueS xs turned tx s).1.2.2)]) ∧ Rdr w' g A xs.length c (valueS xs turned tx s).2 ∧ Kp B g w w' := by
  have HS := Aside0.mk S
  have HX := Aside0.mk hx
  have HG := Aside0.mk (blk_lt R)
  have HBW := Aside0.mk hBw
  have HTX := Aside0.mk TX
  obtain ⟨b, hb⟩ : ∃ b, b = w.heap.size := ⟨_, rfl⟩
  have HBK : Aside0 (Vb (w.alloc (.cells #[.int .i64 0, .int .i64 0, .string ⟨#[]⟩] 43)) b 0 0 ⟨#[]⟩) := ⟨at_new _ _ _ hb⟩
  have HR0 : Aside0 (Rdr (w.alloc (.cells #[.int .i64 0, .int .i64 0, .string ⟨#[]⟩] 43)) g A xs.length c s) := ⟨blk_alloc R _⟩
  have HK0 : Aside0 (Kp B g w (w.alloc (.cells #[.int .i64 0, .int .i64 0, .string ⟨#[]⟩] 43))) := ⟨(Kp.refl B g w).alloc hBw _⟩
  have GE : Aside0 (w.heap.size ≤ b ∧ b ≠ g) := ⟨by omega, by have := blk_lt R; omega⟩
  have H1 := Aside0.mk (byte B g A c xs s 4 _ S.hB HR0.out hs S.hn S.hc S.hc2 (hx.kp HK0.out S.hf) S.hf S.hv)
  have hat := Aside0.mk (byteS_at xs 4 s hs)
  have hm := byteS_mem (m := 4) (s := s) S.hv
  clear S hx hBw R TX hs
  unfold valueS
  generalize byteS xs 4 s = Y at *
  obtain ⟨k, s1⟩ := Y
  simp only at H1 hat hm ⊢
  obtain ⟨hm0, hm1⟩ := hm
  by_cases hk1 : k = 1
  · subst hk1
    rw [if_pos rfl]
    have H2 := fun (W : World) (R' : Rdr W g A xs.length c s1) (X' : Bs W A xs.length xs) => byte B g A c xs s1 1 W HS.out.hB R' hat.out HS.out.hn HS.out.hc HS.out.hc2 X' HS.out.hf HS.out.hv
    have H2' := Aside0.mk H2
    clear H2
    generalize byteS xs 1 s1 = Y2 at *
    obtain ⟨i, s2⟩ := Y2
    simp only at H2' ⊢
    go_enter Tryd.func33, Tryd.ntmps33
    go_wp2_with fail
    rw [← hb]
    clear hb
    refine H1.out.mono ?_
    rintro e w1 ⟨rfl, hR1, hK1⟩
    have HR1 := Aside0.mk hR1
    have HK1 := Aside0.mk (HK0.out.trans hK1)
    have HB1 := Aside0.mk (HBK.out.kp hK1 GE.out.2)
    clear hR1 hK1 H1 HR0 HK0 HBK
    obtain ⟨c0, c1, c2, f0, f1, f2⟩ := HB1.out.cells
    go_wp2_with fail
    have HRx := Aside0.mk (show Rdr (w1.setCell ⟨b, 0, none⟩ (.int .i64 1)) g A xs.length c s1 from blk_far HR1.out (p := ⟨b, 0, none⟩) (Ne.symm GE.out.2) _)
    have HBx := Aside0.mk (show Vb (w1.setCell ⟨b, 0, none⟩ (.int .i64 1)) b 1 0 ⟨#[]⟩ from blk_put HB1.out 0 _ rfl)
    have HKx := Aside0.mk (Kp.far HK1.out HBW.out GE.out.1 0 (.int .i64 1))
    clear HR1 HB1 HK1 c0 c1 c2 f0 f1 f2
    refine (H2'.out _ HRx.out (HX.out.kp HKx.out HS.out.hf)).mono ?_
    rintro e w2 ⟨rfl, hR2, hK2⟩
    have HR2 := Aside0.mk hR2
    have HK2 := Aside0.mk (HKx.out.trans hK2)
    have HB2 := Aside0.mk (HBx.out.kp hK2 GE.out.2)
    clear hR2 hK2 H2' HRx HBx HKx
    obtain ⟨c0, c1, c2, f0, f1, f2⟩ := HB2.out.cells
    go_wp2
    refine bodyPost_ret (results_c1 (p := 6) (ty := 43) rfl _ _ b 43 #[.int .i64 1, .int .i64 i, .string ⟨#[]⟩] (0, 0) _ rfl (blk_put (blk_put (blk_put (blk_put HB2.out 1 _ rfl) 0 _ rfl) 1 _ rfl) 2 _ rfl) Tryd.underlying43 rfl (by kernel_rfl)) rfl ⟨rfl, (blk_far (blk_far (blk_far (blk_far HR2.out (p := ⟨b, 1, none⟩) (Ne.symm GE.out.2) _) (p := ⟨b, 0, none⟩) (Ne.symm GE.out.2) _) (p := ⟨b, 1, none⟩) (Ne.symm GE.out.2) _) (p := ⟨b, 2, none⟩) (Ne.symm GE.out.2) _), (Kp.far (Kp.far (Kp.far (Kp.far HK2.out HBW.out GE.out.1 1 _) HBW.out GE.out.1 0 _) HBW.out GE.out.1 1 _) HBW.out GE.out.1 2 _)⟩
  · by_cases hk2 : k = 2
    · subst hk2
      rw [if_neg (by decide), if_pos rfl]
      have H2 := fun (W : World) (R' : Rdr W g A xs.length c s1) (X' : Bs W A xs.length xs) => take B g A c xs s1 8 W HS.out.hB R' hat.out HS.out.hn HS.out.hc HS.out.hc2 (by decide) X' HS.out.hf
      have H2' := Aside0.mk H2
      have hmem : Aside0 (∀ x ∈ (takeS xs 8 s1).1, 0 ≤ x ∧ x ≤ 255) := ⟨fun x h => HS.out.hv x (takeS_mem x h)⟩
      have hsm : Aside0 ((takeS xs 8 s1).1.length ≤ 1000000000) := ⟨by have h := takeS_len xs 8 s1; have : (8 : Int).toNat = 8 := rfl; omega⟩
      clear H2 hk1
      generalize takeS xs 8 s1 = Y2 at *
      obtain ⟨l8, s2⟩ := Y2
      simp only at H2' hmem hsm ⊢
      generalize hN : numS l8 = N
      have HN := Aside0.mk hN
      clear hN
      go_enter Tryd.func33, Tryd.ntmps33
      go_wp2_with fail
      rw [← hb]
      clear hb
      refine H1.out.mono ?_
      rintro e w1 ⟨rfl, hR1, hK1⟩
      have HR1 := Aside0.mk hR1
      have HK1 := Aside0.mk (HK0.out.trans hK1)
      have HB1 := Aside0.mk (HBK.out.kp hK1 GE.out.2)
      clear hR1 hK1 H1 HR0 HK0 HBK
      obtain ⟨c0, c1, c2, f0, f1, f2⟩ := HB1.out.cells
      go_wp2_with fail
      have HRx := Aside0.mk (show Rdr (w1.setCell ⟨b, 0, none⟩ (.int .i64 2)) g A xs.length c s1 from blk_far HR1.out (p := ⟨b, 0, none⟩) (Ne.symm GE.out.2) _)
      have HBx := Aside0.mk (show Vb (w1.setCell ⟨b, 0, none⟩ (.int .i64 2)) b 2 0 ⟨#[]⟩ from blk_put HB1.out 0 _ rfl)
      have HKx := Aside0.mk (Kp.far HK1.out HBW.out GE.out.1 0 (.int .i64 2))
      clear HR1 HB1 HK1 c0 c1 c2 f0 f1 f2
      refine (H2'.out _ HRx.out (HX.out.kp HKx.out HS.out.hf)).mono ?_
      rintro e w2 ⟨A', c', rfl, _, hb8, hR2, hK2⟩
      have HR2 := Aside0.mk hR2
      have HK2 := Aside0.mk (HKx.out.trans hK2)
      have HB2 := Aside0.mk (HBx.out.kp hK2 GE.out.2)
      have HB8 := Aside0.mk hb8
      clear hR2 hK2 hb8 H2' HRx HBx HKx
      obtain ⟨c0, c1, c2, f0, f1, f2⟩ := HB2.out.cells
      go_wp2_with fail
      refine (number A' c' l8 _ hsm.out HB8.out hmem.out).mono ?_
      rintro e w3 ⟨rfl, rfl⟩
      rw [HN.out]
      go_wp2
      refine bodyPost_ret (results_c1 (p := 6) (ty := 43) rfl _ _ b 43 #[.int .i64 2, .int .i64 (wrap64 (Go.bits .xor .u64 N turned)), .string ⟨#[]⟩] (0, 0) _ rfl (blk_put (blk_put (blk_put (blk_put HB2.out 1 _ rfl) 0 _ rfl) 1 _ rfl) 2 _ rfl) Tryd.underlying43 rfl (by kernel_rfl)) rfl ⟨rfl, (blk_far (blk_far (blk_far (blk_far HR2.out (p := ⟨b, 1, none⟩) (Ne.symm GE.out.2) _) (p := ⟨b, 0, none⟩) (Ne.symm GE.out.2) _) (p := ⟨b, 1, none⟩) (Ne.symm GE.out.2) _) (p := ⟨b, 2, none⟩) (Ne.symm GE.out.2) _), (Kp.far (Kp.far (Kp.far (Kp.far HK2.out HBW.out GE.out.1 1 _) HBW.out GE.out.1 0 _) HBW.out GE.out.1 1 _) HBW.out GE.out.1 2 _)⟩
    · by_cases hk3 : k = 3 ∨ k = 4
      · rw [if_neg hk1, if_neg hk2, if_pos hk3]
        have e1 : (k == 1) = false := by simpa using hk1
        have e2 : (k == 2) = false := by simpa using hk2
        have H2' := Aside0.mk (fun (W : World) (R' : Rdr W g A xs.length c s1) (X' : Bs W A xs.length xs) (hW : B ≤ W.heap.size) => HTX.out s1 W hat.out R' X' hW)
        generalize tx s1 = Y2 at *
        obtain ⟨l, s2⟩ := Y2
        simp only at H2' ⊢
        clear hk1 hk2
        rcases hk3 with rfl | rfl
        · go_enter Tryd.func33, Tryd.ntmps33
          go_wp2_with fail
          rw [← hb]
          clear hb
          refine H1.out.mono ?_
          rintro e w1 ⟨rfl, hR1, hK1⟩
          have HR1 := Aside0.mk hR1
          have HK1 := Aside0.mk (HK0.out.trans hK1)
          have HB1 := Aside0.mk (HBK.out.kp hK1 GE.out.2)
          clear hR1 hK1 H1 HR0 HK0 HBK
          obtain ⟨c0, c1, c2, f0, f1, f2⟩ := HB1.out.cells
          go_wp2_with fail
          have HRx := Aside0.mk (show Rdr (w1.setCell ⟨b, 0, none⟩ (.int .i64 3)) g A xs.length c s1 from blk_far HR1.out (p := ⟨b, 0, none⟩) (Ne.symm GE.out.2) _)
          have HBx := Aside0.mk (show Vb (w1.setCell ⟨b, 0, none⟩ (.int .i64 3)) b 3 0 ⟨#[]⟩ from blk_put HB1.out 0 _ rfl)
          have HKx := Aside0.mk (Kp.far HK1.out HBW.out GE.out.1 0 (.int .i64 3))
          clear HR1 HB1 HK1 c0 c1 c2 f0 f1 f2
          refine (H2'.out _ HRx.out (HX.out.kp HKx.out HS.out.hf) (Nat.le_trans HBW.out HKx.out.kb.1)).mono ?_
          rintro e w2 ⟨rfl, hR2, hK2⟩
          have HR2 := Aside0.mk hR2
          have HK2 := Aside0.mk (HKx.out.trans hK2)
          have HB2 := Aside0.mk (HBx.out.kp hK2 GE.out.2)
          clear hR2 hK2 H2' HRx HBx HKx
          obtain ⟨c0, c1, c2, f0, f1, f2⟩ := HB2.out.cells
          go_wp2
          refine bodyPost_ret (results_c1 (p := 6) (ty := 43) rfl _ _ b 43 #[.int .i64 3, .int .i64 0, .string (strOfNums l)] (0, 0) _ rfl (blk_put (blk_put (blk_put (blk_put HB2.out 2 _ rfl) 0 _ rfl) 1 _ rfl) 2 _ rfl) Tryd.underlying43 rfl (by kernel_rfl)) rfl ⟨rfl, (blk_far (blk_far (blk_far (blk_far HR2.out (p := ⟨b, 2, none⟩) (Ne.symm GE.out.2) _) (p := ⟨b, 0, none⟩) (Ne.symm GE.out.2) _) (p := ⟨b, 1, none⟩) (Ne.symm GE.out.2) _) (p := ⟨b, 2, none⟩) (Ne.symm GE.out.2) _), (Kp.far (Kp.far (Kp.far (Kp.far HK2.out HBW.out GE.out.1 2 _) HBW.out GE.out.1 0 _) HBW.out GE.out.1 1 _) HBW.out GE.out.1 2 _)⟩
        · go_enter Tryd.func33, Tryd.ntmps33
          go_wp2_with fail
          rw [← hb]
          clear hb
          refine H1.out.mono ?_
          rintro e w1 ⟨rfl, hR1, hK1⟩
          have HR1 := Aside0.mk hR1
          have HK1 := Aside0.mk (HK0.out.trans hK1)
          have HB1 := Aside0.mk (HBK.out.kp hK1 GE.out.2)
          clear hR1 hK1 H1 HR0 HK0 HBK
          obtain ⟨c0, c1, c2, f0, f1, f2⟩ := HB1.out.cells
          go_wp2_with fail
          have HRx := Aside0.mk (show Rdr (w1.setCell ⟨b, 0, none⟩ (.int .i64 4)) g A xs.length c s1 from blk_far HR1.out (p := ⟨b, 0, none⟩) (Ne.symm GE.out.2) _)
          have HBx := Aside0.mk (show Vb (w1.setCell ⟨b, 0, none⟩ (.int .i64 4)) b 4 0 ⟨#[]⟩ from blk_put HB1.out 0 _ rfl)
          have HKx := Aside0.mk (Kp.far HK1.out HBW.out GE.out.1 0 (.int .i64 4))
          clear HR1 HB1 HK1 c0 c1 c2 f0 f1 f2
          refine (H2'.out _ HRx.out (HX.out.kp HKx.out HS.out.hf) (Nat.le_trans HBW.out HKx.out.kb.1)).mono ?_
          rintro e w2 ⟨rfl, hR2, hK2⟩
          have HR2 := Aside0.mk hR2
          have HK2 := Aside0.mk (HKx.out.trans hK2)
          have HB2 := Aside0.mk (HBx.out.kp hK2 GE.out.2)
          clear hR2 hK2 H2' HRx HBx HKx
          obtain ⟨c0, c1, c2, f0, f1, f2⟩ := HB2.out.cells
          go_wp2
          refine bodyPost_ret (results_c1 (p := 6) (ty := 43) rfl _ _ b 43 #[.int .i64 4, .int .i64 0, .string (strOfNums l)] (0, 0) _ rfl (blk_put (blk_put (blk_put (blk_put HB2.out 2 _ rfl) 0 _ rfl) 1 _ rfl) 2 _ rfl) Tryd.underlying43 rfl (by kernel_rfl)) rfl ⟨rfl, (blk_far (blk_far (blk_far (blk_far HR2.out (p := ⟨b, 2, none⟩) (Ne.symm GE.out.2) _) (p := ⟨b, 0, none⟩) (Ne.symm GE.out.2) _) (p := ⟨b, 1, none⟩) (Ne.symm GE.out.2) _) (p := ⟨b, 2, none⟩) (Ne.symm GE.out.2) _), (Kp.far (Kp.far (Kp.far (Kp.far HK2.out HBW.out GE.out.1 2 _) HBW.out GE.out.1 0 _) HBW.out GE.out.1 1 _) HBW.out GE.out.1 2 _)⟩
      · rw [if_neg hk1, if_neg hk2, if_neg hk3]
        have e1 : (k == 1) = false := by simpa using hk1
        have e2 : (k == 2) = false := by simpa using hk2
        have e3 : (k == 3) = false := by simpa using fun h => hk3 (.inl h)
        have e4 : (k == 4) = false := by simpa using fun h => hk3 (.inr h)
        clear hk1 hk2 hk3
        go_enter Tryd.func33, Tryd.ntmps33
        go_wp2_with fail
        rw [← hb]
        clear hb
        refine H1.out.mono ?_
        rintro e w1 ⟨rfl, hR1, hK1⟩
        have HR1 := Aside0.mk hR1
        have HK1 := Aside0.mk (HK0.out.trans hK1)
        have HB1 := Aside0.mk (HBK.out.kp hK1 GE.out.2)
        clear hR1 hK1 H1 HR0 HK0 HBK
        obtain ⟨c0, c1, c2, f0, f1, f2⟩ := HB1.out.cells
        go_wp2
        refine bodyPost_ret (results_c1 (p := 6) (ty := 43) rfl _ _ b 43 #[.int .i64 k, .int .i64 0, .string ⟨#[]⟩] (0, 0) _ rfl (blk_put (blk_put (blk_put (blk_put HB1.out 0 _ rfl) 0 _ rfl) 1 _ rfl) 2 _ rfl) Tryd.underlying43 rfl (by kernel_rfl)) rfl ⟨rfl, (blk_far (blk_far (blk_far (blk_far HR1.out (p := ⟨b, 0, none⟩) (Ne.symm GE.out.2) _) (p := ⟨b, 0, none⟩) (Ne.symm GE.out.2) _) (p := ⟨b, 1, none⟩) (Ne.symm GE.out.2) _) (p := ⟨b, 2, none⟩) (Ne.symm GE.out.2) _), (Kp.far (Kp.far (Kp.far (Kp.far HK1.out HBW.out GE.out.1 0 _) HBW.out GE.out.1 0 _) HBW.out GE.out.1 1 _) HBW.out GE.out.1 2 _)⟩
end Go.Proofs.YtbojfgjdpfobaaaDoor.Rd
