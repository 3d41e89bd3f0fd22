-- printed by our own turn of the print (wip/pr)
import Derived.Test.YtbojfgjdpfobaaaDoorQCRx0
import Derived.Test.YtbojfgjdpfobaaaDoorQCRx2
namespace Go.Proofs.YtbojfgjdpfobaaaDoor.QCR
open Go.RowKit Go.Proofs.YtbojfgjdpfobaaaDoorW.PrintWords Go.Proofs.YtbojfgjdpfobaaaDoorW.PrintLast Go.Proofs.YtbojfgjdpfobaaaDoorW.PrintMore
attribute [local go_sem] max2_int min2_int max_two min_two max_three min_three max_four min_four   -- for this text's walks alone
set_option linter.unusedVariables false
set_option linter.unusedSimpArgs false

/-! ### bytes_ReplaceAll: function 30 -/
/-! bytes.ReplaceAll at one zero byte -/
/-- each zero gets a 255 behind it -/
def repL : List Int → List Int
  | [] => []
  | x :: l => if x = 0 then 0 :: 255 :: repL l else x :: repL l
theorem repL_append : ∀ a b, repL (a ++ b) = repL a ++ repL b
  | [], _ => rfl
  | x :: a, b => by
    rw [List.cons_append, repL, repL, repL_append a b]
    split <;> rfl
theorem repL_none : ∀ {l : List Int}, (∀ x ∈ l, x ≠ 0) → repL l = l
  | [], _ => rfl
  | x :: l, h => by rw [repL, if_neg (h x List.mem_cons_self), repL_none fun y hy => h y (List.mem_cons_of_mem _ hy)]
theorem repL_length : ∀ l : List Int, (repL l).length = l.length + l.count 0
  | [] => rfl
  | x :: l => by
    rw [repL]
    by_cases h : x = 0
    · rw [if_pos h, h]; simp [repL_length l]; omega
    · rw [if_neg h]; simp [repL_length l, List.count_cons, h]; omega
def inB (l : List Int) : Prop := ∀ x ∈ l, 0 ≤ x ∧ x < 256
theorem byte_zero {x : Int} (h : 0 ≤ x ∧ x < 256) : (UInt8.ofNat x.toNat == (0 : UInt8)) = decide (x = 0) := by
  by_cases hx : x = 0
  · subst hx; rfl
  · rw [decide_eq_false hx, beq_eq_false_iff_ne]
    intro e
    have := congrArg UInt8.toNat e
    rw [UInt8.toNat_ofNat_of_lt' (show x.toNat < 256 by omega)] at this
    simp at this
    omega
theorem count_bytes : ∀ {l : List Int}, inB l → Lib.countByte (Lib.bytesOf l) 0 = l.count 0
  | [], _ => rfl
  | x :: l, h => by
    have ih := count_bytes (l := l) fun y hy => h y (List.mem_cons_of_mem _ hy)
    unfold Lib.countByte Lib.bytesOf at ih ⊢
    rw [List.map_cons, List.count_cons, List.count_cons, ih, byte_zero (h x List.mem_cons_self)]
    by_cases hx : x = 0 <;> simp [hx]
theorem index_bytes : ∀ {a b : List Int}, inB (a ++ 0 :: b) → (∀ x ∈ a, x ≠ 0) → Lib.indexByte (Lib.bytesOf (a ++ 0 :: b)) 0 = (a.length : Int)
  | [], b, h, _ => rfl
  | x :: a, b, h, hn => by
    have ih := index_bytes (a := a) (b := b) (fun y hy => h y (List.mem_cons_of_mem _ hy)) fun y hy => hn y (List.mem_cons_of_mem _ hy)
    have e : Lib.bytesOf (x :: a ++ 0 :: b) = UInt8.ofNat x.toNat :: Lib.bytesOf (a ++ 0 :: b) := rfl
    rw [e, Lib.indexByte, ih, byte_zero (h x List.mem_cons_self), decide_eq_false (hn x List.mem_cons_self)]
    have : ¬ (a.length : Int) = -1 := by omega
    simp [this]
/-- a list that holds a zero, parted at its first -/
theorem first_zero : ∀ {l : List Int}, l.count 0 ≠ 0 → ∃ a b, l = a ++ 0 :: b ∧ ∀ x ∈ a, x ≠ 0
  | [], h => absurd rfl h
  | x :: l, h => by
    by_cases hx : x = 0
    · exact ⟨[], l, by rw [hx]; rfl, by simp⟩
    · have : l.count 0 ≠ 0 := by simpa [List.count_cons, hx] using h
      obtain ⟨a, b, rfl, hn⟩ := first_zero this
      exact ⟨x :: a, b, rfl, fun y hy => (List.mem_cons.1 hy).elim (fun e => e ▸ hx) (hn y)⟩
/-- a row of bytes in memory -/
abbrev Sb (w : World) (a : Addr) (xs : List Int) : Prop := ∀ j, j < xs.length → w.cell? (a.add j) = some (.int .u8 (xs.getD j 0))
theorem Sb.below {w w1 : World} {a : Addr} {xs : List Int} (h : Sb w a xs) (hb : Below w.heap.size w w1) : Sb w1 a xs := fun j hj => pw_cell_below hb (h j hj)
theorem count_walk (a : Addr) (xs : List Int) (n c d : Nat) (a2 : Addr) (w : World) (hn : xs.length = n) (hx : Sb w a xs) (h2 : w.cell? a2 = some (.int .u8 0)) (hi : inB xs) :
    Calls Tryd.prog 49 #[.slice (some a) n c, .slice (some a2) 1 d] w fun e w' => e = .returned (.int .i64 (xs.count 0 : Nat)) ∧ w' = w := by
  have hc := Lib.run_countAt (P := Tryd.prog) w a n c xs hn (fun i hi => hx i (by omega)) 0
  rw [show (0 : Int).toNat.toUInt8 = 0 from rfl, count_bytes hi] at hc
  clear hx hi
  go_enter Tryd.func49, Tryd.ntmps49
  go_wp2
  rw [run_callFunc_extern Tryd.func53 (by kernel_rfl) (by kernel_rfl) (by kernel_rfl) (e := Extern.BytealgCount.count) (by kernel_rfl), hc]
  simp only [Result.andThen]
  go_wp2
  go_ret
  exact ⟨rfl, rfl⟩
theorem count_walk_nil (c d : Nat) (a2 : Addr) (w : World) (h2 : w.cell? a2 = some (.int .u8 0)) :
    Calls Tryd.prog 49 #[.slice none 0 c, .slice (some a2) 1 d] w fun e w' => e = .returned (.int .i64 0) ∧ w' = w := by
  have hc := Lib.run_countNil (P := Tryd.prog) w 0 c 0
  go_enter Tryd.func49, Tryd.ntmps49
  go_wp2
  rw [run_callFunc_extern Tryd.func53 (by kernel_rfl) (by kernel_rfl) (by kernel_rfl) (e := Extern.BytealgCount.count) (by kernel_rfl), hc]
  simp only [Result.andThen]
  go_wp2
  go_ret
  exact ⟨rfl, rfl⟩
theorem indexb_walk (a : Addr) (n c : Nat) (w : World) (r : Int) (hc : (Extern.BytealgIndexByte.indexByte #[.slice (some a) n c, .int .u8 0]).run Tryd.prog w = .ok (.int .i64 r) w) :
    Calls Tryd.prog 54 #[.slice (some a) n c, .int .u8 0] w fun e w' => e = .returned (.int .i64 r) ∧ w' = w := by
  go_enter Tryd.func54, Tryd.ntmps54
  go_wp2
  rw [run_callFunc_extern Tryd.func61 (by kernel_rfl) (by kernel_rfl) (by kernel_rfl) (e := Extern.BytealgIndexByte.indexByte) (by kernel_rfl), hc]
  simp only [Result.andThen]
  go_wp2
  go_ret
  exact ⟨rfl, rfl⟩
set_option maxHeartbeats 4000000 in
set_option maxRecDepth 100000 in
theorem index1_walk (a : Addr) (xs : List Int) (n c d : Nat) (a2 : Addr) (w : World) (r : Int) (hn : xs.length = n) (hx : Sb w a xs) (h2 : w.cell? a2 = some (.int .u8 0)) (hr : Lib.indexByte (Lib.bytesOf xs) 0 = r) :
    Calls Tryd.prog 50 #[.slice (some a) n c, .slice (some a2) 1 d] w fun e w' => e = .returned (.int .i64 r) ∧ w' = w := by
  have hc := Lib.run_indexByteAt w a n c xs hn (fun i hi => hx i (by omega)) 0 (P := Tryd.prog)
  rw [show (0 : Int).toNat.toUInt8 = 0 from rfl, hr] at hc
  have hcon := indexb_walk a n c w r hc
  clear hx hr hc
  go_enter Tryd.func50, Tryd.ntmps50
  go_wp2_with fail
  refine hcon.mono ?_
  rintro e w' ⟨rfl, hw'⟩
  have hw'' := hw'.symm
  subst hw''
  go_wp2
  go_ret
  exact ⟨rfl, rfl⟩

theorem cutF (a : Addr) (n c j : Nat) (hj : j ≤ n) (hc : j < c) (W : World) : (Instr.slice 26 (.slice (some a) n c) (some (.int .i64 (j : Int))) none none).run Tryd.prog W = .ok (.slice (some (a.add j)) (n - j) (c - j)) W := by
  obtain ⟨i, hi_, hz, hsz, hby⟩ := info_parts info5
  have := cut_from (P := Tryd.prog) 26 5 .i64 Tryd.underlying26 hi_ 1 hsz (some a) n c (j : Int) (by omega) (by omega) W
  rw [this, Int.toNat_natCast, if_neg (by omega), Nat.mul_one]
  rfl
theorem cutM (a : Addr) (n c j k : Nat) (hj : j ≤ k) (hk : k ≤ n) (hn : n ≤ c) (hc : j < c) (W : World) : (Instr.slice 26 (.slice (some a) n c) (some (.int .i64 (j : Int))) (some (.int .i64 (k : Int))) none).run Tryd.prog W = .ok (.slice (some (a.add j)) (k - j) (c - j)) W := by
  obtain ⟨i, hi_, hz, hsz, hby⟩ := info_parts info5
  have hel : Tryd.prog.elem 26 = 5 := by simp [Program.elem, Tryd.underlying26]
  have hu : Tryd.prog.underlying 26 = some (.slice (Tryd.prog.elem 26)) := by rw [hel]; exact Tryd.underlying26
  rw [run_slice_lh W 26 (some a) n c hu .i64 .i64 (j : Int) (k : Int) (by omega) (by omega) (by omega), hel]
  simp [sizeOf, typeInfo, hi_, hsz, sliced, Result.andThen]
  omega
theorem below_row {w W : World} {g : Nat} (h : Below w.heap.size w W) (hg : w.heap.size ≤ g) (cs : Array Value) : Below w.heap.size w (W.setRow g cs) :=
  ⟨h.os, h.tape, h.output, by rw [setRow_size]; exact h.size, fun k hk => (setRow_other _ _ _ _ (by omega)).trans (h.block k hk)⟩
theorem wnat (a b : Nat) (h : a + b ≤ 9223372036854775807) : wrap64 ((a : Int) + (b : Int)) = (a : Int) + (b : Int) := by unfold wrap64; omega
theorem row_bytes {W : World} {g base : Nat} {ys : List Int} {cur : Array Value} (hg : W.heap[g]? = some (.cells cur 5 (0, 0))) (hs : cur.size = ys.length) (ht : cur.toList = ys.map (Value.int .u8)) (hb : base ≤ g) (hn : ys.length ≤ maxLen) :
    Kd.R (Kd.int .u8) 5 W base (fun _ => True) (.slice (some ⟨g, 0, none⟩) ys.length ys.length) ys :=
  ⟨fun _ _ => trivial, ys.map (Value.int .u8), ⟨by rw [List.length_map]; exact (Nat.mul_one _).symm, .inr ⟨g, ys.length, cur, rfl, hb, hg, Nat.le_refl _, hn, by rw [hs]; exact (Nat.mul_one _).symm, by
    rw [ht]; exact List.take_of_length_le (by rw [List.length_map]; exact Nat.le_of_eq (Nat.mul_one _).symm)⟩⟩,
   ⟨by rw [List.length_map]; exact (Nat.mul_one _).symm, fun j p hj => by
    have hjl := (List.getElem?_eq_some_iff.1 hj).1
    show ((ys.map (Value.int .u8)).drop (j * 1)).take 1 = [Value.int .u8 p]
    rw [Nat.mul_one, List.drop_eq_getElem_cons (by rw [List.length_map]; exact hjl), List.getElem_map, (List.getElem?_eq_some_iff.1 hj).2]; rfl⟩⟩
theorem size1 : (Tryd.prog.info? 5).map (·.size) = some 1 := by kernel_rfl
theorem add0 (g j : Nat) : (⟨g, 0, none⟩ : Addr).add j = ⟨g, j, none⟩ := by unfold Addr.add; split <;> simp_all
theorem add_add (a : Addr) (j k : Nat) : (a.add j).add k = a.add (j + k) := by
  obtain ⟨b, o, s⟩ := a
  by_cases hj : j = 0 <;> by_cases hk : k = 0 <;> cases s <;> simp [Addr.add, hj, hk, Nat.add_assoc]
set_option maxHeartbeats 4000000 in
set_option maxRecDepth 100000 in
theorem replace_walk (a : Addr) (xs : List Int) (c0 : Nat) (a1 : Addr) (c1 : Nat) (a2 : Addr) (c2 : Nat) (w : World) (hx : Sb w a xs) (hc0 : xs.length ≤ c0) (hc2 : 2 ≤ c2) (h1 : w.cell? a1 = some (.int .u8 0)) (h20 : w.cell? (a2.add 0) = some (.int .u8 0)) (h21 : w.cell? (a2.add 1) = some (.int .u8 255))
    (hi : inB xs) (hN : (repL xs).length < 140737488355328) (hm : xs.count 0 ≠ 0) :
    Calls Tryd.prog 42 #[.slice (some a) xs.length c0, .slice (some a1) 1 c1, .slice (some a2) 2 c2, .int .i64 (-1)] w fun e w' => ∃ v, e = .returned v ∧ Kd.R (Kd.int .u8) 5 w' w.heap.size (fun _ => True) v (repL xs) ∧ Below w.heap.size w w' := by
  obtain ⟨m, hmm⟩ : ∃ m, m = xs.count 0 := ⟨_, rfl⟩
  have hlen : (repL xs).length = xs.length + m := by rw [repL_length, hmm]
  have hcount := count_walk a xs xs.length c0 c1 a1 w rfl hx h1 hi
  rw [← hmm] at hcount
  have hm0 : ((m : Int) == 0) = false := beq_eq_false_iff_ne.2 (by omega)
  have hmk : ∀ W : World, (Instr.makeSlice 26 (.int .i64 (((repL xs).length : Nat) : Int)) (.int .i64 (((repL xs).length : Nat) : Int))).run Tryd.prog W = .ok (.slice (some ⟨W.heap.size, 0, none⟩) (repL xs).length (repL xs).length) (W.alloc (.cells (madeCells #[Value.int .u8 0] (repL xs).length) 5)) := by
    intro W
    obtain ⟨i, hi_, hz, hsz, hby⟩ := info_parts info5
    have := run_make (P := Tryd.prog) W 26 5 i _ Tryd.underlying26 hi_ hz .i64 .i64 (((repL xs).length : Nat) : Int) (((repL xs).length : Nat) : Int) (by omega) (by omega) (by rw [hby]; omega) (by omega)
    rw [hsz, Nat.mul_one] at this
    exact this
  have hw1 : wrap64 (m : Int) = (m : Int) := by unfold wrap64; omega
  have hw2 : wrap64 ((xs.length : Int) + (m : Int)) = (((repL xs).length : Nat) : Int) := by rw [hlen]; unfold wrap64; omega
  have HX := Aside0.mk hx
  have HM := Aside0.mk hm
  have H1 := Aside0.mk h1
  have H20 := Aside0.mk h20
  have H21 := Aside0.mk h21
  have HI := Aside0.mk hi
  have HN := Aside0.mk hN
  have HL := Aside0.mk hlen
  have HMM := Aside0.mk hmm
  clear hx hm h1 h20 h21 hi hN hlen hmm
  go_enter Tryd.func42, Tryd.ntmps42
  go_wp2_with fail
  refine hcount.mono ?_
  rintro e w' ⟨rfl, hw'⟩
  have hw'' := hw'.symm
  subst hw''
  go_upto_region 11 with fail
  obtain ⟨g, hg⟩ : ∃ g, g = w.heap.size := ⟨_, rfl⟩
  rw [← hg]
  have KG : Aside0 (∃ cur : Array Value, (w.alloc (.cells (madeCells #[Value.int .u8 0] (repL xs).length) 5)).heap[g]? = some (.cells cur 5 (0, 0)) ∧ cur.size = (repL xs).length ∧ cur.toList.take ([] : List Int).length = ([] : List Int).map (Value.int .u8)) := ⟨⟨_, at_new _ _ _ hg, size_madeCells _ _, rfl⟩⟩
  have GE : Aside0 (w.heap.size ≤ g) := ⟨by omega⟩
  have HB : Aside0 (Below w.heap.size w (w.alloc (.cells (madeCells #[Value.int .u8 0] (repL xs).length) 5))) := ⟨(Below.refl _ w).alloc (Nat.le_refl _) _⟩
  clear hg
  generalize w.alloc (.cells (madeCells #[Value.int .u8 0] (repL xs).length) 5) = w1 at *
  go_wp2_with fail
  try simp only [hw1, hw2]
  go_loopg [11, 12, 49] m (fun gg s11 s12 s49 wr => ∃ (kk st : Nat) (done : List Int), s11 = .int .i64 ((done.length : Nat) : Int) ∧ s12 = .int .i64 (st : Int) ∧ s49 = .int .i64 (kk : Int) ∧ Aside0 (kk ≤ m) ∧ Aside0 (m - kk ≤ gg) ∧ Aside0 (Below w.heap.size w wr) ∧ Aside0 (st ≤ xs.length) ∧ Aside0 (done = repL (xs.take st)) ∧ Aside0 ((xs.drop st).count 0 = m - kk) ∧
    Aside0 (∃ cur : Array Value, wr.heap[g]? = some (.cells cur 5 (0, 0)) ∧ cur.size = (repL xs).length ∧ cur.toList.take done.length = done.map (Value.int .u8)))
  case atStart => exact ⟨0, 0, [], rfl, rfl, rfl, ⟨Nat.zero_le _⟩, ⟨Nat.le_refl _⟩, HB, ⟨Nat.zero_le _⟩, ⟨rfl⟩, ⟨by rw [List.drop_zero]; have := HMM.out; omega⟩, KG⟩
  case round =>
    clear KG HB
    obtain ⟨kk, st, done, rfl, rfl, rfl, hkk, hgg, HB, hst, hdone, hcnt, KG⟩ := hrel
    by_cases hlt : kk < m
    · have hlt' := Aside0.mk hlt
      have hc1 : ((kk : Int) < (m : Int)) = True := eq_true (by omega)
      have hne : (xs.drop st).count 0 ≠ 0 := by have := hcnt.out; omega
      obtain ⟨p, q, hpq, hp0⟩ := first_zero hne
      have hstlt : st < xs.length := by
        rcases Nat.lt_or_ge st xs.length with h | h
        · exact h
        · rw [List.drop_of_length_le h] at hne; exact absurd rfl hne
      have hplen : xs.length = st + p.length + 1 + q.length := by
        have := congrArg List.length hpq
        simp only [List.length_drop, List.length_append, List.length_cons] at this
        omega
      have htake : xs.take (st + p.length + 1) = xs.take st ++ (p ++ [0]) := by
        rw [Nat.add_assoc, List.take_add, hpq, List.append_cons, show p.length + 1 = (p ++ [(0 : Int)]).length by simp, List.take_left]
      have hdrop : xs.drop (st + p.length + 1) = q := by
        rw [Nat.add_assoc, ← List.drop_drop, hpq, List.append_cons, show p.length + 1 = (p ++ [(0 : Int)]).length by simp, List.drop_left]
      have hrep : repL xs = done ++ p ++ [0, 255] ++ repL q := by
        have e : xs = xs.take (st + p.length + 1) ++ q := by rw [← hdrop, List.take_append_drop]
        rw [e, htake, repL_append, repL_append, repL_append, ← hdone.out, repL_none hp0]
        simp [repL]
      have hN2 : (repL xs).length = done.length + p.length + 2 + (repL q).length := by rw [hrep]; simp; omega
      obtain ⟨cur, hcur, hcs, hct⟩ := KG.out
      have hx := Sb.below HX.out HB.out
      have hNs : (repL xs).length < 140737488355328 := HN.out
      have hLL : (repL xs).length = xs.length + m := HL.out
      have hNd : (repL xs).length = done.length + p.length + 2 + (repL q).length := hN2
      have hcutA := cutF a xs.length c0 st (by omega) (by omega)
      have hcutT := cutF ⟨g, 0, none⟩ (repL xs).length (repL xs).length done.length (by omega) (by omega)
      have hcutS := cutM a xs.length c0 st (st + p.length) (by omega) (by omega) (by omega) (by omega)
      have hcutU := cutF ⟨g, 0, none⟩ (repL xs).length (repL xs).length (done.length + p.length) (by omega) (by omega)
      rw [add0] at hcutT hcutU
      rw [Int.natCast_add] at hcutS hcutU
      rw [show st + p.length - st = p.length by omega] at hcutS
      have hsub : Sb wr (a.add st) (xs.drop st) := fun j hj => by
        rw [add_add, List.length_drop] at *
        rw [hx (st + j) (by omega), List.getD_eq_getElem?_getD, List.getD_eq_getElem?_getD, List.getElem?_drop]
      have hidx := index1_walk (a.add st) (xs.drop st) (xs.length - st) (c0 - st) c1 a1 wr (p.length : Int) (by rw [List.length_drop]) hsub (pw_cell_below HB.out H1.out) (by rw [hpq]; exact index_bytes (by rw [← hpq]; exact fun y hy => HI.out y (List.mem_of_mem_drop hy)) hp0)
      obtain ⟨W2, hW2⟩ : ∃ W2, W2 = wr.drew.setRow g (cur.toList.take done.length ++ p.map (Value.int .u8) ++ cur.toList.drop (done.length + (p.map (Value.int .u8)).length)).toArray := ⟨_, rfl⟩
      have hcp1 := run_copy_row (P := Tryd.prog) wr.drew 26 26 3 5 g done.length ((repL xs).length - done.length) ((repL xs).length - done.length) (a.add st) p.length (c0 - st) cur 5 (p.map (Value.int .u8)) Tryd.underlying26 size1 hcur (by rw [List.length_map]; exact (Nat.min_eq_left (by omega)).symm)
        (fun j v hj => by
          have hjl : j < p.length := by have := (List.getElem?_eq_some_iff.1 hj).1; rwa [List.length_map] at this
          show wr.cell? _ = _
          rw [hsub j (by rw [hpq, List.length_append]; omega), hpq, List.getD_eq_getElem?_getD, List.getElem?_append_left hjl]
          rw [List.getElem?_map] at hj
          rw [← hj, List.getElem?_eq_getElem hjl]; rfl)
        (by rw [List.length_map, hcs]; omega) (by simp [Value.oneCell'])
      rw [← hW2, List.length_map] at hcp1
      obtain ⟨cur2, hcur2⟩ : ∃ c, c = (cur.toList.take done.length ++ p.map (Value.int .u8) ++ cur.toList.drop (done.length + p.length)).toArray := ⟨_, rfl⟩
      rw [List.length_map, ← hcur2] at hW2
      have hg2 : W2.heap[g]? = some (.cells cur2 5 (0, 0)) := by rw [hW2]; exact setRow_heap _ _ _ _ _ _ hcur
      have hcl : cur.toList.length = (repL xs).length := by rw [Array.length_toList, hcs]
      have hcs2 : cur2.size = (repL xs).length := by
        rw [hcur2, List.size_toArray, List.length_append, List.length_append, List.length_take, List.length_map, List.length_drop, hcl]; omega
      have hb2 : Below w.heap.size w W2 := by rw [hW2]; exact below_row HB.out.drew GE.out _
      obtain ⟨cur3, hcur3⟩ : ∃ c, c = (cur2.toList.take (done.length + p.length) ++ [Value.int .u8 0, .int .u8 255] ++ cur2.toList.drop (done.length + p.length + 2)).toArray := ⟨_, rfl⟩
      obtain ⟨W3, hW3⟩ : ∃ W3, W3 = W2.setRow g cur3 := ⟨_, rfl⟩
      have hcp2 := run_copy_row (P := Tryd.prog) W2 26 26 3 5 g (done.length + p.length) ((repL xs).length - (done.length + p.length)) ((repL xs).length - (done.length + p.length)) a2 2 c2 cur2 5 [Value.int .u8 0, .int .u8 255] Tryd.underlying26 size1 hg2 (by show 2 = Nat.min 2 _; exact (Nat.min_eq_left (by omega)).symm)
        (fun j v hj => by
          match j, hj with
          | 0, hj => rw [← hj]; exact pw_cell_below hb2 H20.out
          | 1, hj => rw [← hj]; exact pw_cell_below hb2 H21.out)
        (by rw [hcs2]; show done.length + p.length + 2 ≤ (repL xs).length; omega) (by simp [Value.oneCell'])
      rw [show [Value.int .u8 0, .int .u8 255].length = 2 from rfl, ← hcur3, ← hW3] at hcp2
      have hg3 : W3.heap[g]? = some (.cells cur3 5 (0, 0)) := by rw [hW3]; exact setRow_heap _ _ _ _ _ _ hg2
      have hcl2 : cur2.toList.length = (repL xs).length := by rw [Array.length_toList, hcs2]
      have hcs3 : cur3.size = (repL xs).length := by
        rw [hcur3, List.size_toArray, List.length_append, List.length_append, List.length_take, List.length_drop, hcl2]; simp; omega
      have hb3 : Below w.heap.size w W3 := by rw [hW3]; exact below_row hb2 GE.out _
      have ht2 : cur2.toList.take (done.length + p.length) = (done ++ p).map (Value.int .u8) := by
        rw [hcur2, List.toList_toArray, List.map_append, ← hct]
        exact List.take_left' (by rw [List.length_append, List.length_take, List.length_map, hcl]; omega)
      have ht3 : cur3.toList.take (done ++ p ++ [0, 255]).length = (done ++ p ++ [0, 255]).map (Value.int .u8) := by
        rw [hcur3, List.toList_toArray, List.map_append, ← ht2]
        exact List.take_left' (by rw [List.length_append, List.length_take, hcl2]; simp; omega)
      have hnew : Aside0 (∃ cur : Array Value, W3.heap[g]? = some (.cells cur 5 (0, 0)) ∧ cur.size = (repL xs).length ∧ cur.toList.take (done ++ p ++ [0, 255]).length = (done ++ p ++ [0, 255]).map (Value.int .u8)) := ⟨cur3, hg3, hcs3, ht3⟩
      have HB3 := Aside0.mk hb3
      have hstep : Aside0 (st + p.length + 1 ≤ xs.length ∧ done ++ p ++ [0, 255] = repL (xs.take (st + p.length + 1)) ∧ (xs.drop (st + p.length + 1)).count 0 = m - (kk + 1) ∧ (done ++ p ++ [0, 255]).length = done.length + p.length + 2) := ⟨by
        refine ⟨by omega, ?_, ?_, by simp; omega⟩
        · rw [htake, repL_append, repL_append, repL_none hp0, ← hdone.out, List.append_assoc]; rfl
        · rw [hdrop]; have h := hcnt.out; rw [hpq, List.count_append, List.count_cons_self, List.count_eq_zero.2 (fun h0 => hp0 0 h0 rfl)] at h; omega⟩
      have b1 : st + p.length ≤ 9223372036854775807 := by omega
      have b2 : done.length + p.length ≤ 9223372036854775807 := by omega
      have b3 : done.length + p.length + 2 ≤ 9223372036854775807 := by omega
      have b4 : st + p.length + 1 ≤ 9223372036854775807 := by omega
      have b5 : kk + 1 ≤ 9223372036854775807 := by omega
      have w0 := wnat st p.length b1
      have w2 := wnat done.length p.length b2
      have w3 : wrap64 ((done.length : Int) + (p.length : Int) + 2) = (done.length : Int) + (p.length : Int) + 2 := wnat (done.length + p.length) 2 b3
      have w4 : wrap64 ((st : Int) + (p.length : Int) + 1) = (st : Int) + (p.length : Int) + 1 := wnat (st + p.length) 1 b4
      have w5 : wrap64 ((kk : Int) + 1) = (kk : Int) + 1 := wnat kk 1 b5
      rw [goInt] at hcp1 hcp2
      clear b1 b2 b3 b4 b5 hlt hne hpq hp0 hstlt hplen htake hdrop hrep hN2 hLL hNd hcur hcs hct hx  hNs hsub hW2 hcur2 hg2 hcl hcs2 hb2 hcur3 hW3 hg3 hcl2 hcs3 hb3 ht2 ht3 KG HX HM HI HN HL HMM
      go_wp2_with fail
      refine hidx.mono ?_
      rintro e w' ⟨rfl, hw'⟩
      have hw'' := hw'.symm
      subst hw''
      clear hidx
      go_upto_region 15 with fail
      go_region
      go_wp2
      try simp only [w0, w2, w3, w4, w5]
      go_roundg (m - (kk + 1))
      case measure => have := hlt'.out; have := hgg.out; omega
      case rel =>
        obtain ⟨s1, s2, s3, s4⟩ := hstep.out
        refine ⟨kk + 1, st + p.length + 1, done ++ p ++ [0, 255], ?_, ?_, ?_, ⟨hlt'.out⟩, ⟨Nat.le_refl _⟩, HB3, ⟨s1⟩, ⟨s2⟩, ⟨s3⟩, hnew⟩
        · rw [s4]; simp
        · simp
        · simp
    · have hkm : kk = m := by have := hkk.out; omega
      have hc1 : ((kk : Int) < (m : Int)) = False := eq_false (by omega)
      have hzero : ∀ x ∈ xs.drop st, x ≠ 0 := fun x hx h0 => by
        have := hcnt.out
        rw [hkm, Nat.sub_self] at this
        exact List.count_eq_zero.1 this (h0 ▸ hx)
      have hrep : repL xs = done ++ xs.drop st := by
        have e : xs = xs.take st ++ xs.drop st := (List.take_append_drop st xs).symm
        rw [e, repL_append, ← hdone.out, repL_none hzero, List.take_append_drop]
      have hN2 : (repL xs).length = done.length + (xs.length - st) := by rw [hrep, List.length_append, List.length_drop]
      have hLL := HL.out
      have hNs := HN.out
      obtain ⟨cur, hcur, hcs, hct⟩ := KG.out
      have hst' := hst.out
      have hx := Sb.below HX.out HB.out
      have hcl : cur.toList.length = (repL xs).length := by rw [Array.length_toList, hcs]
      have fin : ∃ (A' T' : Option Addr) (W2 : World), (∀ W, (Instr.slice 26 (.slice (some a) xs.length c0) (some (.int .i64 (st : Int))) none none).run Tryd.prog W = .ok (.slice A' (xs.length - st) (c0 - st)) W) ∧
          (∀ W, (Instr.slice 26 (.slice (some ⟨g, 0, none⟩) (repL xs).length (repL xs).length) (some (.int .i64 (done.length : Int))) none none).run Tryd.prog W = .ok (.slice T' ((repL xs).length - done.length) ((repL xs).length - done.length)) W) ∧
          (Builtin.copy_ #[26, 26] 3 #[.slice T' ((repL xs).length - done.length) ((repL xs).length - done.length), .slice A' (xs.length - st) (c0 - st)]).run Tryd.prog wr.drew = .ok (goInt ((xs.length - st : Nat) : Int)) W2 ∧
          (∃ cur2 : Array Value, W2.heap[g]? = some (.cells cur2 5 (0, 0)) ∧ cur2.size = (repL xs).length ∧ cur2.toList = (repL xs).map (Value.int .u8)) ∧ Below w.heap.size w W2 := by
        rcases Nat.lt_or_ge st xs.length with hs | hs
        · refine ⟨_, _, _, cutF a xs.length c0 st hst' (by omega), cutF ⟨g, 0, none⟩ (repL xs).length (repL xs).length done.length (by omega) (by omega), ?_, ⟨(cur.toList.take done.length ++ (xs.drop st).map (Value.int .u8) ++ cur.toList.drop (done.length + ((xs.drop st).map (Value.int .u8)).length)).toArray, setRow_heap wr.drew g _ _ _ _ hcur, ?_, ?_⟩, below_row HB.out.drew GE.out _⟩
          · rw [add0]
            have := run_copy_row (P := Tryd.prog) wr.drew 26 26 3 5 g done.length ((repL xs).length - done.length) ((repL xs).length - done.length) (a.add st) (xs.length - st) (c0 - st) cur 5 ((xs.drop st).map (Value.int .u8)) Tryd.underlying26 size1 hcur
              (by rw [List.length_map, List.length_drop]; exact (Nat.min_eq_left (by omega)).symm)
              (fun j v hj => by
                have hjl : j < (xs.drop st).length := by have := (List.getElem?_eq_some_iff.1 hj).1; rwa [List.length_map] at this
                rw [List.length_drop] at hjl
                show wr.cell? _ = _
                rw [add_add, hx (st + j) (by omega), ← hj, List.getElem?_map, List.getElem?_drop, List.getD_eq_getElem?_getD, List.getElem?_eq_getElem (show st + j < xs.length by omega)]; rfl)
              (by rw [List.length_map, List.length_drop, hcs]; omega) (fun v hv => by obtain ⟨x, _, rfl⟩ := List.mem_map.1 hv; rfl)
            rw [this, List.length_map, List.length_drop]
          · rw [List.size_toArray, List.length_append, List.length_append, List.length_take, List.length_map, List.length_drop, List.length_drop, hcl]; omega
          · have hz : cur.toList.drop (done.length + ((xs.drop st).map (Value.int .u8)).length) = [] := List.drop_of_length_le (by rw [List.length_map, List.length_drop, hcl]; omega)
            rw [List.toList_toArray, hct, hz, List.append_nil, ← List.map_append, ← hrep]
        · obtain ⟨i, hi_, hz, hsz, hby⟩ := info_parts info5
          have e0 : xs.length - st = 0 := by omega
          have e1 : (repL xs).length - done.length = 0 := by omega
          have f1 := fun W => cut_from (P := Tryd.prog) 26 5 .i64 Tryd.underlying26 hi_ 1 hsz (some a) xs.length c0 (st : Int) (by omega) (by omega) W
          have f2 := fun W => cut_from (P := Tryd.prog) 26 5 .i64 Tryd.underlying26 hi_ 1 hsz (some ⟨g, 0, none⟩) (repL xs).length (repL xs).length (done.length : Int) (by omega) (by omega) W
          simp only [Int.toNat_natCast] at f1 f2
          refine ⟨_, _, wr.drew, f1, f2, ?_, ⟨cur, hcur, hcs, ?_⟩, HB.out.drew⟩
          · rw [e0, e1]
            exact run_copy_none wr.drew 26 26 3 5 _ _ _ _ _ _ Tryd.underlying26 size1 rfl
          · have : done = repL xs := by rw [hrep, List.drop_of_length_le hs, List.append_nil]
            rw [← this, ← hct, this, List.take_of_length_le (by omega)]
      obtain ⟨A', T', W2, hcutS, hcutT, hcp, hfin, hb2⟩ := fin
      have HF := Aside0.mk hfin
      have HB2 := Aside0.mk hb2
      have hpos : 0 < (repL xs).length := by have := HMM.out; have := HM.out; omega
      have hcutE := cutM ⟨g, 0, none⟩ (repL xs).length (repL xs).length 0 (repL xs).length (by omega) (by omega) (by omega) hpos
      rw [add0, Nat.sub_zero] at hcutE
      have e5 : done.length + (xs.length - st) = (repL xs).length := by omega
      have w6 : wrap64 ((done.length : Int) + ((xs.length - st : Nat) : Int)) = (((repL xs).length : Nat) : Int) := by
        rw [wnat done.length (xs.length - st) (by omega), ← Int.natCast_add, e5]
      rw [goInt] at hcp
      generalize (xs.length - st) = rl at hcutS hcp w6
      clear hkm hzero hrep hN2 hLL hNs hcur hcs hct hst' hx hcl hfin hb2 hpos e5 hlt KG HX HM HI HL HMM hcnt hdone
      go_upto_region 28 with fail
      go_region
      go_wp2
      try simp only [w6]
      go_ret
      obtain ⟨cur2, g2, s2, t2⟩ := HF.out
      exact ⟨_, rfl, row_bytes g2 s2 t2 GE.out (Nat.le_trans (Nat.le_of_lt HN.out) (by decide)), HB2.out⟩
set_option maxHeartbeats 4000000 in
set_option maxRecDepth 100000 in
theorem replace_none (A : Option Addr) (xs : List Int) (c0 : Nat) (a1 : Addr) (c1 : Nat) (A2 : Option Addr) (c2 : Nat) (w : World) (hr : Kd.C (Kd.int .u8) w A xs.length xs) (hc0 : xs.length ≤ c0) (hN : xs.length < 140737488355328)
    (hcount : Calls Tryd.prog 49 #[.slice A xs.length c0, .slice (some a1) 1 c1] w fun e w' => e = .returned (.int .i64 0) ∧ w' = w) :
    Calls Tryd.prog 42 #[.slice A xs.length c0, .slice (some a1) 1 c1, .slice A2 2 c2, .int .i64 (-1)] w fun e w' => ∃ v, e = .returned v ∧ Kd.R (Kd.int .u8) 5 w' w.heap.size (fun _ => True) v xs ∧ Below w.heap.size w w' := by
  have HR := Aside0.mk hr
  have HN := Aside0.mk hN
  clear hr hN
  go_enter Tryd.func42, Tryd.ntmps42
  go_wp2_with fail
  refine hcount.mono ?_
  rintro e w' ⟨rfl, hw'⟩
  have hw'' := hw'.symm
  subst hw''
  go_wp2_with (first | ((with_reducible refine gate_builtin (b := .append) (xs := #[.const (.slice none 0 0), .tmp 24]) rfl ?_); at_builtin; refine Kd.R_append_rows (Kd.int .u8) (w0 := w) w.heap.size rfl (.const (.slice none 0 0)) (.tmp 24) 26 5 (.int .u8 0) 1 rfl Tryd.underlying26 info5 rfl (by decide) (by omega) (.slice none 0 0) ([] : List Int) xs _ _ _ (fun _ => True) (fun _ => False) rfl rfl ?aO ?aR (fun _ _ h => h) (fun _ h => h.elim) ?aF ?aB ?aS ?aL ?_; (case aR => exact HR.out); (case aB => exact Below.refl _ _); (case aF => exact fun _ _ => trivial); (case aO => exact Kd.R_nil _ _ _ _ _); (case aS => exact Nat.le_refl _); (case aL => have := HN.out; simp; omega); intro v121 w24 ho hb hg hat; have HO := Aside0.mk ho; have HB := Aside0.mk hb; clear ho hb hg hat))
  go_ret
  exact ⟨_, rfl, HO.out, HB.out⟩
theorem C_bytes {w : World} {A : Option Addr} {n : Nat} {xs : List Int} (h : Kd.C (Kd.int .u8) w A n xs) (h0 : 0 < n) : ∃ a, A = some a ∧ Sb w a xs := by
  obtain ⟨a, e, hc⟩ := h.2.2 h0
  refine ⟨a, e, fun j hj => ?_⟩
  obtain ⟨c, hl, hk, hcell⟩ := hc j _ (List.getElem?_eq_getElem hj)
  have hk' : c = [Value.int .u8 xs[j]] := hk
  subst hk'
  have := hcell 0 _ rfl
  have e1 : j * (Kd.int .u8).sz + 0 = j := Nat.mul_one j
  rw [e1] at this
  rw [this, List.getD_eq_getElem?_getD, List.getElem?_eq_getElem hj]; rfl
def bytes_ReplaceRow.f (l0 : List Int) (l1 : List Int) (l2 : List Int) : Option (List Int) := if l1 = [0] ∧ l2 = [0, 255] ∧ (∀ x ∈ l0, 0 ≤ x ∧ x < 256) ∧ (repL l0).length < 140737488355328 then some (repL l0) else none
theorem bytes_ReplaceRow.calls (A0 : Option Addr) (c0 : Nat) (l0 : List Int) (A1 : Option Addr) (c1 : Nat) (l1 : List Int) (A2 : Option Addr) (c2 : Nat) (l2 : List Int) (r : List Int) (w : World)
    (hr0 : Kd.C (Kd.int .u8) w A0 l0.length l0) (hc0 : l0.length ≤ c0) (hr1 : Kd.C (Kd.int .u8) w A1 l1.length l1) (hc1 : l1.length ≤ c1) (hr2 : Kd.C (Kd.int .u8) w A2 l2.length l2) (hc2 : l2.length ≤ c2) (h : bytes_ReplaceRow.f l0 l1 l2 = some r) :
    Calls Tryd.prog 30 #[.slice A0 l0.length c0, .slice A1 l1.length c1, .slice A2 l2.length c2] w fun e w' => ∃ v0_ : Value, e = .returned (v0_) ∧ Kd.R (Kd.int .u8) 5 w' w.heap.size (fun _ => True) v0_ r ∧ Below w.heap.size w w' := by
  unfold bytes_ReplaceRow.f at h
  split at h
  · rename_i hh
    obtain ⟨rfl, rfl, hi, hN⟩ := hh
    have hrr := Option.some.inj h
    subst hrr
    obtain ⟨a1, rfl, h1⟩ := C_bytes hr1 (Nat.zero_lt_one)
    obtain ⟨a2, rfl, h2⟩ := C_bytes hr2 (Nat.zero_lt_succ 1)
    have h10 : w.cell? a1 = some (.int .u8 0) := (by have := h1 0 Nat.zero_lt_one; rwa [show a1.add 0 = a1 by simp [Addr.add]] at this)
    have main : Calls Tryd.prog 42 #[.slice A0 l0.length c0, .slice (some a1) 1 c1, .slice (some a2) 2 c2, .int .i64 (-1)] w fun e w' => ∃ v, e = .returned v ∧ Kd.R (Kd.int .u8) 5 w' w.heap.size (fun _ => True) v (repL l0) ∧ Below w.heap.size w w' := by
      by_cases hm : l0.count 0 = 0
      · have e0 : repL l0 = l0 := repL_none fun x hx h0 => List.count_eq_zero.1 hm (h0 ▸ hx)
        rw [e0]
        rw [e0] at hN
        refine replace_none A0 l0 c0 a1 c1 (some a2) c2 w hr0 hc0 hN ?_
        cases A0 with
        | none =>
          have hl : l0.length = 0 := by
            rcases Nat.eq_zero_or_pos l0.length with h' | h'
            · exact h'
            · obtain ⟨a, ea, _⟩ := C_bytes hr0 h'; cases ea
          rw [hl]
          exact count_walk_nil c0 c1 a1 w h10
        | some a =>
          have hx : Sb w a l0 := by
            rcases Nat.eq_zero_or_pos l0.length with h' | h'
            · intro j hj; omega
            · obtain ⟨a', ea, hx⟩ := C_bytes hr0 h'; cases ea; exact hx
          have := count_walk a l0 l0.length c0 c1 a1 w rfl hx h10 hi
          rwa [hm] at this
      · have hp : 0 < l0.length := by
          rcases Nat.eq_zero_or_pos l0.length with h' | h'
          · exact absurd (by rw [List.length_eq_zero_iff.1 h']; rfl) hm
          · exact h'
        obtain ⟨a, rfl, hx⟩ := C_bytes hr0 hp
        exact replace_walk a l0 c0 a1 c1 a2 c2 w hx hc0 hc2 h10 (h2 0 (by decide)) (h2 1 (by decide)) hi hN hm
    go_enter Tryd.func30, Tryd.ntmps30
    go_wp2_with fail
    refine main.mono ?_
    rintro e w' ⟨v, rfl, hR, hb⟩
    have HR := Aside0.mk hR
    have HB := Aside0.mk hb
    clear hR hb main hr0 hc0 hr1 hr2 h1 h2 h10 hi hN
    go_wp2
    go_ret
    exact ⟨_, rfl, HR.out, HB.out⟩
  · cases h

/-- a string's bytes, as numbers -/
def numsOf (s : ByteArray) : List Int := s.data.toList.map fun c => ((c.toNat : Nat) : Int)
def bytes_ReplaceAll.f (s : ByteArray) : Option (List Int) := if (repL (numsOf s)).length < 140737488355328 then some (repL (numsOf s)) else none
theorem zeros_calls (s : ByteArray) (t : List Int) (w : World) (h : bytes_ReplaceAll.f s = some t) :
    Calls Tryd.prog 30 #[.slice (some ⟨w.heap.size, 0, none⟩) s.size (grownCap w s.size 0 5), .slice (some ⟨(Lib.bytesWorld w 5 s).heap.size, 0, none⟩) 1 1, .slice (some ⟨(Lib.bytesWorld w 5 s).heap.size + 1, 0, none⟩) 2 2] (((Lib.bytesWorld w 5 s).alloc (.cells #[.int .u8 0] 5)).alloc (.cells #[.int .u8 0, .int .u8 255] 5)) fun e w' => ∃ v0_ : Value, e = .returned (v0_) ∧ Kd.R (Kd.int .u8) 5 w' w.heap.size (fun _ => True) v0_ t ∧ Below w.heap.size w w' := by
  have hs := Lib.bytesWorld_size w 5 s
  rw [hs]
  have hb0 : Below w.heap.size w (Lib.bytesWorld w 5 s) := ⟨rfl, rfl, rfl, by rw [hs]; omega, fun k hk => Lib.bytesWorld_at_old w 5 s k hk⟩
  have hlen : (numsOf s).length = s.size := by unfold numsOf; rw [List.length_map, Array.length_toList]; rfl
  have hx : Sb (Lib.bytesWorld w 5 s) ⟨w.heap.size, 0, none⟩ (numsOf s) := fun j hj => by
    rw [hlen] at hj
    rw [add0, Lib.bytesWorld_cell w 5 s j hj]
    unfold numsOf
    have hl : j < s.data.toList.length := by rw [Array.length_toList]; exact hj
    rw [List.getD_eq_getElem?_getD, List.getD_eq_getElem?_getD, List.getElem?_map, List.getElem?_eq_getElem hl]; rfl
  have e2 : ((Lib.bytesWorld w 5 s).alloc (.cells #[.int .u8 0] 5)).heap.size = w.heap.size + 1 + 1 := by simp [hs]
  have hb1 : Below w.heap.size w (((Lib.bytesWorld w 5 s).alloc (.cells #[.int .u8 0] 5)).alloc (.cells #[.int .u8 0, .int .u8 255] 5)) := (hb0.alloc hb0.size _).alloc (by rw [e2]; omega) _
  unfold bytes_ReplaceAll.f at h
  split at h
  · rename_i hN
    have ht := Option.some.inj h
    subst ht
    have hle : (numsOf s).length ≤ 140737488355328 := by rw [repL_length] at hN; omega
    have hi : ∀ x ∈ numsOf s, 0 ≤ x ∧ x < 256 := fun x hx => by
      unfold numsOf at hx
      obtain ⟨c, _, rfl⟩ := List.mem_map.1 hx
      have := c.toNat_lt
      omega
    have r0 : Kd.C (Kd.int .u8) (Lib.bytesWorld w 5 s) (some ⟨w.heap.size, 0, none⟩) (numsOf s).length (numsOf s) := by
      refine ⟨rfl, by omega, fun _ => ⟨_, rfl, fun j p hj => ⟨[Value.int .u8 p], rfl, rfl, fun i u hi => ?_⟩⟩⟩
      have hjl := (List.getElem?_eq_some_iff.1 hj).1
      match i, hi with
      | 0, hi =>
        have hu := Option.some.inj hi
        subst hu
        have e : j * (Kd.int .u8).sz + 0 = j := Nat.mul_one j
        rw [e, hx j hjl, List.getD_eq_getElem?_getD, hj]; rfl
    have r1 : Kd.C (Kd.int .u8) ((Lib.bytesWorld w 5 s).alloc (.cells #[.int .u8 0] 5)) (some ⟨w.heap.size + 1, 0, none⟩) 1 [0] := C_block (t := 5) (cs := #[.int .u8 0]) (at_new _ _ _ hs.symm) rfl (show 1 ≤ 9223372036854775807 by decide)
    have r2 : Kd.C (Kd.int .u8) (((Lib.bytesWorld w 5 s).alloc (.cells #[.int .u8 0] 5)).alloc (.cells #[.int .u8 0, .int .u8 255] 5)) (some ⟨w.heap.size + 1 + 1, 0, none⟩) 2 [0, 255] := C_block (t := 5) (cs := #[.int .u8 0, .int .u8 255]) (at_new _ _ _ e2.symm) rfl (show 2 ≤ 9223372036854775807 by decide)
    have main := bytes_ReplaceRow.calls (some ⟨w.heap.size, 0, none⟩) (grownCap w s.size 0 5) (numsOf s) (some ⟨w.heap.size + 1, 0, none⟩) 1 [0] (some ⟨w.heap.size + 1 + 1, 0, none⟩) 2 [0, 255] (repL (numsOf s)) _ (Kd.C_alloc (Kd.C_alloc r0 _) _) (by rw [hlen]; exact grownCap_ge w s.size 0 5) (Kd.C_alloc r1 _) (Nat.le_refl _) r2 (Nat.le_refl _) (by unfold bytes_ReplaceRow.f; rw [if_pos ⟨rfl, rfl, hi, hN⟩])
    rw [hlen] at main
    refine main.mono ?_
    rintro e w' ⟨v, rfl, hR, hb⟩
    exact ⟨v, rfl, Kd.R_lower hR hb1.size, below_step hb1 hb⟩
  · cases h

/-! ### code_Key: function 13 -/
def code_Key.l0 : Nat → List Int → List (S43) → Int → Int → Option (List Int × Int)
  | 0, _, _, _, _ => none
  | k + 1, x5, x14, x15, x16 => if x16 < x15 then (if 0 ≤ x16 then (if x16 < (x14.length : Int) then (if x5.length < 140737488355328 then ((some (x5 ++ [((rd_T43 x14 x16).f0) % 256] : List Int)).bind fun y153 => (if ((rd_T43 x14 x16).f0) = 1 then (if y153.length < 140737488355328 then (code_Key.l0 k (y153 ++ [((rd_T43 x14 x16).f1) % 256]) x14 x15 (wrap64 (x16 + 1))) else (none)) else (if ((rd_T43 x14 x16).f0) = 2 then ((code_laid.f (Go.bits .xor .u64 (IntKind.u64.wrap ((rd_T43 x14 x16).f1)) 9223372036854775808)).bind fun t159 => (if y153.length + t159.length < 140737488355328 then (code_Key.l0 k (y153 ++ t159) x14 x15 (wrap64 (x16 + 1))) else (none))) else (if ((rd_T43 x14 x16).f0) = 3 then ((bytes_ReplaceAll.f ((rd_T43 x14 x16).f2)).bind fun t165 => (if y153.length + t165.length < 140737488355328 then ((some (y153 ++ t165 : List Int)).bind fun y168 => ((some (([0, 0] : List Int) : List Int)).bind fun y171 => (if y168.length + y171.length < 140737488355328 then (code_Key.l0 k (y168 ++ y171) x14 x15 (wrap64 (x16 + 1))) else (none)))) else (none))) else (if ((rd_T43 x14 x16).f0) = 4 then ((bytes_ReplaceAll.f ((rd_T43 x14 x16).f2)).bind fun t177 => (if y153.length + t177.length < 140737488355328 then ((some (y153 ++ t177 : List Int)).bind fun y180 => ((some (([0, 0] : List Int) : List Int)).bind fun y183 => (if y180.length + y183.length < 140737488355328 then (code_Key.l0 k (y180 ++ y183) x14 x15 (wrap64 (x16 + 1))) else (none)))) else (none))) else (code_Key.l0 k y153 x14 x15 (wrap64 (x16 + 1)))))))) else (none)) else (none)) else (none)) else (some (x5, 0))
def code_Key.f (k : Nat) (l0 : List (S43)) : Option (List Int × Int) := (value_CheckRow.f l0).bind fun t150 => (if t150 = 0 then (code_Key.l0 k ([] : List Int) l0 (l0.length : Int) 0) else (some (([] : List Int), t150)))
theorem code_Key.mono_l : ∀ k, (∀ y0 y1 y2 y3, LeO (code_Key.l0 k y0 y1 y2 y3) (code_Key.l0 (k + 1) y0 y1 y2 y3))
  | 0 => fun _ _ _ _ r h => by simp [code_Key.l0] at h
  | k + 1 => by
    have ih0 := code_Key.mono_l k
    · intro y0 y1 y2 y3
      unfold code_Key.l0
      repeat' first
      | (with_reducible exact ih0 _ _ _ _)
      | (with_reducible exact LeO.refl _)
      | (with_reducible exact LeO.none _)
      | (with_reducible refine LeO.ite ?_ ?_)
      | (with_reducible refine LeO.bind ?_ (fun _ => ?_))
      | exact ih0 _ _ _ _
      | exact LeO.none _
      | refine LeO.ite ?_ ?_
      | refine LeO.bind ?_ (fun _ => ?_)
theorem code_Key.mono : ∀ a0 k, LeO (code_Key.f k a0) (code_Key.f (k + 1) a0) := by
  intro a0 k
  have ih0 := code_Key.mono_l k
  unfold code_Key.f
  repeat' first
      | (with_reducible exact ih0 _ _ _ _)
      | (with_reducible exact LeO.refl _)
      | (with_reducible exact LeO.none _)
      | (with_reducible refine LeO.ite ?_ ?_)
      | (with_reducible refine LeO.bind ?_ (fun _ => ?_))
      | exact ih0 _ _ _ _
      | exact LeO.none _
      | refine LeO.ite ?_ ?_
      | refine LeO.bind ?_ (fun _ => ?_)
set_option maxHeartbeats 8000000 in
set_option maxRecDepth 100000 in
theorem code_Key.calls (k : Nat) (A0 : Option Addr) (c0 : Nat) (l0 : List (S43)) (r1 : List Int) (r2 : Int) (w : World) (hr0 : Kd.C k43 w A0 l0.length l0) (hc0 : l0.length ≤ c0) (h : code_Key.f k l0 = some (r1, r2)) :
    Calls Tryd.prog 13 #[.slice A0 l0.length c0] w fun e w' => ∃ v0_ : Value, e = .returned (.tuple #[v0_, .int .i64 r2]) ∧ Kd.R (Kd.int .u8) 5 w' w.heap.size (fun _ => True) v0_ r1 ∧ Below w.heap.size w w' := by
  have hu43 := Tryd.underlying43
  have HR0 := Aside0.mk hr0
  have HC0 := Aside0.mk hc0
  clear hr0 hc0
  have HB := Aside0.mk (Below.refl w.heap.size w)
  have H : ((value_CheckRow.f l0).bind fun t150 => (if t150 = 0 then (code_Key.l0 k ([] : List Int) l0 (l0.length : Int) 0) else (some (([] : List Int), t150)))) = some (r1, r2) := h
  clear h
  replace H := Option.bind_eq_some_iff.mp H
  obtain ⟨t150, A20, H⟩ := H
  replace H : (if t150 = 0 then (code_Key.l0 k ([] : List Int) l0 (l0.length : Int) 0) else (some (([] : List Int), t150))) = some (r1, r2) := H
  have A2 := Aside0.mk A20
  clear A20
  by_cases c3 : t150 = 0
  · rw [if_pos c3] at H
    have c3b0 : (t150 == 0) = true := beq_iff_eq.mpr c3
    have c3b1 : (t150 != 0) = false := bne_eq_false_iff_eq.mpr c3
    clear c3
    have H' := Aside0.mk H
    clear H
    go_enter Tryd.func13, Tryd.ntmps13
    go_wp2_with (first | ((with_reducible refine gate_callee (f := 26) rfl ?_); refine goesL_ (some 10) rfl rfl Tryd.func26 (by kernel_rfl) rfl #[.slice A0 l0.length c0] rfl (by (try simp only [List.map_toArray, List.map_cons, List.map_nil]); first | done | rfl | (simp only [List.length_drop, List.length_take]; rfl)) ?_; (with_reducible refine (value_CheckRow.calls _ _ l0 t150 _ ?side1 ?side2 A2.out).mono ?_); (case side1 => repeat (first | exact HR0.out | (with_reducible refine Kd.C_alloc ?_ _) | (with_reducible refine Kd.C_drewN ?_ _) | (with_reducible refine Kd.C_drew ?_))); (case side2 => exact HC0.out); rintro e w4 ⟨rfl, hb⟩; refine ⟨_, rfl, ?_⟩; have n0_ := Aside0.mk (below_step (by repeat (first | (with_reducible first | exact HB.out | apply below_alloc | apply pw_below_drewN | apply below_drew1) | exact HB.out)) hb); clear HB; have HB := n0_; clear n0_; (try clear hb); (try clear hb2); (try clear hk); (try clear hi)))
    go_loopg [5, 16] k (fun kq v5 v16 w' => ∃ (x5_1 : List Int) (x16_1 : Int), v16 = .int .i64 x16_1 ∧ Aside0 (code_Key.l0 kq x5_1 l0 (l0.length : Int) x16_1 = some (r1, r2)) ∧ Aside0 (kq ≤ k) ∧ Aside0 (Kd.R (Kd.int .u8) 5 w' w.heap.size (fun _ => True) v5 x5_1) ∧ Aside0 (Below w.heap.size w w'))
    case atStart => exact ⟨(([] : List Int)), (0), (by first | rfl | (simp; done) | (simp [*]; done) | (simp; first | exact Go.Proofs.YtbojfgjdpfobaaaDoor.Pre.ne1 _ | exact Go.Proofs.YtbojfgjdpfobaaaDoor.Pre.ne2 _ | exact Go.Proofs.YtbojfgjdpfobaaaDoor.Pre.ne3 _ | exact Go.Proofs.YtbojfgjdpfobaaaDoor.Pre.ne4 _ | exact Go.Proofs.YtbojfgjdpfobaaaDoor.Pre.ne5 _ | exact Go.Proofs.YtbojfgjdpfobaaaDoor.Pre.ne6 _)), H', ⟨Nat.le_refl _⟩, ⟨by first | exact Kd.R_nil _ _ _ _ _ | exact Kd.N_nil _ _ _ _ _ | exact Kd.V_nil _ _ _ _ _ | exact Kd.Q_nil _ _ _ _ _ | exact Kd.S_nil _ _ _ _ _⟩, ⟨by repeat (first | (with_reducible first | exact HB.out | apply below_alloc | apply pw_below_drewN | apply below_drew1) | exact HB.out)⟩⟩
    case round =>
      clear H'
      try clear c1
      try clear c2
      try clear p2
      try clear c3
      try clear c3b0
      try clear c3b1
      obtain ⟨x5_1, x16_1, rfl, HA, HK1, HO_5, HB⟩ := hrel
      cases gk with
      | zero => exact absurd HA.out (by simp [code_Key.l0])
      | succ k1 =>
        have H := HA.out
        clear HA
        simp only [code_Key.l0] at H
        by_cases c5 : x16_1 < (l0.length : Int)
        · rw [if_pos c5] at H
          have c5b0 : decide (x16_1 < (l0.length : Int)) = true := decide_eq_true c5
          clear c5
          by_cases c6 : 0 ≤ x16_1
          · rw [if_pos c6] at H
            have c6b0 : decide (0 ≤ x16_1) = true := decide_eq_true c6
            clear c6
            by_cases c7 : x16_1 < (l0.length : Int)
            · rw [if_pos c7] at H
              have c7b0 : decide (x16_1 < (l0.length : Int)) = true := decide_eq_true c7
              clear c7
              by_cases c8 : x5_1.length < 140737488355328
              · rw [if_pos c8] at H
                have LMc8 := Aside0.mk c8
                clear c8
                obtain ⟨y153, hy153⟩ : ∃ y_ : List Int, y_ = (x5_1 ++ [((rd_T43 l0 x16_1).f0) % 256]) := ⟨_, rfl⟩
                replace H : (if ((rd_T43 l0 x16_1).f0) = 1 then (if y153.length < 140737488355328 then (code_Key.l0 k1 (y153 ++ [((rd_T43 l0 x16_1).f1) % 256]) l0 (l0.length : Int) (wrap64 (x16_1 + 1))) else (none)) else (if ((rd_T43 l0 x16_1).f0) = 2 then ((code_laid.f (Go.bits .xor .u64 (IntKind.u64.wrap ((rd_T43 l0 x16_1).f1)) 9223372036854775808)).bind fun t159 => (if y153.length + t159.length < 140737488355328 then (code_Key.l0 k1 (y153 ++ t159) l0 (l0.length : Int) (wrap64 (x16_1 + 1))) else (none))) else (if ((rd_T43 l0 x16_1).f0) = 3 then ((bytes_ReplaceAll.f ((rd_T43 l0 x16_1).f2)).bind fun t165 => (if y153.length + t165.length < 140737488355328 then ((some (y153 ++ t165 : List Int)).bind fun y168 => ((some (([0, 0] : List Int) : List Int)).bind fun y171 => (if y168.length + y171.length < 140737488355328 then (code_Key.l0 k1 (y168 ++ y171) l0 (l0.length : Int) (wrap64 (x16_1 + 1))) else (none)))) else (none))) else (if ((rd_T43 l0 x16_1).f0) = 4 then ((bytes_ReplaceAll.f ((rd_T43 l0 x16_1).f2)).bind fun t177 => (if y153.length + t177.length < 140737488355328 then ((some (y153 ++ t177 : List Int)).bind fun y180 => ((some (([0, 0] : List Int) : List Int)).bind fun y183 => (if y180.length + y183.length < 140737488355328 then (code_Key.l0 k1 (y180 ++ y183) l0 (l0.length : Int) (wrap64 (x16_1 + 1))) else (none)))) else (none))) else (code_Key.l0 k1 y153 l0 (l0.length : Int) (wrap64 (x16_1 + 1))))))) = some (r1, r2) := by first | (rw [hy153]; with_reducible exact H) | (have H2_ := (Option.bind_some _ _).symm.trans H; rw [hy153]; with_reducible exact H2_) | (have H2_ := (Option.bind_some _ _).symm.trans H; with_reducible exact H2_) | with_reducible exact H | (rw [hy153]; exact H) | exact H
                have Ny153 := Aside0.mk hy153
                clear hy153
                by_cases c9 : ((rd_T43 l0 x16_1).f0) = 1
                · rw [if_pos c9] at H
                  have c9b0 : (((rd_T43 l0 x16_1).f0) == 1) = true := beq_iff_eq.mpr c9
                  have c9b1 : (((rd_T43 l0 x16_1).f0) != 1) = false := bne_eq_false_iff_eq.mpr c9
                  clear c9
                  by_cases c10 : y153.length < 140737488355328
                  · rw [if_pos c10] at H
                    have LMc10 := Aside0.mk c10
                    clear c10
                    obtain ⟨y156, hy156⟩ : ∃ y_ : List Int, y_ = (y153 ++ [((rd_T43 l0 x16_1).f1) % 256]) := ⟨_, rfl⟩
                    replace H : (code_Key.l0 k1 y156 l0 (l0.length : Int) (wrap64 (x16_1 + 1))) = some (r1, r2) := by first | (rw [hy156]; with_reducible exact H) | (have H2_ := (Option.bind_some _ _).symm.trans H; rw [hy156]; with_reducible exact H2_) | (have H2_ := (Option.bind_some _ _).symm.trans H; with_reducible exact H2_) | with_reducible exact H | (rw [hy156]; exact H) | exact H
                    have Ny156 := Aside0.mk hy156
                    clear hy156
                    have H' := Aside0.mk H
                    clear H
                    have p151 : 0 ≤ (x16_1 : Int) := of_decide_eq_true (by first | (with_reducible assumption) | assumption)
                    have q151 : x16_1 < (l0.length : Int) := of_decide_eq_true (by first | (with_reducible assumption) | assumption)
                    obtain ⟨ad151, e151, hx151_0, hx151_1, hx151_2⟩ := at_T43 HR0.out x16_1 p151 q151
                    cases e151
                    replace hx151_0 := (HB.out.cell (World.block_lt_of_cell? w _ hx151_0)).trans hx151_0
                    replace hx151_1 := (HB.out.cell (World.block_lt_of_cell? w _ hx151_1)).trans hx151_1
                    replace hx151_2 := (HB.out.cell (World.block_lt_of_cell? w _ hx151_2)).trans hx151_2
                    replace p151 := eq_true p151
                    replace q151 := eq_true q151
                    go_wp2_with (first | ((with_reducible refine gate_dst (N := 7) rfl ?_); refine box_event ?hg (N := 7) ?hd (cs := #[.int .i64 0, .int .i64 0, .string (⟨#[]⟩ : ByteArray)]) (t := 43) ?hr ?_; (case hd => rfl); (case hg => rfl); (case hr => first | (go_simp; done) | (go_simp; rfl)); intro gb152 hg w11 hbox hb; have n0_ := Aside0.mk (Kd.R_below (by (with_reducible repeat (first | apply Kd.R_alloc | apply Kd.R_drewN | apply Kd.R_drew)); exact HO_5.out) hb); have n1_ := Aside0.mk (below_step (by repeat (first | (with_reducible first | exact HB.out | apply below_alloc | apply pw_below_drewN | apply below_drew1) | exact HB.out)) hb); have n2_ := Aside0.mk (hbox); have n3_ := Aside0.mk ((by rw [hg]; exact (below_size (by repeat (first | (with_reducible first | exact HB.out | apply below_alloc | apply pw_below_drewN | apply below_drew1) | exact HB.out))) : w.heap.size ≤ gb152)); have n4_ := Aside0.mk ((by rw [hg]; exact (below_size (by repeat (first | (with_reducible first | exact HB.out | apply below_alloc | apply pw_below_drewN | apply below_drew1) | exact HB.out))) : w.heap.size ≤ gb152)); clear HO_5; clear HB; have HO_5 := n0_; have HB := n1_; have BK152 := n2_; have GW152 := n3_; have GE152 := n4_; clear n0_ n1_ n2_ n3_ n4_; clear hb hbox hg; have hcz12_0 : w11.cell? ⟨gb152, 0, none⟩ = some (.int .i64 0) := (blk_cell BK152.out 0).trans rfl; have hcz12_1 : w11.cell? ⟨gb152, 1, none⟩ = some (.int .i64 0) := (blk_cell BK152.out 1).trans rfl; have hcz12_2 : w11.cell? ⟨gb152, 2, none⟩ = some (.string (⟨#[]⟩ : ByteArray)) := (blk_cell BK152.out 2).trans rfl; have hfz12_0 := blk_frozen BK152.out 0; have hfz12_1 := blk_frozen BK152.out 1; have hfz12_2 := blk_frozen BK152.out 2) | ((with_reducible refine gate_builtin (b := .append) (xs := #[.tmp 20, .tmp 24]) rfl ?_); at_builtin; refine Kd.R_append (Kd.int .u8) (w0 := w) w.heap.size rfl (.tmp 20) (.tmp 24) 26 5 (.int .u8 0) 1 rfl Tryd.underlying26 info5 rfl (by decide) (by omega) u5 x5_1 (((rd_T43 l0 x16_1).f0) % 256) [.int .u8 (((rd_T43 l0 x16_1).f0) % 256)] (fun _ => True) (fun _ => False) rfl (by first | (go_simp; done) | (go_simp; rfl)) ?aP (fun _ hk => hk.elim) ?aF ?aO ?aB ?aS ?aL ?_; (case aP => exact rfl); (case aB => exact (by repeat (first | (with_reducible first | exact HB.out | apply below_alloc | apply pw_below_drewN | apply below_drew1 | refine below_set ?_ GE152.out) | exact HB.out))); (case aF => exact (fun _ _ => trivial)); (case aO => exact (by (with_reducible repeat (first | apply Kd.R_alloc | apply Kd.R_drewN | apply Kd.R_drew)); exact Kd.R_mono (Kd.R_far (p := ⟨gb152, 2, none⟩) (Kd.R_far (p := ⟨gb152, 1, none⟩) (Kd.R_far (p := ⟨gb152, 0, none⟩) (Kd.R_types HO_5.out BK152.out (by decide)) (fun _ hk => hk.2) (.int .i64 ((rd_T43 l0 x16_1).f0))) (fun _ hk => hk.2) (.int .i64 ((rd_T43 l0 x16_1).f1))) (fun _ hk => hk.2) (.string ((rd_T43 l0 x16_1).f2))) (fun _ hk => trivial))); (case aS => exact (below_size (by repeat (first | (with_reducible first | exact HB.out | apply below_alloc | apply pw_below_drewN | apply below_drew1 | refine below_set ?_ GE152.out) | exact HB.out)))); (case aL => have := LMc8.out; omega); intro v154 w13 ho hb hg hat; rw [← Ny153.out] at ho; have n0_ := Aside0.mk (blk_grown (g := gb152) (o := .cells #[.int .i64 ((rd_T43 l0 x16_1).f0), .int .i64 ((rd_T43 l0 x16_1).f1), .string ((rd_T43 l0 x16_1).f2)] 43 (0, 0)) (by (with_reducible repeat (first | refine blk_drewN ?_ _ | refine blk_drew ?_ | refine blk_alloc ?_ _)); refine blk_put (cs := #[.int .i64 ((rd_T43 l0 x16_1).f0), .int .i64 ((rd_T43 l0 x16_1).f1), .string (⟨#[]⟩ : ByteArray)]) ?_ 2 _ rfl; (with_reducible repeat (first | refine blk_drewN ?_ _ | refine blk_drew ?_ | refine blk_alloc ?_ _)); refine blk_put (cs := #[.int .i64 ((rd_T43 l0 x16_1).f0), .int .i64 0, .string (⟨#[]⟩ : ByteArray)]) ?_ 1 _ rfl; (with_reducible repeat (first | refine blk_drewN ?_ _ | refine blk_drew ?_ | refine blk_alloc ?_ _)); refine blk_put (cs := #[.int .i64 0, .int .i64 0, .string (⟨#[]⟩ : ByteArray)]) ?_ 0 _ rfl; (with_reducible repeat (first | refine blk_drewN ?_ _ | refine blk_drew ?_ | refine blk_alloc ?_ _)); exact BK152.out) hg (Kd.R_ne HO_5.out BK152.out (by decide))); have n1_ := Aside0.mk (hb); have n2_ := Aside0.mk (ho); clear BK152; clear HB; clear HO_5; have BK152 := n0_; have HB := n1_; have HO155 := n2_; clear n0_ n1_ n2_; clear ho hb hg hat; have hcz14_0 : w13.cell? ⟨gb152, 0, none⟩ = some (.int .i64 ((rd_T43 l0 x16_1).f0)) := (blk_cell BK152.out 0).trans rfl; have hcz14_1 : w13.cell? ⟨gb152, 1, none⟩ = some (.int .i64 ((rd_T43 l0 x16_1).f1)) := (blk_cell BK152.out 1).trans rfl; have hcz14_2 : w13.cell? ⟨gb152, 2, none⟩ = some (.string ((rd_T43 l0 x16_1).f2)) := (blk_cell BK152.out 2).trans rfl; have hfz14_0 := blk_frozen BK152.out 0; have hfz14_1 := blk_frozen BK152.out 1; have hfz14_2 := blk_frozen BK152.out 2) | ((with_reducible refine gate_builtin (b := .append) (xs := #[.tmp 30, .tmp 34]) rfl ?_); at_builtin; refine Kd.R_append (Kd.int .u8) (w0 := w) w.heap.size rfl (.tmp 30) (.tmp 34) 26 5 (.int .u8 0) 1 rfl Tryd.underlying26 info5 rfl (by decide) (by omega) v154 y153 (((rd_T43 l0 x16_1).f1) % 256) [.int .u8 (((rd_T43 l0 x16_1).f1) % 256)] (fun _ => True) (fun _ => False) rfl rfl ?aP (fun _ hk => hk.elim) ?aF ?aO ?aB ?aS ?aL ?_; (case aP => exact rfl); (case aB => exact (by repeat (first | (with_reducible first | exact HB.out | apply below_alloc | apply pw_below_drewN | apply below_drew1 | refine below_set ?_ GE152.out) | exact HB.out))); (case aF => exact (fun _ _ => trivial)); (case aO => exact (by (with_reducible repeat (first | apply Kd.R_alloc | apply Kd.R_drewN | apply Kd.R_drew)); exact HO155.out)); (case aS => exact (below_size (by repeat (first | (with_reducible first | exact HB.out | apply below_alloc | apply pw_below_drewN | apply below_drew1 | refine below_set ?_ GE152.out) | exact HB.out)))); (case aL => have := LMc10.out; omega); intro v157 w15 ho hb hg hat; rw [← Ny156.out] at ho; have n0_ := Aside0.mk (blk_grown (g := gb152) (o := .cells #[.int .i64 ((rd_T43 l0 x16_1).f0), .int .i64 ((rd_T43 l0 x16_1).f1), .string ((rd_T43 l0 x16_1).f2)] 43 (0, 0)) (by (with_reducible repeat (first | refine blk_drewN ?_ _ | refine blk_drew ?_ | refine blk_alloc ?_ _)); exact BK152.out) hg (Kd.R_ne HO155.out BK152.out (by decide))); have n1_ := Aside0.mk (hb); have n2_ := Aside0.mk (ho); clear BK152; clear HB; clear HO155; have BK152 := n0_; have HB := n1_; have HO158 := n2_; clear n0_ n1_ n2_; clear ho hb hg hat))
                    go_roundg k1
                    case measure => have := HK1.out; omega
                    case rel => exact ⟨(y156), (wrap64 (x16_1 + 1)), (by first | rfl | (simp; done) | (simp [*]; done) | (simp; first | exact Go.Proofs.YtbojfgjdpfobaaaDoor.Pre.ne1 _ | exact Go.Proofs.YtbojfgjdpfobaaaDoor.Pre.ne2 _ | exact Go.Proofs.YtbojfgjdpfobaaaDoor.Pre.ne3 _ | exact Go.Proofs.YtbojfgjdpfobaaaDoor.Pre.ne4 _ | exact Go.Proofs.YtbojfgjdpfobaaaDoor.Pre.ne5 _ | exact Go.Proofs.YtbojfgjdpfobaaaDoor.Pre.ne6 _)), H', ⟨by have := HK1.out; omega⟩, ⟨by (with_reducible repeat (first | apply Kd.R_alloc | apply Kd.R_drewN | apply Kd.R_drew)); exact HO158.out⟩, ⟨by repeat (first | (with_reducible first | exact HB.out | apply below_alloc | apply pw_below_drewN | apply below_drew1 | refine below_set ?_ GE152.out) | exact HB.out)⟩⟩
                  · rw [if_neg c10] at H
                    exact absurd H (by simp)
                · rw [if_neg c9] at H
                  have c9b0 : (((rd_T43 l0 x16_1).f0) == 1) = false := beq_eq_false_iff_ne.mpr c9
                  have c9b1 : (((rd_T43 l0 x16_1).f0) != 1) = true := bne_iff_ne.mpr c9
                  by_cases c16 : ((rd_T43 l0 x16_1).f0) = 2
                  · rw [if_pos c16] at H
                    have c16b0 : (((rd_T43 l0 x16_1).f0) == 2) = true := beq_iff_eq.mpr c16
                    have c16b1 : (((rd_T43 l0 x16_1).f0) != 2) = false := bne_eq_false_iff_eq.mpr c16
                    clear c16
                    replace H := Option.bind_eq_some_iff.mp H
                    obtain ⟨t159, A170, H⟩ := H
                    replace H : (if y153.length + t159.length < 140737488355328 then (code_Key.l0 k1 (y153 ++ t159) l0 (l0.length : Int) (wrap64 (x16_1 + 1))) else (none)) = some (r1, r2) := H
                    have A17 := Aside0.mk A170
                    clear A170
                    by_cases c18 : y153.length + t159.length < 140737488355328
                    · rw [if_pos c18] at H
                      have LMc18 := Aside0.mk c18
                      clear c18
                      obtain ⟨y162, hy162⟩ : ∃ y_ : List Int, y_ = (y153 ++ t159) := ⟨_, rfl⟩
                      replace H : (code_Key.l0 k1 y162 l0 (l0.length : Int) (wrap64 (x16_1 + 1))) = some (r1, r2) := by first | (rw [hy162]; with_reducible exact H) | (have H2_ := (Option.bind_some _ _).symm.trans H; rw [hy162]; with_reducible exact H2_) | (have H2_ := (Option.bind_some _ _).symm.trans H; with_reducible exact H2_) | with_reducible exact H | (rw [hy162]; exact H) | exact H
                      have Ny162 := Aside0.mk hy162
                      clear hy162
                      have H' := Aside0.mk H
                      clear H
                      have p151 : 0 ≤ (x16_1 : Int) := of_decide_eq_true (by first | (with_reducible assumption) | assumption)
                      have q151 : x16_1 < (l0.length : Int) := of_decide_eq_true (by first | (with_reducible assumption) | assumption)
                      obtain ⟨ad151, e151, hx151_0, hx151_1, hx151_2⟩ := at_T43 HR0.out x16_1 p151 q151
                      cases e151
                      replace hx151_0 := (HB.out.cell (World.block_lt_of_cell? w _ hx151_0)).trans hx151_0
                      replace hx151_1 := (HB.out.cell (World.block_lt_of_cell? w _ hx151_1)).trans hx151_1
                      replace hx151_2 := (HB.out.cell (World.block_lt_of_cell? w _ hx151_2)).trans hx151_2
                      replace p151 := eq_true p151
                      replace q151 := eq_true q151
                      have e_ : t159 = laidL (Go.bits .xor .u64 (IntKind.u64.wrap ((rd_T43 l0 x16_1).f1)) 9223372036854775808) := (Option.some.inj A17.out).symm
                      subst e_
                      go_wp2_with (first | ((with_reducible refine gate_dst (N := 7) rfl ?_); refine box_event ?hg (N := 7) ?hd (cs := #[.int .i64 0, .int .i64 0, .string (⟨#[]⟩ : ByteArray)]) (t := 43) ?hr ?_; (case hd => rfl); (case hg => rfl); (case hr => first | (go_simp; done) | (go_simp; rfl)); intro gb152 hg w19 hbox hb; have n0_ := Aside0.mk (Kd.R_below (by (with_reducible repeat (first | apply Kd.R_alloc | apply Kd.R_drewN | apply Kd.R_drew)); exact HO_5.out) hb); have n1_ := Aside0.mk (below_step (by repeat (first | (with_reducible first | exact HB.out | apply below_alloc | apply pw_below_drewN | apply below_drew1) | exact HB.out)) hb); have n2_ := Aside0.mk (hbox); have n3_ := Aside0.mk ((by rw [hg]; exact (below_size (by repeat (first | (with_reducible first | exact HB.out | apply below_alloc | apply pw_below_drewN | apply below_drew1) | exact HB.out))) : w.heap.size ≤ gb152)); have n4_ := Aside0.mk ((by rw [hg]; exact (below_size (by repeat (first | (with_reducible first | exact HB.out | apply below_alloc | apply pw_below_drewN | apply below_drew1) | exact HB.out))) : w.heap.size ≤ gb152)); clear HO_5; clear HB; have HO_5 := n0_; have HB := n1_; have BK152 := n2_; have GW152 := n3_; have GE152 := n4_; clear n0_ n1_ n2_ n3_ n4_; clear hb hbox hg; have hcz20_0 : w19.cell? ⟨gb152, 0, none⟩ = some (.int .i64 0) := (blk_cell BK152.out 0).trans rfl; have hcz20_1 : w19.cell? ⟨gb152, 1, none⟩ = some (.int .i64 0) := (blk_cell BK152.out 1).trans rfl; have hcz20_2 : w19.cell? ⟨gb152, 2, none⟩ = some (.string (⟨#[]⟩ : ByteArray)) := (blk_cell BK152.out 2).trans rfl; have hfz20_0 := blk_frozen BK152.out 0; have hfz20_1 := blk_frozen BK152.out 1; have hfz20_2 := blk_frozen BK152.out 2) | ((with_reducible refine gate_builtin (b := .append) (xs := #[.tmp 20, .tmp 24]) rfl ?_); at_builtin; refine Kd.R_append (Kd.int .u8) (w0 := w) w.heap.size rfl (.tmp 20) (.tmp 24) 26 5 (.int .u8 0) 1 rfl Tryd.underlying26 info5 rfl (by decide) (by omega) u5 x5_1 (((rd_T43 l0 x16_1).f0) % 256) [.int .u8 (((rd_T43 l0 x16_1).f0) % 256)] (fun _ => True) (fun _ => False) rfl (by first | (go_simp; done) | (go_simp; rfl)) ?aP (fun _ hk => hk.elim) ?aF ?aO ?aB ?aS ?aL ?_; (case aP => exact rfl); (case aB => exact (by repeat (first | (with_reducible first | exact HB.out | apply below_alloc | apply pw_below_drewN | apply below_drew1 | refine below_set ?_ GE152.out) | exact HB.out))); (case aF => exact (fun _ _ => trivial)); (case aO => exact (by (with_reducible repeat (first | apply Kd.R_alloc | apply Kd.R_drewN | apply Kd.R_drew)); exact Kd.R_mono (Kd.R_far (p := ⟨gb152, 2, none⟩) (Kd.R_far (p := ⟨gb152, 1, none⟩) (Kd.R_far (p := ⟨gb152, 0, none⟩) (Kd.R_types HO_5.out BK152.out (by decide)) (fun _ hk => hk.2) (.int .i64 ((rd_T43 l0 x16_1).f0))) (fun _ hk => hk.2) (.int .i64 ((rd_T43 l0 x16_1).f1))) (fun _ hk => hk.2) (.string ((rd_T43 l0 x16_1).f2))) (fun _ hk => trivial))); (case aS => exact (below_size (by repeat (first | (with_reducible first | exact HB.out | apply below_alloc | apply pw_below_drewN | apply below_drew1 | refine below_set ?_ GE152.out) | exact HB.out)))); (case aL => have := LMc8.out; omega); intro v154 w21 ho hb hg hat; rw [← Ny153.out] at ho; have n0_ := Aside0.mk (blk_grown (g := gb152) (o := .cells #[.int .i64 ((rd_T43 l0 x16_1).f0), .int .i64 ((rd_T43 l0 x16_1).f1), .string ((rd_T43 l0 x16_1).f2)] 43 (0, 0)) (by (with_reducible repeat (first | refine blk_drewN ?_ _ | refine blk_drew ?_ | refine blk_alloc ?_ _)); refine blk_put (cs := #[.int .i64 ((rd_T43 l0 x16_1).f0), .int .i64 ((rd_T43 l0 x16_1).f1), .string (⟨#[]⟩ : ByteArray)]) ?_ 2 _ rfl; (with_reducible repeat (first | refine blk_drewN ?_ _ | refine blk_drew ?_ | refine blk_alloc ?_ _)); refine blk_put (cs := #[.int .i64 ((rd_T43 l0 x16_1).f0), .int .i64 0, .string (⟨#[]⟩ : ByteArray)]) ?_ 1 _ rfl; (with_reducible repeat (first | refine blk_drewN ?_ _ | refine blk_drew ?_ | refine blk_alloc ?_ _)); refine blk_put (cs := #[.int .i64 0, .int .i64 0, .string (⟨#[]⟩ : ByteArray)]) ?_ 0 _ rfl; (with_reducible repeat (first | refine blk_drewN ?_ _ | refine blk_drew ?_ | refine blk_alloc ?_ _)); exact BK152.out) hg (Kd.R_ne HO_5.out BK152.out (by decide))); have n1_ := Aside0.mk (hb); have n2_ := Aside0.mk (ho); clear BK152; clear HB; clear HO_5; have BK152 := n0_; have HB := n1_; have HO155 := n2_; clear n0_ n1_ n2_; clear ho hb hg hat; have hcz22_0 : w21.cell? ⟨gb152, 0, none⟩ = some (.int .i64 ((rd_T43 l0 x16_1).f0)) := (blk_cell BK152.out 0).trans rfl; have hcz22_1 : w21.cell? ⟨gb152, 1, none⟩ = some (.int .i64 ((rd_T43 l0 x16_1).f1)) := (blk_cell BK152.out 1).trans rfl; have hcz22_2 : w21.cell? ⟨gb152, 2, none⟩ = some (.string ((rd_T43 l0 x16_1).f2)) := (blk_cell BK152.out 2).trans rfl; have hfz22_0 := blk_frozen BK152.out 0; have hfz22_1 := blk_frozen BK152.out 1; have hfz22_2 := blk_frozen BK152.out 2) | ((with_reducible refine gate_callee (f := 27) rfl ?_); refine goesL_ (some 42) rfl rfl Tryd.func27 (by kernel_rfl) rfl #[.int .u64 (Go.bits .xor .u64 (IntKind.u64.wrap ((rd_T43 l0 x16_1).f1)) 9223372036854775808)] rfl (by (try simp only [List.map_toArray, List.map_cons, List.map_nil]); first | done | rfl | (simp only [List.length_drop, List.length_take]; rfl)) ?_; (with_reducible refine (laid_walk (Go.bits .xor .u64 (IntKind.u64.wrap ((rd_T43 l0 x16_1).f1)) 9223372036854775808) _).mono ?_); rintro e w23 ⟨rfl, hb⟩; refine ⟨_, rfl, ?_⟩; have n0_ := Aside0.mk (Kd.R_below (by (with_reducible repeat (first | apply Kd.R_alloc | apply Kd.R_drewN | apply Kd.R_drew)); exact HO155.out) hb); have n2_ := Aside0.mk (blk_below (g := gb152) (o := .cells #[.int .i64 ((rd_T43 l0 x16_1).f0), .int .i64 ((rd_T43 l0 x16_1).f1), .string ((rd_T43 l0 x16_1).f2)] 43 (0, 0)) (by (with_reducible repeat (first | refine blk_drewN ?_ _ | refine blk_drew ?_ | refine blk_alloc ?_ _)); exact BK152.out) hb); have n3_ := Aside0.mk (below_step (by repeat (first | (with_reducible first | exact HB.out | apply below_alloc | apply pw_below_drewN | apply below_drew1 | refine below_set ?_ GE152.out) | exact HB.out)) hb); clear HO155; clear BK152; clear HB; have HO155 := n0_; have BK152 := n2_; have HB := n3_; clear n0_ n2_ n3_; (try clear hb); (try clear hb2); (try clear hk); (try clear hi); (try clear ho0)) | ((with_reducible refine gate_builtin (b := .append) (xs := #[.tmp 43, .tmp 44]) rfl ?_); at_builtin; refine Kd.R_append_rows (Kd.int .u8) (w0 := w) w.heap.size rfl (.tmp 43) (.tmp 44) 26 5 (.int .u8 0) 1 rfl Tryd.underlying26 info5 rfl (by decide) (by omega) v154 y153 (laidL (Go.bits .xor .u64 (IntKind.u64.wrap ((rd_T43 l0 x16_1).f1)) 9223372036854775808)) _ _ _ (fun _ => True) (fun _ => False) rfl rfl ?aO ?aR (fun _ _ h => h) (fun _ h => h.elim) ?aF ?aB ?aS ?aL ?_; (case aR => exact C_laid _ (Go.bits .xor .u64 (IntKind.u64.wrap ((rd_T43 l0 x16_1).f1)) 9223372036854775808)); (case aB => exact (by repeat (first | (with_reducible first | exact HB.out | apply below_alloc | apply pw_below_drewN | apply below_drew1 | refine below_set ?_ GE152.out) | exact HB.out))); (case aF => exact (fun _ _ => trivial)); (case aO => exact (by (with_reducible repeat (first | apply Kd.R_alloc | apply Kd.R_drewN | apply Kd.R_drew)); exact Kd.R_mono HO155.out (fun _ _ => trivial))); (case aS => exact (below_size (by repeat (first | (with_reducible first | exact HB.out | apply below_alloc | apply pw_below_drewN | apply below_drew1 | refine below_set ?_ GE152.out) | exact HB.out)))); (case aL => have := LMc18.out; have hl_ : (laidL (Go.bits .xor .u64 (IntKind.u64.wrap ((rd_T43 l0 x16_1).f1)) 9223372036854775808)).length = 8 := rfl; omega); intro v163 w24 ho hb hg hat; rw [← Ny162.out] at ho; have n0_ := Aside0.mk (blk_grown (g := gb152) (o := .cells #[.int .i64 ((rd_T43 l0 x16_1).f0), .int .i64 ((rd_T43 l0 x16_1).f1), .string ((rd_T43 l0 x16_1).f2)] 43 (0, 0)) (by (with_reducible repeat (first | refine blk_drewN ?_ _ | refine blk_drew ?_ | refine blk_alloc ?_ _)); exact BK152.out) hg (Kd.R_ne HO155.out BK152.out (by decide))); have n2_ := Aside0.mk (hb); have n3_ := Aside0.mk (ho); clear BK152; clear HB; clear HO155; have BK152 := n0_; have HB := n2_; have HO164 := n3_; clear n0_ n2_ n3_; clear ho hb hg hat))
                      go_roundg k1
                      case measure => have := HK1.out; omega
                      case rel => exact ⟨(y162), (wrap64 (x16_1 + 1)), (by first | rfl | (simp; done) | (simp [*]; done) | (simp; first | exact Go.Proofs.YtbojfgjdpfobaaaDoor.Pre.ne1 _ | exact Go.Proofs.YtbojfgjdpfobaaaDoor.Pre.ne2 _ | exact Go.Proofs.YtbojfgjdpfobaaaDoor.Pre.ne3 _ | exact Go.Proofs.YtbojfgjdpfobaaaDoor.Pre.ne4 _ | exact Go.Proofs.YtbojfgjdpfobaaaDoor.Pre.ne5 _ | exact Go.Proofs.YtbojfgjdpfobaaaDoor.Pre.ne6 _)), H', ⟨by have := HK1.out; omega⟩, ⟨by (with_reducible repeat (first | apply Kd.R_alloc | apply Kd.R_drewN | apply Kd.R_drew)); exact Kd.R_mono HO164.out (fun _ hk => trivial)⟩, ⟨by repeat (first | (with_reducible first | exact HB.out | apply below_alloc | apply pw_below_drewN | apply below_drew1 | refine below_set ?_ GE152.out) | exact HB.out)⟩⟩
                    · rw [if_neg c18] at H
                      exact absurd H (by simp)
                  · rw [if_neg c16] at H
                    have c16b0 : (((rd_T43 l0 x16_1).f0) == 2) = false := beq_eq_false_iff_ne.mpr c16
                    have c16b1 : (((rd_T43 l0 x16_1).f0) != 2) = true := bne_iff_ne.mpr c16
                    by_cases c26 : ((rd_T43 l0 x16_1).f0) = 3
                    · rw [if_pos c26] at H
                      have c26b0 : (((rd_T43 l0 x16_1).f0) == 3) = true := beq_iff_eq.mpr c26
                      have c26b1 : (((rd_T43 l0 x16_1).f0) != 3) = false := bne_eq_false_iff_eq.mpr c26
                      clear c26
                      replace H := Option.bind_eq_some_iff.mp H
                      obtain ⟨t165, A270, H⟩ := H
                      replace H : (if y153.length + t165.length < 140737488355328 then ((some (y153 ++ t165 : List Int)).bind fun y168 => ((some (([0, 0] : List Int) : List Int)).bind fun y171 => (if y168.length + y171.length < 140737488355328 then (code_Key.l0 k1 (y168 ++ y171) l0 (l0.length : Int) (wrap64 (x16_1 + 1))) else (none)))) else (none)) = some (r1, r2) := H
                      have A27 := Aside0.mk A270
                      clear A270
                      by_cases c28 : y153.length + t165.length < 140737488355328
                      · rw [if_pos c28] at H
                        have LMc28 := Aside0.mk c28
                        clear c28
                        obtain ⟨y168, hy168⟩ : ∃ y_ : List Int, y_ = (y153 ++ t165) := ⟨_, rfl⟩
                        replace H : ((some (([0, 0] : List Int) : List Int)).bind fun y171 => (if y168.length + y171.length < 140737488355328 then (code_Key.l0 k1 (y168 ++ y171) l0 (l0.length : Int) (wrap64 (x16_1 + 1))) else (none))) = some (r1, r2) := by first | (rw [hy168]; with_reducible exact H) | (have H2_ := (Option.bind_some _ _).symm.trans H; rw [hy168]; with_reducible exact H2_) | (have H2_ := (Option.bind_some _ _).symm.trans H; with_reducible exact H2_) | with_reducible exact H | (rw [hy168]; exact H) | exact H
                        have Ny168 := Aside0.mk hy168
                        clear hy168
                        obtain ⟨y171, hy171⟩ : ∃ y_ : List Int, y_ = (([0, 0] : List Int)) := ⟨_, rfl⟩
                        replace H : (if y168.length + y171.length < 140737488355328 then (code_Key.l0 k1 (y168 ++ y171) l0 (l0.length : Int) (wrap64 (x16_1 + 1))) else (none)) = some (r1, r2) := by first | (rw [hy171]; with_reducible exact H) | (have H2_ := (Option.bind_some _ _).symm.trans H; rw [hy171]; with_reducible exact H2_) | (have H2_ := (Option.bind_some _ _).symm.trans H; with_reducible exact H2_) | with_reducible exact H | (rw [hy171]; exact H) | exact H
                        have Ny171 := Aside0.mk hy171
                        clear hy171
                        by_cases c29 : y168.length + y171.length < 140737488355328
                        · rw [if_pos c29] at H
                          have LMc29 := Aside0.mk c29
                          clear c29
                          obtain ⟨y174, hy174⟩ : ∃ y_ : List Int, y_ = (y168 ++ y171) := ⟨_, rfl⟩
                          replace H : (code_Key.l0 k1 y174 l0 (l0.length : Int) (wrap64 (x16_1 + 1))) = some (r1, r2) := by first | (rw [hy174]; with_reducible exact H) | (have H2_ := (Option.bind_some _ _).symm.trans H; rw [hy174]; with_reducible exact H2_) | (have H2_ := (Option.bind_some _ _).symm.trans H; with_reducible exact H2_) | with_reducible exact H | (rw [hy174]; exact H) | exact H
                          have Ny174 := Aside0.mk hy174
                          clear hy174
                          have H' := Aside0.mk H
                          clear H
                          have p151 : 0 ≤ (x16_1 : Int) := of_decide_eq_true (by first | (with_reducible assumption) | assumption)
                          have q151 : x16_1 < (l0.length : Int) := of_decide_eq_true (by first | (with_reducible assumption) | assumption)
                          obtain ⟨ad151, e151, hx151_0, hx151_1, hx151_2⟩ := at_T43 HR0.out x16_1 p151 q151
                          cases e151
                          replace hx151_0 := (HB.out.cell (World.block_lt_of_cell? w _ hx151_0)).trans hx151_0
                          replace hx151_1 := (HB.out.cell (World.block_lt_of_cell? w _ hx151_1)).trans hx151_1
                          replace hx151_2 := (HB.out.cell (World.block_lt_of_cell? w _ hx151_2)).trans hx151_2
                          replace p151 := eq_true p151
                          replace q151 := eq_true q151
                          have kc := fun (w_ : World) => Lib.run_convert_string_bytes (P := Tryd.prog) w_ 9 26 5 ((rd_T43 l0 x16_1).f2) Tryd.underlying9 Tryd.underlying26 Tryd.underlying5
                          go_wp2_with (first | ((with_reducible refine gate_dst (N := 7) rfl ?_); refine box_event ?hg (N := 7) ?hd (cs := #[.int .i64 0, .int .i64 0, .string (⟨#[]⟩ : ByteArray)]) (t := 43) ?hr ?_; (case hd => rfl); (case hg => rfl); (case hr => first | (go_simp; done) | (go_simp; rfl)); intro gb152 hg w30 hbox hb; have n0_ := Aside0.mk (Kd.R_below (by (with_reducible repeat (first | apply Kd.R_alloc | apply Kd.R_drewN | apply Kd.R_drew)); exact HO_5.out) hb); have n1_ := Aside0.mk (below_step (by repeat (first | (with_reducible first | exact HB.out | apply below_alloc | apply pw_below_drewN | apply below_drew1) | exact HB.out)) hb); have n2_ := Aside0.mk (hbox); have n3_ := Aside0.mk ((by rw [hg]; exact (below_size (by repeat (first | (with_reducible first | exact HB.out | apply below_alloc | apply pw_below_drewN | apply below_drew1) | exact HB.out))) : w.heap.size ≤ gb152)); have n4_ := Aside0.mk ((by rw [hg]; exact (below_size (by repeat (first | (with_reducible first | exact HB.out | apply below_alloc | apply pw_below_drewN | apply below_drew1) | exact HB.out))) : w.heap.size ≤ gb152)); clear HO_5; clear HB; have HO_5 := n0_; have HB := n1_; have BK152 := n2_; have GW152 := n3_; have GE152 := n4_; clear n0_ n1_ n2_ n3_ n4_; clear hb hbox hg; have hcz31_0 : w30.cell? ⟨gb152, 0, none⟩ = some (.int .i64 0) := (blk_cell BK152.out 0).trans rfl; have hcz31_1 : w30.cell? ⟨gb152, 1, none⟩ = some (.int .i64 0) := (blk_cell BK152.out 1).trans rfl; have hcz31_2 : w30.cell? ⟨gb152, 2, none⟩ = some (.string (⟨#[]⟩ : ByteArray)) := (blk_cell BK152.out 2).trans rfl; have hfz31_0 := blk_frozen BK152.out 0; have hfz31_1 := blk_frozen BK152.out 1; have hfz31_2 := blk_frozen BK152.out 2) | ((with_reducible refine gate_builtin (b := .append) (xs := #[.tmp 20, .tmp 24]) rfl ?_); at_builtin; refine Kd.R_append (Kd.int .u8) (w0 := w) w.heap.size rfl (.tmp 20) (.tmp 24) 26 5 (.int .u8 0) 1 rfl Tryd.underlying26 info5 rfl (by decide) (by omega) u5 x5_1 (((rd_T43 l0 x16_1).f0) % 256) [.int .u8 (((rd_T43 l0 x16_1).f0) % 256)] (fun _ => True) (fun _ => False) rfl (by first | (go_simp; done) | (go_simp; rfl)) ?aP (fun _ hk => hk.elim) ?aF ?aO ?aB ?aS ?aL ?_; (case aP => exact rfl); (case aB => exact (by repeat (first | (with_reducible first | exact HB.out | apply below_alloc | apply pw_below_drewN | apply below_drew1 | refine below_set ?_ GE152.out) | exact HB.out))); (case aF => exact (fun _ _ => trivial)); (case aO => exact (by (with_reducible repeat (first | apply Kd.R_alloc | apply Kd.R_drewN | apply Kd.R_drew)); exact Kd.R_mono (Kd.R_far (p := ⟨gb152, 2, none⟩) (Kd.R_far (p := ⟨gb152, 1, none⟩) (Kd.R_far (p := ⟨gb152, 0, none⟩) (Kd.R_types HO_5.out BK152.out (by decide)) (fun _ hk => hk.2) (.int .i64 ((rd_T43 l0 x16_1).f0))) (fun _ hk => hk.2) (.int .i64 ((rd_T43 l0 x16_1).f1))) (fun _ hk => hk.2) (.string ((rd_T43 l0 x16_1).f2))) (fun _ hk => trivial))); (case aS => exact (below_size (by repeat (first | (with_reducible first | exact HB.out | apply below_alloc | apply pw_below_drewN | apply below_drew1 | refine below_set ?_ GE152.out) | exact HB.out)))); (case aL => have := LMc8.out; omega); intro v154 w32 ho hb hg hat; rw [← Ny153.out] at ho; have n0_ := Aside0.mk (blk_grown (g := gb152) (o := .cells #[.int .i64 ((rd_T43 l0 x16_1).f0), .int .i64 ((rd_T43 l0 x16_1).f1), .string ((rd_T43 l0 x16_1).f2)] 43 (0, 0)) (by (with_reducible repeat (first | refine blk_drewN ?_ _ | refine blk_drew ?_ | refine blk_alloc ?_ _)); refine blk_put (cs := #[.int .i64 ((rd_T43 l0 x16_1).f0), .int .i64 ((rd_T43 l0 x16_1).f1), .string (⟨#[]⟩ : ByteArray)]) ?_ 2 _ rfl; (with_reducible repeat (first | refine blk_drewN ?_ _ | refine blk_drew ?_ | refine blk_alloc ?_ _)); refine blk_put (cs := #[.int .i64 ((rd_T43 l0 x16_1).f0), .int .i64 0, .string (⟨#[]⟩ : ByteArray)]) ?_ 1 _ rfl; (with_reducible repeat (first | refine blk_drewN ?_ _ | refine blk_drew ?_ | refine blk_alloc ?_ _)); refine blk_put (cs := #[.int .i64 0, .int .i64 0, .string (⟨#[]⟩ : ByteArray)]) ?_ 0 _ rfl; (with_reducible repeat (first | refine blk_drewN ?_ _ | refine blk_drew ?_ | refine blk_alloc ?_ _)); exact BK152.out) hg (Kd.R_ne HO_5.out BK152.out (by decide))); have n1_ := Aside0.mk (hb); have n2_ := Aside0.mk (ho); clear BK152; clear HB; clear HO_5; have BK152 := n0_; have HB := n1_; have HO155 := n2_; clear n0_ n1_ n2_; clear ho hb hg hat; have hcz33_0 : w32.cell? ⟨gb152, 0, none⟩ = some (.int .i64 ((rd_T43 l0 x16_1).f0)) := (blk_cell BK152.out 0).trans rfl; have hcz33_1 : w32.cell? ⟨gb152, 1, none⟩ = some (.int .i64 ((rd_T43 l0 x16_1).f1)) := (blk_cell BK152.out 1).trans rfl; have hcz33_2 : w32.cell? ⟨gb152, 2, none⟩ = some (.string ((rd_T43 l0 x16_1).f2)) := (blk_cell BK152.out 2).trans rfl; have hfz33_0 := blk_frozen BK152.out 0; have hfz33_1 := blk_frozen BK152.out 1; have hfz33_2 := blk_frozen BK152.out 2) | ((with_reducible refine gate_callee (f := 30) rfl ?_); refine goesL_ (some 55) rfl rfl Tryd.func30 (by kernel_rfl) rfl #[.slice _ _ _, .slice _ _ _, .slice _ _ _] rfl (by (try simp only [List.map_toArray, List.map_cons, List.map_nil]); first | done | rfl | (simp only [List.length_drop, List.length_take]; rfl)) ?_; (with_reducible refine (zeros_calls ((rd_T43 l0 x16_1).f2) t165 _ A27.out).mono ?_); rintro e w34 ⟨v166, rfl, ho0, hb⟩; refine ⟨_, rfl, ?_⟩; have n0_ := Aside0.mk (Kd.R_elder' (by (with_reducible repeat (first | apply Kd.R_alloc | apply Kd.R_drewN | apply Kd.R_drew)); exact HO155.out) (Kd.R_base ho0) hb); have n1_ := Aside0.mk (Kd.R_lower (Kd.R_new' ho0 (Kd.R_lt (by (with_reducible repeat (first | apply Kd.R_alloc | apply Kd.R_drewN | apply Kd.R_drew)); exact HO155.out))) (below_size (by repeat (first | (with_reducible first | exact HB.out | apply below_alloc | apply pw_below_drewN | apply below_drew1 | refine below_set ?_ GE152.out) | exact HB.out)))); have n2_ := Aside0.mk (blk_below (g := gb152) (o := .cells #[.int .i64 ((rd_T43 l0 x16_1).f0), .int .i64 ((rd_T43 l0 x16_1).f1), .string ((rd_T43 l0 x16_1).f2)] 43 (0, 0)) (by (with_reducible repeat (first | refine blk_drewN ?_ _ | refine blk_drew ?_ | refine blk_alloc ?_ _)); exact BK152.out) hb); have n3_ := Aside0.mk (below_step (by repeat (first | (with_reducible first | exact HB.out | apply below_alloc | apply pw_below_drewN | apply below_drew1 | refine below_set ?_ GE152.out) | exact HB.out)) hb); clear HO155; clear BK152; clear HB; have HO155 := n0_; have HO167 := n1_; have BK152 := n2_; have HB := n3_; clear n0_ n1_ n2_ n3_; (try clear hb); (try clear hb2); (try clear hk); (try clear hi); (try clear ho0); obtain ⟨Ao36, co36, eo36⟩ := Kd.R_slice HO167.out; subst eo36) | ((with_reducible refine gate_builtin (b := .append) (xs := #[.tmp 49, .tmp 55]) rfl ?_); at_builtin; refine Kd.R_append_rows (Kd.int .u8) (w0 := w) w.heap.size rfl (.tmp 49) (.tmp 55) 26 5 (.int .u8 0) 1 rfl Tryd.underlying26 info5 rfl (by decide) (by omega) v154 y153 t165 _ _ _ (fun k_ => some k_ ≠ (.slice Ao36 t165.length co36 : Value).ownBlock) (fun _ => False) rfl rfl ?aO ?aR (fun _ _ h => h) (fun _ h => h.elim) ?aF ?aB ?aS ?aL ?_; (case aR => repeat (first | exact (Kd.R_reads' HO167.out).2.2 | (with_reducible refine Kd.C_alloc ?_ _) | (with_reducible refine Kd.C_drewN ?_ _) | (with_reducible refine Kd.C_drew ?_))); (case aB => exact (by repeat (first | (with_reducible first | exact HB.out | apply below_alloc | apply pw_below_drewN | apply below_drew1 | refine below_set ?_ GE152.out) | exact HB.out))); (case aF => exact (fun k_ hk => Kd.fresh' (Kd.R_lt (by (with_reducible repeat (first | apply Kd.R_alloc | apply Kd.R_drewN | apply Kd.R_drew)); exact HO167.out)) k_ hk)); (case aO => exact (by (with_reducible repeat (first | apply Kd.R_alloc | apply Kd.R_drewN | apply Kd.R_drew)); exact Kd.R_mono HO155.out (fun _ hk => hk.2))); (case aS => exact (below_size (by repeat (first | (with_reducible first | exact HB.out | apply below_alloc | apply pw_below_drewN | apply below_drew1 | refine below_set ?_ GE152.out) | exact HB.out)))); (case aL => have := LMc28.out; omega); intro v169 w35 ho hb hg hat; rw [← Ny168.out] at ho; have n0_ := Aside0.mk (blk_grown (g := gb152) (o := .cells #[.int .i64 ((rd_T43 l0 x16_1).f0), .int .i64 ((rd_T43 l0 x16_1).f1), .string ((rd_T43 l0 x16_1).f2)] 43 (0, 0)) (by (with_reducible repeat (first | refine blk_drewN ?_ _ | refine blk_drew ?_ | refine blk_alloc ?_ _)); exact BK152.out) hg (Kd.R_ne HO155.out BK152.out (by decide))); have n1_ := Aside0.mk (Kd.R_after (ok := (fun _ => True)) (by (with_reducible repeat (first | apply Kd.R_alloc | apply Kd.R_drewN | apply Kd.R_drew)); exact HO167.out) hg hat); have n2_ := Aside0.mk (hb); have n3_ := Aside0.mk (ho); clear BK152; clear HO167; clear HB; clear HO155; have BK152 := n0_; have HO167 := n1_; have HB := n2_; have HO170 := n3_; clear n0_ n1_ n2_ n3_; clear ho hb hg hat) | ((with_reducible refine gate_dst (N := 58) rfl ?_); refine Kd.R_lit (Kd.int .u8) _ 5 ?hg (N := 58) ?hd (xs := ([0, 0] : List Int)) (inner := [.int .u8 0, .int .u8 0]) (ok := fun _ => True) (okp := fun _ => True) ?hr ?hp (fun _ hk => hk) trivial (Below.refl _ _) (Nat.le_refl _) (by simp) ?_; (case hd => rfl); (case hg => rfl); (case hr => first | (go_simp; done) | (go_simp; rfl)); (case hp => exact (Reps.one (show Kd.M (Kd.int .u8) _ _ _ 0 [.int .u8 0] from rfl) (Reps.one (show Kd.M (Kd.int .u8) _ _ _ 0 [.int .u8 0] from rfl) (Reps.none _ _)))); intro v172 w37 ho38 hb hg_ hnew_; clear hg_ hnew_; (first | rw [← Ny171.out] at ho38 | (simp only [Int.reduceToNat] at ho38; rw [← Ny171.out] at ho38)); have n0_ := Aside0.mk (Kd.R_elder' (by (with_reducible repeat (first | apply Kd.R_alloc | apply Kd.R_drewN | apply Kd.R_drew)); exact HO167.out) (Kd.R_base ho38) hb); have n1_ := Aside0.mk (Kd.R_elder' (by (with_reducible repeat (first | apply Kd.R_alloc | apply Kd.R_drewN | apply Kd.R_drew)); exact HO170.out) (Kd.R_base ho38) hb); have n2_ := Aside0.mk (Kd.R_lower (Kd.R_new' (Kd.R_new' ho38 (Kd.R_lt (by (with_reducible repeat (first | apply Kd.R_alloc | apply Kd.R_drewN | apply Kd.R_drew)); exact HO167.out))) (Kd.R_lt (by (with_reducible repeat (first | apply Kd.R_alloc | apply Kd.R_drewN | apply Kd.R_drew)); exact HO170.out))) (below_size (by repeat (first | (with_reducible first | exact HB.out | apply below_alloc | apply pw_below_drewN | apply below_drew1 | refine below_set ?_ GE152.out) | exact HB.out)))); have n3_ := Aside0.mk (blk_below (g := gb152) (o := .cells #[.int .i64 ((rd_T43 l0 x16_1).f0), .int .i64 ((rd_T43 l0 x16_1).f1), .string ((rd_T43 l0 x16_1).f2)] 43 (0, 0)) (by (with_reducible repeat (first | refine blk_drewN ?_ _ | refine blk_drew ?_ | refine blk_alloc ?_ _)); exact BK152.out) hb); have n4_ := Aside0.mk (below_step (by repeat (first | (with_reducible first | exact HB.out | apply below_alloc | apply pw_below_drewN | apply below_drew1 | refine below_set ?_ GE152.out) | exact HB.out)) hb); clear HO167; clear HO170; clear BK152; clear HB; have HO167 := n0_; have HO170 := n1_; have HO173 := n2_; have BK152 := n3_; have HB := n4_; clear n0_ n1_ n2_ n3_ n4_; clear hb ho38; obtain ⟨Ao40, co40, eo40⟩ := Kd.R_slice HO173.out; subst eo40) | ((with_reducible refine gate_builtin (b := .append) (xs := #[.tmp 57, .tmp 58]) rfl ?_); at_builtin; refine Kd.R_append_rows (Kd.int .u8) (w0 := w) w.heap.size rfl (.tmp 57) (.tmp 58) 26 5 (.int .u8 0) 1 rfl Tryd.underlying26 info5 rfl (by decide) (by omega) v169 y168 y171 _ _ _ (fun k_ => some k_ ≠ (.slice Ao36 t165.length co36 : Value).ownBlock ∧ some k_ ≠ (.slice Ao40 y171.length co40 : Value).ownBlock) (fun _ => False) rfl rfl ?aO ?aR (fun _ _ h => h) (fun _ h => h.elim) ?aF ?aB ?aS ?aL ?_; (case aR => repeat (first | exact (Kd.R_reads' HO173.out).2.2 | (with_reducible refine Kd.C_alloc ?_ _) | (with_reducible refine Kd.C_drewN ?_ _) | (with_reducible refine Kd.C_drew ?_))); (case aB => exact (by repeat (first | (with_reducible first | exact HB.out | apply below_alloc | apply pw_below_drewN | apply below_drew1 | refine below_set ?_ GE152.out) | exact HB.out))); (case aF => exact (fun k_ hk => ⟨Kd.fresh' (Kd.R_lt (by (with_reducible repeat (first | apply Kd.R_alloc | apply Kd.R_drewN | apply Kd.R_drew)); exact HO167.out)) k_ hk, Kd.fresh' (Kd.R_lt (by (with_reducible repeat (first | apply Kd.R_alloc | apply Kd.R_drewN | apply Kd.R_drew)); exact HO173.out)) k_ hk⟩)); (case aO => exact (by (with_reducible repeat (first | apply Kd.R_alloc | apply Kd.R_drewN | apply Kd.R_drew)); exact HO170.out)); (case aS => exact (below_size (by repeat (first | (with_reducible first | exact HB.out | apply below_alloc | apply pw_below_drewN | apply below_drew1 | refine below_set ?_ GE152.out) | exact HB.out)))); (case aL => have := LMc29.out; omega); intro v175 w39 ho hb hg hat; rw [← Ny174.out] at ho; have n0_ := Aside0.mk (blk_grown (g := gb152) (o := .cells #[.int .i64 ((rd_T43 l0 x16_1).f0), .int .i64 ((rd_T43 l0 x16_1).f1), .string ((rd_T43 l0 x16_1).f2)] 43 (0, 0)) (by (with_reducible repeat (first | refine blk_drewN ?_ _ | refine blk_drew ?_ | refine blk_alloc ?_ _)); exact BK152.out) hg (Kd.R_ne HO170.out BK152.out (by decide))); have n1_ := Aside0.mk (Kd.R_after (ok := (fun k_ => some k_ ≠ (.slice Ao40 y171.length co40 : Value).ownBlock)) (by (with_reducible repeat (first | apply Kd.R_alloc | apply Kd.R_drewN | apply Kd.R_drew)); exact Kd.R_mono HO167.out (fun _ hk => ⟨hk.2, hk.1.2⟩)) hg hat); have n2_ := Aside0.mk (Kd.R_after (ok := (fun k_ => some k_ ≠ (.slice Ao36 t165.length co36 : Value).ownBlock)) (by (with_reducible repeat (first | apply Kd.R_alloc | apply Kd.R_drewN | apply Kd.R_drew)); exact Kd.R_mono HO173.out (fun _ hk => ⟨hk.1.2, hk.2⟩)) hg hat); have n3_ := Aside0.mk (hb); have n4_ := Aside0.mk (ho); clear BK152; clear HO167; clear HO173; clear HB; clear HO170; have BK152 := n0_; have HO167 := n1_; have HO173 := n2_; have HB := n3_; have HO176 := n4_; clear n0_ n1_ n2_ n3_ n4_; clear ho hb hg hat))
                          go_roundg k1
                          case measure => have := HK1.out; omega
                          case rel => exact ⟨(y174), (wrap64 (x16_1 + 1)), (by first | rfl | (simp; done) | (simp [*]; done) | (simp; first | exact Go.Proofs.YtbojfgjdpfobaaaDoor.Pre.ne1 _ | exact Go.Proofs.YtbojfgjdpfobaaaDoor.Pre.ne2 _ | exact Go.Proofs.YtbojfgjdpfobaaaDoor.Pre.ne3 _ | exact Go.Proofs.YtbojfgjdpfobaaaDoor.Pre.ne4 _ | exact Go.Proofs.YtbojfgjdpfobaaaDoor.Pre.ne5 _ | exact Go.Proofs.YtbojfgjdpfobaaaDoor.Pre.ne6 _)), H', ⟨by have := HK1.out; omega⟩, ⟨by (with_reducible repeat (first | apply Kd.R_alloc | apply Kd.R_drewN | apply Kd.R_drew)); exact Kd.R_mono HO176.out (fun _ hk => trivial)⟩, ⟨by repeat (first | (with_reducible first | exact HB.out | apply below_alloc | apply pw_below_drewN | apply below_drew1 | refine below_set ?_ GE152.out) | exact HB.out)⟩⟩
                        · rw [if_neg c29] at H
                          exact absurd H (by simp)
                      · rw [if_neg c28] at H
                        exact absurd H (by simp)
                    · rw [if_neg c26] at H
                      have c26b0 : (((rd_T43 l0 x16_1).f0) == 3) = false := beq_eq_false_iff_ne.mpr c26
                      have c26b1 : (((rd_T43 l0 x16_1).f0) != 3) = true := bne_iff_ne.mpr c26
                      by_cases c41 : ((rd_T43 l0 x16_1).f0) = 4
                      · rw [if_pos c41] at H
                        have c41b0 : (((rd_T43 l0 x16_1).f0) == 4) = true := beq_iff_eq.mpr c41
                        have c41b1 : (((rd_T43 l0 x16_1).f0) != 4) = false := bne_eq_false_iff_eq.mpr c41
                        clear c41
                        replace H := Option.bind_eq_some_iff.mp H
                        obtain ⟨t177, A420, H⟩ := H
                        replace H : (if y153.length + t177.length < 140737488355328 then ((some (y153 ++ t177 : List Int)).bind fun y180 => ((some (([0, 0] : List Int) : List Int)).bind fun y183 => (if y180.length + y183.length < 140737488355328 then (code_Key.l0 k1 (y180 ++ y183) l0 (l0.length : Int) (wrap64 (x16_1 + 1))) else (none)))) else (none)) = some (r1, r2) := H
                        have A42 := Aside0.mk A420
                        clear A420
                        by_cases c43 : y153.length + t177.length < 140737488355328
                        · rw [if_pos c43] at H
                          have LMc43 := Aside0.mk c43
                          clear c43
                          obtain ⟨y180, hy180⟩ : ∃ y_ : List Int, y_ = (y153 ++ t177) := ⟨_, rfl⟩
                          replace H : ((some (([0, 0] : List Int) : List Int)).bind fun y183 => (if y180.length + y183.length < 140737488355328 then (code_Key.l0 k1 (y180 ++ y183) l0 (l0.length : Int) (wrap64 (x16_1 + 1))) else (none))) = some (r1, r2) := by first | (rw [hy180]; with_reducible exact H) | (have H2_ := (Option.bind_some _ _).symm.trans H; rw [hy180]; with_reducible exact H2_) | (have H2_ := (Option.bind_some _ _).symm.trans H; with_reducible exact H2_) | with_reducible exact H | (rw [hy180]; exact H) | exact H
                          have Ny180 := Aside0.mk hy180
                          clear hy180
                          obtain ⟨y183, hy183⟩ : ∃ y_ : List Int, y_ = (([0, 0] : List Int)) := ⟨_, rfl⟩
                          replace H : (if y180.length + y183.length < 140737488355328 then (code_Key.l0 k1 (y180 ++ y183) l0 (l0.length : Int) (wrap64 (x16_1 + 1))) else (none)) = some (r1, r2) := by first | (rw [hy183]; with_reducible exact H) | (have H2_ := (Option.bind_some _ _).symm.trans H; rw [hy183]; with_reducible exact H2_) | (have H2_ := (Option.bind_some _ _).symm.trans H; with_reducible exact H2_) | with_reducible exact H | (rw [hy183]; exact H) | exact H
                          have Ny183 := Aside0.mk hy183
                          clear hy183
                          by_cases c44 : y180.length + y183.length < 140737488355328
                          · rw [if_pos c44] at H
                            have LMc44 := Aside0.mk c44
                            clear c44
                            obtain ⟨y186, hy186⟩ : ∃ y_ : List Int, y_ = (y180 ++ y183) := ⟨_, rfl⟩
                            replace H : (code_Key.l0 k1 y186 l0 (l0.length : Int) (wrap64 (x16_1 + 1))) = some (r1, r2) := by first | (rw [hy186]; with_reducible exact H) | (have H2_ := (Option.bind_some _ _).symm.trans H; rw [hy186]; with_reducible exact H2_) | (have H2_ := (Option.bind_some _ _).symm.trans H; with_reducible exact H2_) | with_reducible exact H | (rw [hy186]; exact H) | exact H
                            have Ny186 := Aside0.mk hy186
                            clear hy186
                            have H' := Aside0.mk H
                            clear H
                            have p151 : 0 ≤ (x16_1 : Int) := of_decide_eq_true (by first | (with_reducible assumption) | assumption)
                            have q151 : x16_1 < (l0.length : Int) := of_decide_eq_true (by first | (with_reducible assumption) | assumption)
                            obtain ⟨ad151, e151, hx151_0, hx151_1, hx151_2⟩ := at_T43 HR0.out x16_1 p151 q151
                            cases e151
                            replace hx151_0 := (HB.out.cell (World.block_lt_of_cell? w _ hx151_0)).trans hx151_0
                            replace hx151_1 := (HB.out.cell (World.block_lt_of_cell? w _ hx151_1)).trans hx151_1
                            replace hx151_2 := (HB.out.cell (World.block_lt_of_cell? w _ hx151_2)).trans hx151_2
                            replace p151 := eq_true p151
                            replace q151 := eq_true q151
                            have kc := fun (w_ : World) => Lib.run_convert_string_bytes (P := Tryd.prog) w_ 9 26 5 ((rd_T43 l0 x16_1).f2) Tryd.underlying9 Tryd.underlying26 Tryd.underlying5
                            go_wp2_with (first | ((with_reducible refine gate_dst (N := 7) rfl ?_); refine box_event ?hg (N := 7) ?hd (cs := #[.int .i64 0, .int .i64 0, .string (⟨#[]⟩ : ByteArray)]) (t := 43) ?hr ?_; (case hd => rfl); (case hg => rfl); (case hr => first | (go_simp; done) | (go_simp; rfl)); intro gb152 hg w45 hbox hb; have n0_ := Aside0.mk (Kd.R_below (by (with_reducible repeat (first | apply Kd.R_alloc | apply Kd.R_drewN | apply Kd.R_drew)); exact HO_5.out) hb); have n1_ := Aside0.mk (below_step (by repeat (first | (with_reducible first | exact HB.out | apply below_alloc | apply pw_below_drewN | apply below_drew1) | exact HB.out)) hb); have n2_ := Aside0.mk (hbox); have n3_ := Aside0.mk ((by rw [hg]; exact (below_size (by repeat (first | (with_reducible first | exact HB.out | apply below_alloc | apply pw_below_drewN | apply below_drew1) | exact HB.out))) : w.heap.size ≤ gb152)); have n4_ := Aside0.mk ((by rw [hg]; exact (below_size (by repeat (first | (with_reducible first | exact HB.out | apply below_alloc | apply pw_below_drewN | apply below_drew1) | exact HB.out))) : w.heap.size ≤ gb152)); clear HO_5; clear HB; have HO_5 := n0_; have HB := n1_; have BK152 := n2_; have GW152 := n3_; have GE152 := n4_; clear n0_ n1_ n2_ n3_ n4_; clear hb hbox hg; have hcz46_0 : w45.cell? ⟨gb152, 0, none⟩ = some (.int .i64 0) := (blk_cell BK152.out 0).trans rfl; have hcz46_1 : w45.cell? ⟨gb152, 1, none⟩ = some (.int .i64 0) := (blk_cell BK152.out 1).trans rfl; have hcz46_2 : w45.cell? ⟨gb152, 2, none⟩ = some (.string (⟨#[]⟩ : ByteArray)) := (blk_cell BK152.out 2).trans rfl; have hfz46_0 := blk_frozen BK152.out 0; have hfz46_1 := blk_frozen BK152.out 1; have hfz46_2 := blk_frozen BK152.out 2) | ((with_reducible refine gate_builtin (b := .append) (xs := #[.tmp 20, .tmp 24]) rfl ?_); at_builtin; refine Kd.R_append (Kd.int .u8) (w0 := w) w.heap.size rfl (.tmp 20) (.tmp 24) 26 5 (.int .u8 0) 1 rfl Tryd.underlying26 info5 rfl (by decide) (by omega) u5 x5_1 (((rd_T43 l0 x16_1).f0) % 256) [.int .u8 (((rd_T43 l0 x16_1).f0) % 256)] (fun _ => True) (fun _ => False) rfl (by first | (go_simp; done) | (go_simp; rfl)) ?aP (fun _ hk => hk.elim) ?aF ?aO ?aB ?aS ?aL ?_; (case aP => exact rfl); (case aB => exact (by repeat (first | (with_reducible first | exact HB.out | apply below_alloc | apply pw_below_drewN | apply below_drew1 | refine below_set ?_ GE152.out) | exact HB.out))); (case aF => exact (fun _ _ => trivial)); (case aO => exact (by (with_reducible repeat (first | apply Kd.R_alloc | apply Kd.R_drewN | apply Kd.R_drew)); exact Kd.R_mono (Kd.R_far (p := ⟨gb152, 2, none⟩) (Kd.R_far (p := ⟨gb152, 1, none⟩) (Kd.R_far (p := ⟨gb152, 0, none⟩) (Kd.R_types HO_5.out BK152.out (by decide)) (fun _ hk => hk.2) (.int .i64 ((rd_T43 l0 x16_1).f0))) (fun _ hk => hk.2) (.int .i64 ((rd_T43 l0 x16_1).f1))) (fun _ hk => hk.2) (.string ((rd_T43 l0 x16_1).f2))) (fun _ hk => trivial))); (case aS => exact (below_size (by repeat (first | (with_reducible first | exact HB.out | apply below_alloc | apply pw_below_drewN | apply below_drew1 | refine below_set ?_ GE152.out) | exact HB.out)))); (case aL => have := LMc8.out; omega); intro v154 w47 ho hb hg hat; rw [← Ny153.out] at ho; have n0_ := Aside0.mk (blk_grown (g := gb152) (o := .cells #[.int .i64 ((rd_T43 l0 x16_1).f0), .int .i64 ((rd_T43 l0 x16_1).f1), .string ((rd_T43 l0 x16_1).f2)] 43 (0, 0)) (by (with_reducible repeat (first | refine blk_drewN ?_ _ | refine blk_drew ?_ | refine blk_alloc ?_ _)); refine blk_put (cs := #[.int .i64 ((rd_T43 l0 x16_1).f0), .int .i64 ((rd_T43 l0 x16_1).f1), .string (⟨#[]⟩ : ByteArray)]) ?_ 2 _ rfl; (with_reducible repeat (first | refine blk_drewN ?_ _ | refine blk_drew ?_ | refine blk_alloc ?_ _)); refine blk_put (cs := #[.int .i64 ((rd_T43 l0 x16_1).f0), .int .i64 0, .string (⟨#[]⟩ : ByteArray)]) ?_ 1 _ rfl; (with_reducible repeat (first | refine blk_drewN ?_ _ | refine blk_drew ?_ | refine blk_alloc ?_ _)); refine blk_put (cs := #[.int .i64 0, .int .i64 0, .string (⟨#[]⟩ : ByteArray)]) ?_ 0 _ rfl; (with_reducible repeat (first | refine blk_drewN ?_ _ | refine blk_drew ?_ | refine blk_alloc ?_ _)); exact BK152.out) hg (Kd.R_ne HO_5.out BK152.out (by decide))); have n1_ := Aside0.mk (hb); have n2_ := Aside0.mk (ho); clear BK152; clear HB; clear HO_5; have BK152 := n0_; have HB := n1_; have HO155 := n2_; clear n0_ n1_ n2_; clear ho hb hg hat; have hcz48_0 : w47.cell? ⟨gb152, 0, none⟩ = some (.int .i64 ((rd_T43 l0 x16_1).f0)) := (blk_cell BK152.out 0).trans rfl; have hcz48_1 : w47.cell? ⟨gb152, 1, none⟩ = some (.int .i64 ((rd_T43 l0 x16_1).f1)) := (blk_cell BK152.out 1).trans rfl; have hcz48_2 : w47.cell? ⟨gb152, 2, none⟩ = some (.string ((rd_T43 l0 x16_1).f2)) := (blk_cell BK152.out 2).trans rfl; have hfz48_0 := blk_frozen BK152.out 0; have hfz48_1 := blk_frozen BK152.out 1; have hfz48_2 := blk_frozen BK152.out 2) | ((with_reducible refine gate_callee (f := 30) rfl ?_); refine goesL_ (some 55) rfl rfl Tryd.func30 (by kernel_rfl) rfl #[.slice _ _ _, .slice _ _ _, .slice _ _ _] rfl (by (try simp only [List.map_toArray, List.map_cons, List.map_nil]); first | done | rfl | (simp only [List.length_drop, List.length_take]; rfl)) ?_; (with_reducible refine (zeros_calls ((rd_T43 l0 x16_1).f2) t177 _ A42.out).mono ?_); rintro e w49 ⟨v178, rfl, ho0, hb⟩; refine ⟨_, rfl, ?_⟩; have n0_ := Aside0.mk (Kd.R_elder' (by (with_reducible repeat (first | apply Kd.R_alloc | apply Kd.R_drewN | apply Kd.R_drew)); exact HO155.out) (Kd.R_base ho0) hb); have n1_ := Aside0.mk (Kd.R_lower (Kd.R_new' ho0 (Kd.R_lt (by (with_reducible repeat (first | apply Kd.R_alloc | apply Kd.R_drewN | apply Kd.R_drew)); exact HO155.out))) (below_size (by repeat (first | (with_reducible first | exact HB.out | apply below_alloc | apply pw_below_drewN | apply below_drew1 | refine below_set ?_ GE152.out) | exact HB.out)))); have n2_ := Aside0.mk (blk_below (g := gb152) (o := .cells #[.int .i64 ((rd_T43 l0 x16_1).f0), .int .i64 ((rd_T43 l0 x16_1).f1), .string ((rd_T43 l0 x16_1).f2)] 43 (0, 0)) (by (with_reducible repeat (first | refine blk_drewN ?_ _ | refine blk_drew ?_ | refine blk_alloc ?_ _)); exact BK152.out) hb); have n3_ := Aside0.mk (below_step (by repeat (first | (with_reducible first | exact HB.out | apply below_alloc | apply pw_below_drewN | apply below_drew1 | refine below_set ?_ GE152.out) | exact HB.out)) hb); clear HO155; clear BK152; clear HB; have HO155 := n0_; have HO179 := n1_; have BK152 := n2_; have HB := n3_; clear n0_ n1_ n2_ n3_; (try clear hb); (try clear hb2); (try clear hk); (try clear hi); (try clear ho0); obtain ⟨Ao51, co51, eo51⟩ := Kd.R_slice HO179.out; subst eo51) | ((with_reducible refine gate_builtin (b := .append) (xs := #[.tmp 49, .tmp 55]) rfl ?_); at_builtin; refine Kd.R_append_rows (Kd.int .u8) (w0 := w) w.heap.size rfl (.tmp 49) (.tmp 55) 26 5 (.int .u8 0) 1 rfl Tryd.underlying26 info5 rfl (by decide) (by omega) v154 y153 t177 _ _ _ (fun k_ => some k_ ≠ (.slice Ao51 t177.length co51 : Value).ownBlock) (fun _ => False) rfl rfl ?aO ?aR (fun _ _ h => h) (fun _ h => h.elim) ?aF ?aB ?aS ?aL ?_; (case aR => repeat (first | exact (Kd.R_reads' HO179.out).2.2 | (with_reducible refine Kd.C_alloc ?_ _) | (with_reducible refine Kd.C_drewN ?_ _) | (with_reducible refine Kd.C_drew ?_))); (case aB => exact (by repeat (first | (with_reducible first | exact HB.out | apply below_alloc | apply pw_below_drewN | apply below_drew1 | refine below_set ?_ GE152.out) | exact HB.out))); (case aF => exact (fun k_ hk => Kd.fresh' (Kd.R_lt (by (with_reducible repeat (first | apply Kd.R_alloc | apply Kd.R_drewN | apply Kd.R_drew)); exact HO179.out)) k_ hk)); (case aO => exact (by (with_reducible repeat (first | apply Kd.R_alloc | apply Kd.R_drewN | apply Kd.R_drew)); exact Kd.R_mono HO155.out (fun _ hk => hk.2))); (case aS => exact (below_size (by repeat (first | (with_reducible first | exact HB.out | apply below_alloc | apply pw_below_drewN | apply below_drew1 | refine below_set ?_ GE152.out) | exact HB.out)))); (case aL => have := LMc43.out; omega); intro v181 w50 ho hb hg hat; rw [← Ny180.out] at ho; have n0_ := Aside0.mk (blk_grown (g := gb152) (o := .cells #[.int .i64 ((rd_T43 l0 x16_1).f0), .int .i64 ((rd_T43 l0 x16_1).f1), .string ((rd_T43 l0 x16_1).f2)] 43 (0, 0)) (by (with_reducible repeat (first | refine blk_drewN ?_ _ | refine blk_drew ?_ | refine blk_alloc ?_ _)); exact BK152.out) hg (Kd.R_ne HO155.out BK152.out (by decide))); have n1_ := Aside0.mk (Kd.R_after (ok := (fun _ => True)) (by (with_reducible repeat (first | apply Kd.R_alloc | apply Kd.R_drewN | apply Kd.R_drew)); exact HO179.out) hg hat); have n2_ := Aside0.mk (hb); have n3_ := Aside0.mk (ho); clear BK152; clear HO179; clear HB; clear HO155; have BK152 := n0_; have HO179 := n1_; have HB := n2_; have HO182 := n3_; clear n0_ n1_ n2_ n3_; clear ho hb hg hat) | ((with_reducible refine gate_dst (N := 58) rfl ?_); refine Kd.R_lit (Kd.int .u8) _ 5 ?hg (N := 58) ?hd (xs := ([0, 0] : List Int)) (inner := [.int .u8 0, .int .u8 0]) (ok := fun _ => True) (okp := fun _ => True) ?hr ?hp (fun _ hk => hk) trivial (Below.refl _ _) (Nat.le_refl _) (by simp) ?_; (case hd => rfl); (case hg => rfl); (case hr => first | (go_simp; done) | (go_simp; rfl)); (case hp => exact (Reps.one (show Kd.M (Kd.int .u8) _ _ _ 0 [.int .u8 0] from rfl) (Reps.one (show Kd.M (Kd.int .u8) _ _ _ 0 [.int .u8 0] from rfl) (Reps.none _ _)))); intro v184 w52 ho53 hb hg_ hnew_; clear hg_ hnew_; (first | rw [← Ny183.out] at ho53 | (simp only [Int.reduceToNat] at ho53; rw [← Ny183.out] at ho53)); have n0_ := Aside0.mk (Kd.R_elder' (by (with_reducible repeat (first | apply Kd.R_alloc | apply Kd.R_drewN | apply Kd.R_drew)); exact HO179.out) (Kd.R_base ho53) hb); have n1_ := Aside0.mk (Kd.R_elder' (by (with_reducible repeat (first | apply Kd.R_alloc | apply Kd.R_drewN | apply Kd.R_drew)); exact HO182.out) (Kd.R_base ho53) hb); have n2_ := Aside0.mk (Kd.R_lower (Kd.R_new' (Kd.R_new' ho53 (Kd.R_lt (by (with_reducible repeat (first | apply Kd.R_alloc | apply Kd.R_drewN | apply Kd.R_drew)); exact HO179.out))) (Kd.R_lt (by (with_reducible repeat (first | apply Kd.R_alloc | apply Kd.R_drewN | apply Kd.R_drew)); exact HO182.out))) (below_size (by repeat (first | (with_reducible first | exact HB.out | apply below_alloc | apply pw_below_drewN | apply below_drew1 | refine below_set ?_ GE152.out) | exact HB.out)))); have n3_ := Aside0.mk (blk_below (g := gb152) (o := .cells #[.int .i64 ((rd_T43 l0 x16_1).f0), .int .i64 ((rd_T43 l0 x16_1).f1), .string ((rd_T43 l0 x16_1).f2)] 43 (0, 0)) (by (with_reducible repeat (first | refine blk_drewN ?_ _ | refine blk_drew ?_ | refine blk_alloc ?_ _)); exact BK152.out) hb); have n4_ := Aside0.mk (below_step (by repeat (first | (with_reducible first | exact HB.out | apply below_alloc | apply pw_below_drewN | apply below_drew1 | refine below_set ?_ GE152.out) | exact HB.out)) hb); clear HO179; clear HO182; clear BK152; clear HB; have HO179 := n0_; have HO182 := n1_; have HO185 := n2_; have BK152 := n3_; have HB := n4_; clear n0_ n1_ n2_ n3_ n4_; clear hb ho53; obtain ⟨Ao55, co55, eo55⟩ := Kd.R_slice HO185.out; subst eo55) | ((with_reducible refine gate_builtin (b := .append) (xs := #[.tmp 57, .tmp 58]) rfl ?_); at_builtin; refine Kd.R_append_rows (Kd.int .u8) (w0 := w) w.heap.size rfl (.tmp 57) (.tmp 58) 26 5 (.int .u8 0) 1 rfl Tryd.underlying26 info5 rfl (by decide) (by omega) v181 y180 y183 _ _ _ (fun k_ => some k_ ≠ (.slice Ao51 t177.length co51 : Value).ownBlock ∧ some k_ ≠ (.slice Ao55 y183.length co55 : Value).ownBlock) (fun _ => False) rfl rfl ?aO ?aR (fun _ _ h => h) (fun _ h => h.elim) ?aF ?aB ?aS ?aL ?_; (case aR => repeat (first | exact (Kd.R_reads' HO185.out).2.2 | (with_reducible refine Kd.C_alloc ?_ _) | (with_reducible refine Kd.C_drewN ?_ _) | (with_reducible refine Kd.C_drew ?_))); (case aB => exact (by repeat (first | (with_reducible first | exact HB.out | apply below_alloc | apply pw_below_drewN | apply below_drew1 | refine below_set ?_ GE152.out) | exact HB.out))); (case aF => exact (fun k_ hk => ⟨Kd.fresh' (Kd.R_lt (by (with_reducible repeat (first | apply Kd.R_alloc | apply Kd.R_drewN | apply Kd.R_drew)); exact HO179.out)) k_ hk, Kd.fresh' (Kd.R_lt (by (with_reducible repeat (first | apply Kd.R_alloc | apply Kd.R_drewN | apply Kd.R_drew)); exact HO185.out)) k_ hk⟩)); (case aO => exact (by (with_reducible repeat (first | apply Kd.R_alloc | apply Kd.R_drewN | apply Kd.R_drew)); exact HO182.out)); (case aS => exact (below_size (by repeat (first | (with_reducible first | exact HB.out | apply below_alloc | apply pw_below_drewN | apply below_drew1 | refine below_set ?_ GE152.out) | exact HB.out)))); (case aL => have := LMc44.out; omega); intro v187 w54 ho hb hg hat; rw [← Ny186.out] at ho; have n0_ := Aside0.mk (blk_grown (g := gb152) (o := .cells #[.int .i64 ((rd_T43 l0 x16_1).f0), .int .i64 ((rd_T43 l0 x16_1).f1), .string ((rd_T43 l0 x16_1).f2)] 43 (0, 0)) (by (with_reducible repeat (first | refine blk_drewN ?_ _ | refine blk_drew ?_ | refine blk_alloc ?_ _)); exact BK152.out) hg (Kd.R_ne HO182.out BK152.out (by decide))); have n1_ := Aside0.mk (Kd.R_after (ok := (fun k_ => some k_ ≠ (.slice Ao55 y183.length co55 : Value).ownBlock)) (by (with_reducible repeat (first | apply Kd.R_alloc | apply Kd.R_drewN | apply Kd.R_drew)); exact Kd.R_mono HO179.out (fun _ hk => ⟨hk.2, hk.1.2⟩)) hg hat); have n2_ := Aside0.mk (Kd.R_after (ok := (fun k_ => some k_ ≠ (.slice Ao51 t177.length co51 : Value).ownBlock)) (by (with_reducible repeat (first | apply Kd.R_alloc | apply Kd.R_drewN | apply Kd.R_drew)); exact Kd.R_mono HO185.out (fun _ hk => ⟨hk.1.2, hk.2⟩)) hg hat); have n3_ := Aside0.mk (hb); have n4_ := Aside0.mk (ho); clear BK152; clear HO179; clear HO185; clear HB; clear HO182; have BK152 := n0_; have HO179 := n1_; have HO185 := n2_; have HB := n3_; have HO188 := n4_; clear n0_ n1_ n2_ n3_ n4_; clear ho hb hg hat))
                            go_roundg k1
                            case measure => have := HK1.out; omega
                            case rel => exact ⟨(y186), (wrap64 (x16_1 + 1)), (by first | rfl | (simp; done) | (simp [*]; done) | (simp; first | exact Go.Proofs.YtbojfgjdpfobaaaDoor.Pre.ne1 _ | exact Go.Proofs.YtbojfgjdpfobaaaDoor.Pre.ne2 _ | exact Go.Proofs.YtbojfgjdpfobaaaDoor.Pre.ne3 _ | exact Go.Proofs.YtbojfgjdpfobaaaDoor.Pre.ne4 _ | exact Go.Proofs.YtbojfgjdpfobaaaDoor.Pre.ne5 _ | exact Go.Proofs.YtbojfgjdpfobaaaDoor.Pre.ne6 _)), H', ⟨by have := HK1.out; omega⟩, ⟨by (with_reducible repeat (first | apply Kd.R_alloc | apply Kd.R_drewN | apply Kd.R_drew)); exact Kd.R_mono HO188.out (fun _ hk => trivial)⟩, ⟨by repeat (first | (with_reducible first | exact HB.out | apply below_alloc | apply pw_below_drewN | apply below_drew1 | refine below_set ?_ GE152.out) | exact HB.out)⟩⟩
                          · rw [if_neg c44] at H
                            exact absurd H (by simp)
                        · rw [if_neg c43] at H
                          exact absurd H (by simp)
                      · rw [if_neg c41] at H
                        have c41b0 : (((rd_T43 l0 x16_1).f0) == 4) = false := beq_eq_false_iff_ne.mpr c41
                        have c41b1 : (((rd_T43 l0 x16_1).f0) != 4) = true := bne_iff_ne.mpr c41
                        have H' := Aside0.mk H
                        clear H
                        have p151 : 0 ≤ (x16_1 : Int) := of_decide_eq_true (by first | (with_reducible assumption) | assumption)
                        have q151 : x16_1 < (l0.length : Int) := of_decide_eq_true (by first | (with_reducible assumption) | assumption)
                        obtain ⟨ad151, e151, hx151_0, hx151_1, hx151_2⟩ := at_T43 HR0.out x16_1 p151 q151
                        cases e151
                        replace hx151_0 := (HB.out.cell (World.block_lt_of_cell? w _ hx151_0)).trans hx151_0
                        replace hx151_1 := (HB.out.cell (World.block_lt_of_cell? w _ hx151_1)).trans hx151_1
                        replace hx151_2 := (HB.out.cell (World.block_lt_of_cell? w _ hx151_2)).trans hx151_2
                        replace p151 := eq_true p151
                        replace q151 := eq_true q151
                        go_wp2_with (first | ((with_reducible refine gate_dst (N := 7) rfl ?_); refine box_event ?hg (N := 7) ?hd (cs := #[.int .i64 0, .int .i64 0, .string (⟨#[]⟩ : ByteArray)]) (t := 43) ?hr ?_; (case hd => rfl); (case hg => rfl); (case hr => first | (go_simp; done) | (go_simp; rfl)); intro gb152 hg w56 hbox hb; have n0_ := Aside0.mk (Kd.R_below (by (with_reducible repeat (first | apply Kd.R_alloc | apply Kd.R_drewN | apply Kd.R_drew)); exact HO_5.out) hb); have n1_ := Aside0.mk (below_step (by repeat (first | (with_reducible first | exact HB.out | apply below_alloc | apply pw_below_drewN | apply below_drew1) | exact HB.out)) hb); have n2_ := Aside0.mk (hbox); have n3_ := Aside0.mk ((by rw [hg]; exact (below_size (by repeat (first | (with_reducible first | exact HB.out | apply below_alloc | apply pw_below_drewN | apply below_drew1) | exact HB.out))) : w.heap.size ≤ gb152)); have n4_ := Aside0.mk ((by rw [hg]; exact (below_size (by repeat (first | (with_reducible first | exact HB.out | apply below_alloc | apply pw_below_drewN | apply below_drew1) | exact HB.out))) : w.heap.size ≤ gb152)); clear HO_5; clear HB; have HO_5 := n0_; have HB := n1_; have BK152 := n2_; have GW152 := n3_; have GE152 := n4_; clear n0_ n1_ n2_ n3_ n4_; clear hb hbox hg; have hcz57_0 : w56.cell? ⟨gb152, 0, none⟩ = some (.int .i64 0) := (blk_cell BK152.out 0).trans rfl; have hcz57_1 : w56.cell? ⟨gb152, 1, none⟩ = some (.int .i64 0) := (blk_cell BK152.out 1).trans rfl; have hcz57_2 : w56.cell? ⟨gb152, 2, none⟩ = some (.string (⟨#[]⟩ : ByteArray)) := (blk_cell BK152.out 2).trans rfl; have hfz57_0 := blk_frozen BK152.out 0; have hfz57_1 := blk_frozen BK152.out 1; have hfz57_2 := blk_frozen BK152.out 2) | ((with_reducible refine gate_builtin (b := .append) (xs := #[.tmp 20, .tmp 24]) rfl ?_); at_builtin; refine Kd.R_append (Kd.int .u8) (w0 := w) w.heap.size rfl (.tmp 20) (.tmp 24) 26 5 (.int .u8 0) 1 rfl Tryd.underlying26 info5 rfl (by decide) (by omega) u5 x5_1 (((rd_T43 l0 x16_1).f0) % 256) [.int .u8 (((rd_T43 l0 x16_1).f0) % 256)] (fun _ => True) (fun _ => False) rfl (by first | (go_simp; done) | (go_simp; rfl)) ?aP (fun _ hk => hk.elim) ?aF ?aO ?aB ?aS ?aL ?_; (case aP => exact rfl); (case aB => exact (by repeat (first | (with_reducible first | exact HB.out | apply below_alloc | apply pw_below_drewN | apply below_drew1 | refine below_set ?_ GE152.out) | exact HB.out))); (case aF => exact (fun _ _ => trivial)); (case aO => exact (by (with_reducible repeat (first | apply Kd.R_alloc | apply Kd.R_drewN | apply Kd.R_drew)); exact Kd.R_mono (Kd.R_far (p := ⟨gb152, 2, none⟩) (Kd.R_far (p := ⟨gb152, 1, none⟩) (Kd.R_far (p := ⟨gb152, 0, none⟩) (Kd.R_types HO_5.out BK152.out (by decide)) (fun _ hk => hk.2) (.int .i64 ((rd_T43 l0 x16_1).f0))) (fun _ hk => hk.2) (.int .i64 ((rd_T43 l0 x16_1).f1))) (fun _ hk => hk.2) (.string ((rd_T43 l0 x16_1).f2))) (fun _ hk => trivial))); (case aS => exact (below_size (by repeat (first | (with_reducible first | exact HB.out | apply below_alloc | apply pw_below_drewN | apply below_drew1 | refine below_set ?_ GE152.out) | exact HB.out)))); (case aL => have := LMc8.out; omega); intro v154 w58 ho hb hg hat; rw [← Ny153.out] at ho; have n0_ := Aside0.mk (blk_grown (g := gb152) (o := .cells #[.int .i64 ((rd_T43 l0 x16_1).f0), .int .i64 ((rd_T43 l0 x16_1).f1), .string ((rd_T43 l0 x16_1).f2)] 43 (0, 0)) (by (with_reducible repeat (first | refine blk_drewN ?_ _ | refine blk_drew ?_ | refine blk_alloc ?_ _)); refine blk_put (cs := #[.int .i64 ((rd_T43 l0 x16_1).f0), .int .i64 ((rd_T43 l0 x16_1).f1), .string (⟨#[]⟩ : ByteArray)]) ?_ 2 _ rfl; (with_reducible repeat (first | refine blk_drewN ?_ _ | refine blk_drew ?_ | refine blk_alloc ?_ _)); refine blk_put (cs := #[.int .i64 ((rd_T43 l0 x16_1).f0), .int .i64 0, .string (⟨#[]⟩ : ByteArray)]) ?_ 1 _ rfl; (with_reducible repeat (first | refine blk_drewN ?_ _ | refine blk_drew ?_ | refine blk_alloc ?_ _)); refine blk_put (cs := #[.int .i64 0, .int .i64 0, .string (⟨#[]⟩ : ByteArray)]) ?_ 0 _ rfl; (with_reducible repeat (first | refine blk_drewN ?_ _ | refine blk_drew ?_ | refine blk_alloc ?_ _)); exact BK152.out) hg (Kd.R_ne HO_5.out BK152.out (by decide))); have n1_ := Aside0.mk (hb); have n2_ := Aside0.mk (ho); clear BK152; clear HB; clear HO_5; have BK152 := n0_; have HB := n1_; have HO155 := n2_; clear n0_ n1_ n2_; clear ho hb hg hat; have hcz59_0 : w58.cell? ⟨gb152, 0, none⟩ = some (.int .i64 ((rd_T43 l0 x16_1).f0)) := (blk_cell BK152.out 0).trans rfl; have hcz59_1 : w58.cell? ⟨gb152, 1, none⟩ = some (.int .i64 ((rd_T43 l0 x16_1).f1)) := (blk_cell BK152.out 1).trans rfl; have hcz59_2 : w58.cell? ⟨gb152, 2, none⟩ = some (.string ((rd_T43 l0 x16_1).f2)) := (blk_cell BK152.out 2).trans rfl; have hfz59_0 := blk_frozen BK152.out 0; have hfz59_1 := blk_frozen BK152.out 1; have hfz59_2 := blk_frozen BK152.out 2))
                        go_roundg k1
                        case measure => have := HK1.out; omega
                        case rel => exact ⟨(y153), (wrap64 (x16_1 + 1)), (by first | rfl | (simp; done) | (simp [*]; done) | (simp; first | exact Go.Proofs.YtbojfgjdpfobaaaDoor.Pre.ne1 _ | exact Go.Proofs.YtbojfgjdpfobaaaDoor.Pre.ne2 _ | exact Go.Proofs.YtbojfgjdpfobaaaDoor.Pre.ne3 _ | exact Go.Proofs.YtbojfgjdpfobaaaDoor.Pre.ne4 _ | exact Go.Proofs.YtbojfgjdpfobaaaDoor.Pre.ne5 _ | exact Go.Proofs.YtbojfgjdpfobaaaDoor.Pre.ne6 _)), H', ⟨by have := HK1.out; omega⟩, ⟨by (with_reducible repeat (first | apply Kd.R_alloc | apply Kd.R_drewN | apply Kd.R_drew)); exact HO155.out⟩, ⟨by repeat (first | (with_reducible first | exact HB.out | apply below_alloc | apply pw_below_drewN | apply below_drew1 | refine below_set ?_ GE152.out) | exact HB.out)⟩⟩
              · rw [if_neg c8] at H
                exact absurd H (by simp)
            · rw [if_neg c7] at H
              exact absurd H (by simp)
          · rw [if_neg c6] at H
            exact absurd H (by simp)
        · rw [if_neg c5] at H
          have c5b0 : decide (x16_1 < (l0.length : Int)) = false := decide_eq_false c5
          clear c5
          simp only [Option.some.injEq, Prod.mk.injEq] at H
          obtain ⟨rfl, rfl⟩ := H
          go_wp2
          go_ret2
          exact ⟨_, by first | rfl | (simp [errW_none, errW_some] <;> rfl) | (simp [*, errW_none, errW_some] <;> rfl), by (with_reducible repeat (first | apply Kd.R_alloc | apply Kd.R_drewN | apply Kd.R_drew)); exact HO_5.out, by repeat (first | (with_reducible first | exact HB.out | apply below_alloc | apply pw_below_drewN | apply below_drew1) | exact HB.out)⟩
  · rw [if_neg c3] at H
    have c3b0 : (t150 == 0) = false := beq_eq_false_iff_ne.mpr c3
    have c3b1 : (t150 != 0) = true := bne_iff_ne.mpr c3
    simp only [Option.some.injEq, Prod.mk.injEq] at H
    obtain ⟨rfl, rfl⟩ := H
    go_enter Tryd.func13, Tryd.ntmps13
    go_wp2_with (first | ((with_reducible refine gate_callee (f := 26) rfl ?_); refine goesL_ (some 10) rfl rfl Tryd.func26 (by kernel_rfl) rfl #[.slice A0 l0.length c0] rfl (by (try simp only [List.map_toArray, List.map_cons, List.map_nil]); first | done | rfl | (simp only [List.length_drop, List.length_take]; rfl)) ?_; (with_reducible refine (value_CheckRow.calls _ _ l0 t150 _ ?side1 ?side2 A2.out).mono ?_); (case side1 => repeat (first | exact HR0.out | (with_reducible refine Kd.C_alloc ?_ _) | (with_reducible refine Kd.C_drewN ?_ _) | (with_reducible refine Kd.C_drew ?_))); (case side2 => exact HC0.out); rintro e w60 ⟨rfl, hb⟩; refine ⟨_, rfl, ?_⟩; have n0_ := Aside0.mk (below_step (by repeat (first | (with_reducible first | exact HB.out | apply below_alloc | apply pw_below_drewN | apply below_drew1) | exact HB.out)) hb); clear HB; have HB := n0_; clear n0_; (try clear hb); (try clear hb2); (try clear hk); (try clear hi)))
    go_ret2
    exact ⟨_, by first | rfl | (simp [errW_none, errW_some] <;> rfl) | (simp [*, errW_none, errW_some] <;> rfl), by first | exact Kd.R_nil _ _ _ _ _ | exact Kd.N_nil _ _ _ _ _ | exact Kd.V_nil _ _ _ _ _ | exact Kd.Q_nil _ _ _ _ _ | exact Kd.S_nil _ _ _ _ _, by repeat (first | (with_reducible first | exact HB.out | apply below_alloc | apply pw_below_drewN | apply below_drew1) | exact HB.out)⟩

/-! ### code_Hash: function 16 -/
def code_Hash.l0 : Nat → Int → List Int → Int → Int → Option (Int)
  | 0, _, _, _, _ => none
  | k + 1, x3, x6, x7, x8 => if x8 < x7 then (if 0 ≤ x8 then (if x8 < (x6.length : Int) then (code_Hash.l0 k (IntKind.u64.wrap ((Go.bits .xor .u64 x3 (IntKind.u64.wrap (rd x6 x8))) * 1099511628211)) x6 x7 (wrap64 (x8 + 1))) else (none)) else (none)) else (some x3)
def code_Hash.f (k : Nat) (l0 : List Int) : Option (Int) := code_Hash.l0 k 14695981039346656037 l0 (l0.length : Int) 0
theorem code_Hash.mono_l : ∀ k, (∀ y0 y1 y2 y3, LeO (code_Hash.l0 k y0 y1 y2 y3) (code_Hash.l0 (k + 1) y0 y1 y2 y3))
  | 0 => fun _ _ _ _ r h => by simp [code_Hash.l0] at h
  | k + 1 => by
    have ih0 := code_Hash.mono_l k
    · intro y0 y1 y2 y3
      unfold code_Hash.l0
      repeat' first
      | (with_reducible exact ih0 _ _ _ _)
      | (with_reducible exact LeO.refl _)
      | (with_reducible exact LeO.none _)
      | (with_reducible refine LeO.ite ?_ ?_)
      | (with_reducible refine LeO.bind ?_ (fun _ => ?_))
      | exact ih0 _ _ _ _
      | exact LeO.none _
      | refine LeO.ite ?_ ?_
      | refine LeO.bind ?_ (fun _ => ?_)
theorem code_Hash.mono : ∀ a0 k, LeO (code_Hash.f k a0) (code_Hash.f (k + 1) a0) := by
  intro a0 k
  have ih0 := code_Hash.mono_l k
  unfold code_Hash.f
  repeat' first
      | (with_reducible exact ih0 _ _ _ _)
      | (with_reducible exact LeO.refl _)
      | (with_reducible exact LeO.none _)
      | (with_reducible refine LeO.ite ?_ ?_)
      | (with_reducible refine LeO.bind ?_ (fun _ => ?_))
      | exact ih0 _ _ _ _
      | exact LeO.none _
      | refine LeO.ite ?_ ?_
      | refine LeO.bind ?_ (fun _ => ?_)
set_option maxHeartbeats 8000000 in
set_option maxRecDepth 100000 in
theorem code_Hash.calls (k : Nat) (A0 : Option Addr) (c0 : Nat) (l0 : List Int) (r : Int) (w : World) (hr0 : Kd.C (Kd.int .u8) w A0 l0.length l0) (hc0 : l0.length ≤ c0) (h : code_Hash.f k l0 = some r) :
    Calls Tryd.prog 16 #[.slice A0 l0.length c0] w fun e w' => e = .returned (.int .u64 r) ∧ Drawn0 w w' := by
  have HR0 := Aside0.mk hr0
  have HC0 := Aside0.mk hc0
  clear hr0 hc0
  have H : (code_Hash.l0 k 14695981039346656037 l0 (l0.length : Int) 0) = some r := h
  clear h
  have H' := Aside0.mk H
  clear H
  go_enter Tryd.func16, Tryd.ntmps16
  go_wp2
  go_loopg [3, 8] k (fun kq v3 v8 w' => ∃ (x3_1 : Int) (x8_1 : Int), v3 = .int .u64 x3_1 ∧ v8 = .int .i64 x8_1 ∧ Aside0 (code_Hash.l0 kq x3_1 l0 (l0.length : Int) x8_1 = some r) ∧ Aside0 (kq ≤ k) ∧ Drawn0 w w')
  case atStart => exact ⟨(14695981039346656037), (0), (by first | rfl | (simp; done) | (simp [*]; done) | (simp; first | exact Go.Proofs.YtbojfgjdpfobaaaDoor.Pre.ne1 _ | exact Go.Proofs.YtbojfgjdpfobaaaDoor.Pre.ne2 _ | exact Go.Proofs.YtbojfgjdpfobaaaDoor.Pre.ne3 _ | exact Go.Proofs.YtbojfgjdpfobaaaDoor.Pre.ne4 _ | exact Go.Proofs.YtbojfgjdpfobaaaDoor.Pre.ne5 _ | exact Go.Proofs.YtbojfgjdpfobaaaDoor.Pre.ne6 _)), (by first | rfl | (simp; done) | (simp [*]; done) | (simp; first | exact Go.Proofs.YtbojfgjdpfobaaaDoor.Pre.ne1 _ | exact Go.Proofs.YtbojfgjdpfobaaaDoor.Pre.ne2 _ | exact Go.Proofs.YtbojfgjdpfobaaaDoor.Pre.ne3 _ | exact Go.Proofs.YtbojfgjdpfobaaaDoor.Pre.ne4 _ | exact Go.Proofs.YtbojfgjdpfobaaaDoor.Pre.ne5 _ | exact Go.Proofs.YtbojfgjdpfobaaaDoor.Pre.ne6 _)), H', ⟨Nat.le_refl _⟩, by repeat (first | exact Drawn0.refl _ | apply Drawn0.step)⟩
  case round =>
    clear H'
    try clear c1
    obtain ⟨x3_1, x8_1, rfl, rfl, HA, HK1, ⟨m1, rfl⟩⟩ := hrel
    cases gk with
    | zero => exact absurd HA.out (by simp [code_Hash.l0])
    | succ k1 =>
      have H := HA.out
      clear HA
      simp only [code_Hash.l0] at H
      by_cases c2 : x8_1 < (l0.length : Int)
      · rw [if_pos c2] at H
        have c2b0 : decide (x8_1 < (l0.length : Int)) = true := decide_eq_true c2
        clear c2
        by_cases c3 : 0 ≤ x8_1
        · rw [if_pos c3] at H
          have c3b0 : decide (0 ≤ x8_1) = true := decide_eq_true c3
          clear c3
          by_cases c4 : x8_1 < (l0.length : Int)
          · rw [if_pos c4] at H
            have c4b0 : decide (x8_1 < (l0.length : Int)) = true := decide_eq_true c4
            clear c4
            have H' := Aside0.mk H
            clear H
            have p189 : 0 ≤ (x8_1 : Int) := of_decide_eq_true (by first | (with_reducible assumption) | assumption)
            have q189 : x8_1 < (l0.length : Int) := of_decide_eq_true (by first | (with_reducible assumption) | assumption)
            obtain ⟨ad189, e189, hx189_0⟩ := Kd.at_int HR0.out x8_1 p189 q189
            cases e189
            replace p189 := eq_true p189
            replace q189 := eq_true q189
            go_wp2
            go_roundg k1
            case measure => have := HK1.out; omega
            case rel => exact ⟨(IntKind.u64.wrap ((Go.bits .xor .u64 x3_1 (IntKind.u64.wrap (rd l0 x8_1))) * 1099511628211)), (wrap64 (x8_1 + 1)), (by first | rfl | (simp; done) | (simp [*]; done) | (simp; first | exact Go.Proofs.YtbojfgjdpfobaaaDoor.Pre.ne1 _ | exact Go.Proofs.YtbojfgjdpfobaaaDoor.Pre.ne2 _ | exact Go.Proofs.YtbojfgjdpfobaaaDoor.Pre.ne3 _ | exact Go.Proofs.YtbojfgjdpfobaaaDoor.Pre.ne4 _ | exact Go.Proofs.YtbojfgjdpfobaaaDoor.Pre.ne5 _ | exact Go.Proofs.YtbojfgjdpfobaaaDoor.Pre.ne6 _)), (by first | rfl | (simp; done) | (simp [*]; done) | (simp; first | exact Go.Proofs.YtbojfgjdpfobaaaDoor.Pre.ne1 _ | exact Go.Proofs.YtbojfgjdpfobaaaDoor.Pre.ne2 _ | exact Go.Proofs.YtbojfgjdpfobaaaDoor.Pre.ne3 _ | exact Go.Proofs.YtbojfgjdpfobaaaDoor.Pre.ne4 _ | exact Go.Proofs.YtbojfgjdpfobaaaDoor.Pre.ne5 _ | exact Go.Proofs.YtbojfgjdpfobaaaDoor.Pre.ne6 _)), H', ⟨by have := HK1.out; omega⟩, by repeat (first | exact Drawn0.refl _ | apply Drawn0.step)⟩
          · rw [if_neg c4] at H
            exact absurd H (by simp)
        · rw [if_neg c3] at H
          exact absurd H (by simp)
      · rw [if_neg c2] at H
        have c2b0 : decide (x8_1 < (l0.length : Int)) = false := decide_eq_false c2
        clear c2
        obtain rfl := Option.some.inj H
        go_wp2
        go_ret
        exact ⟨by first | rfl | (simp; done) | (simp [*]; done), by repeat (first | exact Drawn0.refl _ | apply Drawn0.step)⟩

end Go.Proofs.YtbojfgjdpfobaaaDoor.QCR
