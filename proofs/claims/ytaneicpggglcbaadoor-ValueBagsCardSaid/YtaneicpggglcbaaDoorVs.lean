/- ValueSorts and ValueBags: what the two laws lean on: the order of rows is one, two sorted lists of the same rows are the same, SameRows. -/
import Derived.Test.YtaneicpggglcbaaDoorSr
import Derived.Test.YtaneicpggglcbaaDoorVaT
set_option linter.unusedVariables false
set_option linter.unusedSimpArgs false
namespace Go.Proofs.YtaneicpggglcbaaDoor.Sv
open Go.RowKit Go.Proofs.YtaneicpggglcbaaDoorW.PrintWords Go.Proofs.YtaneicpggglcbaaDoorW.PrintLast Go.Proofs.YtaneicpggglcbaaDoorW.PrintMore
open Go.Sort hiding Below
open Go.Proofs.YtaneicpggglcbaaDoor.QVT Go.Proofs.YtaneicpggglcbaaDoor.Pu
open Go.Proofs.YtaneicpggglcbaaDoor.Sm (CmpOk SB Row ltOf stable_s)
open Go.Proofs.YtaneicpggglcbaaDoor.Va (rowC ordR rowC_zero cmpL_eq rows_ev live_ev big_ev)
variable {wb : World}
theorem cfE_row (x y : El wb) : cfE x y = rowC x.c y.c := cmpL_eq _ _
theorem swo : SWO (ltOf (cfE (wb := wb))) where
  irrefl x := by unfold ltOf; rw [cfE_row, ordR.self]; rfl
  trans x y z h1 h2 := by
    unfold ltOf at *
    rw [cfE_row] at *
    simp only [decide_eq_true_eq] at *
    exact (ordR.tr _ _ _ (by omega) (by omega)).2 (.inl h1)
  ntrans x y z h1 h2 := by
    unfold ltOf at *
    rw [cfE_row] at *
    simp only [decide_eq_false_iff_not] at *
    have a1 := ordR.anti x.c y.c
    have a2 := ordR.anti y.c z.c
    have a3 := ordR.anti x.c z.c
    have := (ordR.tr z.c y.c x.c (by omega) (by omega)).1
    omega
theorem cmpK (a b : List S27) (ha : a.length ≤ 9223372036854775807) (hb : b.length ≤ 9223372036854775807) : ∃ k, boscageref01_CompareRows.f k a b = some (cmpL a b) := by
  obtain ⟨K, h⟩ := rows_ev ha hb
  exact ⟨K, by rw [cmpL_eq]; exact h K (Nat.le_refl _)⟩
theorem leE_row (x y : El wb) : leE x y = true ↔ rowC x.c y.c ≤ 0 := by
  unfold leE ltOf
  rw [cfE_row]
  have := ordR.anti x.c y.c
  simp only [Bool.not_eq_true', decide_eq_false_iff_not]
  omega
/-- two lists in order, of the same rows, are the same lists of rows -/
theorem uniq {xs ys : List (El wb)} (hp : (xs.map El.c).Perm (ys.map El.c)) (hx : xs.Pairwise (fun x y => leE x y = true)) (hy : ys.Pairwise (fun x y => leE x y = true)) : xs.map El.c = ys.map El.c := by
  refine List.Perm.eq_of_pairwise (le := fun a b : List S27 => rowC a b ≤ 0) ?_ ?_ ?_ hp
  · intro a b _ _ h1 h2
    have := ordR.anti a b
    exact (rowC_zero a b).1 (by omega)
  · rw [List.pairwise_map]
    exact hx.imp fun h => (leE_row _ _).1 h
  · rw [List.pairwise_map]
    exact hy.imp fun h => (leE_row _ _).1 h
theorem Srt.pw {d d' : Array (El wb)} (h : Srt d d') : d'.toList.Pairwise (fun x y => leE x y = true) := by
  rw [List.pairwise_iff_getElem]
  intro i j hi hj hij
  have hi' : i < d'.size := by simpa using hi
  have hj' : j < d'.size := by simpa using hj
  have := h.ord i j (Nat.zero_le _) hij hj'
  rw [getElem!_pos d' j hj', getElem!_pos d' i hi'] at this
  unfold leE
  simpa using this
/-- SameRows in plain words -/
theorem sameRow_ev (a b : List S27) (ha : a.length ≤ 9223372036854775807) (hb : b.length ≤ 9223372036854775807) : Ev (fun k => boscageref01_SameRow.f k a b) (decide (a = b)) := by
  unfold boscageref01_SameRow.f
  refine Ev.bind (rows_ev ha hb) (Ev.done ?_)
  by_cases h : a = b
  · have := (rowC_zero a b).2 h
    rw [this]; simp [h]
  · have : rowC a b ≠ 0 := fun e => h ((rowC_zero a b).1 e)
    simp [h, this]
theorem sameRows_loop (a b : List (List S27)) (hl : a.length = b.length) (hm : a.length ≤ 1000000000) (wa : ∀ r ∈ a, r.length ≤ 9223372036854775807) (wb : ∀ r ∈ b, r.length ≤ 9223372036854775807) : ∀ (n i : Nat), n + i = a.length →
    Ev (fun k => boscageref01_SameRows.l0 k a b (a.length : Int) (i : Int)) (decide (a.drop i = b.drop i))
  | 0, i, h => by
    refine Ev.at1 ?_
    simp only [boscageref01_SameRows.l0]
    refine Ev.neg (by omega) (Ev.done ?_)
    rw [List.drop_eq_nil_of_le (by omega), List.drop_eq_nil_of_le (by omega)]
    simp
  | n + 1, i, h => by
    have h0 : i < a.length := by omega
    have h1 : i < b.length := by omega
    have hw : wrap64 ((i : Int) + 1) = ((i + 1 : Nat) : Int) := by unfold wrap64; omega
    have e0 := List.drop_eq_getElem_cons h0
    have e1 := List.drop_eq_getElem_cons h1
    have r0 : rd_L3 a (i : Int) = a[i] := by unfold rd_L3; rw [Int.toNat_natCast, List.getD_eq_getElem?_getD, List.getElem?_eq_getElem h0, Option.getD_some]
    have r1 : rd_L3 b (i : Int) = b[i] := by unfold rd_L3; rw [Int.toNat_natCast, List.getD_eq_getElem?_getD, List.getElem?_eq_getElem h1, Option.getD_some]
    refine Ev.at1 ?_
    simp only [boscageref01_SameRows.l0]
    refine Ev.pos (by omega) (Ev.pos (by omega) (Ev.pos (by omega) (Ev.pos (by omega) ?_)))
    rw [r0, r1, hw]
    refine Ev.bind (sameRow_ev _ _ (wa _ (List.getElem_mem h0)) (wb _ (List.getElem_mem h1))) ?_
    by_cases e : a[i] = b[i]
    · refine Ev.pos (by simp [e]) (Ev.eq (sameRows_loop a b hl hm wa wb n (i + 1) (by omega)) (decide_eq_decide.2 ?_))
      rw [e0, e1, e]
      exact ⟨fun h => by rw [h], fun h => (List.cons.inj h).2⟩
    · refine Ev.neg (by simp [e]) (Ev.done ?_)
      refine (decide_eq_false ?_).symm
      rw [e0, e1]
      exact fun h => e (List.cons.inj h).1
theorem sameRowsK (a b : List (List S27)) (hm : a.length ≤ 1000000000) (wa : ∀ r ∈ a, r.length ≤ 9223372036854775807) (wb : ∀ r ∈ b, r.length ≤ 9223372036854775807) : ∃ k, boscageref01_SameRows.f k a b = some (decide (a = b)) := by
  have : Ev (fun k => boscageref01_SameRows.f k a b) (decide (a = b)) := by
    unfold boscageref01_SameRows.f
    by_cases hl : a.length = b.length
    · have := sameRows_loop a b hl hm wa wb a.length 0 (by omega)
      refine Ev.pos (by omega) (Ev.eq this (by simp))
    · refine Ev.neg (by omega) (Ev.done ?_)
      have : a ≠ b := fun e => hl (by rw [e])
      simp [this]
  obtain ⟨K, h⟩ := this
  exact ⟨K, h K (Nat.le_refl _)⟩
theorem el_len (x : El wb) : x.c.length ≤ 9223372036854775807 := by obtain ⟨A, c, e, hl, hC⟩ := x.h; exact hC.2.1
theorem map_len (xs : List (El wb)) : ∀ r ∈ xs.map El.c, r.length ≤ 9223372036854775807 := by
  intro r hr
  obtain ⟨x, _, rfl⟩ := List.mem_map.1 hr
  exact el_len x
/-- a list that is read, as the printed walks read it -/
theorem Rd.to_C {w : World} {A : Option Addr} {xs : List (El wb)} (h : Rd w A xs) (hb : RowKit.Below wb.heap.size wb w) : Kd.C (Kd.slice 27 k27) w A (xs.map El.c).length (xs.map El.c) := by
  refine ⟨rfl, by simpa using h.2.1, fun hp => ?_⟩
  obtain ⟨ad, ea, hcell⟩ := h.2.2 (by simpa using hp)
  refine ⟨ad, ea, fun j p hj => ?_⟩
  have hjl : j < xs.length := by have := (List.getElem?_eq_some_iff.1 hj).1; simpa using this
  have hc := hcell j hjl
  rw [List.getD_eq_getElem?_getD, List.getElem?_eq_getElem hjl, Option.getD_some] at hc
  rw [List.getElem?_map, List.getElem?_eq_getElem hjl] at hj
  simp only [Option.map_some, Option.some.injEq] at hj
  subst hj
  obtain ⟨A1, c1, e1, hl1, hC1⟩ := xs[j].h.below hb
  refine ⟨[xs[j].v], rfl, ⟨A1, c1, by rw [e1], hl1, hC1⟩, fun i u hu => ?_⟩
  match i, hu with
  | 0, hu =>
    simp only [List.getElem?_cons_zero, Option.some.injEq] at hu
    subst hu
    simpa [Kd.slice, encE] using hc
theorem sameRows_s {w : World} {A A' : Option Addr} (c c' : Nat) (xs ys : List (El wb)) (h : Rd w A xs) (h' : Rd w A' ys) (hc : xs.length ≤ c) (hc' : ys.length ≤ c') (hm : xs.length ≤ 1000000000) (hb : RowKit.Below wb.heap.size wb w) :
    Calls Tryd.prog 27 #[.slice A xs.length c, .slice A' ys.length c'] w fun e w' => e = .returned (.bool (decide (xs.map El.c = ys.map El.c))) ∧ Below w.heap.size w w' := by
  obtain ⟨k, hk⟩ := sameRowsK (xs.map El.c) (ys.map El.c) (by simpa using hm) (map_len xs) (map_len ys)
  have := boscageref01_SameRows.calls k A c (xs.map El.c) A' c' (ys.map El.c) _ w (h.to_C hb) (by simpa using hc) (h'.to_C hb) (by simpa using hc') hk
  simpa only [List.length_map] using this
set_option maxHeartbeats 8000000 in
set_option maxRecDepth 1000000 in
theorem refSameBag_s {w : World} {A A' : Option Addr} (c c' : Nat) (xs ys : List (El wb)) (h : Rd w A xs) (h' : Rd w A' ys) (hc : xs.length ≤ c) (hc' : ys.length ≤ c') (hm : xs.length ≤ 1000000) (hm' : ys.length ≤ 1000000) (hb : RowKit.Below wb.heap.size wb w) :
    Calls Tryd.prog 30 #[.slice A xs.length c, .slice A' ys.length c'] w fun e w' => ∃ z1 z2 : List (El wb), z1.Perm xs ∧ z2.Perm ys ∧ z1.Pairwise (fun x y => leE x y = true) ∧ z2.Pairwise (fun x y => leE x y = true) ∧ e = .returned (.bool (decide (z1.map El.c = z2.map El.c))) ∧ Below w.heap.size w w' := by
  have H' := Aside0.mk h'
  have HB := Aside0.mk hb
  have HC' := Aside0.mk (And.intro hc' hm')
  have HM := Aside0.mk hm
  have C1 := refSorted_s swo cmpK xs.length A c xs w (Nat.le_refl _) hm hc h hb
  obtain ⟨n1, e1⟩ : ∃ q, q = xs.length := ⟨_, rfl⟩
  obtain ⟨n2, e2⟩ : ∃ q, q = ys.length := ⟨_, rfl⟩
  have E1 := Aside0.mk e1
  have E2 := Aside0.mk e2
  rw [← e1] at C1 ⊢
  rw [← e2]
  clear h h' hc hc' hm hm' hb e1 e2
  go_enter Tryd.func30, Tryd.ntmps30
  go_wp2_with fail
  refine C1.mono ?_
  rintro e w1 ⟨v1, z1, rfl, p1, q1, o1, b1⟩
  have P1 := Aside0.mk (And.intro p1 q1)
  have O1 := Aside0.mk o1
  have B1 := Aside0.mk b1
  clear C1 p1 q1 o1 b1
  have C2 := refSorted_s swo cmpK ys.length A' c' ys w1 (Nat.le_refl _) HC'.out.2 HC'.out.1 (H'.out.below B1.out) (HB.out.trans (RowKit.Below.mono B1.out HB.out.size))
  rw [← E2.out] at C2
  go_wp2_with fail
  refine C2.mono ?_
  rintro e w2 ⟨v2, z2, rfl, p2, q2, o2, b2⟩
  have P2 := Aside0.mk (And.intro p2 q2)
  have O2 := Aside0.mk o2
  have O3 := Aside0.mk (O1.out.below b2)
  have B2 := Aside0.mk (B1.out.trans (RowKit.Below.mono b2 B1.out.size))
  clear C2 p2 q2 o2 b2 O1
  obtain ⟨A1, c1, rfl, hc1, hR1⟩ := O3.out.reads
  obtain ⟨A2, c2, rfl, hc2, hR2⟩ := O2.out.reads
  have C3 := sameRows_s c1 c2 z1 z2 hR1 hR2 hc1 hc2 (by rw [P1.out.1.length_eq]; exact Nat.le_trans HM.out (by decide)) (HB.out.trans (RowKit.Below.mono B2.out HB.out.size))
  generalize hr : decide (z1.map El.c = z2.map El.c) = r at C3
  have HRR := Aside0.mk hr
  clear hr hc1 hR1 hc2 hR2
  go_wp2_with fail
  refine C3.mono ?_
  rintro e w3 ⟨rfl, b3⟩
  have B3 := Aside0.mk (B2.out.trans (RowKit.Below.mono b3 B2.out.size))
  clear C3 b3
  go_wp2
  go_ret
  exact ⟨z1, z2, P1.out.1, P2.out.1, P1.out.2, P2.out.2, by rw [HRR.out]; rfl, B3.out⟩
/-- own rows, out of a list -/
theorem Ow.own' {w : World} {base : Nat} {v : Value} {d : Array (El wb)} (h : Ow w base v d.toList) : Own w base v d := by
  unfold Ow encs at h
  unfold Own
  simpa using h
/-- the two answers on bags -/
theorem bag_same {d1 d2 s1 s2 : Array (El wb)} {z1 z2 : List (El wb)} (h1 : Srt d1 s1) (h2 : Srt d2 s2) (p1 : z1.Perm d1.toList) (p2 : z2.Perm d2.toList) (q1 : z1.Pairwise (fun x y => leE x y = true)) (q2 : z2.Pairwise (fun x y => leE x y = true)) :
    same s1 s2 0 = decide (z1.map El.c = z2.map El.c) := by
  have e1 : s1.toList.map El.c = z1.map El.c := uniq ((h1.perm.trans p1.symm).map _) h1.pw q1
  have e2 : s2.toList.map El.c = z2.map El.c := uniq ((h2.perm.trans p2.symm).map _) h2.pw q2
  unfold same
  rw [List.drop_zero, List.drop_zero, e1, e2]
theorem bag_not {d1 d2 : Array (El wb)} {z1 z2 : List (El wb)} (hn : d1.size ≠ d2.size) (p1 : z1.Perm d1.toList) (p2 : z2.Perm d2.toList) : decide (z1.map El.c = z2.map El.c) = false := by
  refine decide_eq_false fun e => hn ?_
  have := congrArg List.length e
  rw [List.length_map, List.length_map, p1.length_eq, p2.length_eq] at this
  simpa using this
/-- what a list of rows that came in is -/
def OkL (l : List (List S27)) : Prop := l.length ≤ 6000000000000 ∧ ∀ r ∈ l, r.length * 32 ≤ 140737488351232 ∧ ∀ x ∈ r, Rw.OkV x
theorem live_s (w : World) (hok : Wv.OkW w) : Calls Tryd.prog 10 #[] w fun e w' => e = .returned (.bool true) ∧ Below w.heap.size w w' := by
  obtain ⟨K, h⟩ := live_ev
  exact boscagelaw01_live.calls K true w (h K (Nat.le_refl _)) hok
theorem big_s (l : List (List S27)) (hl : OkL l) : ∃ r, ∀ (A : Option Addr) (c : Nat) (w : World), Kd.C (Kd.slice 27 k27) w A l.length l → l.length ≤ c → Calls Tryd.prog 11 #[.slice A l.length c] w fun e w' => e = .returned (.bool r) ∧ Below w.heap.size w w' := by
  obtain ⟨v, ⟨K, h⟩, _⟩ := big_ev l hl.1 hl.2
  exact ⟨v, fun A c w hC hc => boscagelaw01_big.calls K A c l v w hC hc (h K (Nat.le_refl _))⟩
/-- the writes of nil over a row of the call's own -/
theorem set_own {wr : World} {g j : Nat} {u : Value} {cur : Array Value} (hh : wr.heap[g]? = some (.cells cur 23 (0, 0))) : ∃ cur', (wr.setCell ⟨g, j, none⟩ u).heap[g]? = some (.cells cur' 23 (0, 0)) ∧ cur'.size = cur.size := by
  refine ⟨cur.setIfInBounds j u, blk_put hh j u rfl, by simp⟩
set_option maxHeartbeats 16000000 in
set_option maxRecDepth 1000000 in
theorem valueSorts_s (A0 : Option Addr) (c0 : Nat) (l0 : List (List S27)) (A1 : Option Addr) (c1 : Nat) (l1 : List (List S27)) (w : World) (hr0 : Kd.C (Kd.slice 27 k27) w A0 l0.length l0) (hc0 : l0.length ≤ c0) (hr1 : Kd.C (Kd.slice 27 k27) w A1 l1.length l1) (hc1 : l1.length ≤ c1) (hok : Wv.OkW w) (w0 : OkL l0) (w1 : OkL l1) :
    Calls Tryd.prog 8 #[.slice A0 l0.length c0, .slice A1 l1.length c1] w fun e w' => e = .returned (.bool true) ∧ Below w.heap.size w w' := by
  obtain ⟨b0, B0⟩ := big_s l0 w0
  obtain ⟨b1, B1⟩ := big_s l1 w1
  have HR0 := Aside0.mk hr0
  have HR1 := Aside0.mk hr1
  have HC := Aside0.mk (And.intro hc0 hc1)
  have HB0 := Aside0.mk B0
  have HB1 := Aside0.mk B1
  obtain ⟨n0, e0⟩ : ∃ q, q = l0.length := ⟨_, rfl⟩
  obtain ⟨n1, e1⟩ : ∃ q, q = l1.length := ⟨_, rfl⟩
  have E0 := Aside0.mk e0
  have E1 := Aside0.mk e1
  have CL := live_s w hok
  rw [← e0, ← e1]
  clear hr0 hr1 hc0 hc1 hok w0 w1 B0 B1 e0 e1
  go_enter Tryd.func8, Tryd.ntmps8
  go_wp2_with fail
  refine CL.mono ?_
  rintro e w1 ⟨rfl, bl⟩
  have BL := Aside0.mk bl
  have C0 := HB0.out A0 c0 w1 (Kd.C_below HR0.out bl) HC.out.1
  rw [← E0.out] at C0
  clear CL bl
  go_wp2_with fail
  refine C0.mono ?_
  rintro e w2 ⟨rfl, bl⟩
  have B2 := Aside0.mk (BL.out.trans (RowKit.Below.mono bl BL.out.size))
  clear C0 bl
  have C1 := HB1.out A1 c1 w2 (Kd.C_below HR1.out B2.out) HC.out.2
  rw [← E1.out] at C1
  cases b0 with
  | true =>
    clear C1
    go_wp2
    go_ret
    exact ⟨rfl, B2.out⟩
  | false =>
  go_wp2_with fail
  refine C1.mono ?_
  rintro e w3 ⟨rfl, bl⟩
  have B3 := Aside0.mk (B2.out.trans (RowKit.Below.mono bl B2.out.size))
  clear C1 bl
  cases b1 with
  | true =>
    go_wp2
    go_ret
    exact ⟨rfl, B3.out⟩
  | false =>
  by_cases h0 : (1000 : Int) < (n0 : Int)
  · go_wp2
    go_ret
    exact ⟨rfl, B3.out⟩
  by_cases h1 : (1000 : Int) < (n1 : Int)
  · go_wp2
    go_ret
    exact ⟨rfl, B3.out⟩
  have LN : Aside0 (n0 ≤ 1000 ∧ n1 ≤ 1000) := ⟨by omega⟩
  obtain ⟨d0, m0, k0⟩ := els HR0.out
  obtain ⟨d1, m1, k1⟩ := els HR1.out
  have s0 : d0.size = n0 := by have := congrArg List.length m0; rw [List.length_map] at this; have e := E0.out; simp at this; omega
  have s1 : d1.size = n1 := by have := congrArg List.length m1; rw [List.length_map] at this; have e := E1.out; simp at this; omega
  have R0 : Aside0 (Rd w A0 d0.toList) := ⟨Rd.cells k0 (by have := LN.out; omega)⟩
  have R1 : Aside0 (Rd w A1 d1.toList) := ⟨Rd.cells k1 (by have := LN.out; omega)⟩
  have S0 : Aside0 (d0.toList.length = n0 ∧ d0.size = n0) := ⟨by simpa using s0, s0⟩
  have S1 : Aside0 (d1.toList.length = n1 ∧ d1.size = n1) := ⟨by simpa using s1, s1⟩
  have K0 := Aside0.mk k0
  have K1 := Aside0.mk k1
  have M0 := Aside0.mk m0
  clear s0 s1 k0 k1 m0 m1
  go_wp2_with (at_builtin; refine print_append_row_of (w0 := w) encE default w.heap.size rfl _ _ 41 23 (.slice none 0 0) 24 rfl (by kernel_rfl) info23b rfl (by decide) one_encE _ [] d0.toList A0 n0 c0 rfl rfl ?q1 ?q2 ?q3 ?q4 ?q5 ?_)
  case q1 => exact own_nil _ _ _ _
  case q2 => have := Rd.below R0.out B3.out; unfold Rd at this; rwa [S0.out.1] at this
  case q3 => exact B3.out
  case q4 => exact B3.out.size
  case q5 => have := LN.out; simp only [List.length_nil]; omega
  intro v4 w4 hown4 hB4 hg4 hat4
  have O4 : Aside0 (Ow w4 w.heap.size v4 d0.toList) := ⟨hown4⟩
  have B4 := Aside0.mk hB4
  clear hown4 hB4 hg4 hat4
  obtain ⟨A4, c4, e4, l4, r4⟩ := O4.out.own'.slice
  have C5 := sorted_s swo A4 c4 d0 w4 (by rw [S0.out.2]; have := LN.out; omega) r4 B4.out
  subst e4
  rw [S0.out.2] at C5 O4 ⊢
  clear l4 r4
  go_wp2_with fail
  refine C5.mono ?_
  rintro e w5 ⟨v5, d5, rfl, s5, o5, b5⟩
  have S5 := Aside0.mk s5
  have O5 := Aside0.mk o5
  have B5 := Aside0.mk (B4.out.trans (RowKit.Below.mono b5 B4.out.size))
  have BX := Aside0.mk b5
  clear C5 s5 o5 b5
  have C6 := refSorted_s swo cmpK n0 A0 c0 d0.toList w5 (by rw [S0.out.1]; exact Nat.le_refl _) (by rw [S0.out.1]; have := LN.out; omega) (by rw [S0.out.1]; have := HC.out.1; have := E0.out; omega) (R0.out.below B5.out) B5.out
  rw [S0.out.1] at C6
  go_wp2_with fail
  refine C6.mono ?_
  rintro e w6 ⟨v6, z6, rfl, p6, q6, o6, b6⟩
  have P6 := Aside0.mk (And.intro p6 q6)
  have O6 := Aside0.mk o6
  have O5' := Aside0.mk (O5.out.below b6)
  have B6 := Aside0.mk (B5.out.trans (RowKit.Below.mono b6 B5.out.size))
  have BX6 := Aside0.mk (BX.out.trans (RowKit.Below.mono b6 BX.out.size))
  clear C6 p6 q6 o6 b6 O5
  obtain ⟨A5, c5, e5, hc5, hR5⟩ := (Ow.own O5'.out).reads
  obtain ⟨A6, c6, e6, hc6, hR6⟩ := O6.out.reads
  have l5 : d5.toList.length = n0 := by rw [Array.length_toList, S5.out.size, S0.out.2]
  have l6 : z6.length = n0 := by rw [P6.out.1.length_eq, S0.out.1]
  have C7 := sameRows_s c5 c6 d5.toList z6 hR5 hR6 hc5 hc6 (by rw [l5]; have := LN.out; omega) B6.out
  have hT : decide (d5.toList.map El.c = z6.map El.c) = true := decide_eq_true (uniq ((S5.out.perm.trans P6.out.1.symm).map _) S5.out.pw P6.out.2)
  rw [hT, l5, l6] at C7
  rw [l5] at e5
  rw [l6] at e6
  subst e5 e6
  have L5 := Aside0.mk l5
  clear hT l5 l6 hR5 hR6 hc5 hc6
  go_wp2_with fail
  refine C7.mono ?_
  rintro e w7 ⟨rfl, b7⟩
  have O7 := Aside0.mk (O5'.out.below b7)
  have B7 := Aside0.mk (B6.out.trans (RowKit.Below.mono b7 B6.out.size))
  have BX7 := Aside0.mk (BX6.out.trans (RowKit.Below.mono b7 BX6.out.size))
  clear C7 b7 O5' O6
  have C8 := sameBag_s swo A0 A1 c0 c1 d0 d1 w7 (by rw [S0.out.2]; have := LN.out; omega) (by rw [S1.out.2]; have := LN.out; omega) (K0.out.below B7.out) (K1.out.below B7.out) B7.out
  rw [S0.out.2, S1.out.2] at C8
  go_wp2_with fail
  refine C8.mono ?_
  rintro e w8 ⟨r8, rfl, b8, h8⟩
  have H8 := Aside0.mk h8
  have O8 := Aside0.mk (O7.out.below b8)
  have B8 := Aside0.mk (B7.out.trans (RowKit.Below.mono b8 B7.out.size))
  have BX8 := Aside0.mk (BX7.out.trans (RowKit.Below.mono b8 BX7.out.size))
  clear C8 b8 h8 O7
  have C9 := refSameBag_s c0 c1 d0.toList d1.toList (R0.out.below B8.out) (R1.out.below B8.out) (by rw [S0.out.1]; have := HC.out.1; have := E0.out; omega) (by rw [S1.out.1]; have := HC.out.2; have := E1.out; omega) (by rw [S0.out.1]; have := LN.out; omega) (by rw [S1.out.1]; have := LN.out; omega) B8.out
  rw [S0.out.1, S1.out.1] at C9
  go_wp2_with fail
  refine C9.mono ?_
  rintro e w9 ⟨z1, z2, p1, p2, q1, q2, rfl, b9⟩
  have EB : r8 = decide (z1.map El.c = z2.map El.c) := by
    rcases H8.out with ⟨hn, rfl⟩ | ⟨_, s1, s2, h1, h2, rfl⟩
    · exact (bag_not (by rw [S0.out.2, S1.out.2]; exact hn) p1 p2).symm
    · exact bag_same h1 h2 p1 p2 q1 q2
  rw [← EB]
  have hbb : (r8 == r8) = true := by simp
  have O9 := Aside0.mk (O8.out.below b9)
  have B9 := Aside0.mk (B8.out.trans (RowKit.Below.mono b9 B8.out.size))
  have BX9 := Aside0.mk (BX8.out.trans (RowKit.Below.mono b9 BX8.out.size))
  clear C9 b9 O8 EB p1 p2 q1 q2 H8
  go_wp2_with fail
  have G0 : Aside0 (0 < n0 → ∃ g cur, A5 = some ⟨g, 0, none⟩ ∧ w4.heap.size ≤ g ∧ w9.heap[g]? = some (.cells cur 23 (0, 0)) ∧ n0 ≤ cur.size) := ⟨fun hp => by
    have z5 : d5.size = n0 := by have := L5.out; simpa using this
    rcases O9.out.2 with ⟨h2, h3⟩ | ⟨g, cap, cur, hv, hg, hh, hcap, hmax, hsz, ht⟩
    · omega
    · injection hv with hv1 hv2 hv3
      exact ⟨g, cur, hv1, hg, hh, by omega⟩⟩
  clear O9
  go_loopg [47] n0 (fun gg v wr => ∃ i : Nat, v = .int .i64 i ∧ Aside0 (i ≤ n0 ∧ n0 - i ≤ gg) ∧ Aside0 (Below w4.heap.size w4 wr) ∧ Aside0 (Below w.heap.size w wr) ∧ Aside0 (0 < n0 → ∃ g cur, A5 = some ⟨g, 0, none⟩ ∧ w4.heap.size ≤ g ∧ wr.heap[g]? = some (.cells cur 23 (0, 0)) ∧ n0 ≤ cur.size))
  case atStart => exact ⟨0, rfl, ⟨by omega⟩, BX9, B9, G0⟩
  case round =>
    clear BX9 B9 G0
    obtain ⟨i, rfl, hi, BX, BW, G⟩ := hrel
    by_cases hlt : i < n0
    · have hltz : (i : Int) < (n0 : Int) := by omega
      obtain ⟨g, cur, rfl, hg, hh, hcs⟩ := G.out (by omega)
      have p0 : (0 : Int) ≤ (i : Int) := Int.natCast_nonneg _
      obtain ⟨u, hu⟩ : ∃ u, cur[i]? = some u := ⟨cur[i]'(by omega), Array.getElem?_eq_getElem (by omega)⟩
      have c1 : wr.cell? ⟨g, i, none⟩ = some u := (blk_cell hh i).trans hu
      have f1 : wr.frozen? ⟨g, i, none⟩ = false := blk_frozen hh i
      have BN : Aside0 (Below w4.heap.size w4 (wr.setCell ⟨g, i, none⟩ (.slice none 0 0))) := ⟨below_set BX.out hg⟩
      have BWN : Aside0 (Below w.heap.size w (wr.setCell ⟨g, i, none⟩ (.slice none 0 0))) := ⟨below_set BW.out (Nat.le_trans B4.out.size hg)⟩
      have GN : Aside0 (∃ cur', (wr.setCell ⟨g, i, none⟩ (.slice none 0 0)).heap[g]? = some (.cells cur' 23 (0, 0)) ∧ cur'.size = cur.size) := ⟨set_own hh⟩
      have LT : Aside0 (i < n0 ∧ w4.heap.size ≤ g ∧ n0 ≤ cur.size) := ⟨hlt, hg, hcs⟩
      have ew : IntKind.i64.wrap ((i : Int) + 1) = ((i + 1 : Nat) : Int) := by rw [IntKind.wrap_i64]; have := LN.out; omega
      clear hlt hh hu hg hcs
      go_wp2_with fail
      generalize wr.setCell ⟨g, i, none⟩ (.slice none 0 0) = wn at *
      go_wp2_with fail
      go_roundg (n0 - (i + 1))
      case measure => have := hi.out; have := LT.out; omega
      case rel =>
        refine ⟨i + 1, by first | rfl | congr 1, ⟨by have := LT.out; omega⟩, BN, BWN, ⟨fun _ => ?_⟩⟩
        obtain ⟨cur', h1, h2⟩ := GN.out
        exact ⟨g, cur', rfl, LT.out.2.1, h1, by rw [h2]; exact LT.out.2.2⟩
    · have hltz : ¬ (i : Int) < (n0 : Int) := by omega
      have C := sameRows_s (wb := w) c4 c0 d0.toList d0.toList (w := wr) (A := A4) (A' := A0) (by
        have := (O4.out.below BX.out).own'.slice
        obtain ⟨A, c, e, _, hc⟩ := this
        injection e with e1 e2 e3
        rw [e1]
        exact Rd.cells hc (by rw [S0.out.2]; have := LN.out; omega)) (R0.out.below BW.out) (by
        have := (O4.out.below BX.out).own'.slice
        obtain ⟨A, c, e, hl, hc⟩ := this
        injection e with e1 e2 e3
        rw [S0.out.1]; rw [S0.out.2] at hl; omega) (by rw [S0.out.1]; have := HC.out.1; have := E0.out; omega) (by rw [S0.out.1]; have := LN.out; omega) BW.out
      rw [S0.out.1] at C
      simp only [decide_true] at C
      clear hlt
      go_wp2_with fail
      refine C.mono ?_
      rintro e w' ⟨rfl, b10⟩
      have B10 := Aside0.mk (BW.out.trans (RowKit.Below.mono b10 BW.out.size))
      clear C b10
      go_wp2
      go_ret
      exact ⟨rfl, B10.out⟩
end Go.Proofs.YtaneicpggglcbaaDoor.Sv
