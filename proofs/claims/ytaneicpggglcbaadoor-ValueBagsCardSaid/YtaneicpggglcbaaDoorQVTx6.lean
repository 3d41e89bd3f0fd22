-- printed by our own turn of the print (wip/pr)
import Derived.Test.YtaneicpggglcbaaDoorQVTx0
import Derived.Test.YtaneicpggglcbaaDoorQVTx1
import Derived.Test.YtaneicpggglcbaaDoorQVTx4
import Derived.Test.YtaneicpggglcbaaDoorQVTx5
namespace Go.Proofs.YtaneicpggglcbaaDoor.QVT
open Go.RowKit Go.Proofs.YtaneicpggglcbaaDoorW.PrintWords Go.Proofs.YtaneicpggglcbaaDoorW.PrintLast Go.Proofs.YtaneicpggglcbaaDoorW.PrintMore
attribute [local go_sem] max2_int min2_int max_two min_two max_three min_three max_four min_four   -- for this text's walks alone
set_option linter.unusedVariables false
set_option linter.unusedSimpArgs false

attribute [local go_sem high] eqA27
/-! ### value_Compare: function 17 -/
def value_Compare.f (k : Nat) (a0_0 : Int) (a0_1 : Int) (a0_2 : ByteArray) (a1_0 : Int) (a1_1 : Int) (a1_2 : ByteArray) : Option (Int) := (cmp_Compare_int.f a0_0 a1_0).bind fun t146 => ((cmp_Compare_int64.f a0_1 a1_1).bind fun t147 => ((strings_Compare.f a0_2 a1_2).bind fun t148 => ((cmp_Or_int.f k (([t146, t147, t148] : List Int))).bind fun t152 => (some t152))))
theorem value_Compare.mono : ∀ a0 a1 a2 a3 a4 a5 k, LeO (value_Compare.f k a0 a1 a2 a3 a4 a5) (value_Compare.f (k + 1) a0 a1 a2 a3 a4 a5) := by
  intro a0 a1 a2 a3 a4 a5 k
  unfold value_Compare.f
  repeat' first
      | (with_reducible exact cmp_Or_int.mono _ _)
      | (with_reducible exact LeO.refl _)
      | (with_reducible exact LeO.none _)
      | (with_reducible refine LeO.ite ?_ ?_)
      | (with_reducible refine LeO.bind ?_ (fun _ => ?_))
      | exact cmp_Or_int.mono _ _
      | exact LeO.none _
      | refine LeO.ite ?_ ?_
      | refine LeO.bind ?_ (fun _ => ?_)
def value_Compare.T1 : Bool × List (List Nat × List Nat) := (true, [([], []), ([0], [0]), ([], []), ([2], [2]), ([1, 3], [1, 3]), ([], []), ([5], [5]), ([], []), ([7], [7]), ([6, 8, 4], [6, 8]), ([], []), ([10], [10]), ([], []), ([12], [12]), ([11, 13, 9], [11, 13]), ([4, 9, 14], [4, 9, 14]), ([15, 14], [15]), ([16, 16, 0, 1, 2, 3, 4, 5, 6, 7, 8, 9, 10, 11, 12, 13, 14, 15, 16], [16])])
def value_Compare.B1 : List Nat := [0, 1, 0, 4, 15, 0, 32, 0, 128, 511, 0, 1024, 0, 4096, 16383, 32767, 65535, 131071]
theorem value_Compare.tab1 : rtab .any (opsOf Tryd.f17 1) = value_Compare.T1 := by kernel_rfl
theorem value_Compare.bits1 : waitsOk value_Compare.T1.2 value_Compare.B1 = true := by kernel_rfl
set_option maxHeartbeats 8000000 in
set_option maxRecDepth 100000 in
theorem value_Compare.calls (k : Nat) (a0_0 : Int) (a0_1 : Int) (a0_2 : ByteArray) (a1_0 : Int) (a1_1 : Int) (a1_2 : ByteArray) (r : Int) (w : World) (h : value_Compare.f k a0_0 a0_1 a0_2 a1_0 a1_1 a1_2 = some r) :
    Calls Tryd.prog 17 #[.agg #[.int .i64 a0_0, .int .i64 a0_1, .string a0_2], .agg #[.int .i64 a1_0, .int .i64 a1_1, .string a1_2]] w fun e w' => e = .returned (.int .i64 r) ∧ Below w.heap.size w w' := by
  have hu27 := Tryd.underlying27
  have HB := Aside0.mk (Below.refl w.heap.size w)
  have H : ((cmp_Compare_int.f a0_0 a1_0).bind fun t146 => ((cmp_Compare_int64.f a0_1 a1_1).bind fun t147 => ((strings_Compare.f a0_2 a1_2).bind fun t148 => ((cmp_Or_int.f k (([t146, t147, t148] : List Int))).bind fun t152 => (some t152))))) = some r := h
  clear h
  replace H := Option.bind_eq_some_iff.mp H
  obtain ⟨t146, A30, H⟩ := H
  replace H : ((cmp_Compare_int64.f a0_1 a1_1).bind fun t147 => ((strings_Compare.f a0_2 a1_2).bind fun t148 => ((cmp_Or_int.f k (([t146, t147, t148] : List Int))).bind fun t152 => (some t152)))) = some r := H
  have A3 := Aside0.mk A30
  clear A30
  replace H := Option.bind_eq_some_iff.mp H
  obtain ⟨t147, A40, H⟩ := H
  replace H : ((strings_Compare.f a0_2 a1_2).bind fun t148 => ((cmp_Or_int.f k (([t146, t147, t148] : List Int))).bind fun t152 => (some t152))) = some r := H
  have A4 := Aside0.mk A40
  clear A40
  replace H := Option.bind_eq_some_iff.mp H
  obtain ⟨t148, A50, H⟩ := H
  replace H : ((cmp_Or_int.f k (([t146, t147, t148] : List Int))).bind fun t152 => (some t152)) = some r := H
  have A5 := Aside0.mk A50
  clear A50
  obtain ⟨y149, hy149⟩ : ∃ y_ : List Int, y_ = (([t146, t147, t148] : List Int)) := ⟨_, rfl⟩
  replace H : ((cmp_Or_int.f k y149).bind fun t152 => (some t152)) = some r := by first | (rw [hy149]; with_reducible exact H) | (have H2_ := (Option.bind_some _ _).symm.trans H; rw [hy149]; with_reducible exact H2_) | (have H2_ := (Option.bind_some _ _).symm.trans H; with_reducible exact H2_) | with_reducible exact H | (rw [hy149]; exact H) | exact H
  have Ny149 := Aside0.mk hy149
  clear hy149
  replace H := Option.bind_eq_some_iff.mp H
  obtain ⟨t152, A60, H⟩ := H
  replace H : (some t152) = some r := H
  have A6 := Aside0.mk A60
  clear A60
  obtain rfl := Option.some.inj H
  go_enter Tryd.func17, Tryd.ntmps17
  try go_wp2_with (first | ((with_reducible refine gate_dst (N := 2) rfl ?_); refine box_event ?hg (N := 2) ?hd (cs := #[.int .i64 a0_0, .int .i64 a0_1, .string a0_2]) (t := 27) ?hr ?_; (case hd => rfl); (case hg => rfl); (case hr => first | (go_simp; done) | (go_simp; rfl)); intro gb144 hg w7 hbox hb; have n0_ := Aside0.mk (below_step (by repeat (first | (with_reducible first | exact HB.out | apply below_alloc | apply pw_below_drewN | apply below_drew1) | exact HB.out)) hb); have n1_ := Aside0.mk (hbox); have n2_ := Aside0.mk ((by rw [hg]; exact (below_size (by repeat (first | (with_reducible first | exact HB.out | apply below_alloc | apply pw_below_drewN | apply below_drew1) | exact HB.out))) : w.heap.size ≤ gb144)); have n3_ := Aside0.mk ((by rw [hg]; exact (below_size (by repeat (first | (with_reducible first | exact HB.out | apply below_alloc | apply pw_below_drewN | apply below_drew1) | exact HB.out))) : w.heap.size ≤ gb144)); clear HB; have HB := n0_; have BK144 := n1_; have GW144 := n2_; have GE144 := n3_; clear n0_ n1_ n2_ n3_; clear hb hbox hg) | ((with_reducible refine gate_dst (N := 3) rfl ?_); refine box_event ?hg (N := 3) ?hd (cs := #[.int .i64 a1_0, .int .i64 a1_1, .string a1_2]) (t := 27) ?hr ?_; (case hd => rfl); (case hg => rfl); (case hr => first | (go_simp; done) | (go_simp; rfl)); intro gb145 hg w8 hbox hb; have n0_ := Aside0.mk (blk_below (g := gb144) (o := .cells #[.int .i64 a0_0, .int .i64 a0_1, .string a0_2] 27 (0, 0)) (by (with_reducible repeat (first | refine blk_drewN ?_ _ | refine blk_drew ?_ | refine blk_alloc ?_ _)); exact BK144.out) hb); have n1_ := Aside0.mk (below_step (by repeat (first | (with_reducible first | exact HB.out | apply below_alloc | apply pw_below_drewN | apply below_drew1 | refine below_set ?_ GE144.out) | exact HB.out)) hb); have n2_ := Aside0.mk (hbox); have n3_ := Aside0.mk ((by rw [hg]; exact (below_size (by repeat (first | (with_reducible first | exact HB.out | apply below_alloc | apply pw_below_drewN | apply below_drew1 | refine below_set ?_ GE144.out) | exact HB.out))) : w.heap.size ≤ gb145)); have n4_ := Aside0.mk ((by rw [hg]; exact (below_size (by repeat (first | (with_reducible first | exact HB.out | apply below_alloc | apply pw_below_drewN | apply below_drew1 | refine below_set ?_ GE144.out) | exact HB.out))) : w.heap.size ≤ gb145)); have n5_ := Aside0.mk ((by rw [hg]; exact Nat.ne_of_lt (blk_lt (g := gb144) (o := .cells #[.int .i64 a0_0, .int .i64 a0_1, .string a0_2] 27 (0, 0)) (by (with_reducible repeat (first | refine blk_drewN ?_ _ | refine blk_drew ?_ | refine blk_alloc ?_ _)); exact BK144.out)) : gb144 ≠ gb145)); have n6_ := Aside0.mk ((by rw [hg]; exact Nat.ne_of_gt (blk_lt (g := gb144) (o := .cells #[.int .i64 a0_0, .int .i64 a0_1, .string a0_2] 27 (0, 0)) (by (with_reducible repeat (first | refine blk_drewN ?_ _ | refine blk_drew ?_ | refine blk_alloc ?_ _)); exact BK144.out)) : gb145 ≠ gb144)); clear BK144; clear HB; have BK144 := n0_; have HB := n1_; have BK145 := n2_; have GW145 := n3_; have GE145 := n4_; have NB144_145 := n5_; have NB145_144 := n6_; clear n0_ n1_ n2_ n3_ n4_ n5_ n6_; clear hb hbox hg))
  have n0_ := Aside0.mk (blk_drew BK144.out)
  have n1_ := Aside0.mk (blk_drew BK145.out)
  have n2_ := Aside0.mk (below_drew1 HB.out)
  clear BK144
  clear BK145
  clear HB
  have BK144 := n0_
  have BK145 := n1_
  have HB := n2_
  clear n0_ n1_ n2_
  refine start_ (n := 18) (S := fun w' => w'.cell? ⟨gb144, 0, none⟩ = some (.int .i64 a0_0) ∧ w'.cell? ⟨gb144, 1, none⟩ = some (.int .i64 a0_1) ∧ w'.cell? ⟨gb144, 2, none⟩ = some (.string a0_2) ∧ w'.cell? ⟨gb145, 0, none⟩ = some (.int .i64 a1_0) ∧ w'.cell? ⟨gb145, 1, none⟩ = some (.int .i64 a1_1) ∧ w'.cell? ⟨gb145, 2, none⟩ = some (.string a1_2)) (ds := []) #[false, false, false, false, false, false, false, false, false, false, false, false, false, false, false, false, false, false] (by kernel_rfl) rfl rfl ⟨(blk_cell BK144.out 0).trans rfl, (blk_cell BK144.out 1).trans rfl, (blk_cell BK144.out 2).trans rfl, (blk_cell BK145.out 0).trans rfl, (blk_cell BK145.out 1).trans rfl, (blk_cell BK145.out 2).trans rfl⟩ (fun hHeld => ?_); refine with_tabW value_Compare.tab1 value_Compare.bits1 (fun HT_ HW_ => ?_)
  generalize w8.drew = w9 at BK144 BK145 HB hHeld ⊢
  refine pure_ (i := 0) (N := some 5) (v := ?_) (a' := ?_) #[true, false, false, false, false, false, false, false, false, false, false, false, false, false, false, false, false, false] rfl rfl (any_of HT_.out (by kernel_rfl)) (fun _ _ _ h => h) (Or.inl ⟨by rfl, ?_⟩) ?_ ?_
  rotate_left
  · intro w'
    go_simp
    with_reducible rfl
  rotate_left
  · simp only [Act.put, List.setIfInBounds_toArray, List.set_cons_zero, List.set_cons_succ, i64_w, i32_w]
    rfl
  refine pure_ (i := 2) (N := some 7) (v := ?_) (a' := ?_) #[true, false, true, false, false, false, false, false, false, false, false, false, false, false, false, false, false, false] rfl rfl (any_of HT_.out (by kernel_rfl)) (fun _ _ _ h => h) (Or.inl ⟨by rfl, ?_⟩) ?_ ?_
  rotate_left
  · intro w'
    go_simp
    with_reducible rfl
  rotate_left
  · simp only [Act.put, List.setIfInBounds_toArray, List.set_cons_zero, List.set_cons_succ, i64_w, i32_w]
    rfl
  refine pure_ (i := 5) (N := some 10) (v := ?_) (a' := ?_) #[true, false, true, false, false, true, false, false, false, false, false, false, false, false, false, false, false, false] rfl rfl (any_of HT_.out (by kernel_rfl)) (fun _ _ _ h => h) (Or.inl ⟨by rfl, ?_⟩) ?_ ?_
  rotate_left
  · intro w'
    go_simp
    with_reducible rfl
  rotate_left
  · simp only [Act.put, List.setIfInBounds_toArray, List.set_cons_zero, List.set_cons_succ, i64_w, i32_w]
    rfl
  refine pure_ (i := 7) (N := some 12) (v := ?_) (a' := ?_) #[true, false, true, false, false, true, false, true, false, false, false, false, false, false, false, false, false, false] rfl rfl (any_of HT_.out (by kernel_rfl)) (fun _ _ _ h => h) (Or.inl ⟨by rfl, ?_⟩) ?_ ?_
  rotate_left
  · intro w'
    go_simp
    with_reducible rfl
  rotate_left
  · simp only [Act.put, List.setIfInBounds_toArray, List.set_cons_zero, List.set_cons_succ, i64_w, i32_w]
    rfl
  refine pure_ (i := 10) (N := some 15) (v := ?_) (a' := ?_) #[true, false, true, false, false, true, false, true, false, false, true, false, false, false, false, false, false, false] rfl rfl (any_of HT_.out (by kernel_rfl)) (fun _ _ _ h => h) (Or.inl ⟨by rfl, ?_⟩) ?_ ?_
  rotate_left
  · intro w'
    go_simp
    with_reducible rfl
  rotate_left
  · simp only [Act.put, List.setIfInBounds_toArray, List.set_cons_zero, List.set_cons_succ, i64_w, i32_w]
    rfl
  refine pure_ (i := 12) (N := some 17) (v := ?_) (a' := ?_) #[true, false, true, false, false, true, false, true, false, false, true, false, true, false, false, false, false, false] rfl rfl (any_of HT_.out (by kernel_rfl)) (fun _ _ _ h => h) (Or.inl ⟨by rfl, ?_⟩) ?_ ?_
  rotate_left
  · intro w'
    go_simp
    with_reducible rfl
  rotate_left
  · simp only [Act.put, List.setIfInBounds_toArray, List.set_cons_zero, List.set_cons_succ, i64_w, i32_w]
    rfl
  refine take_ (i := 1) (N := some 6) (v := ?_) (a' := ?_) #[true, true, true, false, false, true, false, true, false, false, true, false, true, false, false, false, false, false] rfl rfl (take_ofW HT_.out HW_.out (by kernel_rfl)) (fun _ _ _ h => h) (Or.inl ⟨by rfl, ?_⟩) hHeld ?_ ?_
  rotate_left
  · rintro w' ⟨s0, s1, s2, s3, s4, s5⟩
    go_simp
    with_reducible rfl
  rotate_left
  · simp only [Act.put, List.setIfInBounds_toArray, List.set_cons_zero, List.set_cons_succ, i64_w, i32_w]
    rfl
  refine take_ (i := 3) (N := some 8) (v := ?_) (a' := ?_) #[true, true, true, true, false, true, false, true, false, false, true, false, true, false, false, false, false, false] rfl rfl (take_ofW HT_.out HW_.out (by kernel_rfl)) (fun _ _ _ h => h) (Or.inl ⟨by rfl, ?_⟩) hHeld ?_ ?_
  rotate_left
  · rintro w' ⟨s0, s1, s2, s3, s4, s5⟩
    go_simp
    with_reducible rfl
  rotate_left
  · simp only [Act.put, List.setIfInBounds_toArray, List.set_cons_zero, List.set_cons_succ, i64_w, i32_w]
    rfl
  refine take_ (i := 6) (N := some 11) (v := ?_) (a' := ?_) #[true, true, true, true, false, true, true, true, false, false, true, false, true, false, false, false, false, false] rfl rfl (take_ofW HT_.out HW_.out (by kernel_rfl)) (fun _ _ _ h => h) (Or.inl ⟨by rfl, ?_⟩) hHeld ?_ ?_
  rotate_left
  · rintro w' ⟨s0, s1, s2, s3, s4, s5⟩
    go_simp
    with_reducible rfl
  rotate_left
  · simp only [Act.put, List.setIfInBounds_toArray, List.set_cons_zero, List.set_cons_succ, i64_w, i32_w]
    rfl
  refine take_ (i := 8) (N := some 13) (v := ?_) (a' := ?_) #[true, true, true, true, false, true, true, true, true, false, true, false, true, false, false, false, false, false] rfl rfl (take_ofW HT_.out HW_.out (by kernel_rfl)) (fun _ _ _ h => h) (Or.inl ⟨by rfl, ?_⟩) hHeld ?_ ?_
  rotate_left
  · rintro w' ⟨s0, s1, s2, s3, s4, s5⟩
    go_simp
    with_reducible rfl
  rotate_left
  · simp only [Act.put, List.setIfInBounds_toArray, List.set_cons_zero, List.set_cons_succ, i64_w, i32_w]
    rfl
  refine take_ (i := 11) (N := some 16) (v := ?_) (a' := ?_) #[true, true, true, true, false, true, true, true, true, false, true, true, true, false, false, false, false, false] rfl rfl (take_ofW HT_.out HW_.out (by kernel_rfl)) (fun _ _ _ h => h) (Or.inl ⟨by rfl, ?_⟩) hHeld ?_ ?_
  rotate_left
  · rintro w' ⟨s0, s1, s2, s3, s4, s5⟩
    go_simp
    with_reducible rfl
  rotate_left
  · simp only [Act.put, List.setIfInBounds_toArray, List.set_cons_zero, List.set_cons_succ, i64_w, i32_w]
    rfl
  refine take_ (i := 13) (N := some 18) (v := ?_) (a' := ?_) #[true, true, true, true, false, true, true, true, true, false, true, true, true, true, false, false, false, false] rfl rfl (take_ofW HT_.out HW_.out (by kernel_rfl)) (fun _ _ _ h => h) (Or.inl ⟨by rfl, ?_⟩) hHeld ?_ ?_
  rotate_left
  · rintro w' ⟨s0, s1, s2, s3, s4, s5⟩
    go_simp
    with_reducible rfl
  rotate_left
  · simp only [Act.put, List.setIfInBounds_toArray, List.set_cons_zero, List.set_cons_succ, i64_w, i32_w]
    rfl
  refine one_ (i := 4) (N := some 9) #[true, true, true, true, true, true, true, true, true, false, true, true, true, true, false, false, false, false] rfl rfl (one_of HT_.out (by kernel_rfl)) (by decide) (fun K hK => ?_)
  refine goes_ Tryd.func42 (by kernel_rfl) rfl #[.int .i64 a0_0, .int .i64 a1_0] (by rfl) rfl rfl (by (try simp only [List.map_toArray, List.map_cons, List.map_nil]); first | done | rfl | (simp only [List.length_drop, List.length_take]; rfl)) ?_
  with_reducible refine (cmp_Compare_int.calls a0_0 a1_0 t146 _ A3.out).mono ?_
  rintro e w' ⟨rfl, ⟨nd, rfl⟩⟩
  refine ⟨_, rfl, ?_⟩
  refine hK.out _ _ ⟨(blk_cell BK144.out 0).trans rfl, (blk_cell BK144.out 1).trans rfl, (blk_cell BK144.out 2).trans rfl, (blk_cell BK145.out 0).trans rfl, (blk_cell BK145.out 1).trans rfl, (blk_cell BK145.out 2).trans rfl⟩ (fun hHeld => ?_)
  clear hK K
  refine norm_ (a' := ?_) ?_ ?_
  rotate_left
  · show Act.put _ (some 9) _ = _
    simp only [Act.put, List.setIfInBounds_toArray, List.set_cons_zero, List.set_cons_succ, i64_w, i32_w]
    rfl
  refine one_ (i := 9) (N := some 14) #[true, true, true, true, true, true, true, true, true, true, true, true, true, true, false, false, false, false] rfl rfl (one_of HT_.out (by kernel_rfl)) (by decide) (fun K hK => ?_)
  refine goes_ Tryd.func43 (by kernel_rfl) rfl #[.int .i64 a0_1, .int .i64 a1_1] (by rfl) rfl rfl (by (try simp only [List.map_toArray, List.map_cons, List.map_nil]); first | done | rfl | (simp only [List.length_drop, List.length_take]; rfl)) ?_
  with_reducible refine (cmp_Compare_int64.calls a0_1 a1_1 t147 _ A4.out).mono ?_
  rintro e w' ⟨rfl, ⟨nd, rfl⟩⟩
  refine ⟨_, rfl, ?_⟩
  refine hK.out _ _ ⟨(blk_cell BK144.out 0).trans rfl, (blk_cell BK144.out 1).trans rfl, (blk_cell BK144.out 2).trans rfl, (blk_cell BK145.out 0).trans rfl, (blk_cell BK145.out 1).trans rfl, (blk_cell BK145.out 2).trans rfl⟩ (fun hHeld => ?_)
  clear hK K
  refine norm_ (a' := ?_) ?_ ?_
  rotate_left
  · show Act.put _ (some 14) _ = _
    simp only [Act.put, List.setIfInBounds_toArray, List.set_cons_zero, List.set_cons_succ, i64_w, i32_w]
    rfl
  refine one_ (i := 14) (N := some 19) #[true, true, true, true, true, true, true, true, true, true, true, true, true, true, true, false, false, false] rfl rfl (one_of HT_.out (by kernel_rfl)) (by decide) (fun K hK => ?_)
  refine goes_ Tryd.func44 (by kernel_rfl) rfl #[.string a0_2, .string a1_2] (by rfl) rfl rfl (by (try simp only [List.map_toArray, List.map_cons, List.map_nil]); first | done | rfl | (simp only [List.length_drop, List.length_take]; rfl)) ?_
  with_reducible refine (strings_Compare.calls a0_2 a1_2 t148 _ A5.out).mono ?_
  rintro e w' ⟨rfl, ⟨nd, rfl⟩⟩
  refine ⟨_, rfl, ?_⟩
  refine hK.out _ _ ⟨(blk_cell BK144.out 0).trans rfl, (blk_cell BK144.out 1).trans rfl, (blk_cell BK144.out 2).trans rfl, (blk_cell BK145.out 0).trans rfl, (blk_cell BK145.out 1).trans rfl, (blk_cell BK145.out 2).trans rfl⟩ (fun hHeld => ?_)
  clear hK K
  refine norm_ (a' := ?_) ?_ ?_
  rotate_left
  · show Act.put _ (some 19) _ = _
    simp only [Act.put, List.setIfInBounds_toArray, List.set_cons_zero, List.set_cons_succ, i64_w, i32_w]
    rfl
  refine one_ (i := 15) (N := some 20) #[true, true, true, true, true, true, true, true, true, true, true, true, true, true, true, true, false, false] rfl rfl (one_of HT_.out (by kernel_rfl)) (by decide) (fun K hK => ?_)
  refine Kd.R_lit_step (Kd.int .i64) _ 3 ?hg (N := 20) ?hd (xs := ([t146, t147, t148] : List Int)) (inner := [.int .i64 t146, .int .i64 t147, .int .i64 t148]) (ok := fun _ => True) (okp := fun _ => True) ?hr ?hp (fun _ hk => hk) trivial (Below.refl _ _) (Nat.le_refl _) (by simp) ?_; (case hd => rfl); (case hg => rfl); (case hr => first | (go_simp; done) | (go_simp; rfl)); (case hp => exact (Reps.one (show Kd.M (Kd.int .i64) _ _ _ t146 [.int .i64 t146] from rfl) (Reps.one (show Kd.M (Kd.int .i64) _ _ _ t147 [.int .i64 t147] from rfl) (Reps.one (show Kd.M (Kd.int .i64) _ _ _ t148 [.int .i64 t148] from rfl) (Reps.none _ _)))))
  intro v150 w10 ho11 hb hg_ hnew_
  clear hg_ hnew_
  (first | rw [← Ny149.out] at ho11 | (simp only [Int.reduceToNat] at ho11; rw [← Ny149.out] at ho11))
  have n0_ := Aside0.mk (Kd.R_lower ho11 (below_size (by repeat (first | (with_reducible first | exact HB.out | apply below_alloc | apply pw_below_drewN | apply below_drew1 | refine below_set ?_ GE144.out | refine below_set ?_ GE145.out) | exact HB.out))))
  have n1_ := Aside0.mk (blk_below (g := gb144) (o := .cells #[.int .i64 a0_0, .int .i64 a0_1, .string a0_2] 27 (0, 0)) (by (with_reducible repeat (first | refine blk_drewN ?_ _ | refine blk_drew ?_ | refine blk_alloc ?_ _)); exact BK144.out) hb)
  have n2_ := Aside0.mk (blk_below (g := gb145) (o := .cells #[.int .i64 a1_0, .int .i64 a1_1, .string a1_2] 27 (0, 0)) (by (with_reducible repeat (first | refine blk_drewN ?_ _ | refine blk_drew ?_ | refine blk_alloc ?_ _)); exact BK145.out) hb)
  have n3_ := Aside0.mk (below_step (by repeat (first | (with_reducible first | exact HB.out | apply below_alloc | apply pw_below_drewN | apply below_drew1 | refine below_set ?_ GE144.out | refine below_set ?_ GE145.out) | exact HB.out)) hb)
  clear BK144
  clear BK145
  clear HB
  have HO151 := n0_
  have BK144 := n1_
  have BK145 := n2_
  have HB := n3_
  clear n0_ n1_ n2_ n3_
  clear hb ho11
  obtain ⟨Ao12, co12, eo12⟩ := Kd.R_slice HO151.out
  (first | subst eo12 | (injection eo12 with f1_ f2_ f3_; have f4_ := f1_.symm; have f5_ := f3_.symm; clear f1_ f2_ f3_; subst f4_; subst f5_))
  refine hK.out _ _ ⟨(blk_cell BK144.out 0).trans rfl, (blk_cell BK144.out 1).trans rfl, (blk_cell BK144.out 2).trans rfl, (blk_cell BK145.out 0).trans rfl, (blk_cell BK145.out 1).trans rfl, (blk_cell BK145.out 2).trans rfl⟩ (fun hHeld => ?_)
  clear hK K
  refine norm_ (a' := ?_) ?_ ?_
  rotate_left
  · show Act.put _ (some 20) _ = _
    simp only [Act.put, List.setIfInBounds_toArray, List.set_cons_zero, List.set_cons_succ, i64_w, i32_w]
    rfl
  refine one_ (i := 16) (N := some 21) #[true, true, true, true, true, true, true, true, true, true, true, true, true, true, true, true, true, false] rfl rfl (one_of HT_.out (by kernel_rfl)) (by decide) (fun K hK => ?_)
  refine goes_ Tryd.func41 (by kernel_rfl) rfl #[.slice Ao12 y149.length co12] (by rfl) rfl rfl (by (try simp only [List.map_toArray, List.map_cons, List.map_nil]); first | done | rfl | (simp only [List.length_drop, List.length_take]; rfl)) ?_
  with_reducible refine (cmp_Or_int.calls k _ _ y149 t152 _ ?side1 ?side2 A6.out).mono ?_
  (case side1 => repeat (first | exact (Kd.R_reads' HO151.out).2.2 | (with_reducible refine Kd.C_alloc ?_ _) | (with_reducible refine Kd.C_drewN ?_ _) | (with_reducible refine Kd.C_drew ?_)))
  (case side2 => exact (Kd.R_reads' HO151.out).2.1)
  rintro e w' ⟨rfl, ⟨nd, rfl⟩⟩
  refine ⟨_, rfl, ?_⟩
  refine hK.out _ _ ⟨(blk_cell BK144.out 0).trans rfl, (blk_cell BK144.out 1).trans rfl, (blk_cell BK144.out 2).trans rfl, (blk_cell BK145.out 0).trans rfl, (blk_cell BK145.out 1).trans rfl, (blk_cell BK145.out 2).trans rfl⟩ (fun hHeld => ?_)
  clear hK K
  refine norm_ (a' := ?_) ?_ ?_
  rotate_left
  · show Act.put _ (some 21) _ = _
    simp only [Act.put, List.setIfInBounds_toArray, List.set_cons_zero, List.set_cons_succ, i64_w, i32_w]
    rfl
  refine pure_ (i := 17) (N := some 4) (v := ?_) (a' := ?_) #[true, true, true, true, true, true, true, true, true, true, true, true, true, true, true, true, true, true] rfl rfl (any_of HT_.out (by kernel_rfl)) (fun _ _ _ h => h) (Or.inl ⟨by rfl, ?_⟩) ?_ ?_
  rotate_left
  · intro w'
    go_simp
    with_reducible rfl
  rotate_left
  · simp only [Act.put, List.setIfInBounds_toArray, List.set_cons_zero, List.set_cons_succ, i64_w, i32_w]
    rfl
  refine done_ (done_of HT_.out (by kernel_rfl)) ?_
  try go_wp2
  go_ret
  exact ⟨by first | rfl | (simp [errW_none, errW_some] <;> rfl) | (simp [*, errW_none, errW_some] <;> rfl), by repeat (first | (with_reducible first | exact HB.out | apply below_alloc | apply pw_below_drewN | apply below_drew1 | refine below_set ?_ GE144.out | refine below_set ?_ GE145.out) | exact HB.out)⟩

/-! ### boscageref01_Text1: function 31 -/

def boscageref01_Text1.f (a0 : ByteArray) : Option (Int × Int × ByteArray) := some (3, 0, a0)
set_option maxHeartbeats 400000 in
set_option maxRecDepth 100000 in
theorem boscageref01_Text1.calls (a0 : ByteArray) (r1 : Int) (r2 : Int) (r3 : ByteArray) (w : World) (h : boscageref01_Text1.f a0 = some (r1, r2, r3)) :
    Calls Tryd.prog 31 #[.string a0] w fun e w' => e = .returned (.agg #[.int .i64 r1, .int .i64 r2, .string r3]) ∧ Below w.heap.size w w' := by
  simp only [boscageref01_Text1.f, Option.some.injEq, Prod.mk.injEq] at h
  obtain ⟨rfl, rfl, rfl⟩ := h
  go_enter Tryd.func31, Tryd.ntmps31
  go_wp2
  refine bodyPost_ret (v := .agg #[.int .i64 3, .int .i64 0, .string a0]) (by simp [results, Tryd.results31, go_sem]) rfl ⟨rfl, ?_⟩
  repeat (first | exact Below.refl _ _ | (refine Below.alloc ?_ (by simp) _))

/-! ### boscageref01_Int1: function 32 -/

def boscageref01_Int1.f (a0 : Int) : Option (Int × Int × ByteArray) := some (2, a0, (⟨#[]⟩ : ByteArray))
set_option maxHeartbeats 400000 in
set_option maxRecDepth 100000 in
theorem boscageref01_Int1.calls (a0 : Int) (r1 : Int) (r2 : Int) (r3 : ByteArray) (w : World) (h : boscageref01_Int1.f a0 = some (r1, r2, r3)) :
    Calls Tryd.prog 32 #[.int .i64 a0] w fun e w' => e = .returned (.agg #[.int .i64 r1, .int .i64 r2, .string r3]) ∧ Below w.heap.size w w' := by
  simp only [boscageref01_Int1.f, Option.some.injEq, Prod.mk.injEq] at h
  obtain ⟨rfl, rfl, rfl⟩ := h
  go_enter Tryd.func32, Tryd.ntmps32
  go_wp2
  refine bodyPost_ret (v := .agg #[.int .i64 2, .int .i64 a0, .string (⟨#[]⟩ : ByteArray)]) (by simp [results, Tryd.results32, go_sem]) rfl ⟨rfl, ?_⟩
  repeat (first | exact Below.refl _ _ | (refine Below.alloc ?_ (by simp) _))

/-! ### boscageref01_Bool1: function 33 -/

def boscageref01_Bool1.f (a0 : Bool) : Option (Int × Int × ByteArray) := if a0 = true then (some (1, 1, (⟨#[]⟩ : ByteArray))) else (some (1, 0, (⟨#[]⟩ : ByteArray)))
set_option maxHeartbeats 400000 in
set_option maxRecDepth 100000 in
theorem boscageref01_Bool1.calls (a0 : Bool) (r1 : Int) (r2 : Int) (r3 : ByteArray) (w : World) (h : boscageref01_Bool1.f a0 = some (r1, r2, r3)) :
    Calls Tryd.prog 33 #[.bool a0] w fun e w' => e = .returned (.agg #[.int .i64 r1, .int .i64 r2, .string r3]) ∧ Below w.heap.size w w' := by
  cases a0
  · simp only [boscageref01_Bool1.f, Bool.false_eq_true, if_true, if_false, Option.some.injEq, Prod.mk.injEq] at h
    obtain ⟨rfl, rfl, rfl⟩ := h
    go_enter Tryd.func33, Tryd.ntmps33
    go_wp2
    refine bodyPost_ret (v := .agg #[.int .i64 1, .int .i64 0, .string (⟨#[]⟩ : ByteArray)]) (by simp [results, Tryd.results33, go_sem]) rfl ⟨rfl, ?_⟩
    repeat (first | exact Below.refl _ _ | (refine Below.alloc ?_ (by simp) _))
  · simp only [boscageref01_Bool1.f, if_true, if_true, if_false, Option.some.injEq, Prod.mk.injEq] at h
    obtain ⟨rfl, rfl, rfl⟩ := h
    go_enter Tryd.func33, Tryd.ntmps33
    go_wp2
    refine bodyPost_ret (v := .agg #[.int .i64 1, .int .i64 1, .string (⟨#[]⟩ : ByteArray)]) (by simp [results, Tryd.results33, go_sem]) rfl ⟨rfl, ?_⟩
    repeat (first | exact Below.refl _ _ | (refine Below.alloc ?_ (by simp) _))

/-! ### boscageref01_Blob1: function 34 -/

def boscageref01_Blob1.f (a0 : ByteArray) : Option (Int × Int × ByteArray) := some (4, 0, a0)
set_option maxHeartbeats 400000 in
set_option maxRecDepth 100000 in
theorem boscageref01_Blob1.calls (a0 : ByteArray) (r1 : Int) (r2 : Int) (r3 : ByteArray) (w : World) (h : boscageref01_Blob1.f a0 = some (r1, r2, r3)) :
    Calls Tryd.prog 34 #[.string a0] w fun e w' => e = .returned (.agg #[.int .i64 r1, .int .i64 r2, .string r3]) ∧ Below w.heap.size w w' := by
  simp only [boscageref01_Blob1.f, Option.some.injEq, Prod.mk.injEq] at h
  obtain ⟨rfl, rfl, rfl⟩ := h
  go_enter Tryd.func34, Tryd.ntmps34
  go_wp2
  refine bodyPost_ret (v := .agg #[.int .i64 4, .int .i64 0, .string a0]) (by simp [results, Tryd.results34, go_sem]) rfl ⟨rfl, ?_⟩
  repeat (first | exact Below.refl _ _ | (refine Below.alloc ?_ (by simp) _))

/-! ### boscagelaw01_live: function 10 -/
def boscagelaw01_live.f (k : Nat)  : Option (Bool) := (boscageref01_Text1.f (⟨#[105, 116, 39, 115]⟩ : ByteArray)).bind fun bt153 => ((value_Text.f bt153.1 bt153.2.1 bt153.2.2).bind fun bt156 => ((boscageref01_Int1.f 1).bind fun bt158 => ((value_RowText.f (([(⟨bt158.1, bt158.2.1, bt158.2.2⟩ : S27), (⟨0, 0, (⟨#[]⟩ : ByteArray)⟩ : S27)] : List (S27)))).bind fun bt164 => (if bt156.1.toList = ([39, 105, 116, 39, 39, 115, 39] : List UInt8) then (if bt156.2 = 0 then (if bt164.1.toList = ([40, 49, 44, 32, 78, 85, 76, 76, 41] : List UInt8) then (if bt164.2 = 0 then ((boscageref01_Bool1.f true).bind fun bt166 => ((value_Compare.f k 0 0 (⟨#[]⟩ : ByteArray) bt166.1 bt166.2.1 bt166.2.2).bind fun t169 => (if t169 = (-1) then ((boscageref01_Blob1.f (⟨#[]⟩ : ByteArray)).bind fun bt170 => ((boscageref01_Text1.f (⟨#[122]⟩ : ByteArray)).bind fun bt173 => ((value_Compare.f k bt170.1 bt170.2.1 bt170.2.2 bt173.1 bt173.2.1 bt173.2.2).bind fun t176 => (if t176 = 1 then ((boscageref01_Int1.f 3).bind fun bt177 => ((boscageref01_Int1.f 3).bind fun bt180 => ((value_Same.f bt177.1 bt177.2.1 bt177.2.2 bt180.1 bt180.2.1 bt180.2.2).bind fun t183 => (if t183 = true then ((value_Check.f k 9 0 (⟨#[]⟩ : ByteArray)).bind fun t184 => (some (t184 == 1))) else (some false))))) else (some false))))) else (some false)))) else (some false)) else (some false)) else (some false)) else (some false)))))
theorem boscagelaw01_live.mono : ∀ k, LeO (boscagelaw01_live.f k ) (boscagelaw01_live.f (k + 1) ) := by
  intro  k
  unfold boscagelaw01_live.f
  repeat' first
      | (with_reducible exact value_Check.mono _ _ _ _)
      | (with_reducible exact value_Compare.mono _ _ _ _ _ _ _)
      | (with_reducible exact LeO.refl _)
      | (with_reducible exact LeO.none _)
      | (with_reducible refine LeO.ite ?_ ?_)
      | (with_reducible refine LeO.bind ?_ (fun _ => ?_))
      | exact value_Check.mono _ _ _ _
      | exact value_Compare.mono _ _ _ _ _ _ _
      | exact LeO.none _
      | refine LeO.ite ?_ ?_
      | refine LeO.bind ?_ (fun _ => ?_)
theorem boscagelaw01_live.only (k : Nat) (r : Bool) (h : boscagelaw01_live.f k = some r) : r = true := by
  have h1 : boscagelaw01_live.f 80 = some true := by decide +kernel
  have h2 := at_rounds (fun k => boscagelaw01_live.mono k) (Nat.le_max_left k 80) h
  have h3 := at_rounds (fun k => boscagelaw01_live.mono k) (Nat.le_max_right k 80) h1
  rw [h2] at h3
  exact Option.some.inj h3
set_option maxHeartbeats 8000000 in
set_option maxRecDepth 100000 in
theorem boscagelaw01_live.calls (k : Nat)  (r : Bool) (w : World) (h : boscagelaw01_live.f k  = some r) (hok : Wv.OkW w := by first | assumption | exact Wv.OkW.below hok (by repeat (first | (with_reducible first | exact HB.out | apply below_alloc | apply pw_below_drewN | apply below_drew1) | exact HB.out | refine below_set ?_ (Aside0.out (by assumption))))) :
    Calls Tryd.prog 10 #[] w fun e w' => e = .returned (.bool r) ∧ Below w.heap.size w w' := by
  have hu27 := Tryd.underlying27
  have HB := Aside0.mk (Below.refl w.heap.size w)
  have HRT := Aside0.mk (boscagelaw01_live.only k r h)
  have H : ((boscageref01_Text1.f (⟨#[105, 116, 39, 115]⟩ : ByteArray)).bind fun bt153 => ((value_Text.f bt153.1 bt153.2.1 bt153.2.2).bind fun bt156 => ((boscageref01_Int1.f 1).bind fun bt158 => ((value_RowText.f (([(⟨bt158.1, bt158.2.1, bt158.2.2⟩ : S27), (⟨0, 0, (⟨#[]⟩ : ByteArray)⟩ : S27)] : List (S27)))).bind fun bt164 => (if bt156.1.toList = ([39, 105, 116, 39, 39, 115, 39] : List UInt8) then (if bt156.2 = 0 then (if bt164.1.toList = ([40, 49, 44, 32, 78, 85, 76, 76, 41] : List UInt8) then (if bt164.2 = 0 then ((boscageref01_Bool1.f true).bind fun bt166 => ((value_Compare.f k 0 0 (⟨#[]⟩ : ByteArray) bt166.1 bt166.2.1 bt166.2.2).bind fun t169 => (if t169 = (-1) then ((boscageref01_Blob1.f (⟨#[]⟩ : ByteArray)).bind fun bt170 => ((boscageref01_Text1.f (⟨#[122]⟩ : ByteArray)).bind fun bt173 => ((value_Compare.f k bt170.1 bt170.2.1 bt170.2.2 bt173.1 bt173.2.1 bt173.2.2).bind fun t176 => (if t176 = 1 then ((boscageref01_Int1.f 3).bind fun bt177 => ((boscageref01_Int1.f 3).bind fun bt180 => ((value_Same.f bt177.1 bt177.2.1 bt177.2.2 bt180.1 bt180.2.1 bt180.2.2).bind fun t183 => (if t183 = true then ((value_Check.f k 9 0 (⟨#[]⟩ : ByteArray)).bind fun t184 => (some (t184 == 1))) else (some false))))) else (some false))))) else (some false)))) else (some false)) else (some false)) else (some false)) else (some false)))))) = some r := h
  clear h
  replace H := Option.bind_eq_some_iff.mp H
  obtain ⟨⟨t153, t154, t155⟩, A10, H⟩ := H
  replace H : ((value_Text.f t153 t154 t155).bind fun bt156 => ((boscageref01_Int1.f 1).bind fun bt158 => ((value_RowText.f (([(⟨bt158.1, bt158.2.1, bt158.2.2⟩ : S27), (⟨0, 0, (⟨#[]⟩ : ByteArray)⟩ : S27)] : List (S27)))).bind fun bt164 => (if bt156.1.toList = ([39, 105, 116, 39, 39, 115, 39] : List UInt8) then (if bt156.2 = 0 then (if bt164.1.toList = ([40, 49, 44, 32, 78, 85, 76, 76, 41] : List UInt8) then (if bt164.2 = 0 then ((boscageref01_Bool1.f true).bind fun bt166 => ((value_Compare.f k 0 0 (⟨#[]⟩ : ByteArray) bt166.1 bt166.2.1 bt166.2.2).bind fun t169 => (if t169 = (-1) then ((boscageref01_Blob1.f (⟨#[]⟩ : ByteArray)).bind fun bt170 => ((boscageref01_Text1.f (⟨#[122]⟩ : ByteArray)).bind fun bt173 => ((value_Compare.f k bt170.1 bt170.2.1 bt170.2.2 bt173.1 bt173.2.1 bt173.2.2).bind fun t176 => (if t176 = 1 then ((boscageref01_Int1.f 3).bind fun bt177 => ((boscageref01_Int1.f 3).bind fun bt180 => ((value_Same.f bt177.1 bt177.2.1 bt177.2.2 bt180.1 bt180.2.1 bt180.2.2).bind fun t183 => (if t183 = true then ((value_Check.f k 9 0 (⟨#[]⟩ : ByteArray)).bind fun t184 => (some (t184 == 1))) else (some false))))) else (some false))))) else (some false)))) else (some false)) else (some false)) else (some false)) else (some false))))) = some r := H
  have A1 := Aside0.mk A10
  clear A10
  replace H := Option.bind_eq_some_iff.mp H
  obtain ⟨⟨t156, t157⟩, A20, H⟩ := H
  replace H : ((boscageref01_Int1.f 1).bind fun bt158 => ((value_RowText.f (([(⟨bt158.1, bt158.2.1, bt158.2.2⟩ : S27), (⟨0, 0, (⟨#[]⟩ : ByteArray)⟩ : S27)] : List (S27)))).bind fun bt164 => (if t156.toList = ([39, 105, 116, 39, 39, 115, 39] : List UInt8) then (if t157 = 0 then (if bt164.1.toList = ([40, 49, 44, 32, 78, 85, 76, 76, 41] : List UInt8) then (if bt164.2 = 0 then ((boscageref01_Bool1.f true).bind fun bt166 => ((value_Compare.f k 0 0 (⟨#[]⟩ : ByteArray) bt166.1 bt166.2.1 bt166.2.2).bind fun t169 => (if t169 = (-1) then ((boscageref01_Blob1.f (⟨#[]⟩ : ByteArray)).bind fun bt170 => ((boscageref01_Text1.f (⟨#[122]⟩ : ByteArray)).bind fun bt173 => ((value_Compare.f k bt170.1 bt170.2.1 bt170.2.2 bt173.1 bt173.2.1 bt173.2.2).bind fun t176 => (if t176 = 1 then ((boscageref01_Int1.f 3).bind fun bt177 => ((boscageref01_Int1.f 3).bind fun bt180 => ((value_Same.f bt177.1 bt177.2.1 bt177.2.2 bt180.1 bt180.2.1 bt180.2.2).bind fun t183 => (if t183 = true then ((value_Check.f k 9 0 (⟨#[]⟩ : ByteArray)).bind fun t184 => (some (t184 == 1))) else (some false))))) else (some false))))) else (some false)))) else (some false)) else (some false)) else (some false)) else (some false)))) = some r := H
  have A2 := Aside0.mk A20
  clear A20
  replace H := Option.bind_eq_some_iff.mp H
  obtain ⟨⟨t158, t159, t160⟩, A30, H⟩ := H
  replace H : ((value_RowText.f (([(⟨t158, t159, t160⟩ : S27), (⟨0, 0, (⟨#[]⟩ : ByteArray)⟩ : S27)] : List (S27)))).bind fun bt164 => (if t156.toList = ([39, 105, 116, 39, 39, 115, 39] : List UInt8) then (if t157 = 0 then (if bt164.1.toList = ([40, 49, 44, 32, 78, 85, 76, 76, 41] : List UInt8) then (if bt164.2 = 0 then ((boscageref01_Bool1.f true).bind fun bt166 => ((value_Compare.f k 0 0 (⟨#[]⟩ : ByteArray) bt166.1 bt166.2.1 bt166.2.2).bind fun t169 => (if t169 = (-1) then ((boscageref01_Blob1.f (⟨#[]⟩ : ByteArray)).bind fun bt170 => ((boscageref01_Text1.f (⟨#[122]⟩ : ByteArray)).bind fun bt173 => ((value_Compare.f k bt170.1 bt170.2.1 bt170.2.2 bt173.1 bt173.2.1 bt173.2.2).bind fun t176 => (if t176 = 1 then ((boscageref01_Int1.f 3).bind fun bt177 => ((boscageref01_Int1.f 3).bind fun bt180 => ((value_Same.f bt177.1 bt177.2.1 bt177.2.2 bt180.1 bt180.2.1 bt180.2.2).bind fun t183 => (if t183 = true then ((value_Check.f k 9 0 (⟨#[]⟩ : ByteArray)).bind fun t184 => (some (t184 == 1))) else (some false))))) else (some false))))) else (some false)))) else (some false)) else (some false)) else (some false)) else (some false))) = some r := H
  have A3 := Aside0.mk A30
  clear A30
  obtain ⟨y161, hy161⟩ : ∃ y_ : List (S27), y_ = (([(⟨t158, t159, t160⟩ : S27), (⟨0, 0, (⟨#[]⟩ : ByteArray)⟩ : S27)] : List (S27))) := ⟨_, rfl⟩
  replace H : ((value_RowText.f y161).bind fun bt164 => (if t156.toList = ([39, 105, 116, 39, 39, 115, 39] : List UInt8) then (if t157 = 0 then (if bt164.1.toList = ([40, 49, 44, 32, 78, 85, 76, 76, 41] : List UInt8) then (if bt164.2 = 0 then ((boscageref01_Bool1.f true).bind fun bt166 => ((value_Compare.f k 0 0 (⟨#[]⟩ : ByteArray) bt166.1 bt166.2.1 bt166.2.2).bind fun t169 => (if t169 = (-1) then ((boscageref01_Blob1.f (⟨#[]⟩ : ByteArray)).bind fun bt170 => ((boscageref01_Text1.f (⟨#[122]⟩ : ByteArray)).bind fun bt173 => ((value_Compare.f k bt170.1 bt170.2.1 bt170.2.2 bt173.1 bt173.2.1 bt173.2.2).bind fun t176 => (if t176 = 1 then ((boscageref01_Int1.f 3).bind fun bt177 => ((boscageref01_Int1.f 3).bind fun bt180 => ((value_Same.f bt177.1 bt177.2.1 bt177.2.2 bt180.1 bt180.2.1 bt180.2.2).bind fun t183 => (if t183 = true then ((value_Check.f k 9 0 (⟨#[]⟩ : ByteArray)).bind fun t184 => (some (t184 == 1))) else (some false))))) else (some false))))) else (some false)))) else (some false)) else (some false)) else (some false)) else (some false))) = some r := by first | (rw [hy161]; with_reducible exact H) | (have H2_ := (Option.bind_some _ _).symm.trans H; rw [hy161]; with_reducible exact H2_) | (have H2_ := (Option.bind_some _ _).symm.trans H; with_reducible exact H2_) | with_reducible exact H | (rw [hy161]; exact H) | exact H
  have Ny161 := Aside0.mk hy161
  clear hy161
  replace H := Option.bind_eq_some_iff.mp H
  obtain ⟨⟨t164, t165⟩, A40, H⟩ := H
  replace H : (if t156.toList = ([39, 105, 116, 39, 39, 115, 39] : List UInt8) then (if t157 = 0 then (if t164.toList = ([40, 49, 44, 32, 78, 85, 76, 76, 41] : List UInt8) then (if t165 = 0 then ((boscageref01_Bool1.f true).bind fun bt166 => ((value_Compare.f k 0 0 (⟨#[]⟩ : ByteArray) bt166.1 bt166.2.1 bt166.2.2).bind fun t169 => (if t169 = (-1) then ((boscageref01_Blob1.f (⟨#[]⟩ : ByteArray)).bind fun bt170 => ((boscageref01_Text1.f (⟨#[122]⟩ : ByteArray)).bind fun bt173 => ((value_Compare.f k bt170.1 bt170.2.1 bt170.2.2 bt173.1 bt173.2.1 bt173.2.2).bind fun t176 => (if t176 = 1 then ((boscageref01_Int1.f 3).bind fun bt177 => ((boscageref01_Int1.f 3).bind fun bt180 => ((value_Same.f bt177.1 bt177.2.1 bt177.2.2 bt180.1 bt180.2.1 bt180.2.2).bind fun t183 => (if t183 = true then ((value_Check.f k 9 0 (⟨#[]⟩ : ByteArray)).bind fun t184 => (some (t184 == 1))) else (some false))))) else (some false))))) else (some false)))) else (some false)) else (some false)) else (some false)) else (some false)) = some r := H
  have A4 := Aside0.mk A40
  clear A40
  by_cases c5 : t156.toList = ([39, 105, 116, 39, 39, 115, 39] : List UInt8)
  · rw [if_pos c5] at H
    have c5b0 : (t156.toList == ([39, 105, 116, 39, 39, 115, 39] : List UInt8)) = true := beq_iff_eq.mpr c5
    have c5b1 : (t156.toList != ([39, 105, 116, 39, 39, 115, 39] : List UInt8)) = false := bne_eq_false_iff_eq.mpr c5
    clear c5
    by_cases c6 : t157 = 0
    · rw [if_pos c6] at H
      have c6b0 : (t157 == 0) = true := beq_iff_eq.mpr c6
      have c6b1 : (t157 != 0) = false := bne_eq_false_iff_eq.mpr c6
      clear c6
      by_cases c7 : t164.toList = ([40, 49, 44, 32, 78, 85, 76, 76, 41] : List UInt8)
      · rw [if_pos c7] at H
        have c7b0 : (t164.toList == ([40, 49, 44, 32, 78, 85, 76, 76, 41] : List UInt8)) = true := beq_iff_eq.mpr c7
        have c7b1 : (t164.toList != ([40, 49, 44, 32, 78, 85, 76, 76, 41] : List UInt8)) = false := bne_eq_false_iff_eq.mpr c7
        clear c7
        by_cases c8 : t165 = 0
        · rw [if_pos c8] at H
          have c8b0 : (t165 == 0) = true := beq_iff_eq.mpr c8
          have c8b1 : (t165 != 0) = false := bne_eq_false_iff_eq.mpr c8
          clear c8
          replace H := Option.bind_eq_some_iff.mp H
          obtain ⟨⟨t166, t167, t168⟩, A90, H⟩ := H
          replace H : ((value_Compare.f k 0 0 (⟨#[]⟩ : ByteArray) t166 t167 t168).bind fun t169 => (if t169 = (-1) then ((boscageref01_Blob1.f (⟨#[]⟩ : ByteArray)).bind fun bt170 => ((boscageref01_Text1.f (⟨#[122]⟩ : ByteArray)).bind fun bt173 => ((value_Compare.f k bt170.1 bt170.2.1 bt170.2.2 bt173.1 bt173.2.1 bt173.2.2).bind fun t176 => (if t176 = 1 then ((boscageref01_Int1.f 3).bind fun bt177 => ((boscageref01_Int1.f 3).bind fun bt180 => ((value_Same.f bt177.1 bt177.2.1 bt177.2.2 bt180.1 bt180.2.1 bt180.2.2).bind fun t183 => (if t183 = true then ((value_Check.f k 9 0 (⟨#[]⟩ : ByteArray)).bind fun t184 => (some (t184 == 1))) else (some false))))) else (some false))))) else (some false))) = some r := H
          have A9 := Aside0.mk A90
          clear A90
          replace H := Option.bind_eq_some_iff.mp H
          obtain ⟨t169, A100, H⟩ := H
          replace H : (if t169 = (-1) then ((boscageref01_Blob1.f (⟨#[]⟩ : ByteArray)).bind fun bt170 => ((boscageref01_Text1.f (⟨#[122]⟩ : ByteArray)).bind fun bt173 => ((value_Compare.f k bt170.1 bt170.2.1 bt170.2.2 bt173.1 bt173.2.1 bt173.2.2).bind fun t176 => (if t176 = 1 then ((boscageref01_Int1.f 3).bind fun bt177 => ((boscageref01_Int1.f 3).bind fun bt180 => ((value_Same.f bt177.1 bt177.2.1 bt177.2.2 bt180.1 bt180.2.1 bt180.2.2).bind fun t183 => (if t183 = true then ((value_Check.f k 9 0 (⟨#[]⟩ : ByteArray)).bind fun t184 => (some (t184 == 1))) else (some false))))) else (some false))))) else (some false)) = some r := H
          have A10 := Aside0.mk A100
          clear A100
          by_cases c11 : t169 = (-1)
          · rw [if_pos c11] at H
            have c11b0 : (t169 == (-1)) = true := beq_iff_eq.mpr c11
            have c11b1 : (t169 != (-1)) = false := bne_eq_false_iff_eq.mpr c11
            clear c11
            replace H := Option.bind_eq_some_iff.mp H
            obtain ⟨⟨t170, t171, t172⟩, A120, H⟩ := H
            replace H : ((boscageref01_Text1.f (⟨#[122]⟩ : ByteArray)).bind fun bt173 => ((value_Compare.f k t170 t171 t172 bt173.1 bt173.2.1 bt173.2.2).bind fun t176 => (if t176 = 1 then ((boscageref01_Int1.f 3).bind fun bt177 => ((boscageref01_Int1.f 3).bind fun bt180 => ((value_Same.f bt177.1 bt177.2.1 bt177.2.2 bt180.1 bt180.2.1 bt180.2.2).bind fun t183 => (if t183 = true then ((value_Check.f k 9 0 (⟨#[]⟩ : ByteArray)).bind fun t184 => (some (t184 == 1))) else (some false))))) else (some false)))) = some r := H
            have A12 := Aside0.mk A120
            clear A120
            replace H := Option.bind_eq_some_iff.mp H
            obtain ⟨⟨t173, t174, t175⟩, A130, H⟩ := H
            replace H : ((value_Compare.f k t170 t171 t172 t173 t174 t175).bind fun t176 => (if t176 = 1 then ((boscageref01_Int1.f 3).bind fun bt177 => ((boscageref01_Int1.f 3).bind fun bt180 => ((value_Same.f bt177.1 bt177.2.1 bt177.2.2 bt180.1 bt180.2.1 bt180.2.2).bind fun t183 => (if t183 = true then ((value_Check.f k 9 0 (⟨#[]⟩ : ByteArray)).bind fun t184 => (some (t184 == 1))) else (some false))))) else (some false))) = some r := H
            have A13 := Aside0.mk A130
            clear A130
            replace H := Option.bind_eq_some_iff.mp H
            obtain ⟨t176, A140, H⟩ := H
            replace H : (if t176 = 1 then ((boscageref01_Int1.f 3).bind fun bt177 => ((boscageref01_Int1.f 3).bind fun bt180 => ((value_Same.f bt177.1 bt177.2.1 bt177.2.2 bt180.1 bt180.2.1 bt180.2.2).bind fun t183 => (if t183 = true then ((value_Check.f k 9 0 (⟨#[]⟩ : ByteArray)).bind fun t184 => (some (t184 == 1))) else (some false))))) else (some false)) = some r := H
            have A14 := Aside0.mk A140
            clear A140
            by_cases c15 : t176 = 1
            · rw [if_pos c15] at H
              have c15b0 : (t176 == 1) = true := beq_iff_eq.mpr c15
              have c15b1 : (t176 != 1) = false := bne_eq_false_iff_eq.mpr c15
              clear c15
              replace H := Option.bind_eq_some_iff.mp H
              obtain ⟨⟨t177, t178, t179⟩, A160, H⟩ := H
              replace H : ((boscageref01_Int1.f 3).bind fun bt180 => ((value_Same.f t177 t178 t179 bt180.1 bt180.2.1 bt180.2.2).bind fun t183 => (if t183 = true then ((value_Check.f k 9 0 (⟨#[]⟩ : ByteArray)).bind fun t184 => (some (t184 == 1))) else (some false)))) = some r := H
              have A16 := Aside0.mk A160
              clear A160
              replace H := Option.bind_eq_some_iff.mp H
              obtain ⟨⟨t180, t181, t182⟩, A170, H⟩ := H
              replace H : ((value_Same.f t177 t178 t179 t180 t181 t182).bind fun t183 => (if t183 = true then ((value_Check.f k 9 0 (⟨#[]⟩ : ByteArray)).bind fun t184 => (some (t184 == 1))) else (some false))) = some r := H
              have A17 := Aside0.mk A170
              clear A170
              obtain ⟨rfl, rfl, rfl⟩ : t177 = t180 ∧ t178 = t181 ∧ t179 = t182 := by have E := A16.out.symm.trans A17.out; simp only [Option.some.injEq, Prod.mk.injEq] at E; exact ⟨E.1, E.2.1, E.2.2⟩
              replace H := Option.bind_eq_some_iff.mp H
              obtain ⟨t183, A180, H⟩ := H
              replace H : (if t183 = true then ((value_Check.f k 9 0 (⟨#[]⟩ : ByteArray)).bind fun t184 => (some (t184 == 1))) else (some false)) = some r := H
              have A18 := Aside0.mk A180
              clear A180
              by_cases c19 : t183 = true
              · subst c19
                have H1 : ((value_Check.f k 9 0 (⟨#[]⟩ : ByteArray)).bind fun t184 => (some (t184 == 1))) = some r := by rw [if_pos rfl] at H; exact H
                clear H
                have H := H1
                clear H1
                replace H := Option.bind_eq_some_iff.mp H
                obtain ⟨t184, A200, H⟩ := H
                replace H : (some (t184 == 1)) = some r := H
                have A20 := Aside0.mk A200
                clear A200
                obtain rfl := Option.some.inj H
                go_enter Tryd.func10, Tryd.ntmps10
                go_wp2_with (first | ((with_reducible refine gate_callee (f := 31) rfl ?_); refine goesL_ (some 6) rfl rfl Tryd.func31 (by kernel_rfl) rfl #[.string (⟨#[105, 116, 39, 115]⟩ : ByteArray)] rfl (by (try simp only [List.map_toArray, List.map_cons, List.map_nil]); first | done | rfl | (simp only [List.length_drop, List.length_take]; rfl)) ?_; (with_reducible refine (boscageref01_Text1.calls (⟨#[105, 116, 39, 115]⟩ : ByteArray) t153 t154 t155 _ A1.out).mono ?_); rintro e w21 ⟨rfl, hb⟩; refine ⟨_, rfl, ?_⟩; have n0_ := Aside0.mk (below_step (by repeat (first | (with_reducible first | exact HB.out | apply below_alloc | apply pw_below_drewN | apply below_drew1) | exact HB.out)) hb); clear HB; have HB := n0_; clear n0_; (try clear hb); (try clear hb2); (try clear hk); (try clear hi)) | ((with_reducible refine gate_callee (f := 12) rfl ?_); refine goesL_ (some 7) rfl rfl Tryd.func12 (by kernel_rfl) rfl #[.agg #[.int .i64 t153, .int .i64 t154, .string t155]] rfl (by (try simp only [List.map_toArray, List.map_cons, List.map_nil]); first | done | rfl | (simp only [List.length_drop, List.length_take]; rfl)) ?_; (with_reducible refine (value_Text.calls t153 t154 t155 t156 t157 _ A2.out).mono ?_); rintro e w22 ⟨rfl, hb⟩; refine ⟨_, rfl, ?_⟩; have n0_ := Aside0.mk (below_step (by repeat (first | (with_reducible first | exact HB.out | apply below_alloc | apply pw_below_drewN | apply below_drew1) | exact HB.out)) hb); clear HB; have HB := n0_; clear n0_; (try clear hb); (try clear hb2); (try clear hk); (try clear hi)) | ((with_reducible refine gate_callee (f := 32) rfl ?_); refine goesL_ (some 11) rfl rfl Tryd.func32 (by kernel_rfl) rfl #[.int .i64 1] rfl (by (try simp only [List.map_toArray, List.map_cons, List.map_nil]); first | done | rfl | (simp only [List.length_drop, List.length_take]; rfl)) ?_; (with_reducible refine (boscageref01_Int1.calls 1 t158 t159 t160 _ A3.out).mono ?_); rintro e w23 ⟨rfl, hb⟩; refine ⟨_, rfl, ?_⟩; have n0_ := Aside0.mk (below_step (by repeat (first | (with_reducible first | exact HB.out | apply below_alloc | apply pw_below_drewN | apply below_drew1) | exact HB.out)) hb); clear HB; have HB := n0_; clear n0_; (try clear hb); (try clear hb2); (try clear hk); (try clear hi)) | ((with_reducible refine gate_dst (N := 13) rfl ?_); refine Kd.R_lit k27 _ 27 ?hg (N := 13) ?hd (xs := ([(⟨t158, t159, t160⟩ : S27), (⟨0, 0, (⟨#[]⟩ : ByteArray)⟩ : S27)] : List (S27))) (inner := [.int .i64 t158, .int .i64 t159, .string t160, .int .i64 0, .int .i64 0, .string (⟨#[]⟩ : ByteArray)]) (ok := fun _ => True) (okp := fun _ => True) ?hr ?hp (fun _ hk => hk) trivial (Below.refl _ _) (Nat.le_refl _) (by simp) ?_; (case hd => rfl); (case hg => rfl); (case hr => first | (go_simp; done) | (go_simp; rfl)); (case hp => exact (Reps.c3 (show Kd.M k27 _ _ _ (⟨t158, t159, t160⟩ : S27) [.int .i64 t158, .int .i64 t159, .string t160] from (k27_mkM _ _ _ (⟨t158, t159, t160⟩ : S27) )) (Reps.c3 (show Kd.M k27 _ _ _ (⟨0, 0, (⟨#[]⟩ : ByteArray)⟩ : S27) [.int .i64 0, .int .i64 0, .string (⟨#[]⟩ : ByteArray)] from (k27_mkM _ _ _ (⟨0, 0, (⟨#[]⟩ : ByteArray)⟩ : S27) )) (Reps.none _ _)))); intro v162 w24 ho25 hb hg_ hnew_; clear hg_ hnew_; (first | rw [← Ny161.out] at ho25 | (simp only [Int.reduceToNat] at ho25; rw [← Ny161.out] at ho25)); have n0_ := Aside0.mk (Kd.R_lower ho25 (below_size (by repeat (first | (with_reducible first | exact HB.out | apply below_alloc | apply pw_below_drewN | apply below_drew1) | exact HB.out)))); have n1_ := Aside0.mk (below_step (by repeat (first | (with_reducible first | exact HB.out | apply below_alloc | apply pw_below_drewN | apply below_drew1) | exact HB.out)) hb); clear HB; have HO163 := n0_; have HB := n1_; clear n0_ n1_; clear hb ho25; obtain ⟨Ao26, co26, eo26⟩ := Kd.R_slice HO163.out; subst eo26) | ((with_reducible refine gate_callee (f := 14) rfl ?_); refine goesL_ (some 14) rfl rfl Tryd.func14 (by kernel_rfl) rfl #[.slice Ao26 y161.length co26] rfl (by (try simp only [List.map_toArray, List.map_cons, List.map_nil]); first | done | rfl | (simp only [List.length_drop, List.length_take]; rfl)) ?_; (with_reducible refine (value_RowText.calls _ _ y161 t164 t165 _ ?side1 ?side2 A4.out).mono ?_); (case side1 => repeat (first | exact (Kd.R_reads' HO163.out).2.2 | (with_reducible refine Kd.C_alloc ?_ _) | (with_reducible refine Kd.C_drewN ?_ _) | (with_reducible refine Kd.C_drew ?_))); (case side2 => exact (Kd.R_reads' HO163.out).2.1); rintro e w27 ⟨rfl, hb⟩; refine ⟨_, rfl, ?_⟩; have n0_ := Aside0.mk (Kd.R_below (by (with_reducible repeat (first | apply Kd.R_alloc | apply Kd.R_drewN | apply Kd.R_drew)); exact HO163.out) hb); have n1_ := Aside0.mk (below_step (by repeat (first | (with_reducible first | exact HB.out | apply below_alloc | apply pw_below_drewN | apply below_drew1) | exact HB.out)) hb); clear HO163; clear HB; have HO163 := n0_; have HB := n1_; clear n0_ n1_; (try clear hb); (try clear hb2); (try clear hk); (try clear hi)) | (go_at_call 33; (with_reducible refine (boscageref01_Bool1.calls true t166 t167 t168 _ A9.out).mono ?_); rintro e w28 ⟨rfl, hb⟩; have n0_ := Aside0.mk (Kd.R_below (by (with_reducible repeat (first | apply Kd.R_alloc | apply Kd.R_drewN | apply Kd.R_drew)); exact HO163.out) hb); have n1_ := Aside0.mk (below_step (by repeat (first | (with_reducible first | exact HB.out | apply below_alloc | apply pw_below_drewN | apply below_drew1) | exact HB.out)) hb); clear HO163; clear HB; have HO163 := n0_; have HB := n1_; clear n0_ n1_; (try clear hb); (try clear hb2); (try clear hk); (try clear hi)) | (go_at_call 17; (with_reducible refine (value_Compare.calls k 0 0 (⟨#[]⟩ : ByteArray) t166 t167 t168 t169 _ A10.out).mono ?_); rintro e w29 ⟨rfl, hb⟩; have n0_ := Aside0.mk (Kd.R_below (by (with_reducible repeat (first | apply Kd.R_alloc | apply Kd.R_drewN | apply Kd.R_drew)); exact HO163.out) hb); have n1_ := Aside0.mk (below_step (by repeat (first | (with_reducible first | exact HB.out | apply below_alloc | apply pw_below_drewN | apply below_drew1) | exact HB.out)) hb); clear HO163; clear HB; have HO163 := n0_; have HB := n1_; clear n0_ n1_; (try clear hb); (try clear hb2); (try clear hk); (try clear hi)) | (go_at_call 34; (with_reducible refine (boscageref01_Blob1.calls (⟨#[]⟩ : ByteArray) t170 t171 t172 _ A12.out).mono ?_); rintro e w30 ⟨rfl, hb⟩; have n0_ := Aside0.mk (Kd.R_below (by (with_reducible repeat (first | apply Kd.R_alloc | apply Kd.R_drewN | apply Kd.R_drew)); exact HO163.out) hb); have n1_ := Aside0.mk (below_step (by repeat (first | (with_reducible first | exact HB.out | apply below_alloc | apply pw_below_drewN | apply below_drew1) | exact HB.out)) hb); clear HO163; clear HB; have HO163 := n0_; have HB := n1_; clear n0_ n1_; (try clear hb); (try clear hb2); (try clear hk); (try clear hi)) | (go_at_call 31; (with_reducible refine (boscageref01_Text1.calls (⟨#[122]⟩ : ByteArray) t173 t174 t175 _ A13.out).mono ?_); rintro e w31 ⟨rfl, hb⟩; have n0_ := Aside0.mk (Kd.R_below (by (with_reducible repeat (first | apply Kd.R_alloc | apply Kd.R_drewN | apply Kd.R_drew)); exact HO163.out) hb); have n1_ := Aside0.mk (below_step (by repeat (first | (with_reducible first | exact HB.out | apply below_alloc | apply pw_below_drewN | apply below_drew1) | exact HB.out)) hb); clear HO163; clear HB; have HO163 := n0_; have HB := n1_; clear n0_ n1_; (try clear hb); (try clear hb2); (try clear hk); (try clear hi)) | (go_at_call 17; (with_reducible refine (value_Compare.calls k t170 t171 t172 t173 t174 t175 t176 _ A14.out).mono ?_); rintro e w32 ⟨rfl, hb⟩; have n0_ := Aside0.mk (Kd.R_below (by (with_reducible repeat (first | apply Kd.R_alloc | apply Kd.R_drewN | apply Kd.R_drew)); exact HO163.out) hb); have n1_ := Aside0.mk (below_step (by repeat (first | (with_reducible first | exact HB.out | apply below_alloc | apply pw_below_drewN | apply below_drew1) | exact HB.out)) hb); clear HO163; clear HB; have HO163 := n0_; have HB := n1_; clear n0_ n1_; (try clear hb); (try clear hb2); (try clear hk); (try clear hi)) | (go_at_call 32; (with_reducible refine (boscageref01_Int1.calls 3 t177 t178 t179 _ A16.out).mono ?_); rintro e w33 ⟨rfl, hb⟩; have n0_ := Aside0.mk (Kd.R_below (by (with_reducible repeat (first | apply Kd.R_alloc | apply Kd.R_drewN | apply Kd.R_drew)); exact HO163.out) hb); have n1_ := Aside0.mk (below_step (by repeat (first | (with_reducible first | exact HB.out | apply below_alloc | apply pw_below_drewN | apply below_drew1) | exact HB.out)) hb); clear HO163; clear HB; have HO163 := n0_; have HB := n1_; clear n0_ n1_; (try clear hb); (try clear hb2); (try clear hk); (try clear hi)) | (go_at_call 32; (with_reducible refine (boscageref01_Int1.calls 3 t177 t178 t179 _ A17.out).mono ?_); rintro e w34 ⟨rfl, hb⟩; have n0_ := Aside0.mk (Kd.R_below (by (with_reducible repeat (first | apply Kd.R_alloc | apply Kd.R_drewN | apply Kd.R_drew)); exact HO163.out) hb); have n1_ := Aside0.mk (below_step (by repeat (first | (with_reducible first | exact HB.out | apply below_alloc | apply pw_below_drewN | apply below_drew1) | exact HB.out)) hb); clear HO163; clear HB; have HO163 := n0_; have HB := n1_; clear n0_ n1_; (try clear hb); (try clear hb2); (try clear hk); (try clear hi)) | (go_at_call 16; (with_reducible refine (value_Same.calls t177 t178 t179 t177 t178 t179 true _ A18.out).mono ?_); rintro e w35 ⟨rfl, hb⟩; have n0_ := Aside0.mk (Kd.R_below (by (with_reducible repeat (first | apply Kd.R_alloc | apply Kd.R_drewN | apply Kd.R_drew)); exact HO163.out) hb); have n1_ := Aside0.mk (below_step (by repeat (first | (with_reducible first | exact HB.out | apply below_alloc | apply pw_below_drewN | apply below_drew1) | exact HB.out)) hb); clear HO163; clear HB; have HO163 := n0_; have HB := n1_; clear n0_ n1_; (try clear hb); (try clear hb2); (try clear hk); (try clear hi)) | (go_at_call 18; (with_reducible refine (value_Check.calls k 9 0 (⟨#[]⟩ : ByteArray) t184 _ A20.out).mono ?_); rintro e w36 ⟨rfl, hb⟩; have n0_ := Aside0.mk (Kd.R_below (by (with_reducible repeat (first | apply Kd.R_alloc | apply Kd.R_drewN | apply Kd.R_drew)); exact HO163.out) hb); have n1_ := Aside0.mk (below_step (by repeat (first | (with_reducible first | exact HB.out | apply below_alloc | apply pw_below_drewN | apply below_drew1) | exact HB.out)) hb); clear HO163; clear HB; have HO163 := n0_; have HB := n1_; clear n0_ n1_; (try clear hb); (try clear hb2); (try clear hk); (try clear hi)))
                go_ret
                exact ⟨by first | rfl | (simp [errW_none, errW_some] <;> rfl) | (simp [*, errW_none, errW_some] <;> rfl), by repeat (first | (with_reducible first | exact HB.out | apply below_alloc | apply pw_below_drewN | apply below_drew1) | exact HB.out)⟩
              · replace c19 := Bool.eq_false_iff.mpr c19
                subst c19
                have H1 : (some false) = some r := by rw [if_neg (show ¬ (false = true) by decide)] at H; exact H
                clear H
                have H := H1
                clear H1
                exact absurd ((Option.some.inj H).trans HRT.out) Bool.false_ne_true
            · rw [if_neg c15] at H
              have c15b0 : (t176 == 1) = false := beq_eq_false_iff_ne.mpr c15
              have c15b1 : (t176 != 1) = true := bne_iff_ne.mpr c15
              exact absurd ((Option.some.inj H).trans HRT.out) Bool.false_ne_true
          · rw [if_neg c11] at H
            have c11b0 : (t169 == (-1)) = false := beq_eq_false_iff_ne.mpr c11
            have c11b1 : (t169 != (-1)) = true := bne_iff_ne.mpr c11
            exact absurd ((Option.some.inj H).trans HRT.out) Bool.false_ne_true
        · rw [if_neg c8] at H
          have c8b0 : (t165 == 0) = false := beq_eq_false_iff_ne.mpr c8
          have c8b1 : (t165 != 0) = true := bne_iff_ne.mpr c8
          exact absurd ((Option.some.inj H).trans HRT.out) Bool.false_ne_true
      · rw [if_neg c7] at H
        have c7b0 : (t164.toList == ([40, 49, 44, 32, 78, 85, 76, 76, 41] : List UInt8)) = false := beq_eq_false_iff_ne.mpr c7
        have c7b1 : (t164.toList != ([40, 49, 44, 32, 78, 85, 76, 76, 41] : List UInt8)) = true := bne_iff_ne.mpr c7
        exact absurd ((Option.some.inj H).trans HRT.out) Bool.false_ne_true
    · rw [if_neg c6] at H
      have c6b0 : (t157 == 0) = false := beq_eq_false_iff_ne.mpr c6
      have c6b1 : (t157 != 0) = true := bne_iff_ne.mpr c6
      exact absurd ((Option.some.inj H).trans HRT.out) Bool.false_ne_true
  · rw [if_neg c5] at H
    have c5b0 : (t156.toList == ([39, 105, 116, 39, 39, 115, 39] : List UInt8)) = false := beq_eq_false_iff_ne.mpr c5
    have c5b1 : (t156.toList != ([39, 105, 116, 39, 39, 115, 39] : List UInt8)) = true := bne_iff_ne.mpr c5
    exact absurd ((Option.some.inj H).trans HRT.out) Bool.false_ne_true

-- NOT PRINTED: function 47 (api_Value_47)

/-! ### value_CompareRows: function 24 -/
def cmpF (a b : S27) : Int := (value_Compare.f 4 a.f0 a.f1 a.f2 b.f0 b.f1 b.f2).getD 0
def cmpL : List S27 → List S27 → Int
  | [], [] => 0
  | [], _ :: _ => -1
  | _ :: _, [] => 1
  | a :: x, b :: y => if cmpF a b = 0 then cmpL x y else cmpF a b
def value_CompareRows.f (l0 : List S27) (l1 : List S27) : Option Int := if l0.length ≤ 9223372036854775807 ∧ l1.length ≤ 9223372036854775807 then some (cmpL l0 l1) else none
theorem or3 (v1 v2 v3 : Int) : cmp_Or_int.f 4 [v1, v2, v3] = some (if v1 = 0 then if v2 = 0 then v3 else v2 else v1) := by
  have w1 : wrap64 (0 + 1) = 1 := by unfold wrap64; omega
  have w2 : wrap64 (1 + 1) = 2 := by unfold wrap64; omega
  have w3 : wrap64 (2 + 1) = 3 := by unfold wrap64; omega
  have r0 : rd [v1, v2, v3] 0 = v1 := rfl
  have r1 : rd [v1, v2, v3] 1 = v2 := rfl
  have r2 : rd [v1, v2, v3] 2 = v3 := rfl
  have l0 : (([v1, v2, v3] : List Int).length : Int) = 3 := rfl
  unfold cmp_Or_int.f
  rw [l0]
  simp only [cmp_Or_int.l0, l0, w1, w2, w3, r0, r1, r2, Int.reduceLT, Int.reduceLE, if_true, if_false]
  by_cases h1 : v1 = 0
  · by_cases h2 : v2 = 0
    · by_cases h3 : v3 = 0 <;> simp [h1, h2, h3]
    · simp [h1, h2]
  · simp [h1]
theorem cmpF_at (a b : S27) : value_Compare.f 4 a.f0 a.f1 a.f2 b.f0 b.f1 b.f2 = some (cmpF a b) := by
  have h : (value_Compare.f 4 a.f0 a.f1 a.f2 b.f0 b.f1 b.f2).isSome = true := by
    unfold value_Compare.f
    generalize e1 : cmp_Compare_int.f a.f0 b.f0 = o1
    generalize e2 : cmp_Compare_int64.f a.f1 b.f1 = o2
    generalize e3 : strings_Compare.f a.f2 b.f2 = o3
    have h1 : o1.isSome = true := by rw [← e1]; simp only [cmp_Compare_int.f, cmp_isNaN_int.f, Option.bind_some]; repeat' (first | rfl | apply isSome_ite)
    have h2 : o2.isSome = true := by rw [← e2]; simp only [cmp_Compare_int64.f, cmp_isNaN_int64.f, Option.bind_some]; repeat' (first | rfl | apply isSome_ite)
    have h3 : o3.isSome = true := by rw [← e3]; rfl
    obtain ⟨v1, rfl⟩ := Option.isSome_iff_exists.mp h1
    obtain ⟨v2, rfl⟩ := Option.isSome_iff_exists.mp h2
    obtain ⟨v3, rfl⟩ := Option.isSome_iff_exists.mp h3
    simp only [Option.bind_some, or3]
    rfl
  unfold cmpF
  generalize value_Compare.f 4 a.f0 a.f1 a.f2 b.f0 b.f1 b.f2 = o at h ⊢
  cases o with
  | none => cases h
  | some e => rfl
theorem drop_rd (l : List S27) (k : Nat) (h : k < l.length) : l.drop k = rd_T27 l (k : Int) :: l.drop (k + 1) := by
  rw [List.drop_eq_getElem_cons h]
  congr 1
  unfold rd_T27
  rw [Int.toNat_natCast, List.getD_eq_getElem?_getD, List.getElem?_eq_getElem h, Option.getD_some]
theorem cmpL_step (l0 l1 : List S27) (k : Nat) (h0 : k < l0.length) (h1 : k < l1.length) :
    cmpL (l0.drop k) (l1.drop k) = if cmpF (rd_T27 l0 k) (rd_T27 l1 k) = 0 then cmpL (l0.drop (k + 1)) (l1.drop (k + 1)) else cmpF (rd_T27 l0 k) (rd_T27 l1 k) := by
  rw [drop_rd l0 k h0, drop_rd l1 k h1]; rfl
theorem cmpL_one (l0 l1 : List S27) (k : Nat) (h0 : k < l0.length) (h1 : k = l1.length) : cmpL (l0.drop k) (l1.drop k) = 1 := by
  rw [drop_rd l0 k h0, h1, List.drop_length]; rfl
theorem cmpL_end (l0 l1 : List S27) (k : Nat) (h0 : k = l0.length) (h1 : k ≤ l1.length) : cmpL (l0.drop k) (l1.drop k) = if k < l1.length then -1 else 0 := by
  have e : l0.drop k = [] := by rw [h0, List.drop_length]
  rw [e]
  by_cases h : k < l1.length
  · rw [if_pos h, drop_rd l1 k h]; rfl
  · rw [if_neg h, show l1.drop k = [] from List.drop_eq_nil_of_le (by omega)]; rfl
set_option maxHeartbeats 4000000 in
set_option maxRecDepth 100000 in
theorem cmp_walk (A0 : Option Addr) (c0 : Nat) (l0 : List S27) (A1 : Option Addr) (c1 : Nat) (l1 : List S27) (w : World) (hr0 : Kd.C k27 w A0 l0.length l0) (hr1 : Kd.C k27 w A1 l1.length l1) (hn0 : l0.length ≤ 9223372036854775807) (hn1 : l1.length ≤ 9223372036854775807) :
    Calls Tryd.prog 47 #[.slice A0 l0.length c0, .slice A1 l1.length c1, .func (.func 17) #[] #[]] w fun e w' => e = .returned (.int .i64 (cmpL l0 l1)) ∧ Below w.heap.size w w' := by
  have HR0 := Aside0.mk hr0
  have HR1 := Aside0.mk hr1
  have HN0 := Aside0.mk hn0
  have HN1 := Aside0.mk hn1
  clear hr0 hr1 hn0 hn1
  go_enter Tryd.func47, Tryd.ntmps47
  go_wp2
  go_loopg [6, 13] l0.length (fun gg _ s13 wr => ∃ kk : Nat, Aside0 (kk ≤ l0.length) ∧ Aside0 (kk ≤ l1.length) ∧ Aside0 (l0.length - kk ≤ gg) ∧ s13 = .int .i64 kk ∧ Aside0 (Below w.heap.size w wr) ∧ Aside0 (cmpL l0 l1 = cmpL (l0.drop kk) (l1.drop kk)))
  case atStart => exact ⟨0, ⟨Nat.zero_le _⟩, ⟨Nat.zero_le _⟩, ⟨Nat.le_refl _⟩, rfl, ⟨Below.refl _ w⟩, ⟨rfl⟩⟩
  case round =>
    obtain ⟨kk, hkk, hkl, hg, rfl, HB, A⟩ := hrel
    by_cases hlt : kk < l0.length
    · have p109 : 0 ≤ (kk : Int) := Int.natCast_nonneg kk
      have q109 : (kk : Int) < (l0.length : Int) := by omega
      obtain ⟨ad109, e109, hx0, hx1, hx2⟩ := at_T27 HR0.out kk p109 q109
      cases e109
      replace hx0 := (HB.out.cell (World.block_lt_of_cell? w _ hx0)).trans hx0
      replace hx1 := (HB.out.cell (World.block_lt_of_cell? w _ hx1)).trans hx1
      replace hx2 := (HB.out.cell (World.block_lt_of_cell? w _ hx2)).trans hx2
      simp only [Int.toNat_natCast] at hx0 hx1 hx2
      by_cases hlt1 : kk < l1.length
      · have q110 : (kk : Int) < (l1.length : Int) := by omega
        obtain ⟨ad110, e110, hy0, hy1, hy2⟩ := at_T27 HR1.out kk p109 q110
        cases e110
        replace hy0 := (HB.out.cell (World.block_lt_of_cell? w _ hy0)).trans hy0
        replace hy1 := (HB.out.cell (World.block_lt_of_cell? w _ hy1)).trans hy1
        replace hy2 := (HB.out.cell (World.block_lt_of_cell? w _ hy2)).trans hy2
        simp only [Int.toNat_natCast] at hy0 hy1 hy2
        have hst := Aside0.mk (cmpL_step l0 l1 kk hlt hlt1)
        have hlen := Aside0.mk hlt
        have hlen1 := Aside0.mk hlt1
        have hw : Aside0 (wrap64 ((kk : Int) + 1) = ((kk + 1 : Nat) : Int)) := ⟨by have := HN0.out; unfold wrap64; omega⟩
        have hge : decide (l1.length ≤ kk) = false := decide_eq_false (by omega)
        have hge' : decide ((l1.length : Int) ≤ (kk : Int)) = false := decide_eq_false (by omega)
        replace p109 := eq_true p109
        replace q109 := eq_true q109
        replace q110 := eq_true q110
        generalize hy : rd_T27 l0 (kk : Int) = y at hx0 hx1 hx2 hst
        generalize hz : rd_T27 l1 (kk : Int) = z at hy0 hy1 hy2 hst
        clear hy hz hlt hlt1
        have hB1 := Aside0.mk ((Below.refl wr.heap.size wr).alloc (Nat.le_refl _) (.cells #[.int .i64 y.f0, .int .i64 y.f1, .string y.f2] 27))
        have hz0 := (hB1.out.cell (World.block_lt_of_cell? wr _ hy0)).trans hy0
        have hz1 := (hB1.out.cell (World.block_lt_of_cell? wr _ hy1)).trans hy1
        have hz2 := (hB1.out.cell (World.block_lt_of_cell? wr _ hy2)).trans hy2
        by_cases hq : cmpF y z = 0
        · go_wp2_with fail
          refine (value_Compare.calls 4 y.f0 y.f1 y.f2 z.f0 z.f1 z.f2 (cmpF y z) _ (cmpF_at y z)).mono ?_
          rintro e w' ⟨rfl, hb'⟩
          have HC := Aside0.mk (below_step ((HB.out.alloc HB.out.size _).alloc (by have := HB.out.size; simp; omega) _) hb')
          clear hb'
          rw [hq]
          go_wp2
          go_roundg (l0.length - (kk + 1))
          case measure => have := hlen.out; have := hg.out; omega
          case rel =>
            refine ⟨kk + 1, ⟨hlen.out⟩, ⟨hlen1.out⟩, ⟨Nat.le_refl _⟩, ?_, ⟨HC.out⟩, ⟨?_⟩⟩
            · first | rw [hw.out] | go_num
            · rw [A.out, hst.out, if_pos hq]
        · have hq' : (cmpF y z == 0) = false := by simpa using hq
          have hq2 : (cmpF y z != 0) = true := by simpa using hq
          go_wp2_with fail
          refine (value_Compare.calls 4 y.f0 y.f1 y.f2 z.f0 z.f1 z.f2 (cmpF y z) _ (cmpF_at y z)).mono ?_
          rintro e w' ⟨rfl, hb'⟩
          have HC := Aside0.mk (below_step ((HB.out.alloc HB.out.size _).alloc (by have := HB.out.size; simp; omega) _) hb')
          clear hb'
          go_wp2
          go_ret
          refine ⟨?_, HC.out⟩
          rw [A.out, hst.out, if_neg hq]; rfl
      · have hge : decide (l1.length ≤ kk) = true := decide_eq_true (by omega)
        have hge' : decide ((l1.length : Int) ≤ (kk : Int)) = true := decide_eq_true (by omega)
        have hone := Aside0.mk (cmpL_one l0 l1 kk hlt (by have := hkl.out; omega))
        replace p109 := eq_true p109
        replace q109 := eq_true q109
        clear hlt hlt1
        go_wp2
        go_ret
        refine ⟨?_, HB.out.alloc HB.out.size _⟩
        rw [A.out, hone.out]; rfl
    · have hltz : ¬ (kk : Int) < (l0.length : Int) := by omega
      have hk : kk = l0.length := by have := hkk.out; omega
      have hend := Aside0.mk (cmpL_end l0 l1 kk hk hkl.out)
      have HK := Aside0.mk hk
      clear hlt hk
      by_cases hq : l0.length < l1.length
      · have hq' : decide (l0.length < l1.length) = true := decide_eq_true hq
        go_wp2
        go_ret
        refine ⟨?_, HB.out⟩
        rw [A.out, hend.out, if_pos (by rw [HK.out]; exact hq)]; rfl
      · have hq' : decide (l0.length < l1.length) = false := decide_eq_false hq
        go_wp2
        go_ret
        refine ⟨?_, HB.out⟩
        rw [A.out, hend.out, if_neg (by rw [HK.out]; exact hq)]; rfl
theorem value_CompareRows.calls (A0 : Option Addr) (c0 : Nat) (l0 : List S27) (A1 : Option Addr) (c1 : Nat) (l1 : List S27) (r : Int) (w : World) (hr0 : Kd.C k27 w A0 l0.length l0) (hc0 : l0.length ≤ c0) (hr1 : Kd.C k27 w A1 l1.length l1) (hc1 : l1.length ≤ c1) (h : value_CompareRows.f l0 l1 = some r) :
    Calls Tryd.prog 24 #[.slice A0 l0.length c0, .slice A1 l1.length c1] w fun e w' => e = .returned (.int .i64 r) ∧ Below w.heap.size w w' := by
  unfold value_CompareRows.f at h
  by_cases hn : l0.length ≤ 9223372036854775807 ∧ l1.length ≤ 9223372036854775807
  · rw [if_pos hn] at h
    obtain rfl := Option.some.inj h
    clear h
    go_enter Tryd.func24, Tryd.ntmps24
    go_wp2_with fail
    refine (cmp_walk A0 c0 l0 A1 c1 l1 _ hr0 hr1 hn.1 hn.2).mono ?_
    rintro e w' ⟨rfl, hb'⟩
    go_wp2
    go_ret
    exact ⟨rfl, hb'⟩
  · rw [if_neg hn] at h; cases h

-- NOT PRINTED: function 26 (value_Sorted)

-- NOT PRINTED: function 28 (boscageref01_Sorted)

-- NOT PRINTED: function 50 (api_Row)

-- NOT PRINTED: function 29 (value_SameBag)

-- NOT PRINTED: function 30 (boscageref01_SameBag)

-- NOT PRINTED: function 8 (boscagelaw01_ValueSorts)

-- NOT PRINTED: function 9 (boscagelaw01_ValueBags)

/-! ### api_Value_52: function 52 -/
def api_Value_52.l0 : Nat → List (S27) → List (S27) → Int → Int → Option (Bool)
  | 0, _, _, _, _ => none
  | k + 1, x0, x1, x12, x13 => if x13 < x12 then (if 0 ≤ x13 then (if x13 < (x0.length : Int) then (if x13 < (x1.length : Int) then (if (!(((rd_T27 x0 x13).f0) == ((rd_T27 x1 x13).f0)) || (!(((rd_T27 x0 x13).f1) == ((rd_T27 x1 x13).f1)) || (!((((rd_T27 x0 x13).f2).toList) == (((rd_T27 x1 x13).f2).toList))))) = true then (some false) else (api_Value_52.l0 k x0 x1 x12 (wrap64 (x13 + 1)))) else (none)) else (none)) else (none)) else (some true)
def api_Value_52.f (k : Nat) (l0 : List (S27)) (l1 : List (S27)) : Option (Bool) := if (l0.length : Int) = (l1.length : Int) then (api_Value_52.l0 k l0 l1 (l0.length : Int) 0) else (some false)
theorem api_Value_52.mono_l : ∀ k, (∀ y0 y1 y2 y3, LeO (api_Value_52.l0 k y0 y1 y2 y3) (api_Value_52.l0 (k + 1) y0 y1 y2 y3))
  | 0 => fun _ _ _ _ r h => by simp [api_Value_52.l0] at h
  | k + 1 => by
    have ih0 := api_Value_52.mono_l k
    · intro y0 y1 y2 y3
      unfold api_Value_52.l0
      repeat' first
      | (with_reducible exact ih0 _ _ _ _)
      | (with_reducible exact LeO.refl _)
      | (with_reducible exact LeO.none _)
      | (with_reducible refine LeO.ite ?_ ?_)
      | (with_reducible refine LeO.bind ?_ (fun _ => ?_))
      | exact ih0 _ _ _ _
      | exact LeO.none _
      | refine LeO.ite ?_ ?_
      | refine LeO.bind ?_ (fun _ => ?_)
theorem api_Value_52.mono : ∀ a0 a1 k, LeO (api_Value_52.f k a0 a1) (api_Value_52.f (k + 1) a0 a1) := by
  intro a0 a1 k
  have ih0 := api_Value_52.mono_l k
  unfold api_Value_52.f
  repeat' first
      | (with_reducible exact ih0 _ _ _ _)
      | (with_reducible exact LeO.refl _)
      | (with_reducible exact LeO.none _)
      | (with_reducible refine LeO.ite ?_ ?_)
      | (with_reducible refine LeO.bind ?_ (fun _ => ?_))
      | exact ih0 _ _ _ _
      | exact LeO.none _
      | refine LeO.ite ?_ ?_
      | refine LeO.bind ?_ (fun _ => ?_)
set_option maxHeartbeats 8000000 in
set_option maxRecDepth 100000 in
theorem api_Value_52.calls (k : Nat) (A0 : Option Addr) (c0 : Nat) (l0 : List (S27)) (A1 : Option Addr) (c1 : Nat) (l1 : List (S27)) (r : Bool) (w : World) (hr0 : Kd.C k27 w A0 l0.length l0) (hc0 : l0.length ≤ c0) (hr1 : Kd.C k27 w A1 l1.length l1) (hc1 : l1.length ≤ c1) (h : api_Value_52.f k l0 l1 = some r) :
    Calls Tryd.prog 52 #[.slice A0 l0.length c0, .slice A1 l1.length c1] w fun e w' => e = .returned (.bool r) ∧ Drawn0 w w' := by
  have hu27 := Tryd.underlying27
  have HR0 := Aside0.mk hr0
  have HC0 := Aside0.mk hc0
  clear hr0 hc0
  have HR1 := Aside0.mk hr1
  have HC1 := Aside0.mk hc1
  clear hr1 hc1
  have H : (if (l0.length : Int) = (l1.length : Int) then (api_Value_52.l0 k l0 l1 (l0.length : Int) 0) else (some false)) = some r := h
  clear h
  by_cases c3 : (l0.length : Int) = (l1.length : Int)
  · rw [if_pos c3] at H
    have c3b0 : ((l0.length : Int) == (l1.length : Int)) = true := beq_iff_eq.mpr c3
    have c3b1 : ((l0.length : Int) != (l1.length : Int)) = false := bne_eq_false_iff_eq.mpr c3
    have c3b2 : (l0.length == l1.length) = true := by first | simpa using c3 | (simp at c3 ⊢; omega)
    clear c3
    have H' := Aside0.mk H
    clear H
    go_enter Tryd.func52, Tryd.ntmps52
    go_wp2
    repeat (go_quiet (fail); try go_wp2)
    go_loopg [13] k (fun kq v13 w' => ∃ (x13_1 : Int), v13 = .int .i64 x13_1 ∧ Aside0 (api_Value_52.l0 kq l0 l1 (l0.length : Int) x13_1 = some r) ∧ Aside0 (kq ≤ k) ∧ Drawn0 w w')
    case atStart => exact ⟨(0), (by first | rfl | (simp; done) | (simp [*]; done) | (simp; first | exact Go.Proofs.YtaneicpggglcbaaDoor.Pre.ne1 _ | exact Go.Proofs.YtaneicpggglcbaaDoor.Pre.ne2 _ | exact Go.Proofs.YtaneicpggglcbaaDoor.Pre.ne3 _ | exact Go.Proofs.YtaneicpggglcbaaDoor.Pre.ne4 _ | exact Go.Proofs.YtaneicpggglcbaaDoor.Pre.ne5 _ | exact Go.Proofs.YtaneicpggglcbaaDoor.Pre.ne6 _)), H', ⟨Nat.le_refl _⟩, by repeat (first | exact Drawn0.refl _ | apply Drawn0.step)⟩
    case round =>
      clear H'
      try clear c1
      try clear p2
      try clear c3
      try clear c3b0
      try clear c3b1
      try clear c3b2
      obtain ⟨x13_1, rfl, HA, HK1, ⟨m1, rfl⟩⟩ := hrel
      cases gk with
      | zero => exact absurd HA.out (by simp [api_Value_52.l0])
      | succ k1 =>
        have H := HA.out
        clear HA
        simp only [api_Value_52.l0] at H
        by_cases c4 : x13_1 < (l0.length : Int)
        · rw [if_pos c4] at H
          have c4b0 : decide (x13_1 < (l0.length : Int)) = true := decide_eq_true c4
          clear c4
          by_cases c5 : 0 ≤ x13_1
          · rw [if_pos c5] at H
            have c5b0 : decide (0 ≤ x13_1) = true := decide_eq_true c5
            clear c5
            by_cases c6 : x13_1 < (l0.length : Int)
            · rw [if_pos c6] at H
              have c6b0 : decide (x13_1 < (l0.length : Int)) = true := decide_eq_true c6
              clear c6
              by_cases c7 : x13_1 < (l1.length : Int)
              · rw [if_pos c7] at H
                have c7b0 : decide (x13_1 < (l1.length : Int)) = true := decide_eq_true c7
                clear c7
                by_cases c8 : (!(((rd_T27 l0 x13_1).f0) == ((rd_T27 l1 x13_1).f0)) || (!(((rd_T27 l0 x13_1).f1) == ((rd_T27 l1 x13_1).f1)) || (!((((rd_T27 l0 x13_1).f2).toList) == (((rd_T27 l1 x13_1).f2).toList))))) = true
                · rw [if_pos c8] at H
                  have c8b0 : (!(((rd_T27 l0 x13_1).f0) == ((rd_T27 l1 x13_1).f0)) || (!(((rd_T27 l0 x13_1).f1) == ((rd_T27 l1 x13_1).f1)) || (!((((rd_T27 l0 x13_1).f2).toList) == (((rd_T27 l1 x13_1).f2).toList))))) = true := c8
                  clear c8
                  obtain rfl := Option.some.inj H
                  have p216 : 0 ≤ (x13_1 : Int) := of_decide_eq_true (by first | (with_reducible assumption) | assumption)
                  have q216 : x13_1 < (l0.length : Int) := of_decide_eq_true (by first | (with_reducible assumption) | assumption)
                  obtain ⟨ad216, e216, hx216_0, hx216_1, hx216_2⟩ := at_T27 HR0.out x13_1 p216 q216
                  cases e216
                  replace p216 := eq_true p216
                  replace q216 := eq_true q216
                  have p217 : 0 ≤ (x13_1 : Int) := of_decide_eq_true (by first | (with_reducible assumption) | assumption)
                  have q217 : x13_1 < (l1.length : Int) := of_decide_eq_true (by first | (with_reducible assumption) | assumption)
                  obtain ⟨ad217, e217, hx217_0, hx217_1, hx217_2⟩ := at_T27 HR1.out x13_1 p217 q217
                  cases e217
                  replace p217 := eq_true p217
                  replace q217 := eq_true q217
                  go_wp2
                  repeat (go_quiet (fail); try go_wp2)
                  go_ret
                  exact ⟨by first | rfl | (simp; done) | (simp [*]; done), by repeat (first | exact Drawn0.refl _ | apply Drawn0.step)⟩
                · rw [if_neg c8] at H
                  have c8b0 : (!(((rd_T27 l0 x13_1).f0) == ((rd_T27 l1 x13_1).f0)) || (!(((rd_T27 l0 x13_1).f1) == ((rd_T27 l1 x13_1).f1)) || (!((((rd_T27 l0 x13_1).f2).toList) == (((rd_T27 l1 x13_1).f2).toList))))) = false := by simpa using c8
                  clear c8
                  have H' := Aside0.mk H
                  clear H
                  have p216 : 0 ≤ (x13_1 : Int) := of_decide_eq_true (by first | (with_reducible assumption) | assumption)
                  have q216 : x13_1 < (l0.length : Int) := of_decide_eq_true (by first | (with_reducible assumption) | assumption)
                  obtain ⟨ad216, e216, hx216_0, hx216_1, hx216_2⟩ := at_T27 HR0.out x13_1 p216 q216
                  cases e216
                  replace p216 := eq_true p216
                  replace q216 := eq_true q216
                  have p217 : 0 ≤ (x13_1 : Int) := of_decide_eq_true (by first | (with_reducible assumption) | assumption)
                  have q217 : x13_1 < (l1.length : Int) := of_decide_eq_true (by first | (with_reducible assumption) | assumption)
                  obtain ⟨ad217, e217, hx217_0, hx217_1, hx217_2⟩ := at_T27 HR1.out x13_1 p217 q217
                  cases e217
                  replace p217 := eq_true p217
                  replace q217 := eq_true q217
                  go_wp2
                  repeat (go_quiet (fail); try go_wp2)
                  go_roundg k1
                  case measure => have := HK1.out; omega
                  case rel => exact ⟨(wrap64 (x13_1 + 1)), (by first | rfl | (simp; done) | (simp [*]; done) | (simp; first | exact Go.Proofs.YtaneicpggglcbaaDoor.Pre.ne1 _ | exact Go.Proofs.YtaneicpggglcbaaDoor.Pre.ne2 _ | exact Go.Proofs.YtaneicpggglcbaaDoor.Pre.ne3 _ | exact Go.Proofs.YtaneicpggglcbaaDoor.Pre.ne4 _ | exact Go.Proofs.YtaneicpggglcbaaDoor.Pre.ne5 _ | exact Go.Proofs.YtaneicpggglcbaaDoor.Pre.ne6 _)), H', ⟨by have := HK1.out; omega⟩, by repeat (first | exact Drawn0.refl _ | apply Drawn0.step)⟩
              · rw [if_neg c7] at H
                exact absurd H (by simp)
            · rw [if_neg c6] at H
              exact absurd H (by simp)
          · rw [if_neg c5] at H
            exact absurd H (by simp)
        · rw [if_neg c4] at H
          have c4b0 : decide (x13_1 < (l0.length : Int)) = false := decide_eq_false c4
          clear c4
          obtain rfl := Option.some.inj H
          go_wp2
          repeat (go_quiet (fail); try go_wp2)
          go_ret
          exact ⟨by first | rfl | (simp; done) | (simp [*]; done), by repeat (first | exact Drawn0.refl _ | apply Drawn0.step)⟩
  · rw [if_neg c3] at H
    have c3b0 : ((l0.length : Int) == (l1.length : Int)) = false := beq_eq_false_iff_ne.mpr c3
    have c3b1 : ((l0.length : Int) != (l1.length : Int)) = true := bne_iff_ne.mpr c3
    have c3b2 : (l0.length == l1.length) = false := by first | simpa using c3 | (simp at c3 ⊢; omega)
    obtain rfl := Option.some.inj H
    go_enter Tryd.func52, Tryd.ntmps52
    go_wp2
    repeat (go_quiet (fail); try go_wp2)
    go_ret
    exact ⟨by first | rfl | (simp; done) | (simp [*]; done), by repeat (first | exact Drawn0.refl _ | apply Drawn0.step)⟩

-- NOT PRINTED: function 51 (value_SameBag_1)

end Go.Proofs.YtaneicpggglcbaaDoor.QVT
