-- printed by our own turn of the print (wip/pr)
import Derived.Test.YtffaibjiiiochaaDoorQTBx0
import Derived.Test.YtffaibjiiiochaaDoorQTBx1
import Derived.Test.YtffaibjiiiochaaDoorQTBx2
namespace Go.Proofs.YtffaibjiiiochaaDoor.QTB
open Go.RowKit Go.Proofs.YtffaibjiiiochaaDoorW.PrintWords Go.Proofs.YtffaibjiiiochaaDoorW.PrintLast Go.Proofs.YtffaibjiiiochaaDoorW.PrintMore
attribute [local go_sem] max2_int min2_int max_two min_two max_three min_three max_four min_four   -- for this text's walks alone
set_option linter.unusedVariables false
set_option linter.unusedSimpArgs false

attribute [local go_sem high] eqA30
/-! ### boscagelaw06_TokenBlanks: function 6 -/
mutual
def boscagelaw06_TokenBlanks.j0 : Nat → Bool → ByteArray → List (S30) → List (S30) → Bool → Option (Bool)
  | 0, _, _, _, _, _ => none
  | k + 1, x5, x6, x7, x10, x61 => if x61 = true then (some false) else (boscagelaw06_TokenBlanks.l0 k x5 x6 x7 x10 (x7.length : Int) 0)
def boscagelaw06_TokenBlanks.l0 : Nat → Bool → ByteArray → List (S30) → List (S30) → Int → Int → Option (Bool)
  | 0, _, _, _, _, _, _ => none
  | k + 1, x5, x6, x7, x10, x63, x64 => if x64 < x63 then (if 0 ≤ x64 then (if x64 < (x7.length : Int) then (if x64 < (x10.length : Int) then (if (!(((rd_T30 x7 x64).f0) == ((rd_T30 x10 x64).f0)) || (!((((rd_T30 x7 x64).f1).toList) == (((rd_T30 x10 x64).f1).toList)) || (!(((rd_T30 x7 x64).f2) == ((rd_T30 x10 x64).f2)) || (!((wrap64 (((rd_T30 x7 x64).f3) + (x6.size : Int))) == ((rd_T30 x10 x64).f3)))))) = true then (some false) else (boscagelaw06_TokenBlanks.l0 k x5 x6 x7 x10 x63 (wrap64 (x64 + 1)))) else (none)) else (none)) else (none)) else (some x5)
end
def boscagelaw06_TokenBlanks.f (k : Nat) (a0 : ByteArray) (a1 : Int) : Option (Bool) := (boscagelaw06_live.f k).bind fun t155 => ((utf8_RuneLen.f (Int.tmod (wrap64 ((Int.tmod a1 4) + 4)) 4)).bind fun t156 => (if (a0.size : Int) > 4000 then (some t155) else ((token_Cut.f a0).bind fun bt157 => (if t156.size + a0.size ≤ 9223372036854775807 then ((token_Cut.f (t156 ++ a0)).bind fun bt162 => (if bt157.2.2 = bt162.2.2 then (if (bt157.1.length : Int) = (bt162.1.length : Int) then (if bt157.2.2 = 0 then (boscagelaw06_TokenBlanks.j0 k t155 t156 bt157.1 bt162.1 false) else (boscagelaw06_TokenBlanks.j0 k t155 t156 bt157.1 bt162.1 (bt162.2.1 != (wrap64 (bt157.2.1 + (t156.size : Int)))))) else (boscagelaw06_TokenBlanks.j0 k t155 t156 bt157.1 bt162.1 true)) else (boscagelaw06_TokenBlanks.j0 k t155 t156 bt157.1 bt162.1 true))) else (none)))))
theorem boscagelaw06_TokenBlanks.mono_l : ∀ k, (∀ y0 y1 y2 y3 y4, LeO (boscagelaw06_TokenBlanks.j0 k y0 y1 y2 y3 y4) (boscagelaw06_TokenBlanks.j0 (k + 1) y0 y1 y2 y3 y4)) ∧ (∀ y0 y1 y2 y3 y4 y5, LeO (boscagelaw06_TokenBlanks.l0 k y0 y1 y2 y3 y4 y5) (boscagelaw06_TokenBlanks.l0 (k + 1) y0 y1 y2 y3 y4 y5))
  | 0 => ⟨fun _ _ _ _ _ r h => by simp [boscagelaw06_TokenBlanks.j0] at h, fun _ _ _ _ _ _ r h => by simp [boscagelaw06_TokenBlanks.l0] at h⟩
  | k + 1 => by
    obtain ⟨ih0, ih1⟩ := boscagelaw06_TokenBlanks.mono_l k
    refine ⟨?_, ?_⟩
    · intro y0 y1 y2 y3 y4
      unfold boscagelaw06_TokenBlanks.j0
      repeat' first
      | (with_reducible exact ih0 _ _ _ _ _)
      | (with_reducible exact ih1 _ _ _ _ _ _)
      | (with_reducible exact boscagelaw06_live.mono _)
      | (with_reducible exact LeO.refl _)
      | (with_reducible exact LeO.none _)
      | (with_reducible refine LeO.ite ?_ ?_)
      | (with_reducible refine LeO.bind ?_ (fun _ => ?_))
      | exact ih0 _ _ _ _ _
      | exact ih1 _ _ _ _ _ _
      | exact boscagelaw06_live.mono _
      | exact LeO.none _
      | refine LeO.ite ?_ ?_
      | refine LeO.bind ?_ (fun _ => ?_)
    · intro y0 y1 y2 y3 y4 y5
      unfold boscagelaw06_TokenBlanks.l0
      repeat' first
      | (with_reducible exact ih0 _ _ _ _ _)
      | (with_reducible exact ih1 _ _ _ _ _ _)
      | (with_reducible exact boscagelaw06_live.mono _)
      | (with_reducible exact LeO.refl _)
      | (with_reducible exact LeO.none _)
      | (with_reducible refine LeO.ite ?_ ?_)
      | (with_reducible refine LeO.bind ?_ (fun _ => ?_))
      | exact ih0 _ _ _ _ _
      | exact ih1 _ _ _ _ _ _
      | exact boscagelaw06_live.mono _
      | exact LeO.none _
      | refine LeO.ite ?_ ?_
      | refine LeO.bind ?_ (fun _ => ?_)
theorem boscagelaw06_TokenBlanks.mono : ∀ a0 a1 k, LeO (boscagelaw06_TokenBlanks.f k a0 a1) (boscagelaw06_TokenBlanks.f (k + 1) a0 a1) := by
  intro a0 a1 k
  obtain ⟨ih0, ih1⟩ := boscagelaw06_TokenBlanks.mono_l k
  unfold boscagelaw06_TokenBlanks.f
  repeat' first
      | (with_reducible exact ih0 _ _ _ _ _)
      | (with_reducible exact ih1 _ _ _ _ _ _)
      | (with_reducible exact boscagelaw06_live.mono _)
      | (with_reducible exact LeO.refl _)
      | (with_reducible exact LeO.none _)
      | (with_reducible refine LeO.ite ?_ ?_)
      | (with_reducible refine LeO.bind ?_ (fun _ => ?_))
      | exact ih0 _ _ _ _ _
      | exact ih1 _ _ _ _ _ _
      | exact boscagelaw06_live.mono _
      | exact LeO.none _
      | refine LeO.ite ?_ ?_
      | refine LeO.bind ?_ (fun _ => ?_)
set_option maxHeartbeats 8000000 in
set_option maxRecDepth 100000 in
theorem boscagelaw06_TokenBlanks.calls (k : Nat) (a0 : ByteArray) (a1 : Int) (r : Bool) (w : World) (h : boscagelaw06_TokenBlanks.f k a0 a1 = some r) (hrt : r = true) (hok : Ct.OkW w := by first | assumption | exact Ct.OkW.below hok (by repeat (first | (with_reducible first | exact HB.out | apply below_alloc | apply pw_below_drewN | apply below_drew1) | exact HB.out | refine below_set ?_ (Aside0.out (by assumption))))) :
    Calls Tryd.prog 6 #[.string a0, .int .i64 a1] w fun e w' => e = .returned (.bool r) ∧ Below w.heap.size w w' := by
  have hu30 := Tryd.underlying30
  have HB := Aside0.mk (Below.refl w.heap.size w)
  have HRT := Aside0.mk hrt
  clear hrt
  have H : ((boscagelaw06_live.f k).bind fun t155 => ((utf8_RuneLen.f (Int.tmod (wrap64 ((Int.tmod a1 4) + 4)) 4)).bind fun t156 => (if (a0.size : Int) > 4000 then (some t155) else ((token_Cut.f a0).bind fun bt157 => (if t156.size + a0.size ≤ 9223372036854775807 then ((token_Cut.f (t156 ++ a0)).bind fun bt162 => (if bt157.2.2 = bt162.2.2 then (if (bt157.1.length : Int) = (bt162.1.length : Int) then (if bt157.2.2 = 0 then (boscagelaw06_TokenBlanks.j0 k t155 t156 bt157.1 bt162.1 false) else (boscagelaw06_TokenBlanks.j0 k t155 t156 bt157.1 bt162.1 (bt162.2.1 != (wrap64 (bt157.2.1 + (t156.size : Int)))))) else (boscagelaw06_TokenBlanks.j0 k t155 t156 bt157.1 bt162.1 true)) else (boscagelaw06_TokenBlanks.j0 k t155 t156 bt157.1 bt162.1 true))) else (none)))))) = some r := h
  clear h
  replace H := Option.bind_eq_some_iff.mp H
  obtain ⟨t155, A30, H⟩ := H
  replace H : ((utf8_RuneLen.f (Int.tmod (wrap64 ((Int.tmod a1 4) + 4)) 4)).bind fun t156 => (if (a0.size : Int) > 4000 then (some t155) else ((token_Cut.f a0).bind fun bt157 => (if t156.size + a0.size ≤ 9223372036854775807 then ((token_Cut.f (t156 ++ a0)).bind fun bt162 => (if bt157.2.2 = bt162.2.2 then (if (bt157.1.length : Int) = (bt162.1.length : Int) then (if bt157.2.2 = 0 then (boscagelaw06_TokenBlanks.j0 k t155 t156 bt157.1 bt162.1 false) else (boscagelaw06_TokenBlanks.j0 k t155 t156 bt157.1 bt162.1 (bt162.2.1 != (wrap64 (bt157.2.1 + (t156.size : Int)))))) else (boscagelaw06_TokenBlanks.j0 k t155 t156 bt157.1 bt162.1 true)) else (boscagelaw06_TokenBlanks.j0 k t155 t156 bt157.1 bt162.1 true))) else (none))))) = some r := H
  have A3 := Aside0.mk A30
  clear A30
  replace H := Option.bind_eq_some_iff.mp H
  obtain ⟨t156, A40, H⟩ := H
  replace H : (if (a0.size : Int) > 4000 then (some t155) else ((token_Cut.f a0).bind fun bt157 => (if t156.size + a0.size ≤ 9223372036854775807 then ((token_Cut.f (t156 ++ a0)).bind fun bt162 => (if bt157.2.2 = bt162.2.2 then (if (bt157.1.length : Int) = (bt162.1.length : Int) then (if bt157.2.2 = 0 then (boscagelaw06_TokenBlanks.j0 k t155 t156 bt157.1 bt162.1 false) else (boscagelaw06_TokenBlanks.j0 k t155 t156 bt157.1 bt162.1 (bt162.2.1 != (wrap64 (bt157.2.1 + (t156.size : Int)))))) else (boscagelaw06_TokenBlanks.j0 k t155 t156 bt157.1 bt162.1 true)) else (boscagelaw06_TokenBlanks.j0 k t155 t156 bt157.1 bt162.1 true))) else (none)))) = some r := H
  have A4 := Aside0.mk A40
  clear A40
  have xi0 : ∀ w : World, (Instr.index 32 (.agg #[.string ⟨#[32]⟩, .string ⟨#[10, 9, 13]⟩, .string ⟨#[45, 45, 32, 39, 32, 120, 10]⟩, .string ⟨#[45, 45, 10, 45, 45, 10]⟩]) (.int .i64 0)).run Tryd.prog w = .ok (.string ⟨#[32]⟩) w := fun _ => by kernel_rfl
  have xi1 : ∀ w : World, (Instr.index 32 (.agg #[.string ⟨#[32]⟩, .string ⟨#[10, 9, 13]⟩, .string ⟨#[45, 45, 32, 39, 32, 120, 10]⟩, .string ⟨#[45, 45, 10, 45, 45, 10]⟩]) (.int .i64 1)).run Tryd.prog w = .ok (.string ⟨#[10, 9, 13]⟩) w := fun _ => by kernel_rfl
  have xi2 : ∀ w : World, (Instr.index 32 (.agg #[.string ⟨#[32]⟩, .string ⟨#[10, 9, 13]⟩, .string ⟨#[45, 45, 32, 39, 32, 120, 10]⟩, .string ⟨#[45, 45, 10, 45, 45, 10]⟩]) (.int .i64 2)).run Tryd.prog w = .ok (.string ⟨#[45, 45, 32, 39, 32, 120, 10]⟩) w := fun _ => by kernel_rfl
  have xi3 : ∀ w : World, (Instr.index 32 (.agg #[.string ⟨#[32]⟩, .string ⟨#[10, 9, 13]⟩, .string ⟨#[45, 45, 32, 39, 32, 120, 10]⟩, .string ⟨#[45, 45, 10, 45, 45, 10]⟩]) (.int .i64 3)).run Tryd.prog w = .ok (.string ⟨#[45, 45, 10, 45, 45, 10]⟩) w := fun _ => by kernel_rfl
  have xi : ∀ w : World, (Instr.index 32 (.agg #[.string ⟨#[32]⟩, .string ⟨#[10, 9, 13]⟩, .string ⟨#[45, 45, 32, 39, 32, 120, 10]⟩, .string ⟨#[45, 45, 10, 45, 45, 10]⟩]) (.int .i64 (Int.tmod (wrap64 ((Int.tmod a1 4) + 4)) 4))).run Tryd.prog w = .ok (.string t156) w := by
    intro w
    have hA := A4.out
    generalize (Int.tmod (wrap64 ((Int.tmod a1 4) + 4)) 4) = j at hA ⊢
    unfold utf8_RuneLen.f at hA
    split at hA
    · rename_i hj
      injection hA with hA
      have hj4 : j = 0 ∨ j = 1 ∨ j = 2 ∨ j = 3 := by omega
      subst hA
      rcases hj4 with rfl | rfl | rfl | rfl
      · exact xi0 w
      · exact xi1 w
      · exact xi2 w
      · exact xi3 w
    · cases hA
  clear xi0 xi1 xi2 xi3
  by_cases c5 : (a0.size : Int) > 4000
  · rw [if_pos c5] at H
    have c5b0 : decide (4000 < (a0.size : Int)) = true := decide_eq_true c5
    have c5b1 : decide (4000 < a0.size) = true := decide_eq_true (by omega)
    clear c5
    obtain rfl := Option.some.inj H
    go_enter Tryd.func6, Tryd.ntmps6
    go_wp2_with (first | (go_at_call 9; (with_reducible refine (boscagelaw06_live.calls k  t155 _ A3.out).mono ?_); rintro e w6 ⟨rfl, hb⟩; have n0_ := Aside0.mk (below_step (by repeat (first | (with_reducible first | exact HB.out | apply below_alloc | apply pw_below_drewN | apply below_drew1) | exact HB.out)) hb); clear HB; have HB := n0_; clear n0_; (try clear hb); (try clear hb2); (try clear hk); (try clear hi)) | (go_at_call 62; (with_reducible refine (utf8_RuneLen.calls (Int.tmod (wrap64 ((Int.tmod a1 4) + 4)) 4) t156 _ A4.out).mono ?_); rintro e w' ⟨rfl, ⟨nd, rfl⟩⟩; (try first | exact ⟨rfl, _, World.drewN_drewN _ _ _⟩ | exact ⟨rfl, _, Eq.trans (World.drewN_drewN _ _ _) (congrArg (World.drewN _) (Nat.add_assoc _ _ _))⟩)))
    repeat (go_quiet (first | (go_at_call 9; (with_reducible refine (boscagelaw06_live.calls k  t155 _ A3.out).mono ?_); rintro e w6 ⟨rfl, hb⟩; have n0_ := Aside0.mk (below_step (by repeat (first | (with_reducible first | exact HB.out | apply below_alloc | apply pw_below_drewN | apply below_drew1) | exact HB.out)) hb); clear HB; have HB := n0_; clear n0_; (try clear hb); (try clear hb2); (try clear hk); (try clear hi)) | (go_at_call 62; (with_reducible refine (utf8_RuneLen.calls (Int.tmod (wrap64 ((Int.tmod a1 4) + 4)) 4) t156 _ A4.out).mono ?_); rintro e w' ⟨rfl, ⟨nd, rfl⟩⟩; (try first | exact ⟨rfl, _, World.drewN_drewN _ _ _⟩ | exact ⟨rfl, _, Eq.trans (World.drewN_drewN _ _ _) (congrArg (World.drewN _) (Nat.add_assoc _ _ _))⟩))); try go_wp2_with (first | (go_at_call 9; (with_reducible refine (boscagelaw06_live.calls k  t155 _ A3.out).mono ?_); rintro e w6 ⟨rfl, hb⟩; have n0_ := Aside0.mk (below_step (by repeat (first | (with_reducible first | exact HB.out | apply below_alloc | apply pw_below_drewN | apply below_drew1) | exact HB.out)) hb); clear HB; have HB := n0_; clear n0_; (try clear hb); (try clear hb2); (try clear hk); (try clear hi)) | (go_at_call 62; (with_reducible refine (utf8_RuneLen.calls (Int.tmod (wrap64 ((Int.tmod a1 4) + 4)) 4) t156 _ A4.out).mono ?_); rintro e w' ⟨rfl, ⟨nd, rfl⟩⟩; (try first | exact ⟨rfl, _, World.drewN_drewN _ _ _⟩ | exact ⟨rfl, _, Eq.trans (World.drewN_drewN _ _ _) (congrArg (World.drewN _) (Nat.add_assoc _ _ _))⟩))))
    go_ret
    exact ⟨by first | rfl | (simp [errW_none, errW_some] <;> rfl) | (simp [*, errW_none, errW_some] <;> rfl), by repeat (first | (with_reducible first | exact HB.out | apply below_alloc | apply pw_below_drewN | apply below_drew1) | exact HB.out)⟩
  · rw [if_neg c5] at H
    have c5b0 : decide (4000 < (a0.size : Int)) = false := decide_eq_false c5
    have c5b1 : decide (4000 < a0.size) = false := decide_eq_false (by omega)
    clear c5
    replace H := Option.bind_eq_some_iff.mp H
    obtain ⟨⟨t157, t158, t159⟩, A70, H⟩ := H
    replace H : (if t156.size + a0.size ≤ 9223372036854775807 then ((token_Cut.f (t156 ++ a0)).bind fun bt162 => (if t159 = bt162.2.2 then (if (t157.length : Int) = (bt162.1.length : Int) then (if t159 = 0 then (boscagelaw06_TokenBlanks.j0 k t155 t156 t157 bt162.1 false) else (boscagelaw06_TokenBlanks.j0 k t155 t156 t157 bt162.1 (bt162.2.1 != (wrap64 (t158 + (t156.size : Int)))))) else (boscagelaw06_TokenBlanks.j0 k t155 t156 t157 bt162.1 true)) else (boscagelaw06_TokenBlanks.j0 k t155 t156 t157 bt162.1 true))) else (none)) = some r := H
    have A7 := Aside0.mk A70
    clear A70
    by_cases c8 : t156.size + a0.size ≤ 9223372036854775807
    · rw [if_pos c8] at H
      have c8b0 := eq_true c8
      have c8b1 : decide (t156.size + a0.size ≤ 9223372036854775807) = true := decide_eq_true c8
      try have c8b2 : (9223372036854775807 < t156.size + a0.size) = False := eq_false (Nat.not_lt.2 c8)
      replace H := Option.bind_eq_some_iff.mp H
      obtain ⟨⟨t162, t163, t164⟩, A90, H⟩ := H
      replace H : (if t159 = t164 then (if (t157.length : Int) = (t162.length : Int) then (if t159 = 0 then (boscagelaw06_TokenBlanks.j0 k t155 t156 t157 t162 false) else (boscagelaw06_TokenBlanks.j0 k t155 t156 t157 t162 (t163 != (wrap64 (t158 + (t156.size : Int)))))) else (boscagelaw06_TokenBlanks.j0 k t155 t156 t157 t162 true)) else (boscagelaw06_TokenBlanks.j0 k t155 t156 t157 t162 true)) = some r := H
      have A9 := Aside0.mk A90
      clear A90
      have HC10 := Aside0.mk H
      clear H
      go_enter Tryd.func6, Tryd.ntmps6
      go_upto_region 7 with (first | (go_at_call 9; (with_reducible refine (boscagelaw06_live.calls k  t155 _ A3.out).mono ?_); rintro e w11 ⟨rfl, hb⟩; have n0_ := Aside0.mk (below_step (by repeat (first | (with_reducible first | exact HB.out | apply below_alloc | apply pw_below_drewN | apply below_drew1) | exact HB.out)) hb); clear HB; have HB := n0_; clear n0_; (try clear hb); (try clear hb2); (try clear hk); (try clear hi)) | (go_at_call 62; (with_reducible refine (utf8_RuneLen.calls (Int.tmod (wrap64 ((Int.tmod a1 4) + 4)) 4) t156 _ A4.out).mono ?_); rintro e w' ⟨rfl, ⟨nd, rfl⟩⟩; (try first | exact ⟨rfl, _, World.drewN_drewN _ _ _⟩ | exact ⟨rfl, _, Eq.trans (World.drewN_drewN _ _ _) (congrArg (World.drewN _) (Nat.add_assoc _ _ _))⟩)) | (go_at_call 10; (with_reducible refine (token_Cut.calls a0 t157 t158 t159 _ A7.out).mono ?_); rintro e w12 ⟨v160, rfl, ho0, hb⟩; have n0_ := Aside0.mk (Kd.R_lower ho0 (below_size (by repeat (first | (with_reducible first | exact HB.out | apply below_alloc | apply pw_below_drewN | apply below_drew1) | exact HB.out)))); have n1_ := Aside0.mk (below_step (by repeat (first | (with_reducible first | exact HB.out | apply below_alloc | apply pw_below_drewN | apply below_drew1) | exact HB.out)) hb); clear HB; have HO161 := n0_; have HB := n1_; clear n0_ n1_; (try clear hb); (try clear hb2); (try clear hk); (try clear hi); (try clear ho0)) | (go_at_call 10; (with_reducible refine (token_Cut.calls (t156 ++ a0) t162 t163 t164 _ A9.out).mono ?_); rintro e w13 ⟨v165, rfl, ho0, hb⟩; have n0_ := Aside0.mk (Kd.R_elder' (by (with_reducible repeat (first | apply Kd.R_alloc | apply Kd.R_drewN | apply Kd.R_drew)); exact HO161.out) (Kd.R_base ho0) hb); have n1_ := Aside0.mk (Kd.R_lower (Kd.R_new' ho0 (Kd.R_lt (by (with_reducible repeat (first | apply Kd.R_alloc | apply Kd.R_drewN | apply Kd.R_drew)); exact HO161.out))) (below_size (by repeat (first | (with_reducible first | exact HB.out | apply below_alloc | apply pw_below_drewN | apply below_drew1) | exact HB.out)))); have n2_ := Aside0.mk (below_step (by repeat (first | (with_reducible first | exact HB.out | apply below_alloc | apply pw_below_drewN | apply below_drew1) | exact HB.out)) hb); clear HO161; clear HB; have HO161 := n0_; have HO166 := n1_; have HB := n2_; clear n0_ n1_ n2_; (try clear hb); (try clear hb2); (try clear hk); (try clear hi); (try clear ho0)))
      repeat (go_quiet (first | (go_at_call 9; (with_reducible refine (boscagelaw06_live.calls k  t155 _ A3.out).mono ?_); rintro e w11 ⟨rfl, hb⟩; have n0_ := Aside0.mk (below_step (by repeat (first | (with_reducible first | exact HB.out | apply below_alloc | apply pw_below_drewN | apply below_drew1) | exact HB.out)) hb); clear HB; have HB := n0_; clear n0_; (try clear hb); (try clear hb2); (try clear hk); (try clear hi)) | (go_at_call 62; (with_reducible refine (utf8_RuneLen.calls (Int.tmod (wrap64 ((Int.tmod a1 4) + 4)) 4) t156 _ A4.out).mono ?_); rintro e w' ⟨rfl, ⟨nd, rfl⟩⟩; (try first | exact ⟨rfl, _, World.drewN_drewN _ _ _⟩ | exact ⟨rfl, _, Eq.trans (World.drewN_drewN _ _ _) (congrArg (World.drewN _) (Nat.add_assoc _ _ _))⟩)) | (go_at_call 10; (with_reducible refine (token_Cut.calls a0 t157 t158 t159 _ A7.out).mono ?_); rintro e w12 ⟨v160, rfl, ho0, hb⟩; have n0_ := Aside0.mk (Kd.R_lower ho0 (below_size (by repeat (first | (with_reducible first | exact HB.out | apply below_alloc | apply pw_below_drewN | apply below_drew1) | exact HB.out)))); have n1_ := Aside0.mk (below_step (by repeat (first | (with_reducible first | exact HB.out | apply below_alloc | apply pw_below_drewN | apply below_drew1) | exact HB.out)) hb); clear HB; have HO161 := n0_; have HB := n1_; clear n0_ n1_; (try clear hb); (try clear hb2); (try clear hk); (try clear hi); (try clear ho0)) | (go_at_call 10; (with_reducible refine (token_Cut.calls (t156 ++ a0) t162 t163 t164 _ A9.out).mono ?_); rintro e w13 ⟨v165, rfl, ho0, hb⟩; have n0_ := Aside0.mk (Kd.R_elder' (by (with_reducible repeat (first | apply Kd.R_alloc | apply Kd.R_drewN | apply Kd.R_drew)); exact HO161.out) (Kd.R_base ho0) hb); have n1_ := Aside0.mk (Kd.R_lower (Kd.R_new' ho0 (Kd.R_lt (by (with_reducible repeat (first | apply Kd.R_alloc | apply Kd.R_drewN | apply Kd.R_drew)); exact HO161.out))) (below_size (by repeat (first | (with_reducible first | exact HB.out | apply below_alloc | apply pw_below_drewN | apply below_drew1) | exact HB.out)))); have n2_ := Aside0.mk (below_step (by repeat (first | (with_reducible first | exact HB.out | apply below_alloc | apply pw_below_drewN | apply below_drew1) | exact HB.out)) hb); clear HO161; clear HB; have HO161 := n0_; have HO166 := n1_; have HB := n2_; clear n0_ n1_ n2_; (try clear hb); (try clear hb2); (try clear hk); (try clear hi); (try clear ho0))); go_upto_region 7 with (first | (go_at_call 9; (with_reducible refine (boscagelaw06_live.calls k  t155 _ A3.out).mono ?_); rintro e w11 ⟨rfl, hb⟩; have n0_ := Aside0.mk (below_step (by repeat (first | (with_reducible first | exact HB.out | apply below_alloc | apply pw_below_drewN | apply below_drew1) | exact HB.out)) hb); clear HB; have HB := n0_; clear n0_; (try clear hb); (try clear hb2); (try clear hk); (try clear hi)) | (go_at_call 62; (with_reducible refine (utf8_RuneLen.calls (Int.tmod (wrap64 ((Int.tmod a1 4) + 4)) 4) t156 _ A4.out).mono ?_); rintro e w' ⟨rfl, ⟨nd, rfl⟩⟩; (try first | exact ⟨rfl, _, World.drewN_drewN _ _ _⟩ | exact ⟨rfl, _, Eq.trans (World.drewN_drewN _ _ _) (congrArg (World.drewN _) (Nat.add_assoc _ _ _))⟩)) | (go_at_call 10; (with_reducible refine (token_Cut.calls a0 t157 t158 t159 _ A7.out).mono ?_); rintro e w12 ⟨v160, rfl, ho0, hb⟩; have n0_ := Aside0.mk (Kd.R_lower ho0 (below_size (by repeat (first | (with_reducible first | exact HB.out | apply below_alloc | apply pw_below_drewN | apply below_drew1) | exact HB.out)))); have n1_ := Aside0.mk (below_step (by repeat (first | (with_reducible first | exact HB.out | apply below_alloc | apply pw_below_drewN | apply below_drew1) | exact HB.out)) hb); clear HB; have HO161 := n0_; have HB := n1_; clear n0_ n1_; (try clear hb); (try clear hb2); (try clear hk); (try clear hi); (try clear ho0)) | (go_at_call 10; (with_reducible refine (token_Cut.calls (t156 ++ a0) t162 t163 t164 _ A9.out).mono ?_); rintro e w13 ⟨v165, rfl, ho0, hb⟩; have n0_ := Aside0.mk (Kd.R_elder' (by (with_reducible repeat (first | apply Kd.R_alloc | apply Kd.R_drewN | apply Kd.R_drew)); exact HO161.out) (Kd.R_base ho0) hb); have n1_ := Aside0.mk (Kd.R_lower (Kd.R_new' ho0 (Kd.R_lt (by (with_reducible repeat (first | apply Kd.R_alloc | apply Kd.R_drewN | apply Kd.R_drew)); exact HO161.out))) (below_size (by repeat (first | (with_reducible first | exact HB.out | apply below_alloc | apply pw_below_drewN | apply below_drew1) | exact HB.out)))); have n2_ := Aside0.mk (below_step (by repeat (first | (with_reducible first | exact HB.out | apply below_alloc | apply pw_below_drewN | apply below_drew1) | exact HB.out)) hb); clear HO161; clear HB; have HO161 := n0_; have HO166 := n1_; have HB := n2_; clear n0_ n1_ n2_; (try clear hb); (try clear hb2); (try clear hk); (try clear hi); (try clear ho0))))
      (try simp only [Act.put, List.setIfInBounds_toArray, List.set_cons_zero, List.set_cons_succ])
      go_cut [61] (fun v61 wc => ∃ (kq : Nat) (x61_9 : Bool), v61 = .bool x61_9 ∧ Aside0 (boscagelaw06_TokenBlanks.j0 kq t155 t156 t157 t162 x61_9 = some r) ∧ Aside0 (kq ≤ k) ∧ Aside0 (Kd.R k30 30 wc w.heap.size (fun k_ => some k_ ≠ (v165 : Value).ownBlock) v160 t157) ∧ Aside0 (Kd.R k30 30 wc w.heap.size (fun k_ => some k_ ≠ (v160 : Value).ownBlock) v165 t162) ∧ Aside0 (Below w.heap.size w wc))
      case first =>
        have H := HC10.out
        clear HC10
        by_cases c14 : t159 = t164
        · rw [if_pos c14] at H
          have c14b0 : (t159 == t164) = true := beq_iff_eq.mpr c14
          have c14b1 : (t159 != t164) = false := bne_eq_false_iff_eq.mpr c14
          clear c14
          (first | rw [c14b0] | (simp only [i64_w, i32_w]; rw [c14b0]) | skip)
          by_cases c15 : (t157.length : Int) = (t162.length : Int)
          · rw [if_pos c15] at H
            have c15b0 : ((t157.length : Int) == (t162.length : Int)) = true := beq_iff_eq.mpr c15
            have c15b1 : ((t157.length : Int) != (t162.length : Int)) = false := bne_eq_false_iff_eq.mpr c15
            have c15b2 : (t157.length == t162.length) = true := by first | simpa using c15 | (simp at c15 ⊢; omega)
            clear c15
            by_cases c16 : t159 = 0
            · rw [if_pos c16] at H
              have c16b0 : (t159 == 0) = true := beq_iff_eq.mpr c16
              have c16b1 : (t159 != 0) = false := bne_eq_false_iff_eq.mpr c16
              clear c16
              have H' := Aside0.mk H
              clear H
              obtain ⟨Ao17, co17, eo17⟩ := Kd.R_slice HO161.out
              subst eo17
              obtain ⟨Ao18, co18, eo18⟩ := Kd.R_slice HO166.out
              subst eo18
              go_wp2
              repeat (go_quiet (fail); try go_wp2)
              go_meet
              case rel => exact ⟨_, (false), (by first | rfl | (simp; done) | (simp [*]; done) | (simp; first | exact Go.Proofs.YtffaibjiiiochaaDoor.Pre.ne1 _ | exact Go.Proofs.YtffaibjiiiochaaDoor.Pre.ne2 _ | exact Go.Proofs.YtffaibjiiiochaaDoor.Pre.ne3 _ | exact Go.Proofs.YtffaibjiiiochaaDoor.Pre.ne4 _ | exact Go.Proofs.YtffaibjiiiochaaDoor.Pre.ne5 _ | exact Go.Proofs.YtffaibjiiiochaaDoor.Pre.ne6 _)), H', ⟨by first | omega | exact Nat.le_refl _⟩, ⟨by (with_reducible repeat (first | apply Kd.R_alloc | apply Kd.R_drewN | apply Kd.R_drew)); exact Kd.R_mono HO161.out (fun _ hk => hk.2)⟩, ⟨by (with_reducible repeat (first | apply Kd.R_alloc | apply Kd.R_drewN | apply Kd.R_drew)); exact Kd.R_mono HO166.out (fun _ hk => hk.2)⟩, ⟨by repeat (first | (with_reducible first | exact HB.out | apply below_alloc | apply pw_below_drewN | apply below_drew1) | exact HB.out)⟩⟩
            · rw [if_neg c16] at H
              have c16b0 : (t159 == 0) = false := beq_eq_false_iff_ne.mpr c16
              have c16b1 : (t159 != 0) = true := bne_iff_ne.mpr c16
              have H' := Aside0.mk H
              clear H
              obtain ⟨Ao19, co19, eo19⟩ := Kd.R_slice HO161.out
              subst eo19
              obtain ⟨Ao20, co20, eo20⟩ := Kd.R_slice HO166.out
              subst eo20
              go_wp2
              repeat (go_quiet (fail); try go_wp2)
              go_meet
              case rel => exact ⟨_, ((t163 != (wrap64 (t158 + (t156.size : Int))))), (by first | rfl | (simp; done) | (simp [*]; done) | (simp; first | exact Go.Proofs.YtffaibjiiiochaaDoor.Pre.ne1 _ | exact Go.Proofs.YtffaibjiiiochaaDoor.Pre.ne2 _ | exact Go.Proofs.YtffaibjiiiochaaDoor.Pre.ne3 _ | exact Go.Proofs.YtffaibjiiiochaaDoor.Pre.ne4 _ | exact Go.Proofs.YtffaibjiiiochaaDoor.Pre.ne5 _ | exact Go.Proofs.YtffaibjiiiochaaDoor.Pre.ne6 _)), H', ⟨by first | omega | exact Nat.le_refl _⟩, ⟨by (with_reducible repeat (first | apply Kd.R_alloc | apply Kd.R_drewN | apply Kd.R_drew)); exact Kd.R_mono HO161.out (fun _ hk => hk.2)⟩, ⟨by (with_reducible repeat (first | apply Kd.R_alloc | apply Kd.R_drewN | apply Kd.R_drew)); exact Kd.R_mono HO166.out (fun _ hk => hk.2)⟩, ⟨by repeat (first | (with_reducible first | exact HB.out | apply below_alloc | apply pw_below_drewN | apply below_drew1) | exact HB.out)⟩⟩
          · rw [if_neg c15] at H
            have c15b0 : ((t157.length : Int) == (t162.length : Int)) = false := beq_eq_false_iff_ne.mpr c15
            have c15b1 : ((t157.length : Int) != (t162.length : Int)) = true := bne_iff_ne.mpr c15
            have c15b2 : (t157.length == t162.length) = false := by first | simpa using c15 | (simp at c15 ⊢; omega)
            have H' := Aside0.mk H
            clear H
            obtain ⟨Ao21, co21, eo21⟩ := Kd.R_slice HO161.out
            subst eo21
            obtain ⟨Ao22, co22, eo22⟩ := Kd.R_slice HO166.out
            subst eo22
            go_wp2
            repeat (go_quiet (fail); try go_wp2)
            go_meet
            case rel => exact ⟨_, (true), (by first | rfl | (simp; done) | (simp [*]; done) | (simp; first | exact Go.Proofs.YtffaibjiiiochaaDoor.Pre.ne1 _ | exact Go.Proofs.YtffaibjiiiochaaDoor.Pre.ne2 _ | exact Go.Proofs.YtffaibjiiiochaaDoor.Pre.ne3 _ | exact Go.Proofs.YtffaibjiiiochaaDoor.Pre.ne4 _ | exact Go.Proofs.YtffaibjiiiochaaDoor.Pre.ne5 _ | exact Go.Proofs.YtffaibjiiiochaaDoor.Pre.ne6 _)), H', ⟨by first | omega | exact Nat.le_refl _⟩, ⟨by (with_reducible repeat (first | apply Kd.R_alloc | apply Kd.R_drewN | apply Kd.R_drew)); exact Kd.R_mono HO161.out (fun _ hk => hk.2)⟩, ⟨by (with_reducible repeat (first | apply Kd.R_alloc | apply Kd.R_drewN | apply Kd.R_drew)); exact Kd.R_mono HO166.out (fun _ hk => hk.2)⟩, ⟨by repeat (first | (with_reducible first | exact HB.out | apply below_alloc | apply pw_below_drewN | apply below_drew1) | exact HB.out)⟩⟩
        · rw [if_neg c14] at H
          have c14b0 : (t159 == t164) = false := beq_eq_false_iff_ne.mpr c14
          have c14b1 : (t159 != t164) = true := bne_iff_ne.mpr c14
          (first | rw [c14b0] | (simp only [i64_w, i32_w]; rw [c14b0]) | skip)
          have H' := Aside0.mk H
          clear H
          go_wp2
          repeat (go_quiet (fail); try go_wp2)
          go_meet
          case rel => exact ⟨_, (true), (by first | rfl | (simp; done) | (simp [*]; done) | (simp; first | exact Go.Proofs.YtffaibjiiiochaaDoor.Pre.ne1 _ | exact Go.Proofs.YtffaibjiiiochaaDoor.Pre.ne2 _ | exact Go.Proofs.YtffaibjiiiochaaDoor.Pre.ne3 _ | exact Go.Proofs.YtffaibjiiiochaaDoor.Pre.ne4 _ | exact Go.Proofs.YtffaibjiiiochaaDoor.Pre.ne5 _ | exact Go.Proofs.YtffaibjiiiochaaDoor.Pre.ne6 _)), H', ⟨by first | omega | exact Nat.le_refl _⟩, ⟨by (with_reducible repeat (first | apply Kd.R_alloc | apply Kd.R_drewN | apply Kd.R_drew)); exact Kd.R_mono HO161.out (fun _ hk => hk.2)⟩, ⟨by (with_reducible repeat (first | apply Kd.R_alloc | apply Kd.R_drewN | apply Kd.R_drew)); exact Kd.R_mono HO166.out (fun _ hk => hk.2)⟩, ⟨by repeat (first | (with_reducible first | exact HB.out | apply below_alloc | apply pw_below_drewN | apply below_drew1) | exact HB.out)⟩⟩
      case rest =>
        clear HC10
        try clear c1
        try clear p2
        try clear c5
        try clear c5b0
        try clear c5b1
        try clear c6
        try clear p6
        try clear c8
        try clear c8b0
        try clear c8b1
        try clear c8b2
        try clear c14
        try clear c14b0
        try clear c14b1
        try clear c15
        try clear c15b0
        try clear c15b1
        try clear c15b2
        try clear c16
        try clear c16b0
        try clear c16b1
        obtain ⟨kq, x61_9, rfl, HA, HJ9, HO_7, HO_10, HB⟩ := hcut
        cases kq with
        | zero => exact absurd HA.out (by simp [boscagelaw06_TokenBlanks.j0])
        | succ kj9 =>
          have H := HA.out
          clear HA
          simp only [boscagelaw06_TokenBlanks.j0] at H
          by_cases c23 : x61_9 = true
          · subst c23
            have H1 : (some false) = some r := by rw [if_pos rfl] at H; exact H
            clear H
            have H := H1
            clear H1
            exact absurd ((Option.some.inj H).trans HRT.out) Bool.false_ne_true
          · replace c23 := Bool.eq_false_iff.mpr c23
            subst c23
            have H1 : (boscagelaw06_TokenBlanks.l0 kj9 t155 t156 t157 t162 (t157.length : Int) 0) = some r := by rw [if_neg (show ¬ (false = true) by decide)] at H; exact H
            clear H
            have H := H1
            clear H1
            have H' := Aside0.mk H
            clear H
            obtain ⟨Ao24, co24, eo24⟩ := Kd.R_slice HO_7.out
            subst eo24
            go_wp2
            repeat (go_quiet (fail); try go_wp2)
            go_loopg [64] kj9 (fun kq v64 w' => ∃ (x64_2 : Int), v64 = .int .i64 x64_2 ∧ Aside0 (boscagelaw06_TokenBlanks.l0 kq t155 t156 t157 t162 (t157.length : Int) x64_2 = some r) ∧ Aside0 (kq ≤ kj9) ∧ Aside0 (Kd.R k30 30 w' w.heap.size (fun k_ => some k_ ≠ (v165 : Value).ownBlock) (.slice Ao24 t157.length co24) t157) ∧ Aside0 (Kd.R k30 30 w' w.heap.size (fun k_ => some k_ ≠ ((.slice Ao24 t157.length co24) : Value).ownBlock) v165 t162) ∧ Aside0 (Below w.heap.size w w'))
            case atStart => exact ⟨(0), (by first | rfl | (simp; done) | (simp [*]; done) | (simp; first | exact Go.Proofs.YtffaibjiiiochaaDoor.Pre.ne1 _ | exact Go.Proofs.YtffaibjiiiochaaDoor.Pre.ne2 _ | exact Go.Proofs.YtffaibjiiiochaaDoor.Pre.ne3 _ | exact Go.Proofs.YtffaibjiiiochaaDoor.Pre.ne4 _ | exact Go.Proofs.YtffaibjiiiochaaDoor.Pre.ne5 _ | exact Go.Proofs.YtffaibjiiiochaaDoor.Pre.ne6 _)), H', ⟨Nat.le_refl _⟩, ⟨by (with_reducible repeat (first | apply Kd.R_alloc | apply Kd.R_drewN | apply Kd.R_drew)); exact HO_7.out⟩, ⟨by (with_reducible repeat (first | apply Kd.R_alloc | apply Kd.R_drewN | apply Kd.R_drew)); exact HO_10.out⟩, ⟨by repeat (first | (with_reducible first | exact HB.out | apply below_alloc | apply pw_below_drewN | apply below_drew1) | exact HB.out)⟩⟩
            case round =>
              clear H'
              try clear c1
              try clear c2
              try clear p2
              try clear c5
              try clear c5b0
              try clear c5b1
              try clear c6
              try clear p6
              try clear c8
              try clear c8b0
              try clear c8b1
              try clear c8b2
              try clear c14
              try clear c14b0
              try clear c14b1
              try clear c15
              try clear c15b0
              try clear c15b1
              try clear c15b2
              try clear c16
              try clear c16b0
              try clear c16b1
              try clear c23
              try clear p2
              try clear p6
              obtain ⟨x64_2, rfl, HA, HK2, HO_7, HO_10, HB⟩ := hrel
              cases gk with
              | zero => exact absurd HA.out (by simp [boscagelaw06_TokenBlanks.l0])
              | succ k2 =>
                have H := HA.out
                clear HA
                simp only [boscagelaw06_TokenBlanks.l0] at H
                by_cases c25 : x64_2 < (t157.length : Int)
                · rw [if_pos c25] at H
                  have c25b0 : decide (x64_2 < (t157.length : Int)) = true := decide_eq_true c25
                  clear c25
                  by_cases c26 : 0 ≤ x64_2
                  · rw [if_pos c26] at H
                    have c26b0 : decide (0 ≤ x64_2) = true := decide_eq_true c26
                    clear c26
                    by_cases c27 : x64_2 < (t157.length : Int)
                    · rw [if_pos c27] at H
                      have c27b0 : decide (x64_2 < (t157.length : Int)) = true := decide_eq_true c27
                      clear c27
                      by_cases c28 : x64_2 < (t162.length : Int)
                      · rw [if_pos c28] at H
                        have c28b0 : decide (x64_2 < (t162.length : Int)) = true := decide_eq_true c28
                        clear c28
                        by_cases c29 : (!(((rd_T30 t157 x64_2).f0) == ((rd_T30 t162 x64_2).f0)) || (!((((rd_T30 t157 x64_2).f1).toList) == (((rd_T30 t162 x64_2).f1).toList)) || (!(((rd_T30 t157 x64_2).f2) == ((rd_T30 t162 x64_2).f2)) || (!((wrap64 (((rd_T30 t157 x64_2).f3) + (t156.size : Int))) == ((rd_T30 t162 x64_2).f3)))))) = true
                        · rw [if_pos c29] at H
                          have c29b0 : (!(((rd_T30 t157 x64_2).f0) == ((rd_T30 t162 x64_2).f0)) || (!((((rd_T30 t157 x64_2).f1).toList) == (((rd_T30 t162 x64_2).f1).toList)) || (!(((rd_T30 t157 x64_2).f2) == ((rd_T30 t162 x64_2).f2)) || (!((wrap64 (((rd_T30 t157 x64_2).f3) + (t156.size : Int))) == ((rd_T30 t162 x64_2).f3)))))) = true := c29
                          clear c29
                          exact absurd ((Option.some.inj H).trans HRT.out) Bool.false_ne_true
                        · rw [if_neg c29] at H
                          have c29b0 : (!(((rd_T30 t157 x64_2).f0) == ((rd_T30 t162 x64_2).f0)) || (!((((rd_T30 t157 x64_2).f1).toList) == (((rd_T30 t162 x64_2).f1).toList)) || (!(((rd_T30 t157 x64_2).f2) == ((rd_T30 t162 x64_2).f2)) || (!((wrap64 (((rd_T30 t157 x64_2).f3) + (t156.size : Int))) == ((rd_T30 t162 x64_2).f3)))))) = false := by simpa using c29
                          clear c29
                          have H' := Aside0.mk H
                          clear H
                          have p167 : 0 ≤ (x64_2 : Int) := of_decide_eq_true (by first | (with_reducible assumption) | assumption)
                          have q167 : x64_2 < (t157.length : Int) := of_decide_eq_true (by first | (with_reducible assumption) | assumption)
                          obtain ⟨ad167, e167, hx167_0, hx167_1, hx167_2, hx167_3⟩ := at_T30 (Kd.R_reads' HO_7.out).2.2 x64_2 p167 q167
                          cases e167
                          replace p167 := eq_true p167
                          replace q167 := eq_true q167
                          go_wp2_with (first | ((with_reducible refine gate_dst (N := 14) rfl ?_); (try (refine gate_guard (by rfl) ?_; dsimp only)); refine box_event ?hg (N := 14) ?hd (cs := #[.int .i64 0, .string (⟨#[]⟩ : ByteArray), .int .i64 0, .int .i64 0]) (t := 30) ?hr ?_; (case hd => rfl); (case hg => rfl); (case hr => first | (go_simp; done) | (go_simp; rfl)); intro gb168 hg w30 hbox hb; have n0_ := Aside0.mk (Kd.R_below (Kd.R_elderB (by (with_reducible repeat (first | apply Kd.R_alloc | apply Kd.R_drewN | apply Kd.R_drew)); exact HO_7.out) gb168 (Nat.le_of_eq hg.symm)) hb); have n1_ := Aside0.mk (Kd.R_below (Kd.R_elderB (by (with_reducible repeat (first | apply Kd.R_alloc | apply Kd.R_drewN | apply Kd.R_drew)); exact HO_10.out) gb168 (Nat.le_of_eq hg.symm)) hb); have n2_ := Aside0.mk (below_step (by repeat (first | (with_reducible first | exact HB.out | apply below_alloc | apply pw_below_drewN | apply below_drew1) | exact HB.out)) hb); have n3_ := Aside0.mk (hbox); have n4_ := Aside0.mk ((by rw [hg]; exact (below_size (by repeat (first | (with_reducible first | exact HB.out | apply below_alloc | apply pw_below_drewN | apply below_drew1) | exact HB.out))) : w.heap.size ≤ gb168)); have n5_ := Aside0.mk ((by rw [hg]; exact (below_size (by repeat (first | (with_reducible first | exact HB.out | apply below_alloc | apply pw_below_drewN | apply below_drew1) | exact HB.out))) : w.heap.size ≤ gb168)); clear HO_7; clear HO_10; clear HB; have HO_7 := n0_; have HO_10 := n1_; have HB := n2_; have BK168 := n3_; have GW168 := n4_; have GE168 := n5_; clear n0_ n1_ n2_ n3_ n4_ n5_; clear hb hbox hg; have hcz31_0 : w30.cell? ⟨gb168, 0, none⟩ = some (.int .i64 0) := (blk_cell BK168.out 0).trans rfl; have hcz31_1 : w30.cell? ⟨gb168, 1, none⟩ = some (.string (⟨#[]⟩ : ByteArray)) := (blk_cell BK168.out 1).trans rfl; have hcz31_2 : w30.cell? ⟨gb168, 2, none⟩ = some (.int .i64 0) := (blk_cell BK168.out 2).trans rfl; have hcz31_3 : w30.cell? ⟨gb168, 3, none⟩ = some (.int .i64 0) := (blk_cell BK168.out 3).trans rfl; have hfz31_0 := blk_frozen BK168.out 0; have hfz31_1 := blk_frozen BK168.out 1; have hfz31_2 := blk_frozen BK168.out 2; have hfz31_3 := blk_frozen BK168.out 3; have hv_3 : ((((((w30.setCell ⟨gb168, 0, none⟩ (.int .i64 (rd_T30 t157 x64_2).f0)).setCell ⟨gb168, 1, none⟩ (.string (rd_T30 t157 x64_2).f1)).setCell ⟨gb168, 2, none⟩ (.int .i64 (rd_T30 t157 x64_2).f2)).setCell ⟨gb168, 3, none⟩ (.int .i64 (rd_T30 t157 x64_2).f3)).setCell ⟨gb168, 3, none⟩ (.int .i64 (wrap64 (((rd_T30 t157 x64_2).f3) + (t156.size : Int)))))).cell? ⟨gb168, 3, none⟩ = some (.int .i64 (wrap64 (((rd_T30 t157 x64_2).f3) + (t156.size : Int)))) := (blk_cell (blk_put (cs' := #[.int .i64 (rd_T30 t157 x64_2).f0, .string (rd_T30 t157 x64_2).f1, .int .i64 (rd_T30 t157 x64_2).f2, .int .i64 (wrap64 (((rd_T30 t157 x64_2).f3) + (t156.size : Int)))]) (blk_put (blk_put (blk_put (blk_put BK168.out 0 _ rfl) 1 _ rfl) 2 _ rfl) 3 _ rfl) 3 _ rfl) 3).trans rfl; have hv_3d := fun n_ : Nat => (show (((((((w30.drewN n_).setCell ⟨gb168, 0, none⟩ (.int .i64 (rd_T30 t157 x64_2).f0)).setCell ⟨gb168, 1, none⟩ (.string (rd_T30 t157 x64_2).f1)).setCell ⟨gb168, 2, none⟩ (.int .i64 (rd_T30 t157 x64_2).f2)).setCell ⟨gb168, 3, none⟩ (.int .i64 (rd_T30 t157 x64_2).f3)).setCell ⟨gb168, 3, none⟩ (.int .i64 (wrap64 (((rd_T30 t157 x64_2).f3) + (t156.size : Int)))))).cell? ⟨gb168, 3, none⟩ = some (.int .i64 (wrap64 (((rd_T30 t157 x64_2).f3) + (t156.size : Int)))) from hv_3); obtain ⟨Ao32, co32, eo32⟩ := Kd.R_slice HO_10.out; subst eo32; have p169 : 0 ≤ (x64_2 : Int) := of_decide_eq_true (by first | (with_reducible assumption) | assumption); have q169 : x64_2 < (t162.length : Int) := of_decide_eq_true (by first | (with_reducible assumption) | assumption); obtain ⟨ad169, e169, hx169_0, hx169_1, hx169_2, hx169_3⟩ := at_T30 (Kd.R_reads' HO_10.out).2.2 x64_2 p169 q169; cases e169; have hn169_0 : ad169.block ≠ gb168 := (by first | exact Kd.own_blk (Kd.R_ne HO_10.out BK168.out (by decide)) | exact (HO_10.out.1 _ rfl).2); have hn169_1 : ad169.block ≠ gb168 := (by first | exact Kd.own_blk (Kd.R_ne HO_10.out BK168.out (by decide)) | exact (HO_10.out.1 _ rfl).2); have hn169_2 : ad169.block ≠ gb168 := (by first | exact Kd.own_blk (Kd.R_ne HO_10.out BK168.out (by decide)) | exact (HO_10.out.1 _ rfl).2); have hn169_3 : ad169.block ≠ gb168 := (by first | exact Kd.own_blk (Kd.R_ne HO_10.out BK168.out (by decide)) | exact (HO_10.out.1 _ rfl).2); have hn169_4 : ad169.block ≠ gb168 := (by first | exact Kd.own_blk (Kd.R_ne HO_10.out BK168.out (by decide)) | exact (HO_10.out.1 _ rfl).2); replace hx169_0 := (cell_far (p := ⟨gb168, 0, none⟩) (by first | (rw [add_block]; exact hn169_0) | (show (Addr.add _ _).block ≠ _; rw [add_block]; exact hn169_0) | exact hn169_0) (.int .i64 ((rd_T30 t157 x64_2).f0))).trans hx169_0; replace hx169_1 := (cell_far (p := ⟨gb168, 0, none⟩) (by first | (rw [add_block]; exact hn169_0) | (show (Addr.add _ _).block ≠ _; rw [add_block]; exact hn169_0) | exact hn169_0) (.int .i64 ((rd_T30 t157 x64_2).f0))).trans hx169_1; replace hx169_2 := (cell_far (p := ⟨gb168, 0, none⟩) (by first | (rw [add_block]; exact hn169_0) | (show (Addr.add _ _).block ≠ _; rw [add_block]; exact hn169_0) | exact hn169_0) (.int .i64 ((rd_T30 t157 x64_2).f0))).trans hx169_2; replace hx169_3 := (cell_far (p := ⟨gb168, 0, none⟩) (by first | (rw [add_block]; exact hn169_0) | (show (Addr.add _ _).block ≠ _; rw [add_block]; exact hn169_0) | exact hn169_0) (.int .i64 ((rd_T30 t157 x64_2).f0))).trans hx169_3; replace hx169_0 := (cell_far (p := ⟨gb168, 1, none⟩) (by first | (rw [add_block]; exact hn169_1) | (show (Addr.add _ _).block ≠ _; rw [add_block]; exact hn169_1) | exact hn169_1) (.string ((rd_T30 t157 x64_2).f1))).trans hx169_0; replace hx169_1 := (cell_far (p := ⟨gb168, 1, none⟩) (by first | (rw [add_block]; exact hn169_1) | (show (Addr.add _ _).block ≠ _; rw [add_block]; exact hn169_1) | exact hn169_1) (.string ((rd_T30 t157 x64_2).f1))).trans hx169_1; replace hx169_2 := (cell_far (p := ⟨gb168, 1, none⟩) (by first | (rw [add_block]; exact hn169_1) | (show (Addr.add _ _).block ≠ _; rw [add_block]; exact hn169_1) | exact hn169_1) (.string ((rd_T30 t157 x64_2).f1))).trans hx169_2; replace hx169_3 := (cell_far (p := ⟨gb168, 1, none⟩) (by first | (rw [add_block]; exact hn169_1) | (show (Addr.add _ _).block ≠ _; rw [add_block]; exact hn169_1) | exact hn169_1) (.string ((rd_T30 t157 x64_2).f1))).trans hx169_3; replace hx169_0 := (cell_far (p := ⟨gb168, 2, none⟩) (by first | (rw [add_block]; exact hn169_2) | (show (Addr.add _ _).block ≠ _; rw [add_block]; exact hn169_2) | exact hn169_2) (.int .i64 ((rd_T30 t157 x64_2).f2))).trans hx169_0; replace hx169_1 := (cell_far (p := ⟨gb168, 2, none⟩) (by first | (rw [add_block]; exact hn169_2) | (show (Addr.add _ _).block ≠ _; rw [add_block]; exact hn169_2) | exact hn169_2) (.int .i64 ((rd_T30 t157 x64_2).f2))).trans hx169_1; replace hx169_2 := (cell_far (p := ⟨gb168, 2, none⟩) (by first | (rw [add_block]; exact hn169_2) | (show (Addr.add _ _).block ≠ _; rw [add_block]; exact hn169_2) | exact hn169_2) (.int .i64 ((rd_T30 t157 x64_2).f2))).trans hx169_2; replace hx169_3 := (cell_far (p := ⟨gb168, 2, none⟩) (by first | (rw [add_block]; exact hn169_2) | (show (Addr.add _ _).block ≠ _; rw [add_block]; exact hn169_2) | exact hn169_2) (.int .i64 ((rd_T30 t157 x64_2).f2))).trans hx169_3; replace hx169_0 := (cell_far (p := ⟨gb168, 3, none⟩) (by first | (rw [add_block]; exact hn169_3) | (show (Addr.add _ _).block ≠ _; rw [add_block]; exact hn169_3) | exact hn169_3) (.int .i64 ((rd_T30 t157 x64_2).f3))).trans hx169_0; replace hx169_1 := (cell_far (p := ⟨gb168, 3, none⟩) (by first | (rw [add_block]; exact hn169_3) | (show (Addr.add _ _).block ≠ _; rw [add_block]; exact hn169_3) | exact hn169_3) (.int .i64 ((rd_T30 t157 x64_2).f3))).trans hx169_1; replace hx169_2 := (cell_far (p := ⟨gb168, 3, none⟩) (by first | (rw [add_block]; exact hn169_3) | (show (Addr.add _ _).block ≠ _; rw [add_block]; exact hn169_3) | exact hn169_3) (.int .i64 ((rd_T30 t157 x64_2).f3))).trans hx169_2; replace hx169_3 := (cell_far (p := ⟨gb168, 3, none⟩) (by first | (rw [add_block]; exact hn169_3) | (show (Addr.add _ _).block ≠ _; rw [add_block]; exact hn169_3) | exact hn169_3) (.int .i64 ((rd_T30 t157 x64_2).f3))).trans hx169_3; replace hx169_0 := (cell_far (p := ⟨gb168, 3, none⟩) (by first | (rw [add_block]; exact hn169_4) | (show (Addr.add _ _).block ≠ _; rw [add_block]; exact hn169_4) | exact hn169_4) (.int .i64 (wrap64 (((rd_T30 t157 x64_2).f3) + (t156.size : Int))))).trans hx169_0; replace hx169_1 := (cell_far (p := ⟨gb168, 3, none⟩) (by first | (rw [add_block]; exact hn169_4) | (show (Addr.add _ _).block ≠ _; rw [add_block]; exact hn169_4) | exact hn169_4) (.int .i64 (wrap64 (((rd_T30 t157 x64_2).f3) + (t156.size : Int))))).trans hx169_1; replace hx169_2 := (cell_far (p := ⟨gb168, 3, none⟩) (by first | (rw [add_block]; exact hn169_4) | (show (Addr.add _ _).block ≠ _; rw [add_block]; exact hn169_4) | exact hn169_4) (.int .i64 (wrap64 (((rd_T30 t157 x64_2).f3) + (t156.size : Int))))).trans hx169_2; replace hx169_3 := (cell_far (p := ⟨gb168, 3, none⟩) (by first | (rw [add_block]; exact hn169_4) | (show (Addr.add _ _).block ≠ _; rw [add_block]; exact hn169_4) | exact hn169_4) (.int .i64 (wrap64 (((rd_T30 t157 x64_2).f3) + (t156.size : Int))))).trans hx169_3; (try have hy169_0 := fun (n_ : Nat) => (show (((((((w30.drewN n_).setCell ⟨gb168, 0, none⟩ (.int .i64 ((rd_T30 t157 x64_2).f0))).setCell ⟨gb168, 1, none⟩ (.string ((rd_T30 t157 x64_2).f1))).setCell ⟨gb168, 2, none⟩ (.int .i64 ((rd_T30 t157 x64_2).f2))).setCell ⟨gb168, 3, none⟩ (.int .i64 ((rd_T30 t157 x64_2).f3))).setCell ⟨gb168, 3, none⟩ (.int .i64 (wrap64 (((rd_T30 t157 x64_2).f3) + (t156.size : Int)))))).cell? _ = some _ from hx169_0)); (try have hy169_1 := fun (n_ : Nat) => (show (((((((w30.drewN n_).setCell ⟨gb168, 0, none⟩ (.int .i64 ((rd_T30 t157 x64_2).f0))).setCell ⟨gb168, 1, none⟩ (.string ((rd_T30 t157 x64_2).f1))).setCell ⟨gb168, 2, none⟩ (.int .i64 ((rd_T30 t157 x64_2).f2))).setCell ⟨gb168, 3, none⟩ (.int .i64 ((rd_T30 t157 x64_2).f3))).setCell ⟨gb168, 3, none⟩ (.int .i64 (wrap64 (((rd_T30 t157 x64_2).f3) + (t156.size : Int)))))).cell? _ = some _ from hx169_1)); (try have hy169_2 := fun (n_ : Nat) => (show (((((((w30.drewN n_).setCell ⟨gb168, 0, none⟩ (.int .i64 ((rd_T30 t157 x64_2).f0))).setCell ⟨gb168, 1, none⟩ (.string ((rd_T30 t157 x64_2).f1))).setCell ⟨gb168, 2, none⟩ (.int .i64 ((rd_T30 t157 x64_2).f2))).setCell ⟨gb168, 3, none⟩ (.int .i64 ((rd_T30 t157 x64_2).f3))).setCell ⟨gb168, 3, none⟩ (.int .i64 (wrap64 (((rd_T30 t157 x64_2).f3) + (t156.size : Int)))))).cell? _ = some _ from hx169_2)); (try have hy169_3 := fun (n_ : Nat) => (show (((((((w30.drewN n_).setCell ⟨gb168, 0, none⟩ (.int .i64 ((rd_T30 t157 x64_2).f0))).setCell ⟨gb168, 1, none⟩ (.string ((rd_T30 t157 x64_2).f1))).setCell ⟨gb168, 2, none⟩ (.int .i64 ((rd_T30 t157 x64_2).f2))).setCell ⟨gb168, 3, none⟩ (.int .i64 ((rd_T30 t157 x64_2).f3))).setCell ⟨gb168, 3, none⟩ (.int .i64 (wrap64 (((rd_T30 t157 x64_2).f3) + (t156.size : Int)))))).cell? _ = some _ from hx169_3)); clear hn169_0; clear hn169_1; clear hn169_2; clear hn169_3; clear hn169_4; replace p169 := eq_true p169; replace q169 := eq_true q169))
                          repeat (go_quiet (first | ((with_reducible refine gate_dst (N := 14) rfl ?_); (try (refine gate_guard (by rfl) ?_; dsimp only)); refine box_event ?hg (N := 14) ?hd (cs := #[.int .i64 0, .string (⟨#[]⟩ : ByteArray), .int .i64 0, .int .i64 0]) (t := 30) ?hr ?_; (case hd => rfl); (case hg => rfl); (case hr => first | (go_simp; done) | (go_simp; rfl)); intro gb168 hg w30 hbox hb; have n0_ := Aside0.mk (Kd.R_below (Kd.R_elderB (by (with_reducible repeat (first | apply Kd.R_alloc | apply Kd.R_drewN | apply Kd.R_drew)); exact HO_7.out) gb168 (Nat.le_of_eq hg.symm)) hb); have n1_ := Aside0.mk (Kd.R_below (Kd.R_elderB (by (with_reducible repeat (first | apply Kd.R_alloc | apply Kd.R_drewN | apply Kd.R_drew)); exact HO_10.out) gb168 (Nat.le_of_eq hg.symm)) hb); have n2_ := Aside0.mk (below_step (by repeat (first | (with_reducible first | exact HB.out | apply below_alloc | apply pw_below_drewN | apply below_drew1) | exact HB.out)) hb); have n3_ := Aside0.mk (hbox); have n4_ := Aside0.mk ((by rw [hg]; exact (below_size (by repeat (first | (with_reducible first | exact HB.out | apply below_alloc | apply pw_below_drewN | apply below_drew1) | exact HB.out))) : w.heap.size ≤ gb168)); have n5_ := Aside0.mk ((by rw [hg]; exact (below_size (by repeat (first | (with_reducible first | exact HB.out | apply below_alloc | apply pw_below_drewN | apply below_drew1) | exact HB.out))) : w.heap.size ≤ gb168)); clear HO_7; clear HO_10; clear HB; have HO_7 := n0_; have HO_10 := n1_; have HB := n2_; have BK168 := n3_; have GW168 := n4_; have GE168 := n5_; clear n0_ n1_ n2_ n3_ n4_ n5_; clear hb hbox hg; have hcz31_0 : w30.cell? ⟨gb168, 0, none⟩ = some (.int .i64 0) := (blk_cell BK168.out 0).trans rfl; have hcz31_1 : w30.cell? ⟨gb168, 1, none⟩ = some (.string (⟨#[]⟩ : ByteArray)) := (blk_cell BK168.out 1).trans rfl; have hcz31_2 : w30.cell? ⟨gb168, 2, none⟩ = some (.int .i64 0) := (blk_cell BK168.out 2).trans rfl; have hcz31_3 : w30.cell? ⟨gb168, 3, none⟩ = some (.int .i64 0) := (blk_cell BK168.out 3).trans rfl; have hfz31_0 := blk_frozen BK168.out 0; have hfz31_1 := blk_frozen BK168.out 1; have hfz31_2 := blk_frozen BK168.out 2; have hfz31_3 := blk_frozen BK168.out 3; have hv_3 : ((((((w30.setCell ⟨gb168, 0, none⟩ (.int .i64 (rd_T30 t157 x64_2).f0)).setCell ⟨gb168, 1, none⟩ (.string (rd_T30 t157 x64_2).f1)).setCell ⟨gb168, 2, none⟩ (.int .i64 (rd_T30 t157 x64_2).f2)).setCell ⟨gb168, 3, none⟩ (.int .i64 (rd_T30 t157 x64_2).f3)).setCell ⟨gb168, 3, none⟩ (.int .i64 (wrap64 (((rd_T30 t157 x64_2).f3) + (t156.size : Int)))))).cell? ⟨gb168, 3, none⟩ = some (.int .i64 (wrap64 (((rd_T30 t157 x64_2).f3) + (t156.size : Int)))) := (blk_cell (blk_put (cs' := #[.int .i64 (rd_T30 t157 x64_2).f0, .string (rd_T30 t157 x64_2).f1, .int .i64 (rd_T30 t157 x64_2).f2, .int .i64 (wrap64 (((rd_T30 t157 x64_2).f3) + (t156.size : Int)))]) (blk_put (blk_put (blk_put (blk_put BK168.out 0 _ rfl) 1 _ rfl) 2 _ rfl) 3 _ rfl) 3 _ rfl) 3).trans rfl; have hv_3d := fun n_ : Nat => (show (((((((w30.drewN n_).setCell ⟨gb168, 0, none⟩ (.int .i64 (rd_T30 t157 x64_2).f0)).setCell ⟨gb168, 1, none⟩ (.string (rd_T30 t157 x64_2).f1)).setCell ⟨gb168, 2, none⟩ (.int .i64 (rd_T30 t157 x64_2).f2)).setCell ⟨gb168, 3, none⟩ (.int .i64 (rd_T30 t157 x64_2).f3)).setCell ⟨gb168, 3, none⟩ (.int .i64 (wrap64 (((rd_T30 t157 x64_2).f3) + (t156.size : Int)))))).cell? ⟨gb168, 3, none⟩ = some (.int .i64 (wrap64 (((rd_T30 t157 x64_2).f3) + (t156.size : Int)))) from hv_3); obtain ⟨Ao32, co32, eo32⟩ := Kd.R_slice HO_10.out; subst eo32; have p169 : 0 ≤ (x64_2 : Int) := of_decide_eq_true (by first | (with_reducible assumption) | assumption); have q169 : x64_2 < (t162.length : Int) := of_decide_eq_true (by first | (with_reducible assumption) | assumption); obtain ⟨ad169, e169, hx169_0, hx169_1, hx169_2, hx169_3⟩ := at_T30 (Kd.R_reads' HO_10.out).2.2 x64_2 p169 q169; cases e169; have hn169_0 : ad169.block ≠ gb168 := (by first | exact Kd.own_blk (Kd.R_ne HO_10.out BK168.out (by decide)) | exact (HO_10.out.1 _ rfl).2); have hn169_1 : ad169.block ≠ gb168 := (by first | exact Kd.own_blk (Kd.R_ne HO_10.out BK168.out (by decide)) | exact (HO_10.out.1 _ rfl).2); have hn169_2 : ad169.block ≠ gb168 := (by first | exact Kd.own_blk (Kd.R_ne HO_10.out BK168.out (by decide)) | exact (HO_10.out.1 _ rfl).2); have hn169_3 : ad169.block ≠ gb168 := (by first | exact Kd.own_blk (Kd.R_ne HO_10.out BK168.out (by decide)) | exact (HO_10.out.1 _ rfl).2); have hn169_4 : ad169.block ≠ gb168 := (by first | exact Kd.own_blk (Kd.R_ne HO_10.out BK168.out (by decide)) | exact (HO_10.out.1 _ rfl).2); replace hx169_0 := (cell_far (p := ⟨gb168, 0, none⟩) (by first | (rw [add_block]; exact hn169_0) | (show (Addr.add _ _).block ≠ _; rw [add_block]; exact hn169_0) | exact hn169_0) (.int .i64 ((rd_T30 t157 x64_2).f0))).trans hx169_0; replace hx169_1 := (cell_far (p := ⟨gb168, 0, none⟩) (by first | (rw [add_block]; exact hn169_0) | (show (Addr.add _ _).block ≠ _; rw [add_block]; exact hn169_0) | exact hn169_0) (.int .i64 ((rd_T30 t157 x64_2).f0))).trans hx169_1; replace hx169_2 := (cell_far (p := ⟨gb168, 0, none⟩) (by first | (rw [add_block]; exact hn169_0) | (show (Addr.add _ _).block ≠ _; rw [add_block]; exact hn169_0) | exact hn169_0) (.int .i64 ((rd_T30 t157 x64_2).f0))).trans hx169_2; replace hx169_3 := (cell_far (p := ⟨gb168, 0, none⟩) (by first | (rw [add_block]; exact hn169_0) | (show (Addr.add _ _).block ≠ _; rw [add_block]; exact hn169_0) | exact hn169_0) (.int .i64 ((rd_T30 t157 x64_2).f0))).trans hx169_3; replace hx169_0 := (cell_far (p := ⟨gb168, 1, none⟩) (by first | (rw [add_block]; exact hn169_1) | (show (Addr.add _ _).block ≠ _; rw [add_block]; exact hn169_1) | exact hn169_1) (.string ((rd_T30 t157 x64_2).f1))).trans hx169_0; replace hx169_1 := (cell_far (p := ⟨gb168, 1, none⟩) (by first | (rw [add_block]; exact hn169_1) | (show (Addr.add _ _).block ≠ _; rw [add_block]; exact hn169_1) | exact hn169_1) (.string ((rd_T30 t157 x64_2).f1))).trans hx169_1; replace hx169_2 := (cell_far (p := ⟨gb168, 1, none⟩) (by first | (rw [add_block]; exact hn169_1) | (show (Addr.add _ _).block ≠ _; rw [add_block]; exact hn169_1) | exact hn169_1) (.string ((rd_T30 t157 x64_2).f1))).trans hx169_2; replace hx169_3 := (cell_far (p := ⟨gb168, 1, none⟩) (by first | (rw [add_block]; exact hn169_1) | (show (Addr.add _ _).block ≠ _; rw [add_block]; exact hn169_1) | exact hn169_1) (.string ((rd_T30 t157 x64_2).f1))).trans hx169_3; replace hx169_0 := (cell_far (p := ⟨gb168, 2, none⟩) (by first | (rw [add_block]; exact hn169_2) | (show (Addr.add _ _).block ≠ _; rw [add_block]; exact hn169_2) | exact hn169_2) (.int .i64 ((rd_T30 t157 x64_2).f2))).trans hx169_0; replace hx169_1 := (cell_far (p := ⟨gb168, 2, none⟩) (by first | (rw [add_block]; exact hn169_2) | (show (Addr.add _ _).block ≠ _; rw [add_block]; exact hn169_2) | exact hn169_2) (.int .i64 ((rd_T30 t157 x64_2).f2))).trans hx169_1; replace hx169_2 := (cell_far (p := ⟨gb168, 2, none⟩) (by first | (rw [add_block]; exact hn169_2) | (show (Addr.add _ _).block ≠ _; rw [add_block]; exact hn169_2) | exact hn169_2) (.int .i64 ((rd_T30 t157 x64_2).f2))).trans hx169_2; replace hx169_3 := (cell_far (p := ⟨gb168, 2, none⟩) (by first | (rw [add_block]; exact hn169_2) | (show (Addr.add _ _).block ≠ _; rw [add_block]; exact hn169_2) | exact hn169_2) (.int .i64 ((rd_T30 t157 x64_2).f2))).trans hx169_3; replace hx169_0 := (cell_far (p := ⟨gb168, 3, none⟩) (by first | (rw [add_block]; exact hn169_3) | (show (Addr.add _ _).block ≠ _; rw [add_block]; exact hn169_3) | exact hn169_3) (.int .i64 ((rd_T30 t157 x64_2).f3))).trans hx169_0; replace hx169_1 := (cell_far (p := ⟨gb168, 3, none⟩) (by first | (rw [add_block]; exact hn169_3) | (show (Addr.add _ _).block ≠ _; rw [add_block]; exact hn169_3) | exact hn169_3) (.int .i64 ((rd_T30 t157 x64_2).f3))).trans hx169_1; replace hx169_2 := (cell_far (p := ⟨gb168, 3, none⟩) (by first | (rw [add_block]; exact hn169_3) | (show (Addr.add _ _).block ≠ _; rw [add_block]; exact hn169_3) | exact hn169_3) (.int .i64 ((rd_T30 t157 x64_2).f3))).trans hx169_2; replace hx169_3 := (cell_far (p := ⟨gb168, 3, none⟩) (by first | (rw [add_block]; exact hn169_3) | (show (Addr.add _ _).block ≠ _; rw [add_block]; exact hn169_3) | exact hn169_3) (.int .i64 ((rd_T30 t157 x64_2).f3))).trans hx169_3; replace hx169_0 := (cell_far (p := ⟨gb168, 3, none⟩) (by first | (rw [add_block]; exact hn169_4) | (show (Addr.add _ _).block ≠ _; rw [add_block]; exact hn169_4) | exact hn169_4) (.int .i64 (wrap64 (((rd_T30 t157 x64_2).f3) + (t156.size : Int))))).trans hx169_0; replace hx169_1 := (cell_far (p := ⟨gb168, 3, none⟩) (by first | (rw [add_block]; exact hn169_4) | (show (Addr.add _ _).block ≠ _; rw [add_block]; exact hn169_4) | exact hn169_4) (.int .i64 (wrap64 (((rd_T30 t157 x64_2).f3) + (t156.size : Int))))).trans hx169_1; replace hx169_2 := (cell_far (p := ⟨gb168, 3, none⟩) (by first | (rw [add_block]; exact hn169_4) | (show (Addr.add _ _).block ≠ _; rw [add_block]; exact hn169_4) | exact hn169_4) (.int .i64 (wrap64 (((rd_T30 t157 x64_2).f3) + (t156.size : Int))))).trans hx169_2; replace hx169_3 := (cell_far (p := ⟨gb168, 3, none⟩) (by first | (rw [add_block]; exact hn169_4) | (show (Addr.add _ _).block ≠ _; rw [add_block]; exact hn169_4) | exact hn169_4) (.int .i64 (wrap64 (((rd_T30 t157 x64_2).f3) + (t156.size : Int))))).trans hx169_3; (try have hy169_0 := fun (n_ : Nat) => (show (((((((w30.drewN n_).setCell ⟨gb168, 0, none⟩ (.int .i64 ((rd_T30 t157 x64_2).f0))).setCell ⟨gb168, 1, none⟩ (.string ((rd_T30 t157 x64_2).f1))).setCell ⟨gb168, 2, none⟩ (.int .i64 ((rd_T30 t157 x64_2).f2))).setCell ⟨gb168, 3, none⟩ (.int .i64 ((rd_T30 t157 x64_2).f3))).setCell ⟨gb168, 3, none⟩ (.int .i64 (wrap64 (((rd_T30 t157 x64_2).f3) + (t156.size : Int)))))).cell? _ = some _ from hx169_0)); (try have hy169_1 := fun (n_ : Nat) => (show (((((((w30.drewN n_).setCell ⟨gb168, 0, none⟩ (.int .i64 ((rd_T30 t157 x64_2).f0))).setCell ⟨gb168, 1, none⟩ (.string ((rd_T30 t157 x64_2).f1))).setCell ⟨gb168, 2, none⟩ (.int .i64 ((rd_T30 t157 x64_2).f2))).setCell ⟨gb168, 3, none⟩ (.int .i64 ((rd_T30 t157 x64_2).f3))).setCell ⟨gb168, 3, none⟩ (.int .i64 (wrap64 (((rd_T30 t157 x64_2).f3) + (t156.size : Int)))))).cell? _ = some _ from hx169_1)); (try have hy169_2 := fun (n_ : Nat) => (show (((((((w30.drewN n_).setCell ⟨gb168, 0, none⟩ (.int .i64 ((rd_T30 t157 x64_2).f0))).setCell ⟨gb168, 1, none⟩ (.string ((rd_T30 t157 x64_2).f1))).setCell ⟨gb168, 2, none⟩ (.int .i64 ((rd_T30 t157 x64_2).f2))).setCell ⟨gb168, 3, none⟩ (.int .i64 ((rd_T30 t157 x64_2).f3))).setCell ⟨gb168, 3, none⟩ (.int .i64 (wrap64 (((rd_T30 t157 x64_2).f3) + (t156.size : Int)))))).cell? _ = some _ from hx169_2)); (try have hy169_3 := fun (n_ : Nat) => (show (((((((w30.drewN n_).setCell ⟨gb168, 0, none⟩ (.int .i64 ((rd_T30 t157 x64_2).f0))).setCell ⟨gb168, 1, none⟩ (.string ((rd_T30 t157 x64_2).f1))).setCell ⟨gb168, 2, none⟩ (.int .i64 ((rd_T30 t157 x64_2).f2))).setCell ⟨gb168, 3, none⟩ (.int .i64 ((rd_T30 t157 x64_2).f3))).setCell ⟨gb168, 3, none⟩ (.int .i64 (wrap64 (((rd_T30 t157 x64_2).f3) + (t156.size : Int)))))).cell? _ = some _ from hx169_3)); clear hn169_0; clear hn169_1; clear hn169_2; clear hn169_3; clear hn169_4; replace p169 := eq_true p169; replace q169 := eq_true q169)); try go_wp2_with (first | ((with_reducible refine gate_dst (N := 14) rfl ?_); (try (refine gate_guard (by rfl) ?_; dsimp only)); refine box_event ?hg (N := 14) ?hd (cs := #[.int .i64 0, .string (⟨#[]⟩ : ByteArray), .int .i64 0, .int .i64 0]) (t := 30) ?hr ?_; (case hd => rfl); (case hg => rfl); (case hr => first | (go_simp; done) | (go_simp; rfl)); intro gb168 hg w30 hbox hb; have n0_ := Aside0.mk (Kd.R_below (Kd.R_elderB (by (with_reducible repeat (first | apply Kd.R_alloc | apply Kd.R_drewN | apply Kd.R_drew)); exact HO_7.out) gb168 (Nat.le_of_eq hg.symm)) hb); have n1_ := Aside0.mk (Kd.R_below (Kd.R_elderB (by (with_reducible repeat (first | apply Kd.R_alloc | apply Kd.R_drewN | apply Kd.R_drew)); exact HO_10.out) gb168 (Nat.le_of_eq hg.symm)) hb); have n2_ := Aside0.mk (below_step (by repeat (first | (with_reducible first | exact HB.out | apply below_alloc | apply pw_below_drewN | apply below_drew1) | exact HB.out)) hb); have n3_ := Aside0.mk (hbox); have n4_ := Aside0.mk ((by rw [hg]; exact (below_size (by repeat (first | (with_reducible first | exact HB.out | apply below_alloc | apply pw_below_drewN | apply below_drew1) | exact HB.out))) : w.heap.size ≤ gb168)); have n5_ := Aside0.mk ((by rw [hg]; exact (below_size (by repeat (first | (with_reducible first | exact HB.out | apply below_alloc | apply pw_below_drewN | apply below_drew1) | exact HB.out))) : w.heap.size ≤ gb168)); clear HO_7; clear HO_10; clear HB; have HO_7 := n0_; have HO_10 := n1_; have HB := n2_; have BK168 := n3_; have GW168 := n4_; have GE168 := n5_; clear n0_ n1_ n2_ n3_ n4_ n5_; clear hb hbox hg; have hcz31_0 : w30.cell? ⟨gb168, 0, none⟩ = some (.int .i64 0) := (blk_cell BK168.out 0).trans rfl; have hcz31_1 : w30.cell? ⟨gb168, 1, none⟩ = some (.string (⟨#[]⟩ : ByteArray)) := (blk_cell BK168.out 1).trans rfl; have hcz31_2 : w30.cell? ⟨gb168, 2, none⟩ = some (.int .i64 0) := (blk_cell BK168.out 2).trans rfl; have hcz31_3 : w30.cell? ⟨gb168, 3, none⟩ = some (.int .i64 0) := (blk_cell BK168.out 3).trans rfl; have hfz31_0 := blk_frozen BK168.out 0; have hfz31_1 := blk_frozen BK168.out 1; have hfz31_2 := blk_frozen BK168.out 2; have hfz31_3 := blk_frozen BK168.out 3; obtain ⟨Ao32, co32, eo32⟩ := Kd.R_slice HO_10.out; subst eo32; have p169 : 0 ≤ (x64_2 : Int) := of_decide_eq_true (by first | (with_reducible assumption) | assumption); have q169 : x64_2 < (t162.length : Int) := of_decide_eq_true (by first | (with_reducible assumption) | assumption); obtain ⟨ad169, e169, hx169_0, hx169_1, hx169_2, hx169_3⟩ := at_T30 (Kd.R_reads' HO_10.out).2.2 x64_2 p169 q169; cases e169; have hn169_0 : ad169.block ≠ gb168 := (by first | exact Kd.own_blk (Kd.R_ne HO_10.out BK168.out (by decide)) | exact (HO_10.out.1 _ rfl).2); have hn169_1 : ad169.block ≠ gb168 := (by first | exact Kd.own_blk (Kd.R_ne HO_10.out BK168.out (by decide)) | exact (HO_10.out.1 _ rfl).2); have hn169_2 : ad169.block ≠ gb168 := (by first | exact Kd.own_blk (Kd.R_ne HO_10.out BK168.out (by decide)) | exact (HO_10.out.1 _ rfl).2); have hn169_3 : ad169.block ≠ gb168 := (by first | exact Kd.own_blk (Kd.R_ne HO_10.out BK168.out (by decide)) | exact (HO_10.out.1 _ rfl).2); have hn169_4 : ad169.block ≠ gb168 := (by first | exact Kd.own_blk (Kd.R_ne HO_10.out BK168.out (by decide)) | exact (HO_10.out.1 _ rfl).2); replace hx169_0 := (cell_far (p := ⟨gb168, 0, none⟩) (by first | (rw [add_block]; exact hn169_0) | (show (Addr.add _ _).block ≠ _; rw [add_block]; exact hn169_0) | exact hn169_0) (.int .i64 ((rd_T30 t157 x64_2).f0))).trans hx169_0; replace hx169_1 := (cell_far (p := ⟨gb168, 0, none⟩) (by first | (rw [add_block]; exact hn169_0) | (show (Addr.add _ _).block ≠ _; rw [add_block]; exact hn169_0) | exact hn169_0) (.int .i64 ((rd_T30 t157 x64_2).f0))).trans hx169_1; replace hx169_2 := (cell_far (p := ⟨gb168, 0, none⟩) (by first | (rw [add_block]; exact hn169_0) | (show (Addr.add _ _).block ≠ _; rw [add_block]; exact hn169_0) | exact hn169_0) (.int .i64 ((rd_T30 t157 x64_2).f0))).trans hx169_2; replace hx169_3 := (cell_far (p := ⟨gb168, 0, none⟩) (by first | (rw [add_block]; exact hn169_0) | (show (Addr.add _ _).block ≠ _; rw [add_block]; exact hn169_0) | exact hn169_0) (.int .i64 ((rd_T30 t157 x64_2).f0))).trans hx169_3; replace hx169_0 := (cell_far (p := ⟨gb168, 1, none⟩) (by first | (rw [add_block]; exact hn169_1) | (show (Addr.add _ _).block ≠ _; rw [add_block]; exact hn169_1) | exact hn169_1) (.string ((rd_T30 t157 x64_2).f1))).trans hx169_0; replace hx169_1 := (cell_far (p := ⟨gb168, 1, none⟩) (by first | (rw [add_block]; exact hn169_1) | (show (Addr.add _ _).block ≠ _; rw [add_block]; exact hn169_1) | exact hn169_1) (.string ((rd_T30 t157 x64_2).f1))).trans hx169_1; replace hx169_2 := (cell_far (p := ⟨gb168, 1, none⟩) (by first | (rw [add_block]; exact hn169_1) | (show (Addr.add _ _).block ≠ _; rw [add_block]; exact hn169_1) | exact hn169_1) (.string ((rd_T30 t157 x64_2).f1))).trans hx169_2; replace hx169_3 := (cell_far (p := ⟨gb168, 1, none⟩) (by first | (rw [add_block]; exact hn169_1) | (show (Addr.add _ _).block ≠ _; rw [add_block]; exact hn169_1) | exact hn169_1) (.string ((rd_T30 t157 x64_2).f1))).trans hx169_3; replace hx169_0 := (cell_far (p := ⟨gb168, 2, none⟩) (by first | (rw [add_block]; exact hn169_2) | (show (Addr.add _ _).block ≠ _; rw [add_block]; exact hn169_2) | exact hn169_2) (.int .i64 ((rd_T30 t157 x64_2).f2))).trans hx169_0; replace hx169_1 := (cell_far (p := ⟨gb168, 2, none⟩) (by first | (rw [add_block]; exact hn169_2) | (show (Addr.add _ _).block ≠ _; rw [add_block]; exact hn169_2) | exact hn169_2) (.int .i64 ((rd_T30 t157 x64_2).f2))).trans hx169_1; replace hx169_2 := (cell_far (p := ⟨gb168, 2, none⟩) (by first | (rw [add_block]; exact hn169_2) | (show (Addr.add _ _).block ≠ _; rw [add_block]; exact hn169_2) | exact hn169_2) (.int .i64 ((rd_T30 t157 x64_2).f2))).trans hx169_2; replace hx169_3 := (cell_far (p := ⟨gb168, 2, none⟩) (by first | (rw [add_block]; exact hn169_2) | (show (Addr.add _ _).block ≠ _; rw [add_block]; exact hn169_2) | exact hn169_2) (.int .i64 ((rd_T30 t157 x64_2).f2))).trans hx169_3; replace hx169_0 := (cell_far (p := ⟨gb168, 3, none⟩) (by first | (rw [add_block]; exact hn169_3) | (show (Addr.add _ _).block ≠ _; rw [add_block]; exact hn169_3) | exact hn169_3) (.int .i64 ((rd_T30 t157 x64_2).f3))).trans hx169_0; replace hx169_1 := (cell_far (p := ⟨gb168, 3, none⟩) (by first | (rw [add_block]; exact hn169_3) | (show (Addr.add _ _).block ≠ _; rw [add_block]; exact hn169_3) | exact hn169_3) (.int .i64 ((rd_T30 t157 x64_2).f3))).trans hx169_1; replace hx169_2 := (cell_far (p := ⟨gb168, 3, none⟩) (by first | (rw [add_block]; exact hn169_3) | (show (Addr.add _ _).block ≠ _; rw [add_block]; exact hn169_3) | exact hn169_3) (.int .i64 ((rd_T30 t157 x64_2).f3))).trans hx169_2; replace hx169_3 := (cell_far (p := ⟨gb168, 3, none⟩) (by first | (rw [add_block]; exact hn169_3) | (show (Addr.add _ _).block ≠ _; rw [add_block]; exact hn169_3) | exact hn169_3) (.int .i64 ((rd_T30 t157 x64_2).f3))).trans hx169_3; replace hx169_0 := (cell_far (p := ⟨gb168, 3, none⟩) (by first | (rw [add_block]; exact hn169_4) | (show (Addr.add _ _).block ≠ _; rw [add_block]; exact hn169_4) | exact hn169_4) (.int .i64 (wrap64 (((rd_T30 t157 x64_2).f3) + (t156.size : Int))))).trans hx169_0; replace hx169_1 := (cell_far (p := ⟨gb168, 3, none⟩) (by first | (rw [add_block]; exact hn169_4) | (show (Addr.add _ _).block ≠ _; rw [add_block]; exact hn169_4) | exact hn169_4) (.int .i64 (wrap64 (((rd_T30 t157 x64_2).f3) + (t156.size : Int))))).trans hx169_1; replace hx169_2 := (cell_far (p := ⟨gb168, 3, none⟩) (by first | (rw [add_block]; exact hn169_4) | (show (Addr.add _ _).block ≠ _; rw [add_block]; exact hn169_4) | exact hn169_4) (.int .i64 (wrap64 (((rd_T30 t157 x64_2).f3) + (t156.size : Int))))).trans hx169_2; replace hx169_3 := (cell_far (p := ⟨gb168, 3, none⟩) (by first | (rw [add_block]; exact hn169_4) | (show (Addr.add _ _).block ≠ _; rw [add_block]; exact hn169_4) | exact hn169_4) (.int .i64 (wrap64 (((rd_T30 t157 x64_2).f3) + (t156.size : Int))))).trans hx169_3; (try have hy169_0 := fun (n_ : Nat) => (show (((((((w30.drewN n_).setCell ⟨gb168, 0, none⟩ (.int .i64 ((rd_T30 t157 x64_2).f0))).setCell ⟨gb168, 1, none⟩ (.string ((rd_T30 t157 x64_2).f1))).setCell ⟨gb168, 2, none⟩ (.int .i64 ((rd_T30 t157 x64_2).f2))).setCell ⟨gb168, 3, none⟩ (.int .i64 ((rd_T30 t157 x64_2).f3))).setCell ⟨gb168, 3, none⟩ (.int .i64 (wrap64 (((rd_T30 t157 x64_2).f3) + (t156.size : Int)))))).cell? _ = some _ from hx169_0)); (try have hy169_1 := fun (n_ : Nat) => (show (((((((w30.drewN n_).setCell ⟨gb168, 0, none⟩ (.int .i64 ((rd_T30 t157 x64_2).f0))).setCell ⟨gb168, 1, none⟩ (.string ((rd_T30 t157 x64_2).f1))).setCell ⟨gb168, 2, none⟩ (.int .i64 ((rd_T30 t157 x64_2).f2))).setCell ⟨gb168, 3, none⟩ (.int .i64 ((rd_T30 t157 x64_2).f3))).setCell ⟨gb168, 3, none⟩ (.int .i64 (wrap64 (((rd_T30 t157 x64_2).f3) + (t156.size : Int)))))).cell? _ = some _ from hx169_1)); (try have hy169_2 := fun (n_ : Nat) => (show (((((((w30.drewN n_).setCell ⟨gb168, 0, none⟩ (.int .i64 ((rd_T30 t157 x64_2).f0))).setCell ⟨gb168, 1, none⟩ (.string ((rd_T30 t157 x64_2).f1))).setCell ⟨gb168, 2, none⟩ (.int .i64 ((rd_T30 t157 x64_2).f2))).setCell ⟨gb168, 3, none⟩ (.int .i64 ((rd_T30 t157 x64_2).f3))).setCell ⟨gb168, 3, none⟩ (.int .i64 (wrap64 (((rd_T30 t157 x64_2).f3) + (t156.size : Int)))))).cell? _ = some _ from hx169_2)); (try have hy169_3 := fun (n_ : Nat) => (show (((((((w30.drewN n_).setCell ⟨gb168, 0, none⟩ (.int .i64 ((rd_T30 t157 x64_2).f0))).setCell ⟨gb168, 1, none⟩ (.string ((rd_T30 t157 x64_2).f1))).setCell ⟨gb168, 2, none⟩ (.int .i64 ((rd_T30 t157 x64_2).f2))).setCell ⟨gb168, 3, none⟩ (.int .i64 ((rd_T30 t157 x64_2).f3))).setCell ⟨gb168, 3, none⟩ (.int .i64 (wrap64 (((rd_T30 t157 x64_2).f3) + (t156.size : Int)))))).cell? _ = some _ from hx169_3)); clear hn169_0; clear hn169_1; clear hn169_2; clear hn169_3; clear hn169_4; replace p169 := eq_true p169; replace q169 := eq_true q169)))
                          go_roundg k2
                          case measure => have := HJ9.out; have := HK2.out; omega
                          case rel => exact ⟨(wrap64 (x64_2 + 1)), (by first | rfl | (simp; done) | (simp [*]; done) | (simp; first | exact Go.Proofs.YtffaibjiiiochaaDoor.Pre.ne1 _ | exact Go.Proofs.YtffaibjiiiochaaDoor.Pre.ne2 _ | exact Go.Proofs.YtffaibjiiiochaaDoor.Pre.ne3 _ | exact Go.Proofs.YtffaibjiiiochaaDoor.Pre.ne4 _ | exact Go.Proofs.YtffaibjiiiochaaDoor.Pre.ne5 _ | exact Go.Proofs.YtffaibjiiiochaaDoor.Pre.ne6 _)), H', ⟨by have := HJ9.out; have := HK2.out; omega⟩, ⟨by (with_reducible repeat (first | apply Kd.R_alloc | apply Kd.R_drewN | apply Kd.R_drew)); exact Kd.R_mono (Kd.R_far (p := ⟨gb168, 3, none⟩) (Kd.R_far (p := ⟨gb168, 3, none⟩) (Kd.R_far (p := ⟨gb168, 2, none⟩) (Kd.R_far (p := ⟨gb168, 1, none⟩) (Kd.R_far (p := ⟨gb168, 0, none⟩) (Kd.R_mono HO_7.out (fun k_ hk => (⟨hk, hk.2⟩ : _ ∧ k_ ≠ gb168))) (fun _ hk => hk.2) (.int .i64 ((rd_T30 t157 x64_2).f0))) (fun _ hk => hk.2) (.string ((rd_T30 t157 x64_2).f1))) (fun _ hk => hk.2) (.int .i64 ((rd_T30 t157 x64_2).f2))) (fun _ hk => hk.2) (.int .i64 ((rd_T30 t157 x64_2).f3))) (fun _ hk => hk.2) (.int .i64 (wrap64 (((rd_T30 t157 x64_2).f3) + (t156.size : Int))))) (fun _ hk => hk.1.1)⟩, ⟨by (with_reducible repeat (first | apply Kd.R_alloc | apply Kd.R_drewN | apply Kd.R_drew)); exact Kd.R_mono (Kd.R_far (p := ⟨gb168, 3, none⟩) (Kd.R_far (p := ⟨gb168, 3, none⟩) (Kd.R_far (p := ⟨gb168, 2, none⟩) (Kd.R_far (p := ⟨gb168, 1, none⟩) (Kd.R_far (p := ⟨gb168, 0, none⟩) (Kd.R_mono HO_10.out (fun k_ hk => (⟨hk, hk.2⟩ : _ ∧ k_ ≠ gb168))) (fun _ hk => hk.2) (.int .i64 ((rd_T30 t157 x64_2).f0))) (fun _ hk => hk.2) (.string ((rd_T30 t157 x64_2).f1))) (fun _ hk => hk.2) (.int .i64 ((rd_T30 t157 x64_2).f2))) (fun _ hk => hk.2) (.int .i64 ((rd_T30 t157 x64_2).f3))) (fun _ hk => hk.2) (.int .i64 (wrap64 (((rd_T30 t157 x64_2).f3) + (t156.size : Int))))) (fun _ hk => hk.1.1)⟩, ⟨by repeat (first | (with_reducible first | exact HB.out | apply below_alloc | apply pw_below_drewN | apply below_drew1 | refine below_set ?_ GE168.out) | exact HB.out)⟩⟩
                      · rw [if_neg c28] at H
                        exact absurd H (by simp)
                    · rw [if_neg c27] at H
                      exact absurd H (by simp)
                  · rw [if_neg c26] at H
                    exact absurd H (by simp)
                · rw [if_neg c25] at H
                  have c25b0 : decide (x64_2 < (t157.length : Int)) = false := decide_eq_false c25
                  clear c25
                  obtain rfl := Option.some.inj H
                  go_wp2
                  repeat (go_quiet (fail); try go_wp2)
                  go_ret
                  exact ⟨by first | rfl | (simp [errW_none, errW_some] <;> rfl) | (simp [*, errW_none, errW_some] <;> rfl), by repeat (first | (with_reducible first | exact HB.out | apply below_alloc | apply pw_below_drewN | apply below_drew1) | exact HB.out)⟩
    · rw [if_neg c8] at H
      exact absurd H (by simp)



end Go.Proofs.YtffaibjiiiochaaDoor.QTB
