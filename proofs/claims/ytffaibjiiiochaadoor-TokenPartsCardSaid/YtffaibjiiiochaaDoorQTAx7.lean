-- printed by our own turn of the print (wip/pr)
import Derived.Test.YtffaibjiiiochaaDoorQTAx0
import Derived.Test.YtffaibjiiiochaaDoorQTAx1
import Derived.Test.YtffaibjiiiochaaDoorQTAx2
import Derived.Test.YtffaibjiiiochaaDoorQTAx5
namespace Go.Proofs.YtffaibjiiiochaaDoor.QTA
open Go.RowKit Go.Proofs.YtffaibjiiiochaaDoorW.PrintWords Go.Proofs.YtffaibjiiiochaaDoorW.PrintLast Go.Proofs.YtffaibjiiiochaaDoorW.PrintMore
attribute [local go_sem] max2_int min2_int max_two min_two max_three min_three max_four min_four   -- for this text's walks alone
set_option linter.unusedVariables false
set_option linter.unusedSimpArgs false

attribute [local go_sem high] eqA30
/-! ### boscagelaw06_TokenParts: function 5 -/
mutual
def boscagelaw06_TokenParts.j0 : Nat → ByteArray → Int → Bool → List (S30) → Bool → Option (Bool)
  | 0, _, _, _, _, _ => none
  | k + 1, x0, x1, x5, x6, x47 => if x47 = true then (some false) else (boscagelaw06_TokenParts.l0 k x0 x1 x5 x6 1)
def boscagelaw06_TokenParts.l0 : Nat → ByteArray → Int → Bool → List (S30) → Int → Option (Bool)
  | 0, _, _, _, _, _ => none
  | k + 1, x0, x1, x5, x6, x9 => if x9 < (x6.length : Int) then (if 0 ≤ (wrap64 (x9 - 1)) then (if (wrap64 (x9 - 1)) < (x6.length : Int) then (if 0 ≤ x9 then (if ((rd_T30 x6 (wrap64 (x9 - 1))).f3) ≥ ((rd_T30 x6 x9).f3) then (some false) else (boscagelaw06_TokenParts.l0 k x0 x1 x5 x6 (wrap64 (x9 + 1)))) else (none)) else (none)) else (none)) else (if (x6.length : Int) = 0 then (none) else (if 0 ≤ (Int.tmod (wrap64 ((Int.tmod x1 (x6.length : Int)) + (x6.length : Int))) (x6.length : Int)) then (if (Int.tmod (wrap64 ((Int.tmod x1 (x6.length : Int)) + (x6.length : Int))) (x6.length : Int)) < (x6.length : Int) then (if ((rd_T30 x6 (Int.tmod (wrap64 ((Int.tmod x1 (x6.length : Int)) + (x6.length : Int))) (x6.length : Int))).f3) < 0 then (boscagelaw06_TokenParts.j2 k x0 x5 x6 (Int.tmod (wrap64 ((Int.tmod x1 (x6.length : Int)) + (x6.length : Int))) (x6.length : Int)) ((rd_T30 x6 (Int.tmod (wrap64 ((Int.tmod x1 (x6.length : Int)) + (x6.length : Int))) (x6.length : Int))).f3) true) else (boscagelaw06_TokenParts.j2 k x0 x5 x6 (Int.tmod (wrap64 ((Int.tmod x1 (x6.length : Int)) + (x6.length : Int))) (x6.length : Int)) ((rd_T30 x6 (Int.tmod (wrap64 ((Int.tmod x1 (x6.length : Int)) + (x6.length : Int))) (x6.length : Int))).f3) (decide (((rd_T30 x6 (Int.tmod (wrap64 ((Int.tmod x1 (x6.length : Int)) + (x6.length : Int))) (x6.length : Int))).f3) > (x0.size : Int))))) else (none)) else (none)))
def boscagelaw06_TokenParts.j2 : Nat → ByteArray → Bool → List (S30) → Int → Int → Bool → Option (Bool)
  | 0, _, _, _, _, _, _ => none
  | k + 1, x0, x5, x6, x10, x11, x88 => if x88 = true then (some false) else (if 0 ≤ x11 then (if x11 ≤ (x0.size : Int) then ((token_Cut.f (x0.extract (x11 : Int).toNat x0.size)).bind fun bt281 => (if 0 ≤ x10 then (if x10 ≤ (x6.length : Int) then ((some (x6.drop (x10 : Int).toNat : List (S30))).bind fun y286 => (boscagelaw06_TokenParts.l1 k x5 x11 bt281.1 bt281.2.2 ([] : List (S30)) y286 (y286.length : Int) 0)) else (none)) else (none))) else (none)) else (none))
def boscagelaw06_TokenParts.l1 : Nat → Bool → Int → List (S30) → Int → List (S30) → List (S30) → Int → Int → Option (Bool)
  | 0, _, _, _, _, _, _, _, _ => none
  | k + 1, x5, x11, x12, x14, x15, x99, x100, x101 => if x101 < x100 then (if 0 ≤ x101 then (if x101 < (x99.length : Int) then (if x15.length < 3518437208883 then (boscagelaw06_TokenParts.l1 k x5 x11 x12 x14 (x15 ++ [(⟨(rd_T30 x99 x101).f0, (rd_T30 x99 x101).f1, (rd_T30 x99 x101).f2, wrap64 (((rd_T30 x99 x101).f3) - x11)⟩ : S30)]) x99 x100 (wrap64 (x101 + 1))) else (none)) else (none)) else (none)) else (if x5 = true then (if x14 = 0 then ((boscageref06_Same.f k x12 x15).bind fun t295 => (some t295)) else (some false)) else (some false))
end
def boscagelaw06_TokenParts.f (k : Nat) (a0 : ByteArray) (a1 : Int) : Option (Bool) := (boscagelaw06_live.f k).bind fun t271 => ((token_Cut.f a0).bind fun bt272 => (if bt272.2.2 = 0 then (if (bt272.1.length : Int) = 0 then (boscagelaw06_TokenParts.j0 k a0 a1 t271 bt272.1 true) else (if 0 ≤ (wrap64 ((bt272.1.length : Int) - 1)) then (if (wrap64 ((bt272.1.length : Int) - 1)) < (bt272.1.length : Int) then (boscagelaw06_TokenParts.j0 k a0 a1 t271 bt272.1 (!(((rd_T30 bt272.1 (wrap64 ((bt272.1.length : Int) - 1))).f0) == 6) || (!((((rd_T30 bt272.1 (wrap64 ((bt272.1.length : Int) - 1))).f1).toList) == ([] : List UInt8)) || (!(((rd_T30 bt272.1 (wrap64 ((bt272.1.length : Int) - 1))).f2) == 0) || (!(((rd_T30 bt272.1 (wrap64 ((bt272.1.length : Int) - 1))).f3) == (a0.size : Int))))))) else (none)) else (none))) else (if t271 = true then (some ((bt272.1.length : Int) == 0)) else (some false))))
theorem boscagelaw06_TokenParts.mono_l : ∀ k, (∀ y0 y1 y2 y3 y4, LeO (boscagelaw06_TokenParts.j0 k y0 y1 y2 y3 y4) (boscagelaw06_TokenParts.j0 (k + 1) y0 y1 y2 y3 y4)) ∧ (∀ y0 y1 y2 y3 y4, LeO (boscagelaw06_TokenParts.l0 k y0 y1 y2 y3 y4) (boscagelaw06_TokenParts.l0 (k + 1) y0 y1 y2 y3 y4)) ∧ (∀ y0 y1 y2 y3 y4 y5, LeO (boscagelaw06_TokenParts.j2 k y0 y1 y2 y3 y4 y5) (boscagelaw06_TokenParts.j2 (k + 1) y0 y1 y2 y3 y4 y5)) ∧ (∀ y0 y1 y2 y3 y4 y5 y6 y7, LeO (boscagelaw06_TokenParts.l1 k y0 y1 y2 y3 y4 y5 y6 y7) (boscagelaw06_TokenParts.l1 (k + 1) y0 y1 y2 y3 y4 y5 y6 y7))
  | 0 => ⟨fun _ _ _ _ _ r h => by simp [boscagelaw06_TokenParts.j0] at h, fun _ _ _ _ _ r h => by simp [boscagelaw06_TokenParts.l0] at h, fun _ _ _ _ _ _ r h => by simp [boscagelaw06_TokenParts.j2] at h, fun _ _ _ _ _ _ _ _ r h => by simp [boscagelaw06_TokenParts.l1] at h⟩
  | k + 1 => by
    obtain ⟨ih0, ih1, ih2, ih3⟩ := boscagelaw06_TokenParts.mono_l k
    refine ⟨?_, ?_, ?_, ?_⟩
    · intro y0 y1 y2 y3 y4
      unfold boscagelaw06_TokenParts.j0
      repeat' first
      | (with_reducible exact ih0 _ _ _ _ _)
      | (with_reducible exact ih1 _ _ _ _ _)
      | (with_reducible exact ih2 _ _ _ _ _ _)
      | (with_reducible exact ih3 _ _ _ _ _ _ _ _)
      | (with_reducible exact boscagelaw06_live.mono _)
      | (with_reducible exact boscageref06_Same.mono _ _ _)
      | (with_reducible exact LeO.refl _)
      | (with_reducible exact LeO.none _)
      | (with_reducible refine LeO.ite ?_ ?_)
      | (with_reducible refine LeO.bind ?_ (fun _ => ?_))
      | exact ih0 _ _ _ _ _
      | exact ih1 _ _ _ _ _
      | exact ih2 _ _ _ _ _ _
      | exact ih3 _ _ _ _ _ _ _ _
      | exact boscagelaw06_live.mono _
      | exact boscageref06_Same.mono _ _ _
      | exact LeO.none _
      | refine LeO.ite ?_ ?_
      | refine LeO.bind ?_ (fun _ => ?_)
    · intro y0 y1 y2 y3 y4
      unfold boscagelaw06_TokenParts.l0
      repeat' first
      | (with_reducible exact ih0 _ _ _ _ _)
      | (with_reducible exact ih1 _ _ _ _ _)
      | (with_reducible exact ih2 _ _ _ _ _ _)
      | (with_reducible exact ih3 _ _ _ _ _ _ _ _)
      | (with_reducible exact boscagelaw06_live.mono _)
      | (with_reducible exact boscageref06_Same.mono _ _ _)
      | (with_reducible exact LeO.refl _)
      | (with_reducible exact LeO.none _)
      | (with_reducible refine LeO.ite ?_ ?_)
      | (with_reducible refine LeO.bind ?_ (fun _ => ?_))
      | exact ih0 _ _ _ _ _
      | exact ih1 _ _ _ _ _
      | exact ih2 _ _ _ _ _ _
      | exact ih3 _ _ _ _ _ _ _ _
      | exact boscagelaw06_live.mono _
      | exact boscageref06_Same.mono _ _ _
      | exact LeO.none _
      | refine LeO.ite ?_ ?_
      | refine LeO.bind ?_ (fun _ => ?_)
    · intro y0 y1 y2 y3 y4 y5
      unfold boscagelaw06_TokenParts.j2
      repeat' first
      | (with_reducible exact ih0 _ _ _ _ _)
      | (with_reducible exact ih1 _ _ _ _ _)
      | (with_reducible exact ih2 _ _ _ _ _ _)
      | (with_reducible exact ih3 _ _ _ _ _ _ _ _)
      | (with_reducible exact boscagelaw06_live.mono _)
      | (with_reducible exact boscageref06_Same.mono _ _ _)
      | (with_reducible exact LeO.refl _)
      | (with_reducible exact LeO.none _)
      | (with_reducible refine LeO.ite ?_ ?_)
      | (with_reducible refine LeO.bind ?_ (fun _ => ?_))
      | exact ih0 _ _ _ _ _
      | exact ih1 _ _ _ _ _
      | exact ih2 _ _ _ _ _ _
      | exact ih3 _ _ _ _ _ _ _ _
      | exact boscagelaw06_live.mono _
      | exact boscageref06_Same.mono _ _ _
      | exact LeO.none _
      | refine LeO.ite ?_ ?_
      | refine LeO.bind ?_ (fun _ => ?_)
    · intro y0 y1 y2 y3 y4 y5 y6 y7
      unfold boscagelaw06_TokenParts.l1
      repeat' first
      | (with_reducible exact ih0 _ _ _ _ _)
      | (with_reducible exact ih1 _ _ _ _ _)
      | (with_reducible exact ih2 _ _ _ _ _ _)
      | (with_reducible exact ih3 _ _ _ _ _ _ _ _)
      | (with_reducible exact boscagelaw06_live.mono _)
      | (with_reducible exact boscageref06_Same.mono _ _ _)
      | (with_reducible exact LeO.refl _)
      | (with_reducible exact LeO.none _)
      | (with_reducible refine LeO.ite ?_ ?_)
      | (with_reducible refine LeO.bind ?_ (fun _ => ?_))
      | exact ih0 _ _ _ _ _
      | exact ih1 _ _ _ _ _
      | exact ih2 _ _ _ _ _ _
      | exact ih3 _ _ _ _ _ _ _ _
      | exact boscagelaw06_live.mono _
      | exact boscageref06_Same.mono _ _ _
      | exact LeO.none _
      | refine LeO.ite ?_ ?_
      | refine LeO.bind ?_ (fun _ => ?_)
theorem boscagelaw06_TokenParts.mono : ∀ a0 a1 k, LeO (boscagelaw06_TokenParts.f k a0 a1) (boscagelaw06_TokenParts.f (k + 1) a0 a1) := by
  intro a0 a1 k
  obtain ⟨ih0, ih1, ih2, ih3⟩ := boscagelaw06_TokenParts.mono_l k
  unfold boscagelaw06_TokenParts.f
  repeat' first
      | (with_reducible exact ih0 _ _ _ _ _)
      | (with_reducible exact ih1 _ _ _ _ _)
      | (with_reducible exact ih2 _ _ _ _ _ _)
      | (with_reducible exact ih3 _ _ _ _ _ _ _ _)
      | (with_reducible exact boscagelaw06_live.mono _)
      | (with_reducible exact boscageref06_Same.mono _ _ _)
      | (with_reducible exact LeO.refl _)
      | (with_reducible exact LeO.none _)
      | (with_reducible refine LeO.ite ?_ ?_)
      | (with_reducible refine LeO.bind ?_ (fun _ => ?_))
      | exact ih0 _ _ _ _ _
      | exact ih1 _ _ _ _ _
      | exact ih2 _ _ _ _ _ _
      | exact ih3 _ _ _ _ _ _ _ _
      | exact boscagelaw06_live.mono _
      | exact boscageref06_Same.mono _ _ _
      | exact LeO.none _
      | refine LeO.ite ?_ ?_
      | refine LeO.bind ?_ (fun _ => ?_)
set_option maxHeartbeats 8000000 in
set_option maxRecDepth 100000 in
theorem boscagelaw06_TokenParts.calls (k : Nat) (a0 : ByteArray) (a1 : Int) (r : Bool) (w : World) (h : boscagelaw06_TokenParts.f k a0 a1 = some r) (hrt : r = true) (hok : Ct.OkW w := by first | assumption | exact Ct.OkW.below hok (by repeat (first | (with_reducible first | exact HB.out | apply below_alloc | apply pw_below_drewN | apply below_drew1) | exact HB.out | refine below_set ?_ (Aside0.out (by assumption))))) :
    Calls Tryd.prog 5 #[.string a0, .int .i64 a1] w fun e w' => e = .returned (.bool r) ∧ Below w.heap.size w w' := by
  have hu30 := Tryd.underlying30
  have HB := Aside0.mk (Below.refl w.heap.size w)
  have HRT := Aside0.mk hrt
  clear hrt
  have H : ((boscagelaw06_live.f k).bind fun t271 => ((token_Cut.f a0).bind fun bt272 => (if bt272.2.2 = 0 then (if (bt272.1.length : Int) = 0 then (boscagelaw06_TokenParts.j0 k a0 a1 t271 bt272.1 true) else (if 0 ≤ (wrap64 ((bt272.1.length : Int) - 1)) then (if (wrap64 ((bt272.1.length : Int) - 1)) < (bt272.1.length : Int) then (boscagelaw06_TokenParts.j0 k a0 a1 t271 bt272.1 (!(((rd_T30 bt272.1 (wrap64 ((bt272.1.length : Int) - 1))).f0) == 6) || (!((((rd_T30 bt272.1 (wrap64 ((bt272.1.length : Int) - 1))).f1).toList) == ([] : List UInt8)) || (!(((rd_T30 bt272.1 (wrap64 ((bt272.1.length : Int) - 1))).f2) == 0) || (!(((rd_T30 bt272.1 (wrap64 ((bt272.1.length : Int) - 1))).f3) == (a0.size : Int))))))) else (none)) else (none))) else (if t271 = true then (some ((bt272.1.length : Int) == 0)) else (some false))))) = some r := h
  clear h
  replace H := Option.bind_eq_some_iff.mp H
  obtain ⟨t271, A30, H⟩ := H
  replace H : ((token_Cut.f a0).bind fun bt272 => (if bt272.2.2 = 0 then (if (bt272.1.length : Int) = 0 then (boscagelaw06_TokenParts.j0 k a0 a1 t271 bt272.1 true) else (if 0 ≤ (wrap64 ((bt272.1.length : Int) - 1)) then (if (wrap64 ((bt272.1.length : Int) - 1)) < (bt272.1.length : Int) then (boscagelaw06_TokenParts.j0 k a0 a1 t271 bt272.1 (!(((rd_T30 bt272.1 (wrap64 ((bt272.1.length : Int) - 1))).f0) == 6) || (!((((rd_T30 bt272.1 (wrap64 ((bt272.1.length : Int) - 1))).f1).toList) == ([] : List UInt8)) || (!(((rd_T30 bt272.1 (wrap64 ((bt272.1.length : Int) - 1))).f2) == 0) || (!(((rd_T30 bt272.1 (wrap64 ((bt272.1.length : Int) - 1))).f3) == (a0.size : Int))))))) else (none)) else (none))) else (if t271 = true then (some ((bt272.1.length : Int) == 0)) else (some false)))) = some r := H
  have A3 := Aside0.mk A30
  clear A30
  replace H := Option.bind_eq_some_iff.mp H
  obtain ⟨⟨t272, t273, t274⟩, A40, H⟩ := H
  replace H : (if t274 = 0 then (if (t272.length : Int) = 0 then (boscagelaw06_TokenParts.j0 k a0 a1 t271 t272 true) else (if 0 ≤ (wrap64 ((t272.length : Int) - 1)) then (if (wrap64 ((t272.length : Int) - 1)) < (t272.length : Int) then (boscagelaw06_TokenParts.j0 k a0 a1 t271 t272 (!(((rd_T30 t272 (wrap64 ((t272.length : Int) - 1))).f0) == 6) || (!((((rd_T30 t272 (wrap64 ((t272.length : Int) - 1))).f1).toList) == ([] : List UInt8)) || (!(((rd_T30 t272 (wrap64 ((t272.length : Int) - 1))).f2) == 0) || (!(((rd_T30 t272 (wrap64 ((t272.length : Int) - 1))).f3) == (a0.size : Int))))))) else (none)) else (none))) else (if t271 = true then (some ((t272.length : Int) == 0)) else (some false))) = some r := H
  have A4 := Aside0.mk A40
  clear A40
  by_cases c5 : t274 = 0
  · rw [if_pos c5] at H
    have c5b0 : (t274 == 0) = true := beq_iff_eq.mpr c5
    have c5b1 : (t274 != 0) = false := bne_eq_false_iff_eq.mpr c5
    clear c5
    have HC6 := Aside0.mk H
    clear H
    go_enter Tryd.func5, Tryd.ntmps5
    go_upto_region 5 with (first | (go_at_call 9; (with_reducible refine (boscagelaw06_live.calls k  t271 _ A3.out).mono ?_); rintro e w7 ⟨rfl, hb⟩; have n0_ := Aside0.mk (below_step (by repeat (first | (with_reducible first | exact HB.out | apply below_alloc | apply pw_below_drewN | apply below_drew1) | exact HB.out)) hb); clear HB; have HB := n0_; clear n0_; (try clear hb); (try clear hb2); (try clear hk); (try clear hi)) | (go_at_call 10; (with_reducible refine (token_Cut.calls a0 t272 t273 t274 _ A4.out).mono ?_); rintro e w8 ⟨v275, rfl, ho0, hb⟩; have n0_ := Aside0.mk (Kd.R_lower ho0 (below_size (by repeat (first | (with_reducible first | exact HB.out | apply below_alloc | apply pw_below_drewN | apply below_drew1) | exact HB.out)))); have n1_ := Aside0.mk (below_step (by repeat (first | (with_reducible first | exact HB.out | apply below_alloc | apply pw_below_drewN | apply below_drew1) | exact HB.out)) hb); clear HB; have HO276 := n0_; have HB := n1_; clear n0_ n1_; (try clear hb); (try clear hb2); (try clear hk); (try clear hi); (try clear ho0)))
    repeat (go_quiet (first | (go_at_call 9; (with_reducible refine (boscagelaw06_live.calls k  t271 _ A3.out).mono ?_); rintro e w7 ⟨rfl, hb⟩; have n0_ := Aside0.mk (below_step (by repeat (first | (with_reducible first | exact HB.out | apply below_alloc | apply pw_below_drewN | apply below_drew1) | exact HB.out)) hb); clear HB; have HB := n0_; clear n0_; (try clear hb); (try clear hb2); (try clear hk); (try clear hi)) | (go_at_call 10; (with_reducible refine (token_Cut.calls a0 t272 t273 t274 _ A4.out).mono ?_); rintro e w8 ⟨v275, rfl, ho0, hb⟩; have n0_ := Aside0.mk (Kd.R_lower ho0 (below_size (by repeat (first | (with_reducible first | exact HB.out | apply below_alloc | apply pw_below_drewN | apply below_drew1) | exact HB.out)))); have n1_ := Aside0.mk (below_step (by repeat (first | (with_reducible first | exact HB.out | apply below_alloc | apply pw_below_drewN | apply below_drew1) | exact HB.out)) hb); clear HB; have HO276 := n0_; have HB := n1_; clear n0_ n1_; (try clear hb); (try clear hb2); (try clear hk); (try clear hi); (try clear ho0))); go_upto_region 5 with (first | (go_at_call 9; (with_reducible refine (boscagelaw06_live.calls k  t271 _ A3.out).mono ?_); rintro e w7 ⟨rfl, hb⟩; have n0_ := Aside0.mk (below_step (by repeat (first | (with_reducible first | exact HB.out | apply below_alloc | apply pw_below_drewN | apply below_drew1) | exact HB.out)) hb); clear HB; have HB := n0_; clear n0_; (try clear hb); (try clear hb2); (try clear hk); (try clear hi)) | (go_at_call 10; (with_reducible refine (token_Cut.calls a0 t272 t273 t274 _ A4.out).mono ?_); rintro e w8 ⟨v275, rfl, ho0, hb⟩; have n0_ := Aside0.mk (Kd.R_lower ho0 (below_size (by repeat (first | (with_reducible first | exact HB.out | apply below_alloc | apply pw_below_drewN | apply below_drew1) | exact HB.out)))); have n1_ := Aside0.mk (below_step (by repeat (first | (with_reducible first | exact HB.out | apply below_alloc | apply pw_below_drewN | apply below_drew1) | exact HB.out)) hb); clear HB; have HO276 := n0_; have HB := n1_; clear n0_ n1_; (try clear hb); (try clear hb2); (try clear hk); (try clear hi); (try clear ho0))))
    (try simp only [Act.put, List.setIfInBounds_toArray, List.set_cons_zero, List.set_cons_succ])
    go_cut [47] (fun v47 wc => ∃ (kq : Nat) (x47_5 : Bool), v47 = .bool x47_5 ∧ Aside0 (boscagelaw06_TokenParts.j0 kq a0 a1 t271 t272 x47_5 = some r) ∧ Aside0 (kq ≤ k) ∧ Aside0 (Kd.R k30 30 wc w.heap.size (fun _ => True) v275 t272) ∧ Aside0 (Below w.heap.size w wc))
    case first =>
      have H := HC6.out
      clear HC6
      by_cases c9 : (t272.length : Int) = 0
      · rw [if_pos c9] at H
        have c9b0 : ((t272.length : Int) == 0) = true := beq_iff_eq.mpr c9
        have c9b1 : ((t272.length : Int) != 0) = false := bne_eq_false_iff_eq.mpr c9
        clear c9
        (first | rw [c9b0] | (simp only [i64_w, i32_w]; rw [c9b0]) | skip)
        have H' := Aside0.mk H
        clear H
        obtain ⟨Ao10, co10, eo10⟩ := Kd.R_slice HO276.out
        subst eo10
        go_wp2
        repeat (go_quiet (fail); try go_wp2)
        go_meet
        case rel => exact ⟨_, (true), (by first | rfl | (simp; done) | (simp [*]; done) | (simp; first | exact Go.Proofs.YtffaibjiiiochaaDoor.Pre.ne1 _ | exact Go.Proofs.YtffaibjiiiochaaDoor.Pre.ne2 _ | exact Go.Proofs.YtffaibjiiiochaaDoor.Pre.ne3 _ | exact Go.Proofs.YtffaibjiiiochaaDoor.Pre.ne4 _ | exact Go.Proofs.YtffaibjiiiochaaDoor.Pre.ne5 _ | exact Go.Proofs.YtffaibjiiiochaaDoor.Pre.ne6 _)), H', ⟨by first | omega | exact Nat.le_refl _⟩, ⟨by (with_reducible repeat (first | apply Kd.R_alloc | apply Kd.R_drewN | apply Kd.R_drew)); exact HO276.out⟩, ⟨by repeat (first | (with_reducible first | exact HB.out | apply below_alloc | apply pw_below_drewN | apply below_drew1) | exact HB.out)⟩⟩
      · rw [if_neg c9] at H
        have c9b0 : ((t272.length : Int) == 0) = false := beq_eq_false_iff_ne.mpr c9
        have c9b1 : ((t272.length : Int) != 0) = true := bne_iff_ne.mpr c9
        have c9b2 : ¬ (t272 = []) := fun h_ => c9 (by rw [h_]; rfl)
        (first | rw [c9b0] | (simp only [i64_w, i32_w]; rw [c9b0]) | skip)
        obtain ⟨ji11, hji11⟩ : ∃ j_ : Int, (wrap64 ((t272.length : Int) - 1)) = j_ := ⟨_, rfl⟩
        replace H : (if 0 ≤ (ji11) then (if (ji11) < (t272.length : Int) then (boscagelaw06_TokenParts.j0 k a0 a1 t271 t272 (!(((rd_T30 t272 (ji11)).f0) == 6) || (!((((rd_T30 t272 (ji11)).f1).toList) == ([] : List UInt8)) || (!(((rd_T30 t272 (ji11)).f2) == 0) || (!(((rd_T30 t272 (ji11)).f3) == (a0.size : Int))))))) else (none)) else (none)) = some r := by first | (rw [hji11] at H; exact H) | (simp only [hji11] at H ⊢; exact H)
        have hji11w : (IntKind.i64.wrap ((t272.length : Int) - 1)) = ji11 := (i64_w _).trans hji11
        by_cases c12 : 0 ≤ (ji11)
        · rw [if_pos c12] at H
          have c12b0 : decide (0 ≤ (ji11)) = true := decide_eq_true c12
          clear c12
          by_cases c13 : (ji11) < (t272.length : Int)
          · rw [if_pos c13] at H
            have c13b0 : decide ((ji11) < (t272.length : Int)) = true := decide_eq_true c13
            clear c13
            have H' := Aside0.mk H
            clear H
            obtain ⟨Ao14, co14, eo14⟩ := Kd.R_slice HO276.out
            subst eo14
            have p277 : 0 ≤ ((ji11) : Int) := of_decide_eq_true (by first | (with_reducible assumption) | assumption)
            have q277 : (ji11) < (t272.length : Int) := of_decide_eq_true (by first | (with_reducible assumption) | assumption)
            obtain ⟨ad277, e277, hx277_0, hx277_1, hx277_2, hx277_3⟩ := at_T30 (Kd.R_reads' HO276.out).2.2 (ji11) p277 q277
            cases e277
            replace p277 := eq_true p277
            replace q277 := eq_true q277
            go_wp2
            repeat (go_quiet (fail); try go_wp2)
            go_meet
            case rel => exact ⟨_, ((!(((rd_T30 t272 (ji11)).f0) == 6) || (!((((rd_T30 t272 (ji11)).f1).toList) == ([] : List UInt8)) || (!(((rd_T30 t272 (ji11)).f2) == 0) || (!(((rd_T30 t272 (ji11)).f3) == (a0.size : Int))))))), (by first | rfl | (simp; done) | (simp only [← hji11] <;> (first | rfl | simp)) | (simp [*]; done)), H', ⟨by first | omega | exact Nat.le_refl _⟩, ⟨by (with_reducible repeat (first | apply Kd.R_alloc | apply Kd.R_drewN | apply Kd.R_drew)); exact HO276.out⟩, ⟨by repeat (first | (with_reducible first | exact HB.out | apply below_alloc | apply pw_below_drewN | apply below_drew1) | exact HB.out)⟩⟩
          · rw [if_neg c13] at H
            exact absurd H (by simp)
        · rw [if_neg c12] at H
          exact absurd H (by simp)
    case rest =>
      clear HC6
      try clear c1
      try clear p2
      try clear q2
      try clear hx2
      try clear c5
      try clear c5b0
      try clear c5b1
      try clear p6
      try clear c9
      try clear c9b0
      try clear c9b1
      try clear c9b2
      try clear c12
      try clear c12b0
      try clear c13
      try clear c13b0
      try clear hx277_0
      try clear hx277_1
      try clear hx277_2
      try clear hx277_3
      try clear p277
      try clear q277
      obtain ⟨kq, x47_5, rfl, HA, HJ5, HO_6, HB⟩ := hcut
      cases kq with
      | zero => exact absurd HA.out (by simp [boscagelaw06_TokenParts.j0])
      | succ kj5 =>
        have H := HA.out
        clear HA
        simp only [boscagelaw06_TokenParts.j0] at H
        by_cases c15 : x47_5 = true
        · subst c15
          have H1 : (some false) = some r := by rw [if_pos rfl] at H; exact H
          clear H
          have H := H1
          clear H1
          exact absurd ((Option.some.inj H).trans HRT.out) Bool.false_ne_true
        · replace c15 := Bool.eq_false_iff.mpr c15
          subst c15
          have H1 : (boscagelaw06_TokenParts.l0 kj5 a0 a1 t271 t272 1) = some r := by rw [if_neg (show ¬ (false = true) by decide)] at H; exact H
          clear H
          have H := H1
          clear H1
          have H' := Aside0.mk H
          clear H
          go_wp2
          repeat (go_quiet (fail); try go_wp2)
          go_loopg [9] kj5 (fun kq v9 w' => ∃ (x9_2 : Int), v9 = .int .i64 x9_2 ∧ Aside0 (boscagelaw06_TokenParts.l0 kq a0 a1 t271 t272 x9_2 = some r) ∧ Aside0 (kq ≤ kj5) ∧ Aside0 (Kd.R k30 30 w' w.heap.size (fun _ => True) v275 t272) ∧ Aside0 (Below w.heap.size w w'))
          case atStart => exact ⟨(1), (by first | rfl | (simp; done) | (simp [*]; done) | (simp; first | exact Go.Proofs.YtffaibjiiiochaaDoor.Pre.ne1 _ | exact Go.Proofs.YtffaibjiiiochaaDoor.Pre.ne2 _ | exact Go.Proofs.YtffaibjiiiochaaDoor.Pre.ne3 _ | exact Go.Proofs.YtffaibjiiiochaaDoor.Pre.ne4 _ | exact Go.Proofs.YtffaibjiiiochaaDoor.Pre.ne5 _ | exact Go.Proofs.YtffaibjiiiochaaDoor.Pre.ne6 _)), H', ⟨Nat.le_refl _⟩, ⟨by (with_reducible repeat (first | apply Kd.R_alloc | apply Kd.R_drewN | apply Kd.R_drew)); exact HO_6.out⟩, ⟨by repeat (first | (with_reducible first | exact HB.out | apply below_alloc | apply pw_below_drewN | apply below_drew1) | exact HB.out)⟩⟩
          case round =>
            clear H'
            try clear c1
            try clear p2
            try clear q2
            try clear hx2
            try clear c5
            try clear c5b0
            try clear c5b1
            try clear p6
            try clear c9
            try clear c9b0
            try clear c9b1
            try clear c9b2
            try clear c12
            try clear c12b0
            try clear c13
            try clear c13b0
            try clear c15
            try clear hx277_0
            try clear hx277_1
            try clear hx277_2
            try clear hx277_3
            try clear p2
            try clear p277
            try clear p6
            try clear q2
            try clear q277
            obtain ⟨x9_2, rfl, HA, HK2, HO_6, HB⟩ := hrel
            cases gk with
            | zero => exact absurd HA.out (by simp [boscagelaw06_TokenParts.l0])
            | succ k2 =>
              have H := HA.out
              clear HA
              simp only [boscagelaw06_TokenParts.l0] at H
              by_cases c16 : x9_2 < (t272.length : Int)
              · rw [if_pos c16] at H
                have c16b0 : decide (x9_2 < (t272.length : Int)) = true := decide_eq_true c16
                clear c16
                obtain ⟨ji17, hji17⟩ : ∃ j_ : Int, (wrap64 (x9_2 - 1)) = j_ := ⟨_, rfl⟩
                replace H : (if 0 ≤ (ji17) then (if (ji17) < (t272.length : Int) then (if 0 ≤ x9_2 then (if ((rd_T30 t272 (ji17)).f3) ≥ ((rd_T30 t272 x9_2).f3) then (some false) else (boscagelaw06_TokenParts.l0 k2 a0 a1 t271 t272 (wrap64 (x9_2 + 1)))) else (none)) else (none)) else (none)) = some r := by first | (rw [hji17] at H; exact H) | (simp only [hji17] at H ⊢; exact H)
                have hji17w : (IntKind.i64.wrap (x9_2 - 1)) = ji17 := (i64_w _).trans hji17
                by_cases c18 : 0 ≤ (ji17)
                · rw [if_pos c18] at H
                  have c18b0 : decide (0 ≤ (ji17)) = true := decide_eq_true c18
                  clear c18
                  by_cases c19 : (ji17) < (t272.length : Int)
                  · rw [if_pos c19] at H
                    have c19b0 : decide ((ji17) < (t272.length : Int)) = true := decide_eq_true c19
                    clear c19
                    by_cases c20 : 0 ≤ x9_2
                    · rw [if_pos c20] at H
                      have c20b0 : decide (0 ≤ x9_2) = true := decide_eq_true c20
                      clear c20
                      by_cases c21 : ((rd_T30 t272 (ji17)).f3) ≥ ((rd_T30 t272 x9_2).f3)
                      · rw [if_pos c21] at H
                        have c21b0 : decide (((rd_T30 t272 x9_2).f3) ≤ ((rd_T30 t272 (ji17)).f3)) = true := decide_eq_true c21
                        clear c21
                        exact absurd ((Option.some.inj H).trans HRT.out) Bool.false_ne_true
                      · rw [if_neg c21] at H
                        have c21b0 : decide (((rd_T30 t272 x9_2).f3) ≤ ((rd_T30 t272 (ji17)).f3)) = false := decide_eq_false c21
                        clear c21
                        have H' := Aside0.mk H
                        clear H
                        obtain ⟨Ao22, co22, eo22⟩ := Kd.R_slice HO_6.out
                        subst eo22
                        have p278 : 0 ≤ ((ji17) : Int) := of_decide_eq_true (by first | (with_reducible assumption) | assumption)
                        have q278 : (ji17) < (t272.length : Int) := of_decide_eq_true (by first | (with_reducible assumption) | assumption)
                        obtain ⟨ad278, e278, hx278_0, hx278_1, hx278_2, hx278_3⟩ := at_T30 (Kd.R_reads' HO_6.out).2.2 (ji17) p278 q278
                        cases e278
                        replace p278 := eq_true p278
                        replace q278 := eq_true q278
                        have p279 : 0 ≤ (x9_2 : Int) := of_decide_eq_true (by first | (with_reducible assumption) | assumption)
                        have q279 : x9_2 < (t272.length : Int) := of_decide_eq_true (by first | (with_reducible assumption) | assumption)
                        obtain ⟨ad279, e279, hx279_0, hx279_1, hx279_2, hx279_3⟩ := at_T30 (Kd.R_reads' HO_6.out).2.2 x9_2 p279 q279
                        obtain rfl : ad278 = ad279 := (by injection e279)
                        replace p279 := eq_true p279
                        replace q279 := eq_true q279
                        go_wp2
                        repeat (go_quiet (fail); try go_wp2)
                        go_roundg k2
                        case measure => have := HJ5.out; have := HK2.out; omega
                        case rel => exact ⟨(wrap64 (x9_2 + 1)), (by first | rfl | (simp; done) | (simp [*]; done) | (simp; first | exact Go.Proofs.YtffaibjiiiochaaDoor.Pre.ne1 _ | exact Go.Proofs.YtffaibjiiiochaaDoor.Pre.ne2 _ | exact Go.Proofs.YtffaibjiiiochaaDoor.Pre.ne3 _ | exact Go.Proofs.YtffaibjiiiochaaDoor.Pre.ne4 _ | exact Go.Proofs.YtffaibjiiiochaaDoor.Pre.ne5 _ | exact Go.Proofs.YtffaibjiiiochaaDoor.Pre.ne6 _)), H', ⟨by have := HJ5.out; have := HK2.out; omega⟩, ⟨by (with_reducible repeat (first | apply Kd.R_alloc | apply Kd.R_drewN | apply Kd.R_drew)); exact HO_6.out⟩, ⟨by repeat (first | (with_reducible first | exact HB.out | apply below_alloc | apply pw_below_drewN | apply below_drew1) | exact HB.out)⟩⟩
                    · rw [if_neg c20] at H
                      exact absurd H (by simp)
                  · rw [if_neg c19] at H
                    exact absurd H (by simp)
                · rw [if_neg c18] at H
                  exact absurd H (by simp)
              · rw [if_neg c16] at H
                have c16b0 : decide (x9_2 < (t272.length : Int)) = false := decide_eq_false c16
                clear c16
                by_cases c23 : (t272.length : Int) = 0
                · rw [if_pos c23] at H
                  exact absurd H (by simp)
                · rw [if_neg c23] at H
                  have c23b0 : ((t272.length : Int) == 0) = false := beq_eq_false_iff_ne.mpr c23
                  have c23b1 : ((t272.length : Int) != 0) = true := bne_iff_ne.mpr c23
                  have c23b2 : ¬ (t272 = []) := fun h_ => c23 (by rw [h_]; rfl)
                  obtain ⟨ji24, hji24⟩ : ∃ j_ : Int, (Int.tmod (wrap64 ((Int.tmod a1 (t272.length : Int)) + (t272.length : Int))) (t272.length : Int)) = j_ := ⟨_, rfl⟩
                  replace H : (if 0 ≤ (ji24) then (if (ji24) < (t272.length : Int) then (if ((rd_T30 t272 (ji24)).f3) < 0 then (boscagelaw06_TokenParts.j2 k2 a0 t271 t272 ji24 ((rd_T30 t272 (ji24)).f3) true) else (boscagelaw06_TokenParts.j2 k2 a0 t271 t272 ji24 ((rd_T30 t272 (ji24)).f3) (decide (((rd_T30 t272 (ji24)).f3) > (a0.size : Int))))) else (none)) else (none)) = some r := by first | (rw [hji24] at H; exact H) | (simp only [hji24] at H ⊢; exact H)
                  by_cases c25 : 0 ≤ (ji24)
                  · rw [if_pos c25] at H
                    have c25b0 : decide (0 ≤ (ji24)) = true := decide_eq_true c25
                    clear c25
                    by_cases c26 : (ji24) < (t272.length : Int)
                    · rw [if_pos c26] at H
                      have c26b0 : decide ((ji24) < (t272.length : Int)) = true := decide_eq_true c26
                      clear c26
                      have HC27 := Aside0.mk H
                      clear H
                      obtain ⟨Ao28, co28, eo28⟩ := Kd.R_slice HO_6.out
                      subst eo28
                      have p280 : 0 ≤ ((ji24) : Int) := of_decide_eq_true (by first | (with_reducible assumption) | assumption)
                      have q280 : (ji24) < (t272.length : Int) := of_decide_eq_true (by first | (with_reducible assumption) | assumption)
                      obtain ⟨ad280, e280, hx280_0, hx280_1, hx280_2, hx280_3⟩ := at_T30 (Kd.R_reads' HO_6.out).2.2 (ji24) p280 q280
                      cases e280
                      replace p280 := eq_true p280
                      replace q280 := eq_true q280
                      go_upto_region 14 with (fail)
                      repeat (go_quiet (fail); go_upto_region 14 with (fail))
                      go_cut [88] (fun v88 wc => ∃ (kq : Nat) (x88_26 : Bool), v88 = .bool x88_26 ∧ Aside0 (boscagelaw06_TokenParts.j2 kq a0 t271 t272 ji24 ((rd_T30 t272 (ji24)).f3) x88_26 = some r) ∧ Aside0 (kq ≤ k2) ∧ Aside0 (Kd.R k30 30 wc w.heap.size (fun _ => True) (.slice (some ad280) t272.length co28) t272) ∧ Aside0 (Below w.heap.size w wc))
                      case first =>
                        have H := HC27.out
                        clear HC27
                        by_cases c29 : ((rd_T30 t272 (ji24)).f3) < 0
                        · rw [if_pos c29] at H
                          have c29b0 : decide (((rd_T30 t272 (ji24)).f3) < 0) = true := decide_eq_true c29
                          clear c29
                          (first | rw [c29b0] | (simp only [i64_w, i32_w]; rw [c29b0]) | skip)
                          have H' := Aside0.mk H
                          clear H
                          go_wp2
                          repeat (go_quiet (fail); try go_wp2)
                          go_meet
                          case rel => exact ⟨_, (true), (by first | rfl | (simp; done) | (simp [*]; done) | (simp; first | exact Go.Proofs.YtffaibjiiiochaaDoor.Pre.ne1 _ | exact Go.Proofs.YtffaibjiiiochaaDoor.Pre.ne2 _ | exact Go.Proofs.YtffaibjiiiochaaDoor.Pre.ne3 _ | exact Go.Proofs.YtffaibjiiiochaaDoor.Pre.ne4 _ | exact Go.Proofs.YtffaibjiiiochaaDoor.Pre.ne5 _ | exact Go.Proofs.YtffaibjiiiochaaDoor.Pre.ne6 _)), H', ⟨by have := HJ5.out; have := HK2.out; first | omega | exact Nat.le_refl _⟩, ⟨by (with_reducible repeat (first | apply Kd.R_alloc | apply Kd.R_drewN | apply Kd.R_drew)); exact HO_6.out⟩, ⟨by repeat (first | (with_reducible first | exact HB.out | apply below_alloc | apply pw_below_drewN | apply below_drew1) | exact HB.out)⟩⟩
                        · rw [if_neg c29] at H
                          have c29b0 : decide (((rd_T30 t272 (ji24)).f3) < 0) = false := decide_eq_false c29
                          clear c29
                          (first | rw [c29b0] | (simp only [i64_w, i32_w]; rw [c29b0]) | skip)
                          have H' := Aside0.mk H
                          clear H
                          go_wp2
                          repeat (go_quiet (fail); try go_wp2)
                          go_meet
                          case rel => exact ⟨_, (decide (((rd_T30 t272 (ji24)).f3) > (a0.size : Int))), (by first | rfl | (simp; done) | (simp only [← hji24] <;> (first | rfl | simp)) | (simp [*]; done)), H', ⟨by have := HJ5.out; have := HK2.out; first | omega | exact Nat.le_refl _⟩, ⟨by (with_reducible repeat (first | apply Kd.R_alloc | apply Kd.R_drewN | apply Kd.R_drew)); exact HO_6.out⟩, ⟨by repeat (first | (with_reducible first | exact HB.out | apply below_alloc | apply pw_below_drewN | apply below_drew1) | exact HB.out)⟩⟩
                      case rest =>
                        clear HC27
                        try clear c1
                        try clear c2
                        try clear p2
                        try clear q2
                        try clear hx2
                        try clear c5
                        try clear c5b0
                        try clear c5b1
                        try clear p6
                        try clear c9
                        try clear c9b0
                        try clear c9b1
                        try clear c9b2
                        try clear c12
                        try clear c12b0
                        try clear c13
                        try clear c13b0
                        try clear c15
                        try clear c16
                        try clear c16b0
                        try clear c18
                        try clear c18b0
                        try clear c19
                        try clear c19b0
                        try clear c20
                        try clear c20b0
                        try clear c21
                        try clear c21b0
                        try clear c23
                        try clear c23b0
                        try clear c23b1
                        try clear c23b2
                        try clear c25
                        try clear c25b0
                        try clear c26
                        try clear c26b0
                        try clear p27
                        try clear q27
                        try clear hx27
                        try clear p28
                        try clear q28
                        try clear hx28
                        try clear c29
                        try clear c29b0
                        try clear hx277_0
                        try clear hx277_1
                        try clear hx277_2
                        try clear hx277_3
                        try clear hx278_0
                        try clear hx278_1
                        try clear hx278_2
                        try clear hx278_3
                        try clear hx279_0
                        try clear hx279_1
                        try clear hx279_2
                        try clear hx279_3
                        try clear hx280_0
                        try clear hx280_1
                        try clear hx280_2
                        try clear hx280_3
                        try clear p2
                        try clear p277
                        try clear p278
                        try clear p279
                        try clear p280
                        try clear p6
                        try clear q2
                        try clear q277
                        try clear q278
                        try clear q279
                        try clear q280
                        obtain ⟨kq, x88_26, rfl, HA, HJ26, HO_6, HB⟩ := hcut
                        cases kq with
                        | zero => exact absurd HA.out (by simp [boscagelaw06_TokenParts.j2])
                        | succ kj26 =>
                          have H := HA.out
                          clear HA
                          simp only [boscagelaw06_TokenParts.j2] at H
                          by_cases c30 : x88_26 = true
                          · subst c30
                            have H1 : (some false) = some r := by rw [if_pos rfl] at H; exact H
                            clear H
                            have H := H1
                            clear H1
                            exact absurd ((Option.some.inj H).trans HRT.out) Bool.false_ne_true
                          · replace c30 := Bool.eq_false_iff.mpr c30
                            subst c30
                            have H1 : (if 0 ≤ ((rd_T30 t272 (ji24)).f3) then (if ((rd_T30 t272 (ji24)).f3) ≤ (a0.size : Int) then ((token_Cut.f (a0.extract (((rd_T30 t272 (ji24)).f3) : Int).toNat a0.size)).bind fun bt281 => (if 0 ≤ ji24 then (if ji24 ≤ (t272.length : Int) then ((some (t272.drop (ji24 : Int).toNat : List (S30))).bind fun y286 => (boscagelaw06_TokenParts.l1 kj26 t271 ((rd_T30 t272 (ji24)).f3) bt281.1 bt281.2.2 ([] : List (S30)) y286 (y286.length : Int) 0)) else (none)) else (none))) else (none)) else (none)) = some r := by rw [if_neg (show ¬ (false = true) by decide)] at H; exact H
                            clear H
                            have H := H1
                            clear H1
                            by_cases c31 : 0 ≤ ((rd_T30 t272 (ji24)).f3)
                            · rw [if_pos c31] at H
                              have c31b0 := eq_true c31
                              have c31b1 : decide (0 ≤ ((rd_T30 t272 (ji24)).f3)) = true := decide_eq_true c31
                              clear c31
                              by_cases c32 : ((rd_T30 t272 (ji24)).f3) ≤ (a0.size : Int)
                              · rw [if_pos c32] at H
                                have c32b0 := eq_true c32
                                have c32b1 : decide (((rd_T30 t272 (ji24)).f3) ≤ (a0.size : Int)) = true := decide_eq_true c32
                                clear c32
                                replace H := Option.bind_eq_some_iff.mp H
                                obtain ⟨⟨t281, t282, t283⟩, A330, H⟩ := H
                                replace H : (if 0 ≤ ji24 then (if ji24 ≤ (t272.length : Int) then ((some (t272.drop (ji24 : Int).toNat : List (S30))).bind fun y286 => (boscagelaw06_TokenParts.l1 kj26 t271 ((rd_T30 t272 (ji24)).f3) t281 t283 ([] : List (S30)) y286 (y286.length : Int) 0)) else (none)) else (none)) = some r := H
                                have A33 := Aside0.mk A330
                                clear A330
                                by_cases c34 : 0 ≤ ji24
                                · rw [if_pos c34] at H
                                  have c34b0 := eq_true c34
                                  have c34b1 : decide (0 ≤ ji24) = true := decide_eq_true c34
                                  clear c34
                                  by_cases c35 : ji24 ≤ (t272.length : Int)
                                  · rw [if_pos c35] at H
                                    have c35b0 := eq_true c35
                                    have c35b1 : decide (ji24 ≤ (t272.length : Int)) = true := decide_eq_true c35
                                    clear c35
                                    obtain ⟨y286, hy286⟩ : ∃ y_ : List (S30), y_ = (t272.drop (ji24 : Int).toNat) := ⟨_, rfl⟩
                                    replace H : (boscagelaw06_TokenParts.l1 kj26 t271 ((rd_T30 t272 (ji24)).f3) t281 t283 ([] : List (S30)) y286 (y286.length : Int) 0) = some r := by first | (rw [hy286]; with_reducible exact H) | (have H2_ := (Option.bind_some _ _).symm.trans H; rw [hy286]; with_reducible exact H2_) | (have H2_ := (Option.bind_some _ _).symm.trans H; with_reducible exact H2_) | with_reducible exact H | (rw [hy286]; exact H) | exact H
                                    have Ny286 := Aside0.mk hy286
                                    clear hy286
                                    have H' := Aside0.mk H
                                    clear H
                                    go_wp2_with (first | (go_at_call 10; (with_reducible refine (token_Cut.calls (a0.extract (((rd_T30 t272 (ji24)).f3) : Int).toNat a0.size) t281 t282 t283 _ A33.out).mono ?_); rintro e w36 ⟨v284, rfl, ho0, hb⟩; have n0_ := Aside0.mk (Kd.R_elder' (by (with_reducible repeat (first | apply Kd.R_alloc | apply Kd.R_drewN | apply Kd.R_drew)); exact HO_6.out) (Kd.R_base ho0) hb); have n1_ := Aside0.mk (Kd.R_lower (Kd.R_new' ho0 (Kd.R_lt (by (with_reducible repeat (first | apply Kd.R_alloc | apply Kd.R_drewN | apply Kd.R_drew)); exact HO_6.out))) (below_size (by repeat (first | (with_reducible first | exact HB.out | apply below_alloc | apply pw_below_drewN | apply below_drew1) | exact HB.out)))); have n2_ := Aside0.mk (below_step (by repeat (first | (with_reducible first | exact HB.out | apply below_alloc | apply pw_below_drewN | apply below_drew1) | exact HB.out)) hb); clear HO_6; clear HB; have HO_6 := n0_; have HO285 := n1_; have HB := n2_; clear n0_ n1_ n2_; (try clear hb); (try clear hb2); (try clear hk); (try clear hi); (try clear ho0); have q37 : (ji24 : Int) ≤ ((t272.length : Int) : Int) := of_decide_eq_true (by first | (with_reducible assumption) | assumption); obtain ⟨i037, hi037, _, hsz37, _⟩ := info_parts info30; have hroom37 : t272.length ≤ co28 := (Kd.R_reads' HO_6.out).2.1; have hC37 : Kd.C k30 _ (some ad280) t272.length t272 := (Kd.R_reads' HO_6.out).2.2; have q037 : (0 : Int) ≤ (ji24 : Int) := of_decide_eq_true (by first | (with_reducible assumption) | assumption); have hcut37 := cut_from (P := Tryd.prog) 23 30 .i64 Tryd.underlying23 hi037 4 hsz37 (some ad280) t272.length co28 ji24 q037 q37; have hr37 := Kd.C_drop (m := (ji24 : Int).toNat) (c := co28) hC37 (by omega) hroom37; obtain ⟨A37, hA37⟩ : ∃ A1, A1 = (if co28 = (ji24 : Int).toNat then (some ad280) else ((some ad280) : Option Addr).map (·.add ((ji24 : Int).toNat * 4))) := ⟨_, rfl⟩; obtain ⟨c37, hc37⟩ : ∃ c1, c1 = co28 - (ji24 : Int).toNat := ⟨_, rfl⟩; have hy37 : y286.length = t272.length - (ji24 : Int).toNat := (by rw [Ny286.out, List.length_drop] <;> omega); rw [show (t272).drop (ji24 : Int).toNat = y286 from Ny286.out.symm] at hr37; replace hr37 : Kd.C k30 _ A37 y286.length y286 := (by rw [hA37]; exact hr37); rw [← hy37, ← hA37, ← hc37] at hcut37; have HR289 := Aside0.mk hr37; have HC289 := Aside0.mk (show y286.length ≤ c37 from by rw [hy37, hc37]; exact Nat.sub_le_sub_right hroom37 _); clear hr37 hC37 hroom37 hi037 hsz37 hc37; have KY37 := Aside0.mk hy37; have KA37 := Aside0.mk hA37; clear hy37 hA37; have KL37 := Aside0.mk (show (ji24 : Int).toNat ≤ t272.length from by omega); replace q37 := eq_true q37))
                                    repeat (go_quiet (first | (go_at_call 10; (with_reducible refine (token_Cut.calls (a0.extract (((rd_T30 t272 (ji24)).f3) : Int).toNat a0.size) t281 t282 t283 _ A33.out).mono ?_); rintro e w36 ⟨v284, rfl, ho0, hb⟩; have n0_ := Aside0.mk (Kd.R_elder' (by (with_reducible repeat (first | apply Kd.R_alloc | apply Kd.R_drewN | apply Kd.R_drew)); exact HO_6.out) (Kd.R_base ho0) hb); have n1_ := Aside0.mk (Kd.R_lower (Kd.R_new' ho0 (Kd.R_lt (by (with_reducible repeat (first | apply Kd.R_alloc | apply Kd.R_drewN | apply Kd.R_drew)); exact HO_6.out))) (below_size (by repeat (first | (with_reducible first | exact HB.out | apply below_alloc | apply pw_below_drewN | apply below_drew1) | exact HB.out)))); have n2_ := Aside0.mk (below_step (by repeat (first | (with_reducible first | exact HB.out | apply below_alloc | apply pw_below_drewN | apply below_drew1) | exact HB.out)) hb); clear HO_6; clear HB; have HO_6 := n0_; have HO285 := n1_; have HB := n2_; clear n0_ n1_ n2_; (try clear hb); (try clear hb2); (try clear hk); (try clear hi); (try clear ho0); have q37 : (ji24 : Int) ≤ ((t272.length : Int) : Int) := of_decide_eq_true (by first | (with_reducible assumption) | assumption); obtain ⟨i037, hi037, _, hsz37, _⟩ := info_parts info30; have hroom37 : t272.length ≤ co28 := (Kd.R_reads' HO_6.out).2.1; have hC37 : Kd.C k30 _ (some ad280) t272.length t272 := (Kd.R_reads' HO_6.out).2.2; have q037 : (0 : Int) ≤ (ji24 : Int) := of_decide_eq_true (by first | (with_reducible assumption) | assumption); have hcut37 := cut_from (P := Tryd.prog) 23 30 .i64 Tryd.underlying23 hi037 4 hsz37 (some ad280) t272.length co28 ji24 q037 q37; have hr37 := Kd.C_drop (m := (ji24 : Int).toNat) (c := co28) hC37 (by omega) hroom37; obtain ⟨A37, hA37⟩ : ∃ A1, A1 = (if co28 = (ji24 : Int).toNat then (some ad280) else ((some ad280) : Option Addr).map (·.add ((ji24 : Int).toNat * 4))) := ⟨_, rfl⟩; obtain ⟨c37, hc37⟩ : ∃ c1, c1 = co28 - (ji24 : Int).toNat := ⟨_, rfl⟩; have hy37 : y286.length = t272.length - (ji24 : Int).toNat := (by rw [Ny286.out, List.length_drop] <;> omega); rw [show (t272).drop (ji24 : Int).toNat = y286 from Ny286.out.symm] at hr37; replace hr37 : Kd.C k30 _ A37 y286.length y286 := (by rw [hA37]; exact hr37); rw [← hy37, ← hA37, ← hc37] at hcut37; have HR289 := Aside0.mk hr37; have HC289 := Aside0.mk (show y286.length ≤ c37 from by rw [hy37, hc37]; exact Nat.sub_le_sub_right hroom37 _); clear hr37 hC37 hroom37 hi037 hsz37 hc37; have KY37 := Aside0.mk hy37; have KA37 := Aside0.mk hA37; clear hy37 hA37; have KL37 := Aside0.mk (show (ji24 : Int).toNat ≤ t272.length from by omega); replace q37 := eq_true q37)); try go_wp2_with (first | (go_at_call 10; (with_reducible refine (token_Cut.calls (a0.extract (((rd_T30 t272 (ji24)).f3) : Int).toNat a0.size) t281 t282 t283 _ A33.out).mono ?_); rintro e w36 ⟨v284, rfl, ho0, hb⟩; have n0_ := Aside0.mk (Kd.R_elder' (by (with_reducible repeat (first | apply Kd.R_alloc | apply Kd.R_drewN | apply Kd.R_drew)); exact HO_6.out) (Kd.R_base ho0) hb); have n1_ := Aside0.mk (Kd.R_lower (Kd.R_new' ho0 (Kd.R_lt (by (with_reducible repeat (first | apply Kd.R_alloc | apply Kd.R_drewN | apply Kd.R_drew)); exact HO_6.out))) (below_size (by repeat (first | (with_reducible first | exact HB.out | apply below_alloc | apply pw_below_drewN | apply below_drew1) | exact HB.out)))); have n2_ := Aside0.mk (below_step (by repeat (first | (with_reducible first | exact HB.out | apply below_alloc | apply pw_below_drewN | apply below_drew1) | exact HB.out)) hb); clear HO_6; clear HB; have HO_6 := n0_; have HO285 := n1_; have HB := n2_; clear n0_ n1_ n2_; (try clear hb); (try clear hb2); (try clear hk); (try clear hi); (try clear ho0); have q37 : (ji24 : Int) ≤ ((t272.length : Int) : Int) := of_decide_eq_true (by first | (with_reducible assumption) | assumption); obtain ⟨i037, hi037, _, hsz37, _⟩ := info_parts info30; have hroom37 : t272.length ≤ co28 := (Kd.R_reads' HO_6.out).2.1; have hC37 : Kd.C k30 _ (some ad280) t272.length t272 := (Kd.R_reads' HO_6.out).2.2; have q037 : (0 : Int) ≤ (ji24 : Int) := of_decide_eq_true (by first | (with_reducible assumption) | assumption); have hcut37 := cut_from (P := Tryd.prog) 23 30 .i64 Tryd.underlying23 hi037 4 hsz37 (some ad280) t272.length co28 ji24 q037 q37; have hr37 := Kd.C_drop (m := (ji24 : Int).toNat) (c := co28) hC37 (by omega) hroom37; obtain ⟨A37, hA37⟩ : ∃ A1, A1 = (if co28 = (ji24 : Int).toNat then (some ad280) else ((some ad280) : Option Addr).map (·.add ((ji24 : Int).toNat * 4))) := ⟨_, rfl⟩; obtain ⟨c37, hc37⟩ : ∃ c1, c1 = co28 - (ji24 : Int).toNat := ⟨_, rfl⟩; have hy37 : y286.length = t272.length - (ji24 : Int).toNat := (by rw [Ny286.out, List.length_drop] <;> omega); rw [show (t272).drop (ji24 : Int).toNat = y286 from Ny286.out.symm] at hr37; replace hr37 : Kd.C k30 _ A37 y286.length y286 := (by rw [hA37]; exact hr37); rw [← hy37, ← hA37, ← hc37] at hcut37; have HR289 := Aside0.mk hr37; have HC289 := Aside0.mk (show y286.length ≤ c37 from by rw [hy37, hc37]; exact Nat.sub_le_sub_right hroom37 _); clear hr37 hC37 hroom37 hi037 hsz37 hc37; have KY37 := Aside0.mk hy37; have KA37 := Aside0.mk hA37; clear hy37 hA37; have KL37 := Aside0.mk (show (ji24 : Int).toNat ≤ t272.length from by omega); replace q37 := eq_true q37)))
                                    have HB0_ : Aside0 (Below w.heap.size w w36) := ⟨by first | exact HB.out | exact ⟨HB.out.os, HB.out.tape, HB.out.output, HB.out.size, HB.out.block⟩⟩
                                    go_loopg [15, 101] kj26 (fun kq v15 v101 w' => ∃ (x15_4 : List (S30)) (x101_4 : Int), v101 = .int .i64 x101_4 ∧ Aside0 (boscagelaw06_TokenParts.l1 kq t271 ((rd_T30 t272 (ji24)).f3) t281 t283 x15_4 y286 (y286.length : Int) x101_4 = some r) ∧ Aside0 (kq ≤ kj26) ∧ Aside0 (Kd.R k30 30 w' w.heap.size (fun k_ => some k_ ≠ (v15 : Value).ownBlock) v284 t281) ∧ Aside0 (Kd.R k30 30 w' w36.heap.size (fun k_ => some k_ ≠ (v284 : Value).ownBlock) v15 x15_4) ∧ Aside0 (Below w36.heap.size w36 w'))
                                    case atStart => exact ⟨(([] : List (S30))), (0), (by first | rfl | (simp; done) | (simp [*]; done) | (simp; first | exact Go.Proofs.YtffaibjiiiochaaDoor.Pre.ne1 _ | exact Go.Proofs.YtffaibjiiiochaaDoor.Pre.ne2 _ | exact Go.Proofs.YtffaibjiiiochaaDoor.Pre.ne3 _ | exact Go.Proofs.YtffaibjiiiochaaDoor.Pre.ne4 _ | exact Go.Proofs.YtffaibjiiiochaaDoor.Pre.ne5 _ | exact Go.Proofs.YtffaibjiiiochaaDoor.Pre.ne6 _)), H', ⟨Nat.le_refl _⟩, ⟨by (with_reducible repeat (first | apply Kd.R_alloc | apply Kd.R_drewN | apply Kd.R_drew)); exact Kd.R_mono HO285.out (fun _ hk => (by simp [Value.ownBlock]))⟩, ⟨by first | exact Kd.R_nil _ _ _ _ _ | exact Kd.N_nil _ _ _ _ _ | exact Kd.V_nil _ _ _ _ _ | exact Kd.Q_nil _ _ _ _ _ | exact Kd.S_nil _ _ _ _ _⟩, ⟨by first | exact Below.refl _ _ | exact pw_below_drewN (Below.refl _ _) _ | exact below_drew (Below.refl _ _)⟩⟩
                                    case round =>
                                      clear H'
                                      try clear c1
                                      try clear c2
                                      try clear p2
                                      try clear q2
                                      try clear hx2
                                      try clear c3
                                      try clear q3
                                      try clear c5
                                      try clear c5b0
                                      try clear c5b1
                                      try clear p6
                                      try clear c9
                                      try clear c9b0
                                      try clear c9b1
                                      try clear c9b2
                                      try clear c12
                                      try clear c12b0
                                      try clear c13
                                      try clear c13b0
                                      try clear c15
                                      try clear c16
                                      try clear c16b0
                                      try clear c18
                                      try clear c18b0
                                      try clear c19
                                      try clear c19b0
                                      try clear c20
                                      try clear c20b0
                                      try clear c21
                                      try clear c21b0
                                      try clear c23
                                      try clear c23b0
                                      try clear c23b1
                                      try clear c23b2
                                      try clear c25
                                      try clear c25b0
                                      try clear c26
                                      try clear c26b0
                                      try clear p27
                                      try clear q27
                                      try clear hx27
                                      try clear p28
                                      try clear q28
                                      try clear hx28
                                      try clear c29
                                      try clear c29b0
                                      try clear c30
                                      try clear c31
                                      try clear c31b0
                                      try clear c31b1
                                      try clear c32
                                      try clear c32b0
                                      try clear c32b1
                                      try clear c34
                                      try clear c34b0
                                      try clear c34b1
                                      try clear c35
                                      try clear c35b0
                                      try clear c35b1
                                      try clear c37
                                      try clear q37
                                      try clear hx277_0
                                      try clear hx277_1
                                      try clear hx277_2
                                      try clear hx277_3
                                      try clear hx278_0
                                      try clear hx278_1
                                      try clear hx278_2
                                      try clear hx278_3
                                      try clear hx279_0
                                      try clear hx279_1
                                      try clear hx279_2
                                      try clear hx279_3
                                      try clear hx280_0
                                      try clear hx280_1
                                      try clear hx280_2
                                      try clear hx280_3
                                      try clear p2
                                      try clear p27
                                      try clear p277
                                      try clear p278
                                      try clear p279
                                      try clear p28
                                      try clear p280
                                      try clear p6
                                      try clear q037
                                      try clear q2
                                      try clear q27
                                      try clear q277
                                      try clear q278
                                      try clear q279
                                      try clear q28
                                      try clear q280
                                      try clear q37
                                      obtain ⟨x15_4, x101_4, rfl, HA, HK4, HO_12, HO_15, HB⟩ := hrel
                                      cases gk with
                                      | zero => exact absurd HA.out (by simp [boscagelaw06_TokenParts.l1])
                                      | succ k4 =>
                                        have H := HA.out
                                        clear HA
                                        simp only [boscagelaw06_TokenParts.l1] at H
                                        by_cases c38 : x101_4 < (y286.length : Int)
                                        · rw [if_pos c38] at H
                                          have c38b0 : decide (x101_4 < (y286.length : Int)) = true := decide_eq_true c38
                                          clear c38
                                          by_cases c39 : 0 ≤ x101_4
                                          · rw [if_pos c39] at H
                                            have c39b0 : decide (0 ≤ x101_4) = true := decide_eq_true c39
                                            clear c39
                                            by_cases c40 : x101_4 < (y286.length : Int)
                                            · rw [if_pos c40] at H
                                              have c40b0 : decide (x101_4 < (y286.length : Int)) = true := decide_eq_true c40
                                              clear c40
                                              by_cases c41 : x15_4.length < 3518437208883
                                              · rw [if_pos c41] at H
                                                have LMc41 := Aside0.mk c41
                                                clear c41
                                                obtain ⟨y292, hy292⟩ : ∃ y_ : List (S30), y_ = (x15_4 ++ [(⟨(rd_T30 y286 x101_4).f0, (rd_T30 y286 x101_4).f1, (rd_T30 y286 x101_4).f2, wrap64 (((rd_T30 y286 x101_4).f3) - ((rd_T30 t272 (ji24)).f3))⟩ : S30)]) := ⟨_, rfl⟩
                                                replace H : (boscagelaw06_TokenParts.l1 k4 t271 ((rd_T30 t272 (ji24)).f3) t281 t283 y292 y286 (y286.length : Int) (wrap64 (x101_4 + 1))) = some r := by first | (rw [hy292]; with_reducible exact H) | (have H2_ := (Option.bind_some _ _).symm.trans H; rw [hy292]; with_reducible exact H2_) | (have H2_ := (Option.bind_some _ _).symm.trans H; with_reducible exact H2_) | with_reducible exact H | (rw [hy292]; exact H) | exact H
                                                have Ny292 := Aside0.mk hy292
                                                clear hy292
                                                have H' := Aside0.mk H
                                                clear H
                                                have p290 : 0 ≤ (x101_4 : Int) := of_decide_eq_true (by first | (with_reducible assumption) | assumption)
                                                have q290 : x101_4 < (y286.length : Int) := of_decide_eq_true (by first | (with_reducible assumption) | assumption)
                                                obtain ⟨ad290, e290, hx290_0, hx290_1, hx290_2, hx290_3⟩ := at_T30 HR289.out x101_4 p290 q290
                                                cases e290
                                                replace hx290_0 := (HB.out.cell (World.block_lt_of_cell? w36 _ hx290_0)).trans hx290_0
                                                replace hx290_1 := (HB.out.cell (World.block_lt_of_cell? w36 _ hx290_1)).trans hx290_1
                                                replace hx290_2 := (HB.out.cell (World.block_lt_of_cell? w36 _ hx290_2)).trans hx290_2
                                                replace hx290_3 := (HB.out.cell (World.block_lt_of_cell? w36 _ hx290_3)).trans hx290_3
                                                replace p290 := eq_true p290
                                                replace q290 := eq_true q290
                                                go_wp2_with (first | ((with_reducible refine gate_dst (N := 17) rfl ?_); (try (refine gate_guard (by rfl) ?_; dsimp only)); refine box_event ?hg (N := 17) ?hd (cs := #[.int .i64 0, .string (⟨#[]⟩ : ByteArray), .int .i64 0, .int .i64 0]) (t := 30) ?hr ?_; (case hd => rfl); (case hg => rfl); (case hr => first | (go_simp; done) | (go_simp; rfl)); intro gb291 hg w42 hbox hb; have n0_ := Aside0.mk (Kd.R_below (Kd.R_elderB (by (with_reducible repeat (first | apply Kd.R_alloc | apply Kd.R_drewN | apply Kd.R_drew)); exact HO_12.out) gb291 (Nat.le_of_eq hg.symm)) hb); have n1_ := Aside0.mk (Kd.R_below (Kd.R_elderB (by (with_reducible repeat (first | apply Kd.R_alloc | apply Kd.R_drewN | apply Kd.R_drew)); exact HO_15.out) gb291 (Nat.le_of_eq hg.symm)) hb); have n2_ := Aside0.mk (below_step (by repeat (first | (with_reducible first | exact HB.out | apply below_alloc | apply pw_below_drewN | apply below_drew1) | exact HB.out)) hb); have n3_ := Aside0.mk (hbox); have n4_ := Aside0.mk ((by rw [hg]; exact (below_size (by repeat (first | (with_reducible first | exact HB.out | apply below_alloc | apply pw_below_drewN | apply below_drew1) | exact HB.out))) : w36.heap.size ≤ gb291)); have n5_ := Aside0.mk ((by rw [hg]; exact (below_size (by repeat (first | (with_reducible first | exact HB.out | apply below_alloc | apply pw_below_drewN | apply below_drew1) | exact HB.out))) : w36.heap.size ≤ gb291)); clear HO_12; clear HO_15; clear HB; have HO_12 := n0_; have HO_15 := n1_; have HB := n2_; have BK291 := n3_; have GW291 := n4_; have GE291 := n5_; clear n0_ n1_ n2_ n3_ n4_ n5_; clear hb hbox hg; have hcz43_0 : w42.cell? ⟨gb291, 0, none⟩ = some (.int .i64 0) := (blk_cell BK291.out 0).trans rfl; have hcz43_1 : w42.cell? ⟨gb291, 1, none⟩ = some (.string (⟨#[]⟩ : ByteArray)) := (blk_cell BK291.out 1).trans rfl; have hcz43_2 : w42.cell? ⟨gb291, 2, none⟩ = some (.int .i64 0) := (blk_cell BK291.out 2).trans rfl; have hcz43_3 : w42.cell? ⟨gb291, 3, none⟩ = some (.int .i64 0) := (blk_cell BK291.out 3).trans rfl; have hfz43_0 := blk_frozen BK291.out 0; have hfz43_1 := blk_frozen BK291.out 1; have hfz43_2 := blk_frozen BK291.out 2; have hfz43_3 := blk_frozen BK291.out 3; have hv_3 : ((((((w42.setCell ⟨gb291, 0, none⟩ (.int .i64 (rd_T30 y286 x101_4).f0)).setCell ⟨gb291, 1, none⟩ (.string (rd_T30 y286 x101_4).f1)).setCell ⟨gb291, 2, none⟩ (.int .i64 (rd_T30 y286 x101_4).f2)).setCell ⟨gb291, 3, none⟩ (.int .i64 (rd_T30 y286 x101_4).f3)).setCell ⟨gb291, 3, none⟩ (.int .i64 (wrap64 (((rd_T30 y286 x101_4).f3) - ((rd_T30 t272 (ji24)).f3)))))).cell? ⟨gb291, 3, none⟩ = some (.int .i64 (wrap64 (((rd_T30 y286 x101_4).f3) - ((rd_T30 t272 (ji24)).f3)))) := (blk_cell (blk_put (cs' := #[.int .i64 (rd_T30 y286 x101_4).f0, .string (rd_T30 y286 x101_4).f1, .int .i64 (rd_T30 y286 x101_4).f2, .int .i64 (wrap64 (((rd_T30 y286 x101_4).f3) - ((rd_T30 t272 (ji24)).f3)))]) (blk_put (blk_put (blk_put (blk_put BK291.out 0 _ rfl) 1 _ rfl) 2 _ rfl) 3 _ rfl) 3 _ rfl) 3).trans rfl; have hv_3d := fun n_ : Nat => (show (((((((w42.drewN n_).setCell ⟨gb291, 0, none⟩ (.int .i64 (rd_T30 y286 x101_4).f0)).setCell ⟨gb291, 1, none⟩ (.string (rd_T30 y286 x101_4).f1)).setCell ⟨gb291, 2, none⟩ (.int .i64 (rd_T30 y286 x101_4).f2)).setCell ⟨gb291, 3, none⟩ (.int .i64 (rd_T30 y286 x101_4).f3)).setCell ⟨gb291, 3, none⟩ (.int .i64 (wrap64 (((rd_T30 y286 x101_4).f3) - ((rd_T30 t272 (ji24)).f3)))))).cell? ⟨gb291, 3, none⟩ = some (.int .i64 (wrap64 (((rd_T30 y286 x101_4).f3) - ((rd_T30 t272 (ji24)).f3)))) from hv_3)) | ((with_reducible refine gate_builtin (b := .append) (xs := #[.tmp 110, .tmp 112]) rfl ?_); (try (refine gate_guard (by rfl) ?_; dsimp only)); at_builtin; refine Kd.R_append k30 (w0 := w36) w36.heap.size rfl (.tmp 110) (.tmp 112) 23 30 (.agg #[(.int .i64 0), (.string ⟨#[]⟩), (.int .i64 0), (.int .i64 0)]) 40 rfl Tryd.underlying23 info30 rfl (by decide) (by omega) u15 x15_4 (⟨(rd_T30 y286 x101_4).f0, (rd_T30 y286 x101_4).f1, (rd_T30 y286 x101_4).f2, wrap64 (((rd_T30 y286 x101_4).f3) - ((rd_T30 t272 (ji24)).f3))⟩ : S30) [.int .i64 ((rd_T30 y286 x101_4).f0), .string ((rd_T30 y286 x101_4).f1), .int .i64 ((rd_T30 y286 x101_4).f2), .int .i64 (wrap64 (((rd_T30 y286 x101_4).f3) - ((rd_T30 t272 (ji24)).f3)))] (fun k_ => some k_ ≠ (v284 : Value).ownBlock ∧ k_ ≠ gb291) (fun _ => False) rfl (by first | (go_simp; done) | (go_simp; rfl)) ?aP (fun _ hk => hk.elim) ?aF ?aO ?aB ?aS ?aL ?_; (case aP => exact k30_mkM _ _ _ (⟨(rd_T30 y286 x101_4).f0, (rd_T30 y286 x101_4).f1, (rd_T30 y286 x101_4).f2, wrap64 (((rd_T30 y286 x101_4).f3) - ((rd_T30 t272 (ji24)).f3))⟩ : S30)); (case aB => exact (by repeat (first | (with_reducible first | exact HB.out | apply below_alloc | apply pw_below_drewN | apply below_drew1 | refine below_set ?_ GE291.out) | exact HB.out))); (case aF => exact (fun k_ hk => ⟨Kd.fresh' (Kd.R_lt (by (with_reducible repeat (first | apply Kd.R_alloc | apply Kd.R_drewN | apply Kd.R_drew)); exact (Kd.R_mono (Kd.R_far (p := ⟨gb291, 3, none⟩) (Kd.R_far (p := ⟨gb291, 3, none⟩) (Kd.R_far (p := ⟨gb291, 2, none⟩) (Kd.R_far (p := ⟨gb291, 1, none⟩) (Kd.R_far (p := ⟨gb291, 0, none⟩) (Kd.R_mono HO_12.out (fun k_ hk => (⟨hk, hk.2⟩ : _ ∧ k_ ≠ gb291))) (fun _ hk => hk.2) (.int .i64 ((rd_T30 y286 x101_4).f0))) (fun _ hk => hk.2) (.string ((rd_T30 y286 x101_4).f1))) (fun _ hk => hk.2) (.int .i64 ((rd_T30 y286 x101_4).f2))) (fun _ hk => hk.2) (.int .i64 ((rd_T30 y286 x101_4).f3))) (fun _ hk => hk.2) (.int .i64 (wrap64 (((rd_T30 y286 x101_4).f3) - ((rd_T30 t272 (ji24)).f3))))) (fun _ h_ => h_.1)))) k_ hk, Kd.freshB (g := gb291) (o := .cells #[.int .i64 ((rd_T30 y286 x101_4).f0), .string ((rd_T30 y286 x101_4).f1), .int .i64 ((rd_T30 y286 x101_4).f2), .int .i64 (wrap64 (((rd_T30 y286 x101_4).f3) - ((rd_T30 t272 (ji24)).f3)))] 30 (0, 0)) (by (with_reducible repeat (first | refine blk_drewN ?_ _ | refine blk_drew ?_ | refine blk_alloc ?_ _)); refine blk_put (cs := #[.int .i64 ((rd_T30 y286 x101_4).f0), .string ((rd_T30 y286 x101_4).f1), .int .i64 ((rd_T30 y286 x101_4).f2), .int .i64 ((rd_T30 y286 x101_4).f3)]) ?_ 3 _ rfl; (with_reducible repeat (first | refine blk_drewN ?_ _ | refine blk_drew ?_ | refine blk_alloc ?_ _)); refine blk_put (cs := #[.int .i64 ((rd_T30 y286 x101_4).f0), .string ((rd_T30 y286 x101_4).f1), .int .i64 ((rd_T30 y286 x101_4).f2), .int .i64 0]) ?_ 3 _ rfl; (with_reducible repeat (first | refine blk_drewN ?_ _ | refine blk_drew ?_ | refine blk_alloc ?_ _)); refine blk_put (cs := #[.int .i64 ((rd_T30 y286 x101_4).f0), .string ((rd_T30 y286 x101_4).f1), .int .i64 0, .int .i64 0]) ?_ 2 _ rfl; (with_reducible repeat (first | refine blk_drewN ?_ _ | refine blk_drew ?_ | refine blk_alloc ?_ _)); refine blk_put (cs := #[.int .i64 ((rd_T30 y286 x101_4).f0), .string (⟨#[]⟩ : ByteArray), .int .i64 0, .int .i64 0]) ?_ 1 _ rfl; (with_reducible repeat (first | refine blk_drewN ?_ _ | refine blk_drew ?_ | refine blk_alloc ?_ _)); refine blk_put (cs := #[.int .i64 0, .string (⟨#[]⟩ : ByteArray), .int .i64 0, .int .i64 0]) ?_ 0 _ rfl; (with_reducible repeat (first | refine blk_drewN ?_ _ | refine blk_drew ?_ | refine blk_alloc ?_ _)); exact BK291.out) k_ hk⟩)); (case aO => exact (by (with_reducible repeat (first | apply Kd.R_alloc | apply Kd.R_drewN | apply Kd.R_drew)); exact Kd.R_mono (Kd.R_far (p := ⟨gb291, 3, none⟩) (Kd.R_far (p := ⟨gb291, 3, none⟩) (Kd.R_far (p := ⟨gb291, 2, none⟩) (Kd.R_far (p := ⟨gb291, 1, none⟩) (Kd.R_far (p := ⟨gb291, 0, none⟩) (Kd.R_mono HO_15.out (fun k_ hk => (⟨hk, hk.2⟩ : _ ∧ k_ ≠ gb291))) (fun _ hk => hk.2) (.int .i64 ((rd_T30 y286 x101_4).f0))) (fun _ hk => hk.2) (.string ((rd_T30 y286 x101_4).f1))) (fun _ hk => hk.2) (.int .i64 ((rd_T30 y286 x101_4).f2))) (fun _ hk => hk.2) (.int .i64 ((rd_T30 y286 x101_4).f3))) (fun _ hk => hk.2) (.int .i64 (wrap64 (((rd_T30 y286 x101_4).f3) - ((rd_T30 t272 (ji24)).f3))))) (fun _ hk => ⟨hk.1.1, hk.1.2⟩))); (case aS => exact (below_size (by repeat (first | (with_reducible first | exact HB.out | apply below_alloc | apply pw_below_drewN | apply below_drew1 | refine below_set ?_ GE291.out) | exact HB.out)))); (case aL => have := LMc41.out; omega); intro v293 w44 ho hb hg hat; rw [← Ny292.out] at ho; have n0_ := Aside0.mk (Kd.R_after (ok := (fun k_ => k_ ≠ gb291)) (by (with_reducible repeat (first | apply Kd.R_alloc | apply Kd.R_drewN | apply Kd.R_drew)); exact Kd.R_mono (Kd.R_far (p := ⟨gb291, 3, none⟩) (Kd.R_far (p := ⟨gb291, 3, none⟩) (Kd.R_far (p := ⟨gb291, 2, none⟩) (Kd.R_far (p := ⟨gb291, 1, none⟩) (Kd.R_far (p := ⟨gb291, 0, none⟩) (Kd.R_mono HO_12.out (fun k_ hk => (⟨hk, hk.2⟩ : _ ∧ k_ ≠ gb291))) (fun _ hk => hk.2) (.int .i64 ((rd_T30 y286 x101_4).f0))) (fun _ hk => hk.2) (.string ((rd_T30 y286 x101_4).f1))) (fun _ hk => hk.2) (.int .i64 ((rd_T30 y286 x101_4).f2))) (fun _ hk => hk.2) (.int .i64 ((rd_T30 y286 x101_4).f3))) (fun _ hk => hk.2) (.int .i64 (wrap64 (((rd_T30 y286 x101_4).f3) - ((rd_T30 t272 (ji24)).f3))))) (fun _ hk => ⟨hk.1.2, hk.1.1⟩)) hg hat); have n1_ := Aside0.mk (blk_grown (g := gb291) (o := .cells #[.int .i64 ((rd_T30 y286 x101_4).f0), .string ((rd_T30 y286 x101_4).f1), .int .i64 ((rd_T30 y286 x101_4).f2), .int .i64 (wrap64 (((rd_T30 y286 x101_4).f3) - ((rd_T30 t272 (ji24)).f3)))] 30 (0, 0)) (by (with_reducible repeat (first | refine blk_drewN ?_ _ | refine blk_drew ?_ | refine blk_alloc ?_ _)); refine blk_put (cs := #[.int .i64 ((rd_T30 y286 x101_4).f0), .string ((rd_T30 y286 x101_4).f1), .int .i64 ((rd_T30 y286 x101_4).f2), .int .i64 ((rd_T30 y286 x101_4).f3)]) ?_ 3 _ rfl; (with_reducible repeat (first | refine blk_drewN ?_ _ | refine blk_drew ?_ | refine blk_alloc ?_ _)); refine blk_put (cs := #[.int .i64 ((rd_T30 y286 x101_4).f0), .string ((rd_T30 y286 x101_4).f1), .int .i64 ((rd_T30 y286 x101_4).f2), .int .i64 0]) ?_ 3 _ rfl; (with_reducible repeat (first | refine blk_drewN ?_ _ | refine blk_drew ?_ | refine blk_alloc ?_ _)); refine blk_put (cs := #[.int .i64 ((rd_T30 y286 x101_4).f0), .string ((rd_T30 y286 x101_4).f1), .int .i64 0, .int .i64 0]) ?_ 2 _ rfl; (with_reducible repeat (first | refine blk_drewN ?_ _ | refine blk_drew ?_ | refine blk_alloc ?_ _)); refine blk_put (cs := #[.int .i64 ((rd_T30 y286 x101_4).f0), .string (⟨#[]⟩ : ByteArray), .int .i64 0, .int .i64 0]) ?_ 1 _ rfl; (with_reducible repeat (first | refine blk_drewN ?_ _ | refine blk_drew ?_ | refine blk_alloc ?_ _)); refine blk_put (cs := #[.int .i64 0, .string (⟨#[]⟩ : ByteArray), .int .i64 0, .int .i64 0]) ?_ 0 _ rfl; (with_reducible repeat (first | refine blk_drewN ?_ _ | refine blk_drew ?_ | refine blk_alloc ?_ _)); exact BK291.out) hg (Kd.R_away HO_15.out (fun _ hk => hk.2))); have n2_ := Aside0.mk (hb); have n3_ := Aside0.mk (ho); clear HO_12; clear BK291; clear HB; clear HO_15; have HO_12 := n0_; have BK291 := n1_; have HB := n2_; have HO294 := n3_; clear n0_ n1_ n2_ n3_; clear ho hb hg hat))
                                                repeat (go_quiet (first | ((with_reducible refine gate_dst (N := 17) rfl ?_); (try (refine gate_guard (by rfl) ?_; dsimp only)); refine box_event ?hg (N := 17) ?hd (cs := #[.int .i64 0, .string (⟨#[]⟩ : ByteArray), .int .i64 0, .int .i64 0]) (t := 30) ?hr ?_; (case hd => rfl); (case hg => rfl); (case hr => first | (go_simp; done) | (go_simp; rfl)); intro gb291 hg w42 hbox hb; have n0_ := Aside0.mk (Kd.R_below (Kd.R_elderB (by (with_reducible repeat (first | apply Kd.R_alloc | apply Kd.R_drewN | apply Kd.R_drew)); exact HO_12.out) gb291 (Nat.le_of_eq hg.symm)) hb); have n1_ := Aside0.mk (Kd.R_below (Kd.R_elderB (by (with_reducible repeat (first | apply Kd.R_alloc | apply Kd.R_drewN | apply Kd.R_drew)); exact HO_15.out) gb291 (Nat.le_of_eq hg.symm)) hb); have n2_ := Aside0.mk (below_step (by repeat (first | (with_reducible first | exact HB.out | apply below_alloc | apply pw_below_drewN | apply below_drew1) | exact HB.out)) hb); have n3_ := Aside0.mk (hbox); have n4_ := Aside0.mk ((by rw [hg]; exact (below_size (by repeat (first | (with_reducible first | exact HB.out | apply below_alloc | apply pw_below_drewN | apply below_drew1) | exact HB.out))) : w36.heap.size ≤ gb291)); have n5_ := Aside0.mk ((by rw [hg]; exact (below_size (by repeat (first | (with_reducible first | exact HB.out | apply below_alloc | apply pw_below_drewN | apply below_drew1) | exact HB.out))) : w36.heap.size ≤ gb291)); clear HO_12; clear HO_15; clear HB; have HO_12 := n0_; have HO_15 := n1_; have HB := n2_; have BK291 := n3_; have GW291 := n4_; have GE291 := n5_; clear n0_ n1_ n2_ n3_ n4_ n5_; clear hb hbox hg; have hcz43_0 : w42.cell? ⟨gb291, 0, none⟩ = some (.int .i64 0) := (blk_cell BK291.out 0).trans rfl; have hcz43_1 : w42.cell? ⟨gb291, 1, none⟩ = some (.string (⟨#[]⟩ : ByteArray)) := (blk_cell BK291.out 1).trans rfl; have hcz43_2 : w42.cell? ⟨gb291, 2, none⟩ = some (.int .i64 0) := (blk_cell BK291.out 2).trans rfl; have hcz43_3 : w42.cell? ⟨gb291, 3, none⟩ = some (.int .i64 0) := (blk_cell BK291.out 3).trans rfl; have hfz43_0 := blk_frozen BK291.out 0; have hfz43_1 := blk_frozen BK291.out 1; have hfz43_2 := blk_frozen BK291.out 2; have hfz43_3 := blk_frozen BK291.out 3; have hv_3 : ((((((w42.setCell ⟨gb291, 0, none⟩ (.int .i64 (rd_T30 y286 x101_4).f0)).setCell ⟨gb291, 1, none⟩ (.string (rd_T30 y286 x101_4).f1)).setCell ⟨gb291, 2, none⟩ (.int .i64 (rd_T30 y286 x101_4).f2)).setCell ⟨gb291, 3, none⟩ (.int .i64 (rd_T30 y286 x101_4).f3)).setCell ⟨gb291, 3, none⟩ (.int .i64 (wrap64 (((rd_T30 y286 x101_4).f3) - ((rd_T30 t272 (ji24)).f3)))))).cell? ⟨gb291, 3, none⟩ = some (.int .i64 (wrap64 (((rd_T30 y286 x101_4).f3) - ((rd_T30 t272 (ji24)).f3)))) := (blk_cell (blk_put (cs' := #[.int .i64 (rd_T30 y286 x101_4).f0, .string (rd_T30 y286 x101_4).f1, .int .i64 (rd_T30 y286 x101_4).f2, .int .i64 (wrap64 (((rd_T30 y286 x101_4).f3) - ((rd_T30 t272 (ji24)).f3)))]) (blk_put (blk_put (blk_put (blk_put BK291.out 0 _ rfl) 1 _ rfl) 2 _ rfl) 3 _ rfl) 3 _ rfl) 3).trans rfl; have hv_3d := fun n_ : Nat => (show (((((((w42.drewN n_).setCell ⟨gb291, 0, none⟩ (.int .i64 (rd_T30 y286 x101_4).f0)).setCell ⟨gb291, 1, none⟩ (.string (rd_T30 y286 x101_4).f1)).setCell ⟨gb291, 2, none⟩ (.int .i64 (rd_T30 y286 x101_4).f2)).setCell ⟨gb291, 3, none⟩ (.int .i64 (rd_T30 y286 x101_4).f3)).setCell ⟨gb291, 3, none⟩ (.int .i64 (wrap64 (((rd_T30 y286 x101_4).f3) - ((rd_T30 t272 (ji24)).f3)))))).cell? ⟨gb291, 3, none⟩ = some (.int .i64 (wrap64 (((rd_T30 y286 x101_4).f3) - ((rd_T30 t272 (ji24)).f3)))) from hv_3)) | ((with_reducible refine gate_builtin (b := .append) (xs := #[.tmp 110, .tmp 112]) rfl ?_); (try (refine gate_guard (by rfl) ?_; dsimp only)); at_builtin; refine Kd.R_append k30 (w0 := w36) w36.heap.size rfl (.tmp 110) (.tmp 112) 23 30 (.agg #[(.int .i64 0), (.string ⟨#[]⟩), (.int .i64 0), (.int .i64 0)]) 40 rfl Tryd.underlying23 info30 rfl (by decide) (by omega) u15 x15_4 (⟨(rd_T30 y286 x101_4).f0, (rd_T30 y286 x101_4).f1, (rd_T30 y286 x101_4).f2, wrap64 (((rd_T30 y286 x101_4).f3) - ((rd_T30 t272 (ji24)).f3))⟩ : S30) [.int .i64 ((rd_T30 y286 x101_4).f0), .string ((rd_T30 y286 x101_4).f1), .int .i64 ((rd_T30 y286 x101_4).f2), .int .i64 (wrap64 (((rd_T30 y286 x101_4).f3) - ((rd_T30 t272 (ji24)).f3)))] (fun k_ => some k_ ≠ (v284 : Value).ownBlock ∧ k_ ≠ gb291) (fun _ => False) rfl (by first | (go_simp; done) | (go_simp; rfl)) ?aP (fun _ hk => hk.elim) ?aF ?aO ?aB ?aS ?aL ?_; (case aP => exact k30_mkM _ _ _ (⟨(rd_T30 y286 x101_4).f0, (rd_T30 y286 x101_4).f1, (rd_T30 y286 x101_4).f2, wrap64 (((rd_T30 y286 x101_4).f3) - ((rd_T30 t272 (ji24)).f3))⟩ : S30)); (case aB => exact (by repeat (first | (with_reducible first | exact HB.out | apply below_alloc | apply pw_below_drewN | apply below_drew1 | refine below_set ?_ GE291.out) | exact HB.out))); (case aF => exact (fun k_ hk => ⟨Kd.fresh' (Kd.R_lt (by (with_reducible repeat (first | apply Kd.R_alloc | apply Kd.R_drewN | apply Kd.R_drew)); exact (Kd.R_mono (Kd.R_far (p := ⟨gb291, 3, none⟩) (Kd.R_far (p := ⟨gb291, 3, none⟩) (Kd.R_far (p := ⟨gb291, 2, none⟩) (Kd.R_far (p := ⟨gb291, 1, none⟩) (Kd.R_far (p := ⟨gb291, 0, none⟩) (Kd.R_mono HO_12.out (fun k_ hk => (⟨hk, hk.2⟩ : _ ∧ k_ ≠ gb291))) (fun _ hk => hk.2) (.int .i64 ((rd_T30 y286 x101_4).f0))) (fun _ hk => hk.2) (.string ((rd_T30 y286 x101_4).f1))) (fun _ hk => hk.2) (.int .i64 ((rd_T30 y286 x101_4).f2))) (fun _ hk => hk.2) (.int .i64 ((rd_T30 y286 x101_4).f3))) (fun _ hk => hk.2) (.int .i64 (wrap64 (((rd_T30 y286 x101_4).f3) - ((rd_T30 t272 (ji24)).f3))))) (fun _ h_ => h_.1)))) k_ hk, Kd.freshB (g := gb291) (o := .cells #[.int .i64 ((rd_T30 y286 x101_4).f0), .string ((rd_T30 y286 x101_4).f1), .int .i64 ((rd_T30 y286 x101_4).f2), .int .i64 (wrap64 (((rd_T30 y286 x101_4).f3) - ((rd_T30 t272 (ji24)).f3)))] 30 (0, 0)) (by (with_reducible repeat (first | refine blk_drewN ?_ _ | refine blk_drew ?_ | refine blk_alloc ?_ _)); refine blk_put (cs := #[.int .i64 ((rd_T30 y286 x101_4).f0), .string ((rd_T30 y286 x101_4).f1), .int .i64 ((rd_T30 y286 x101_4).f2), .int .i64 ((rd_T30 y286 x101_4).f3)]) ?_ 3 _ rfl; (with_reducible repeat (first | refine blk_drewN ?_ _ | refine blk_drew ?_ | refine blk_alloc ?_ _)); refine blk_put (cs := #[.int .i64 ((rd_T30 y286 x101_4).f0), .string ((rd_T30 y286 x101_4).f1), .int .i64 ((rd_T30 y286 x101_4).f2), .int .i64 0]) ?_ 3 _ rfl; (with_reducible repeat (first | refine blk_drewN ?_ _ | refine blk_drew ?_ | refine blk_alloc ?_ _)); refine blk_put (cs := #[.int .i64 ((rd_T30 y286 x101_4).f0), .string ((rd_T30 y286 x101_4).f1), .int .i64 0, .int .i64 0]) ?_ 2 _ rfl; (with_reducible repeat (first | refine blk_drewN ?_ _ | refine blk_drew ?_ | refine blk_alloc ?_ _)); refine blk_put (cs := #[.int .i64 ((rd_T30 y286 x101_4).f0), .string (⟨#[]⟩ : ByteArray), .int .i64 0, .int .i64 0]) ?_ 1 _ rfl; (with_reducible repeat (first | refine blk_drewN ?_ _ | refine blk_drew ?_ | refine blk_alloc ?_ _)); refine blk_put (cs := #[.int .i64 0, .string (⟨#[]⟩ : ByteArray), .int .i64 0, .int .i64 0]) ?_ 0 _ rfl; (with_reducible repeat (first | refine blk_drewN ?_ _ | refine blk_drew ?_ | refine blk_alloc ?_ _)); exact BK291.out) k_ hk⟩)); (case aO => exact (by (with_reducible repeat (first | apply Kd.R_alloc | apply Kd.R_drewN | apply Kd.R_drew)); exact Kd.R_mono (Kd.R_far (p := ⟨gb291, 3, none⟩) (Kd.R_far (p := ⟨gb291, 3, none⟩) (Kd.R_far (p := ⟨gb291, 2, none⟩) (Kd.R_far (p := ⟨gb291, 1, none⟩) (Kd.R_far (p := ⟨gb291, 0, none⟩) (Kd.R_mono HO_15.out (fun k_ hk => (⟨hk, hk.2⟩ : _ ∧ k_ ≠ gb291))) (fun _ hk => hk.2) (.int .i64 ((rd_T30 y286 x101_4).f0))) (fun _ hk => hk.2) (.string ((rd_T30 y286 x101_4).f1))) (fun _ hk => hk.2) (.int .i64 ((rd_T30 y286 x101_4).f2))) (fun _ hk => hk.2) (.int .i64 ((rd_T30 y286 x101_4).f3))) (fun _ hk => hk.2) (.int .i64 (wrap64 (((rd_T30 y286 x101_4).f3) - ((rd_T30 t272 (ji24)).f3))))) (fun _ hk => ⟨hk.1.1, hk.1.2⟩))); (case aS => exact (below_size (by repeat (first | (with_reducible first | exact HB.out | apply below_alloc | apply pw_below_drewN | apply below_drew1 | refine below_set ?_ GE291.out) | exact HB.out)))); (case aL => have := LMc41.out; omega); intro v293 w44 ho hb hg hat; rw [← Ny292.out] at ho; have n0_ := Aside0.mk (Kd.R_after (ok := (fun k_ => k_ ≠ gb291)) (by (with_reducible repeat (first | apply Kd.R_alloc | apply Kd.R_drewN | apply Kd.R_drew)); exact Kd.R_mono (Kd.R_far (p := ⟨gb291, 3, none⟩) (Kd.R_far (p := ⟨gb291, 3, none⟩) (Kd.R_far (p := ⟨gb291, 2, none⟩) (Kd.R_far (p := ⟨gb291, 1, none⟩) (Kd.R_far (p := ⟨gb291, 0, none⟩) (Kd.R_mono HO_12.out (fun k_ hk => (⟨hk, hk.2⟩ : _ ∧ k_ ≠ gb291))) (fun _ hk => hk.2) (.int .i64 ((rd_T30 y286 x101_4).f0))) (fun _ hk => hk.2) (.string ((rd_T30 y286 x101_4).f1))) (fun _ hk => hk.2) (.int .i64 ((rd_T30 y286 x101_4).f2))) (fun _ hk => hk.2) (.int .i64 ((rd_T30 y286 x101_4).f3))) (fun _ hk => hk.2) (.int .i64 (wrap64 (((rd_T30 y286 x101_4).f3) - ((rd_T30 t272 (ji24)).f3))))) (fun _ hk => ⟨hk.1.2, hk.1.1⟩)) hg hat); have n1_ := Aside0.mk (blk_grown (g := gb291) (o := .cells #[.int .i64 ((rd_T30 y286 x101_4).f0), .string ((rd_T30 y286 x101_4).f1), .int .i64 ((rd_T30 y286 x101_4).f2), .int .i64 (wrap64 (((rd_T30 y286 x101_4).f3) - ((rd_T30 t272 (ji24)).f3)))] 30 (0, 0)) (by (with_reducible repeat (first | refine blk_drewN ?_ _ | refine blk_drew ?_ | refine blk_alloc ?_ _)); refine blk_put (cs := #[.int .i64 ((rd_T30 y286 x101_4).f0), .string ((rd_T30 y286 x101_4).f1), .int .i64 ((rd_T30 y286 x101_4).f2), .int .i64 ((rd_T30 y286 x101_4).f3)]) ?_ 3 _ rfl; (with_reducible repeat (first | refine blk_drewN ?_ _ | refine blk_drew ?_ | refine blk_alloc ?_ _)); refine blk_put (cs := #[.int .i64 ((rd_T30 y286 x101_4).f0), .string ((rd_T30 y286 x101_4).f1), .int .i64 ((rd_T30 y286 x101_4).f2), .int .i64 0]) ?_ 3 _ rfl; (with_reducible repeat (first | refine blk_drewN ?_ _ | refine blk_drew ?_ | refine blk_alloc ?_ _)); refine blk_put (cs := #[.int .i64 ((rd_T30 y286 x101_4).f0), .string ((rd_T30 y286 x101_4).f1), .int .i64 0, .int .i64 0]) ?_ 2 _ rfl; (with_reducible repeat (first | refine blk_drewN ?_ _ | refine blk_drew ?_ | refine blk_alloc ?_ _)); refine blk_put (cs := #[.int .i64 ((rd_T30 y286 x101_4).f0), .string (⟨#[]⟩ : ByteArray), .int .i64 0, .int .i64 0]) ?_ 1 _ rfl; (with_reducible repeat (first | refine blk_drewN ?_ _ | refine blk_drew ?_ | refine blk_alloc ?_ _)); refine blk_put (cs := #[.int .i64 0, .string (⟨#[]⟩ : ByteArray), .int .i64 0, .int .i64 0]) ?_ 0 _ rfl; (with_reducible repeat (first | refine blk_drewN ?_ _ | refine blk_drew ?_ | refine blk_alloc ?_ _)); exact BK291.out) hg (Kd.R_away HO_15.out (fun _ hk => hk.2))); have n2_ := Aside0.mk (hb); have n3_ := Aside0.mk (ho); clear HO_12; clear BK291; clear HB; clear HO_15; have HO_12 := n0_; have BK291 := n1_; have HB := n2_; have HO294 := n3_; clear n0_ n1_ n2_ n3_; clear ho hb hg hat)); try go_wp2_with (first | ((with_reducible refine gate_dst (N := 17) rfl ?_); (try (refine gate_guard (by rfl) ?_; dsimp only)); refine box_event ?hg (N := 17) ?hd (cs := #[.int .i64 0, .string (⟨#[]⟩ : ByteArray), .int .i64 0, .int .i64 0]) (t := 30) ?hr ?_; (case hd => rfl); (case hg => rfl); (case hr => first | (go_simp; done) | (go_simp; rfl)); intro gb291 hg w42 hbox hb; have n0_ := Aside0.mk (Kd.R_below (Kd.R_elderB (by (with_reducible repeat (first | apply Kd.R_alloc | apply Kd.R_drewN | apply Kd.R_drew)); exact HO_12.out) gb291 (Nat.le_of_eq hg.symm)) hb); have n1_ := Aside0.mk (Kd.R_below (Kd.R_elderB (by (with_reducible repeat (first | apply Kd.R_alloc | apply Kd.R_drewN | apply Kd.R_drew)); exact HO_15.out) gb291 (Nat.le_of_eq hg.symm)) hb); have n2_ := Aside0.mk (below_step (by repeat (first | (with_reducible first | exact HB.out | apply below_alloc | apply pw_below_drewN | apply below_drew1) | exact HB.out)) hb); have n3_ := Aside0.mk (hbox); have n4_ := Aside0.mk ((by rw [hg]; exact (below_size (by repeat (first | (with_reducible first | exact HB.out | apply below_alloc | apply pw_below_drewN | apply below_drew1) | exact HB.out))) : w36.heap.size ≤ gb291)); have n5_ := Aside0.mk ((by rw [hg]; exact (below_size (by repeat (first | (with_reducible first | exact HB.out | apply below_alloc | apply pw_below_drewN | apply below_drew1) | exact HB.out))) : w36.heap.size ≤ gb291)); clear HO_12; clear HO_15; clear HB; have HO_12 := n0_; have HO_15 := n1_; have HB := n2_; have BK291 := n3_; have GW291 := n4_; have GE291 := n5_; clear n0_ n1_ n2_ n3_ n4_ n5_; clear hb hbox hg; have hcz43_0 : w42.cell? ⟨gb291, 0, none⟩ = some (.int .i64 0) := (blk_cell BK291.out 0).trans rfl; have hcz43_1 : w42.cell? ⟨gb291, 1, none⟩ = some (.string (⟨#[]⟩ : ByteArray)) := (blk_cell BK291.out 1).trans rfl; have hcz43_2 : w42.cell? ⟨gb291, 2, none⟩ = some (.int .i64 0) := (blk_cell BK291.out 2).trans rfl; have hcz43_3 : w42.cell? ⟨gb291, 3, none⟩ = some (.int .i64 0) := (blk_cell BK291.out 3).trans rfl; have hfz43_0 := blk_frozen BK291.out 0; have hfz43_1 := blk_frozen BK291.out 1; have hfz43_2 := blk_frozen BK291.out 2; have hfz43_3 := blk_frozen BK291.out 3) | ((with_reducible refine gate_builtin (b := .append) (xs := #[.tmp 110, .tmp 112]) rfl ?_); (try (refine gate_guard (by rfl) ?_; dsimp only)); at_builtin; refine Kd.R_append k30 (w0 := w36) w36.heap.size rfl (.tmp 110) (.tmp 112) 23 30 (.agg #[(.int .i64 0), (.string ⟨#[]⟩), (.int .i64 0), (.int .i64 0)]) 40 rfl Tryd.underlying23 info30 rfl (by decide) (by omega) u15 x15_4 (⟨(rd_T30 y286 x101_4).f0, (rd_T30 y286 x101_4).f1, (rd_T30 y286 x101_4).f2, wrap64 (((rd_T30 y286 x101_4).f3) - ((rd_T30 t272 (ji24)).f3))⟩ : S30) [.int .i64 ((rd_T30 y286 x101_4).f0), .string ((rd_T30 y286 x101_4).f1), .int .i64 ((rd_T30 y286 x101_4).f2), .int .i64 (wrap64 (((rd_T30 y286 x101_4).f3) - ((rd_T30 t272 (ji24)).f3)))] (fun k_ => some k_ ≠ (v284 : Value).ownBlock ∧ k_ ≠ gb291) (fun _ => False) rfl (by first | (go_simp; done) | (go_simp; rfl)) ?aP (fun _ hk => hk.elim) ?aF ?aO ?aB ?aS ?aL ?_; (case aP => exact k30_mkM _ _ _ (⟨(rd_T30 y286 x101_4).f0, (rd_T30 y286 x101_4).f1, (rd_T30 y286 x101_4).f2, wrap64 (((rd_T30 y286 x101_4).f3) - ((rd_T30 t272 (ji24)).f3))⟩ : S30)); (case aB => exact (by repeat (first | (with_reducible first | exact HB.out | apply below_alloc | apply pw_below_drewN | apply below_drew1 | refine below_set ?_ GE291.out) | exact HB.out))); (case aF => exact (fun k_ hk => ⟨Kd.fresh' (Kd.R_lt (by (with_reducible repeat (first | apply Kd.R_alloc | apply Kd.R_drewN | apply Kd.R_drew)); exact (Kd.R_mono (Kd.R_far (p := ⟨gb291, 3, none⟩) (Kd.R_far (p := ⟨gb291, 3, none⟩) (Kd.R_far (p := ⟨gb291, 2, none⟩) (Kd.R_far (p := ⟨gb291, 1, none⟩) (Kd.R_far (p := ⟨gb291, 0, none⟩) (Kd.R_mono HO_12.out (fun k_ hk => (⟨hk, hk.2⟩ : _ ∧ k_ ≠ gb291))) (fun _ hk => hk.2) (.int .i64 ((rd_T30 y286 x101_4).f0))) (fun _ hk => hk.2) (.string ((rd_T30 y286 x101_4).f1))) (fun _ hk => hk.2) (.int .i64 ((rd_T30 y286 x101_4).f2))) (fun _ hk => hk.2) (.int .i64 ((rd_T30 y286 x101_4).f3))) (fun _ hk => hk.2) (.int .i64 (wrap64 (((rd_T30 y286 x101_4).f3) - ((rd_T30 t272 (ji24)).f3))))) (fun _ h_ => h_.1)))) k_ hk, Kd.freshB (g := gb291) (o := .cells #[.int .i64 ((rd_T30 y286 x101_4).f0), .string ((rd_T30 y286 x101_4).f1), .int .i64 ((rd_T30 y286 x101_4).f2), .int .i64 (wrap64 (((rd_T30 y286 x101_4).f3) - ((rd_T30 t272 (ji24)).f3)))] 30 (0, 0)) (by (with_reducible repeat (first | refine blk_drewN ?_ _ | refine blk_drew ?_ | refine blk_alloc ?_ _)); refine blk_put (cs := #[.int .i64 ((rd_T30 y286 x101_4).f0), .string ((rd_T30 y286 x101_4).f1), .int .i64 ((rd_T30 y286 x101_4).f2), .int .i64 ((rd_T30 y286 x101_4).f3)]) ?_ 3 _ rfl; (with_reducible repeat (first | refine blk_drewN ?_ _ | refine blk_drew ?_ | refine blk_alloc ?_ _)); refine blk_put (cs := #[.int .i64 ((rd_T30 y286 x101_4).f0), .string ((rd_T30 y286 x101_4).f1), .int .i64 ((rd_T30 y286 x101_4).f2), .int .i64 0]) ?_ 3 _ rfl; (with_reducible repeat (first | refine blk_drewN ?_ _ | refine blk_drew ?_ | refine blk_alloc ?_ _)); refine blk_put (cs := #[.int .i64 ((rd_T30 y286 x101_4).f0), .string ((rd_T30 y286 x101_4).f1), .int .i64 0, .int .i64 0]) ?_ 2 _ rfl; (with_reducible repeat (first | refine blk_drewN ?_ _ | refine blk_drew ?_ | refine blk_alloc ?_ _)); refine blk_put (cs := #[.int .i64 ((rd_T30 y286 x101_4).f0), .string (⟨#[]⟩ : ByteArray), .int .i64 0, .int .i64 0]) ?_ 1 _ rfl; (with_reducible repeat (first | refine blk_drewN ?_ _ | refine blk_drew ?_ | refine blk_alloc ?_ _)); refine blk_put (cs := #[.int .i64 0, .string (⟨#[]⟩ : ByteArray), .int .i64 0, .int .i64 0]) ?_ 0 _ rfl; (with_reducible repeat (first | refine blk_drewN ?_ _ | refine blk_drew ?_ | refine blk_alloc ?_ _)); exact BK291.out) k_ hk⟩)); (case aO => exact (by (with_reducible repeat (first | apply Kd.R_alloc | apply Kd.R_drewN | apply Kd.R_drew)); exact Kd.R_mono (Kd.R_far (p := ⟨gb291, 3, none⟩) (Kd.R_far (p := ⟨gb291, 3, none⟩) (Kd.R_far (p := ⟨gb291, 2, none⟩) (Kd.R_far (p := ⟨gb291, 1, none⟩) (Kd.R_far (p := ⟨gb291, 0, none⟩) (Kd.R_mono HO_15.out (fun k_ hk => (⟨hk, hk.2⟩ : _ ∧ k_ ≠ gb291))) (fun _ hk => hk.2) (.int .i64 ((rd_T30 y286 x101_4).f0))) (fun _ hk => hk.2) (.string ((rd_T30 y286 x101_4).f1))) (fun _ hk => hk.2) (.int .i64 ((rd_T30 y286 x101_4).f2))) (fun _ hk => hk.2) (.int .i64 ((rd_T30 y286 x101_4).f3))) (fun _ hk => hk.2) (.int .i64 (wrap64 (((rd_T30 y286 x101_4).f3) - ((rd_T30 t272 (ji24)).f3))))) (fun _ hk => ⟨hk.1.1, hk.1.2⟩))); (case aS => exact (below_size (by repeat (first | (with_reducible first | exact HB.out | apply below_alloc | apply pw_below_drewN | apply below_drew1 | refine below_set ?_ GE291.out) | exact HB.out)))); (case aL => have := LMc41.out; omega); intro v293 w44 ho hb hg hat; rw [← Ny292.out] at ho; have n0_ := Aside0.mk (Kd.R_after (ok := (fun k_ => k_ ≠ gb291)) (by (with_reducible repeat (first | apply Kd.R_alloc | apply Kd.R_drewN | apply Kd.R_drew)); exact Kd.R_mono (Kd.R_far (p := ⟨gb291, 3, none⟩) (Kd.R_far (p := ⟨gb291, 3, none⟩) (Kd.R_far (p := ⟨gb291, 2, none⟩) (Kd.R_far (p := ⟨gb291, 1, none⟩) (Kd.R_far (p := ⟨gb291, 0, none⟩) (Kd.R_mono HO_12.out (fun k_ hk => (⟨hk, hk.2⟩ : _ ∧ k_ ≠ gb291))) (fun _ hk => hk.2) (.int .i64 ((rd_T30 y286 x101_4).f0))) (fun _ hk => hk.2) (.string ((rd_T30 y286 x101_4).f1))) (fun _ hk => hk.2) (.int .i64 ((rd_T30 y286 x101_4).f2))) (fun _ hk => hk.2) (.int .i64 ((rd_T30 y286 x101_4).f3))) (fun _ hk => hk.2) (.int .i64 (wrap64 (((rd_T30 y286 x101_4).f3) - ((rd_T30 t272 (ji24)).f3))))) (fun _ hk => ⟨hk.1.2, hk.1.1⟩)) hg hat); have n1_ := Aside0.mk (blk_grown (g := gb291) (o := .cells #[.int .i64 ((rd_T30 y286 x101_4).f0), .string ((rd_T30 y286 x101_4).f1), .int .i64 ((rd_T30 y286 x101_4).f2), .int .i64 (wrap64 (((rd_T30 y286 x101_4).f3) - ((rd_T30 t272 (ji24)).f3)))] 30 (0, 0)) (by (with_reducible repeat (first | refine blk_drewN ?_ _ | refine blk_drew ?_ | refine blk_alloc ?_ _)); refine blk_put (cs := #[.int .i64 ((rd_T30 y286 x101_4).f0), .string ((rd_T30 y286 x101_4).f1), .int .i64 ((rd_T30 y286 x101_4).f2), .int .i64 ((rd_T30 y286 x101_4).f3)]) ?_ 3 _ rfl; (with_reducible repeat (first | refine blk_drewN ?_ _ | refine blk_drew ?_ | refine blk_alloc ?_ _)); refine blk_put (cs := #[.int .i64 ((rd_T30 y286 x101_4).f0), .string ((rd_T30 y286 x101_4).f1), .int .i64 ((rd_T30 y286 x101_4).f2), .int .i64 0]) ?_ 3 _ rfl; (with_reducible repeat (first | refine blk_drewN ?_ _ | refine blk_drew ?_ | refine blk_alloc ?_ _)); refine blk_put (cs := #[.int .i64 ((rd_T30 y286 x101_4).f0), .string ((rd_T30 y286 x101_4).f1), .int .i64 0, .int .i64 0]) ?_ 2 _ rfl; (with_reducible repeat (first | refine blk_drewN ?_ _ | refine blk_drew ?_ | refine blk_alloc ?_ _)); refine blk_put (cs := #[.int .i64 ((rd_T30 y286 x101_4).f0), .string (⟨#[]⟩ : ByteArray), .int .i64 0, .int .i64 0]) ?_ 1 _ rfl; (with_reducible repeat (first | refine blk_drewN ?_ _ | refine blk_drew ?_ | refine blk_alloc ?_ _)); refine blk_put (cs := #[.int .i64 0, .string (⟨#[]⟩ : ByteArray), .int .i64 0, .int .i64 0]) ?_ 0 _ rfl; (with_reducible repeat (first | refine blk_drewN ?_ _ | refine blk_drew ?_ | refine blk_alloc ?_ _)); exact BK291.out) hg (Kd.R_away HO_15.out (fun _ hk => hk.2))); have n2_ := Aside0.mk (hb); have n3_ := Aside0.mk (ho); clear HO_12; clear BK291; clear HB; clear HO_15; have HO_12 := n0_; have BK291 := n1_; have HB := n2_; have HO294 := n3_; clear n0_ n1_ n2_ n3_; clear ho hb hg hat)))
                                                go_roundg k4
                                                case measure => have := HJ5.out; have := HK2.out; have := HJ26.out; have := HK4.out; omega
                                                case rel => exact ⟨(y292), (wrap64 (x101_4 + 1)), (by first | rfl | (simp; done) | (simp [*]; done) | (simp; first | exact Go.Proofs.YtffaibjiiiochaaDoor.Pre.ne1 _ | exact Go.Proofs.YtffaibjiiiochaaDoor.Pre.ne2 _ | exact Go.Proofs.YtffaibjiiiochaaDoor.Pre.ne3 _ | exact Go.Proofs.YtffaibjiiiochaaDoor.Pre.ne4 _ | exact Go.Proofs.YtffaibjiiiochaaDoor.Pre.ne5 _ | exact Go.Proofs.YtffaibjiiiochaaDoor.Pre.ne6 _)), H', ⟨by have := HJ5.out; have := HK2.out; have := HJ26.out; have := HK4.out; omega⟩, ⟨by (with_reducible repeat (first | apply Kd.R_alloc | apply Kd.R_drewN | apply Kd.R_drew)); exact Kd.R_mono HO_12.out (fun _ hk => hk.2)⟩, ⟨by (with_reducible repeat (first | apply Kd.R_alloc | apply Kd.R_drewN | apply Kd.R_drew)); exact Kd.R_mono HO294.out (fun _ hk => hk.1)⟩, ⟨by repeat (first | (with_reducible first | exact HB.out | apply below_alloc | apply pw_below_drewN | apply below_drew1 | refine below_set ?_ GE291.out) | exact HB.out)⟩⟩
                                              · rw [if_neg c41] at H
                                                exact absurd H (by simp)
                                            · rw [if_neg c40] at H
                                              exact absurd H (by simp)
                                          · rw [if_neg c39] at H
                                            exact absurd H (by simp)
                                        · rw [if_neg c38] at H
                                          have HB1_ := Aside0.mk (HB0_.out.trans (HB.out.mono HB0_.out.size))
                                          clear HB
                                          have HB := HB1_
                                          clear HB1_
                                          have c38b0 : decide (x101_4 < (y286.length : Int)) = false := decide_eq_false c38
                                          clear c38
                                          by_cases c45 : t271 = true
                                          · subst c45
                                            have H1 : (if t283 = 0 then ((boscageref06_Same.f k4 t281 x15_4).bind fun t295 => (some t295)) else (some false)) = some r := by rw [if_pos rfl] at H; exact H
                                            clear H
                                            have H := H1
                                            clear H1
                                            by_cases c46 : t283 = 0
                                            · rw [if_pos c46] at H
                                              have c46b0 : (t283 == 0) = true := beq_iff_eq.mpr c46
                                              have c46b1 : (t283 != 0) = false := bne_eq_false_iff_eq.mpr c46
                                              clear c46
                                              replace H := Option.bind_eq_some_iff.mp H
                                              obtain ⟨t295, A470, H⟩ := H
                                              replace H : (some t295) = some r := H
                                              have A47 := Aside0.mk A470
                                              clear A470
                                              obtain rfl := Option.some.inj H
                                              obtain ⟨Ao48, co48, eo48⟩ := Kd.R_slice HO_12.out
                                              subst eo48
                                              obtain ⟨Ao49, co49, eo49⟩ := Kd.R_slice HO_15.out
                                              subst eo49
                                              go_wp2_with (first | (go_at_call 12; (with_reducible refine (boscageref06_Same.calls k4 _ _ t281 _ _ x15_4 t295 _ ?side1 ?side2 ?side3 ?side4 A47.out).mono ?_); (case side1 => repeat (first | exact (Kd.R_reads' HO_12.out).2.2 | (with_reducible refine Kd.C_alloc ?_ _) | (with_reducible refine Kd.C_drewN ?_ _) | (with_reducible refine Kd.C_drew ?_))); (case side2 => exact (Kd.R_reads' HO_12.out).2.1); (case side3 => repeat (first | exact (Kd.R_reads' HO_15.out).2.2 | (with_reducible refine Kd.C_alloc ?_ _) | (with_reducible refine Kd.C_drewN ?_ _) | (with_reducible refine Kd.C_drew ?_))); (case side4 => exact (Kd.R_reads' HO_15.out).2.1); rintro e w' ⟨rfl, ⟨nd, rfl⟩⟩; (try first | exact ⟨rfl, _, World.drewN_drewN _ _ _⟩ | exact ⟨rfl, _, Eq.trans (World.drewN_drewN _ _ _) (congrArg (World.drewN _) (Nat.add_assoc _ _ _))⟩)))
                                              repeat (go_quiet (first | (go_at_call 12; (with_reducible refine (boscageref06_Same.calls k4 _ _ t281 _ _ x15_4 t295 _ ?side1 ?side2 ?side3 ?side4 A47.out).mono ?_); (case side1 => repeat (first | exact (Kd.R_reads' HO_12.out).2.2 | (with_reducible refine Kd.C_alloc ?_ _) | (with_reducible refine Kd.C_drewN ?_ _) | (with_reducible refine Kd.C_drew ?_))); (case side2 => exact (Kd.R_reads' HO_12.out).2.1); (case side3 => repeat (first | exact (Kd.R_reads' HO_15.out).2.2 | (with_reducible refine Kd.C_alloc ?_ _) | (with_reducible refine Kd.C_drewN ?_ _) | (with_reducible refine Kd.C_drew ?_))); (case side4 => exact (Kd.R_reads' HO_15.out).2.1); rintro e w' ⟨rfl, ⟨nd, rfl⟩⟩; (try first | exact ⟨rfl, _, World.drewN_drewN _ _ _⟩ | exact ⟨rfl, _, Eq.trans (World.drewN_drewN _ _ _) (congrArg (World.drewN _) (Nat.add_assoc _ _ _))⟩))); try go_wp2_with (first | (go_at_call 12; (with_reducible refine (boscageref06_Same.calls k4 _ _ t281 _ _ x15_4 t295 _ ?side1 ?side2 ?side3 ?side4 A47.out).mono ?_); (case side1 => repeat (first | exact (Kd.R_reads' HO_12.out).2.2 | (with_reducible refine Kd.C_alloc ?_ _) | (with_reducible refine Kd.C_drewN ?_ _) | (with_reducible refine Kd.C_drew ?_))); (case side2 => exact (Kd.R_reads' HO_12.out).2.1); (case side3 => repeat (first | exact (Kd.R_reads' HO_15.out).2.2 | (with_reducible refine Kd.C_alloc ?_ _) | (with_reducible refine Kd.C_drewN ?_ _) | (with_reducible refine Kd.C_drew ?_))); (case side4 => exact (Kd.R_reads' HO_15.out).2.1); rintro e w' ⟨rfl, ⟨nd, rfl⟩⟩; (try first | exact ⟨rfl, _, World.drewN_drewN _ _ _⟩ | exact ⟨rfl, _, Eq.trans (World.drewN_drewN _ _ _) (congrArg (World.drewN _) (Nat.add_assoc _ _ _))⟩))))
                                              go_ret
                                              exact ⟨by first | rfl | (simp [errW_none, errW_some] <;> rfl) | (simp only [← hji24]; first | rfl | (simp [errW_none, errW_some] <;> rfl)) | (simp [*, errW_none, errW_some] <;> rfl), by repeat (first | (with_reducible first | exact HB.out | apply below_alloc | apply pw_below_drewN | apply below_drew1) | exact HB.out)⟩
                                            · rw [if_neg c46] at H
                                              have c46b0 : (t283 == 0) = false := beq_eq_false_iff_ne.mpr c46
                                              have c46b1 : (t283 != 0) = true := bne_iff_ne.mpr c46
                                              exact absurd ((Option.some.inj H).trans HRT.out) Bool.false_ne_true
                                          · replace c45 := Bool.eq_false_iff.mpr c45
                                            subst c45
                                            have H1 : (some false) = some r := by rw [if_neg (show ¬ (false = true) by decide)] at H; exact H
                                            clear H
                                            have H := H1
                                            clear H1
                                            exact absurd ((Option.some.inj H).trans HRT.out) Bool.false_ne_true
                                  · rw [if_neg c35] at H
                                    exact absurd H (by simp)
                                · rw [if_neg c34] at H
                                  exact absurd H (by simp)
                              · rw [if_neg c32] at H
                                exact absurd H (by simp)
                            · rw [if_neg c31] at H
                              exact absurd H (by simp)
                    · rw [if_neg c26] at H
                      exact absurd H (by simp)
                  · rw [if_neg c25] at H
                    exact absurd H (by simp)
  · rw [if_neg c5] at H
    have c5b0 : (t274 == 0) = false := beq_eq_false_iff_ne.mpr c5
    have c5b1 : (t274 != 0) = true := bne_iff_ne.mpr c5
    by_cases c50 : t271 = true
    · subst c50
      have H1 : (some ((t272.length : Int) == 0)) = some r := by rw [if_pos rfl] at H; exact H
      clear H
      have H := H1
      clear H1
      obtain rfl := Option.some.inj H
      go_enter Tryd.func5, Tryd.ntmps5
      go_wp2_with (first | (go_at_call 9; (with_reducible refine (boscagelaw06_live.calls k  true _ A3.out).mono ?_); rintro e w51 ⟨rfl, hb⟩; have n0_ := Aside0.mk (below_step (by repeat (first | (with_reducible first | exact HB.out | apply below_alloc | apply pw_below_drewN | apply below_drew1) | exact HB.out)) hb); clear HB; have HB := n0_; clear n0_; (try clear hb); (try clear hb2); (try clear hk); (try clear hi)) | (go_at_call 10; (with_reducible refine (token_Cut.calls a0 t272 t273 t274 _ A4.out).mono ?_); rintro e w52 ⟨v275, rfl, ho0, hb⟩; have n0_ := Aside0.mk (Kd.R_lower ho0 (below_size (by repeat (first | (with_reducible first | exact HB.out | apply below_alloc | apply pw_below_drewN | apply below_drew1) | exact HB.out)))); have n1_ := Aside0.mk (below_step (by repeat (first | (with_reducible first | exact HB.out | apply below_alloc | apply pw_below_drewN | apply below_drew1) | exact HB.out)) hb); clear HB; have HO276 := n0_; have HB := n1_; clear n0_ n1_; (try clear hb); (try clear hb2); (try clear hk); (try clear hi); (try clear ho0); obtain ⟨Ao53, co53, eo53⟩ := Kd.R_slice HO276.out; subst eo53))
      repeat (go_quiet (first | (go_at_call 9; (with_reducible refine (boscagelaw06_live.calls k  true _ A3.out).mono ?_); rintro e w51 ⟨rfl, hb⟩; have n0_ := Aside0.mk (below_step (by repeat (first | (with_reducible first | exact HB.out | apply below_alloc | apply pw_below_drewN | apply below_drew1) | exact HB.out)) hb); clear HB; have HB := n0_; clear n0_; (try clear hb); (try clear hb2); (try clear hk); (try clear hi)) | (go_at_call 10; (with_reducible refine (token_Cut.calls a0 t272 t273 t274 _ A4.out).mono ?_); rintro e w52 ⟨v275, rfl, ho0, hb⟩; have n0_ := Aside0.mk (Kd.R_lower ho0 (below_size (by repeat (first | (with_reducible first | exact HB.out | apply below_alloc | apply pw_below_drewN | apply below_drew1) | exact HB.out)))); have n1_ := Aside0.mk (below_step (by repeat (first | (with_reducible first | exact HB.out | apply below_alloc | apply pw_below_drewN | apply below_drew1) | exact HB.out)) hb); clear HB; have HO276 := n0_; have HB := n1_; clear n0_ n1_; (try clear hb); (try clear hb2); (try clear hk); (try clear hi); (try clear ho0); obtain ⟨Ao53, co53, eo53⟩ := Kd.R_slice HO276.out; subst eo53)); try go_wp2_with (first | (go_at_call 9; (with_reducible refine (boscagelaw06_live.calls k  true _ A3.out).mono ?_); rintro e w51 ⟨rfl, hb⟩; have n0_ := Aside0.mk (below_step (by repeat (first | (with_reducible first | exact HB.out | apply below_alloc | apply pw_below_drewN | apply below_drew1) | exact HB.out)) hb); clear HB; have HB := n0_; clear n0_; (try clear hb); (try clear hb2); (try clear hk); (try clear hi)) | (go_at_call 10; (with_reducible refine (token_Cut.calls a0 t272 t273 t274 _ A4.out).mono ?_); rintro e w52 ⟨v275, rfl, ho0, hb⟩; have n0_ := Aside0.mk (Kd.R_lower ho0 (below_size (by repeat (first | (with_reducible first | exact HB.out | apply below_alloc | apply pw_below_drewN | apply below_drew1) | exact HB.out)))); have n1_ := Aside0.mk (below_step (by repeat (first | (with_reducible first | exact HB.out | apply below_alloc | apply pw_below_drewN | apply below_drew1) | exact HB.out)) hb); clear HB; have HO276 := n0_; have HB := n1_; clear n0_ n1_; (try clear hb); (try clear hb2); (try clear hk); (try clear hi); (try clear ho0); obtain ⟨Ao53, co53, eo53⟩ := Kd.R_slice HO276.out; subst eo53)))
      go_ret
      exact ⟨by first | rfl | (simp [errW_none, errW_some] <;> rfl) | (simp [*, errW_none, errW_some] <;> rfl), by repeat (first | (with_reducible first | exact HB.out | apply below_alloc | apply pw_below_drewN | apply below_drew1) | exact HB.out)⟩
    · replace c50 := Bool.eq_false_iff.mpr c50
      subst c50
      have H1 : (some false) = some r := by rw [if_neg (show ¬ (false = true) by decide)] at H; exact H
      clear H
      have H := H1
      clear H1
      exact absurd ((Option.some.inj H).trans HRT.out) Bool.false_ne_true



end Go.Proofs.YtffaibjiiiochaaDoor.QTA
