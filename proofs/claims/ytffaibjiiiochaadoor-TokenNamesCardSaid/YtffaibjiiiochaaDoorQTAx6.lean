-- printed by our own turn of the print (wip/pr)
import Derived.Test.YtffaibjiiiochaaDoorQTAx0
import Derived.Test.YtffaibjiiiochaaDoorQTAx2
import Derived.Test.YtffaibjiiiochaaDoorQTAx3
import Derived.Test.YtffaibjiiiochaaDoorQTAx5
namespace Go.Proofs.YtffaibjiiiochaaDoor.QTA
open Go.RowKit Go.Proofs.YtffaibjiiiochaaDoorW.PrintWords Go.Proofs.YtffaibjiiiochaaDoorW.PrintLast Go.Proofs.YtffaibjiiiochaaDoorW.PrintMore
attribute [local go_sem] max2_int min2_int max_two min_two max_three min_three max_four min_four   -- for this text's walks alone
set_option linter.unusedVariables false
set_option linter.unusedSimpArgs false

/-! ### boscageref06_IsName: function 14 -/
mutual
def boscageref06_IsName.j0 : Nat → ByteArray → Bool → Option (Bool)
  | 0, _, _ => none
  | k + 1, x0, x19 => if x19 = true then (some false) else (boscageref06_IsName.l0 k x0 0)
def boscageref06_IsName.l0 : Nat → ByteArray → Int → Option (Bool)
  | 0, _, _ => none
  | k + 1, x0, x3 => if x3 < (x0.size : Int) then (if 0 ≤ x3 then ((boscageref06_letter.f (bt x0 x3)).bind fun t262 => (if t262 = true then (if (bt x0 x3) ≥ 65 then (if (bt x0 x3) ≤ 90 then (some false) else (boscageref06_IsName.l0 k x0 (wrap64 (x3 + 1)))) else (boscageref06_IsName.l0 k x0 (wrap64 (x3 + 1)))) else ((boscageref06_digit.f (bt x0 x3)).bind fun t263 => (if t263 = true then (if (bt x0 x3) ≥ 65 then (if (bt x0 x3) ≤ 90 then (some false) else (boscageref06_IsName.l0 k x0 (wrap64 (x3 + 1)))) else (boscageref06_IsName.l0 k x0 (wrap64 (x3 + 1)))) else (some false))))) else (none)) else (some true)
end
def boscageref06_IsName.f (k : Nat) (a0 : ByteArray) : Option (Bool) := if a0.toList = ([] : List UInt8) then (boscageref06_IsName.j0 k a0 true) else (if (a0.size : Int) > 32 then (boscageref06_IsName.j0 k a0 true) else (if 0 < (a0.size : Int) then ((boscageref06_digit.f (bt a0 0)).bind fun t260 => (if t260 = true then (boscageref06_IsName.j0 k a0 true) else ((boscageref06_Reserved.f k a0).bind fun t261 => (boscageref06_IsName.j0 k a0 t261)))) else (none)))
theorem boscageref06_IsName.mono_l : ∀ k, (∀ y0 y1, LeO (boscageref06_IsName.j0 k y0 y1) (boscageref06_IsName.j0 (k + 1) y0 y1)) ∧ (∀ y0 y1, LeO (boscageref06_IsName.l0 k y0 y1) (boscageref06_IsName.l0 (k + 1) y0 y1))
  | 0 => ⟨fun _ _ r h => by simp [boscageref06_IsName.j0] at h, fun _ _ r h => by simp [boscageref06_IsName.l0] at h⟩
  | k + 1 => by
    obtain ⟨ih0, ih1⟩ := boscageref06_IsName.mono_l k
    refine ⟨?_, ?_⟩
    · intro y0 y1
      unfold boscageref06_IsName.j0
      repeat' first
      | (with_reducible exact ih0 _ _)
      | (with_reducible exact ih1 _ _)
      | (with_reducible exact boscageref06_Reserved.mono _ _)
      | (with_reducible exact LeO.refl _)
      | (with_reducible exact LeO.none _)
      | (with_reducible refine LeO.ite ?_ ?_)
      | (with_reducible refine LeO.bind ?_ (fun _ => ?_))
      | exact ih0 _ _
      | exact ih1 _ _
      | exact boscageref06_Reserved.mono _ _
      | exact LeO.none _
      | refine LeO.ite ?_ ?_
      | refine LeO.bind ?_ (fun _ => ?_)
    · intro y0 y1
      unfold boscageref06_IsName.l0
      repeat' first
      | (with_reducible exact ih0 _ _)
      | (with_reducible exact ih1 _ _)
      | (with_reducible exact boscageref06_Reserved.mono _ _)
      | (with_reducible exact LeO.refl _)
      | (with_reducible exact LeO.none _)
      | (with_reducible refine LeO.ite ?_ ?_)
      | (with_reducible refine LeO.bind ?_ (fun _ => ?_))
      | exact ih0 _ _
      | exact ih1 _ _
      | exact boscageref06_Reserved.mono _ _
      | exact LeO.none _
      | refine LeO.ite ?_ ?_
      | refine LeO.bind ?_ (fun _ => ?_)
theorem boscageref06_IsName.mono : ∀ a0 k, LeO (boscageref06_IsName.f k a0) (boscageref06_IsName.f (k + 1) a0) := by
  intro a0 k
  obtain ⟨ih0, ih1⟩ := boscageref06_IsName.mono_l k
  unfold boscageref06_IsName.f
  repeat' first
      | (with_reducible exact ih0 _ _)
      | (with_reducible exact ih1 _ _)
      | (with_reducible exact boscageref06_Reserved.mono _ _)
      | (with_reducible exact LeO.refl _)
      | (with_reducible exact LeO.none _)
      | (with_reducible refine LeO.ite ?_ ?_)
      | (with_reducible refine LeO.bind ?_ (fun _ => ?_))
      | exact ih0 _ _
      | exact ih1 _ _
      | exact boscageref06_Reserved.mono _ _
      | exact LeO.none _
      | refine LeO.ite ?_ ?_
      | refine LeO.bind ?_ (fun _ => ?_)
set_option maxHeartbeats 8000000 in
set_option maxRecDepth 100000 in
theorem boscageref06_IsName.calls (k : Nat) (a0 : ByteArray) (r : Bool) (w : World) (h : boscageref06_IsName.f k a0 = some r) :
    Calls Tryd.prog 14 #[.string a0] w fun e w' => e = .returned (.bool r) ∧ Below w.heap.size w w' := by
  have HB := Aside0.mk (Below.refl w.heap.size w)
  have H : (if a0.toList = ([] : List UInt8) then (boscageref06_IsName.j0 k a0 true) else (if (a0.size : Int) > 32 then (boscageref06_IsName.j0 k a0 true) else (if 0 < (a0.size : Int) then ((boscageref06_digit.f (bt a0 0)).bind fun t260 => (if t260 = true then (boscageref06_IsName.j0 k a0 true) else ((boscageref06_Reserved.f k a0).bind fun t261 => (boscageref06_IsName.j0 k a0 t261)))) else (none)))) = some r := h
  clear h
  have HC2 := Aside0.mk H
  clear H
  go_enter Tryd.func14, Tryd.ntmps14
  go_upto_region 1 with (fail)
  go_cut [19] (fun v19 wc => ∃ (kq : Nat) (x19_1 : Bool), v19 = .bool x19_1 ∧ Aside0 (boscageref06_IsName.j0 kq a0 x19_1 = some r) ∧ Aside0 (kq ≤ k) ∧ Aside0 (Below w.heap.size w wc))
  case first =>
    have H := HC2.out
    clear HC2
    by_cases c3 : a0.toList = ([] : List UInt8)
    · rw [if_pos c3] at H
      have c3b0 : (a0.toList == ([] : List UInt8)) = true := beq_iff_eq.mpr c3
      have c3b1 : (a0.toList != ([] : List UInt8)) = false := bne_eq_false_iff_eq.mpr c3
      clear c3
      (first | rw [c3b0] | (simp only [i64_w, i32_w]; rw [c3b0]) | skip)
      have H' := Aside0.mk H
      clear H
      go_wp2
      go_meet
      case rel => exact ⟨_, (true), (by first | rfl | (simp; done) | (simp [*]; done) | (simp; first | exact Go.Proofs.YtffaibjiiiochaaDoor.Pre.ne1 _ | exact Go.Proofs.YtffaibjiiiochaaDoor.Pre.ne2 _ | exact Go.Proofs.YtffaibjiiiochaaDoor.Pre.ne3 _ | exact Go.Proofs.YtffaibjiiiochaaDoor.Pre.ne4 _ | exact Go.Proofs.YtffaibjiiiochaaDoor.Pre.ne5 _ | exact Go.Proofs.YtffaibjiiiochaaDoor.Pre.ne6 _)), H', ⟨by first | omega | exact Nat.le_refl _⟩, ⟨by repeat (first | (with_reducible first | exact HB.out | apply below_alloc | apply pw_below_drewN | apply below_drew1) | exact HB.out)⟩⟩
    · rw [if_neg c3] at H
      have c3b0 : (a0.toList == ([] : List UInt8)) = false := beq_eq_false_iff_ne.mpr c3
      have c3b1 : (a0.toList != ([] : List UInt8)) = true := bne_iff_ne.mpr c3
      (first | rw [c3b0] | (simp only [i64_w, i32_w]; rw [c3b0]) | skip)
      by_cases c4 : (a0.size : Int) > 32
      · rw [if_pos c4] at H
        have c4b0 : decide (32 < (a0.size : Int)) = true := decide_eq_true c4
        have c4b1 : decide (32 < a0.size) = true := decide_eq_true (by omega)
        clear c4
        have H' := Aside0.mk H
        clear H
        go_wp2
        go_meet
        case rel => exact ⟨_, (true), (by first | rfl | (simp; done) | (simp [*]; done) | (simp; first | exact Go.Proofs.YtffaibjiiiochaaDoor.Pre.ne1 _ | exact Go.Proofs.YtffaibjiiiochaaDoor.Pre.ne2 _ | exact Go.Proofs.YtffaibjiiiochaaDoor.Pre.ne3 _ | exact Go.Proofs.YtffaibjiiiochaaDoor.Pre.ne4 _ | exact Go.Proofs.YtffaibjiiiochaaDoor.Pre.ne5 _ | exact Go.Proofs.YtffaibjiiiochaaDoor.Pre.ne6 _)), H', ⟨by first | omega | exact Nat.le_refl _⟩, ⟨by repeat (first | (with_reducible first | exact HB.out | apply below_alloc | apply pw_below_drewN | apply below_drew1) | exact HB.out)⟩⟩
      · rw [if_neg c4] at H
        have c4b0 : decide (32 < (a0.size : Int)) = false := decide_eq_false c4
        have c4b1 : decide (32 < a0.size) = false := decide_eq_false (by omega)
        clear c4
        by_cases c5 : 0 < (a0.size : Int)
        · rw [if_pos c5] at H
          have c5b0 : decide (0 < (a0.size : Int)) = true := decide_eq_true c5
          have c5b1 : decide (0 < a0.size) = true := decide_eq_true (by omega)
          clear c5
          replace H := Option.bind_eq_some_iff.mp H
          obtain ⟨t260, A70, H⟩ := H
          replace H : (if t260 = true then (boscageref06_IsName.j0 k a0 true) else ((boscageref06_Reserved.f k a0).bind fun t261 => (boscageref06_IsName.j0 k a0 t261))) = some r := H
          have A7 := Aside0.mk A70
          clear A70
          by_cases c8 : t260 = true
          · subst c8
            have H1 : (boscageref06_IsName.j0 k a0 true) = some r := by rw [if_pos rfl] at H; exact H
            clear H
            have H := H1
            clear H1
            have H' := Aside0.mk H
            clear H
            have p6 : 0 ≤ (0 : Int) := (by omega)
            have q6 : 0 < a0.size := (by have : (0 : Int) < (a0.size : Int) := of_decide_eq_true (by first | (with_reducible assumption) | assumption); omega)
            have hx6 : ∀ h : 0 < a0.size, ((a0[0]'h).toNat : Int) = bt a0 0 := bt_at a0 0
            clear p6
            have qi6 : (0 < (a0.size : Int)) = True := eq_true (of_decide_eq_true (by first | (with_reducible assumption) | assumption))
            replace q6 := eq_true q6
            go_wp2_with (first | (go_at_call 24; (with_reducible refine (boscageref06_digit.calls (bt a0 0) true _ A7.out).mono ?_); rintro e w' ⟨rfl, ⟨nd, rfl⟩⟩))
            go_meet
            case rel => exact ⟨_, (true), (by first | rfl | (simp; done) | (simp [*]; done) | (simp; first | exact Go.Proofs.YtffaibjiiiochaaDoor.Pre.ne1 _ | exact Go.Proofs.YtffaibjiiiochaaDoor.Pre.ne2 _ | exact Go.Proofs.YtffaibjiiiochaaDoor.Pre.ne3 _ | exact Go.Proofs.YtffaibjiiiochaaDoor.Pre.ne4 _ | exact Go.Proofs.YtffaibjiiiochaaDoor.Pre.ne5 _ | exact Go.Proofs.YtffaibjiiiochaaDoor.Pre.ne6 _)), H', ⟨by first | omega | exact Nat.le_refl _⟩, ⟨by repeat (first | (with_reducible first | exact HB.out | apply below_alloc | apply pw_below_drewN | apply below_drew1) | exact HB.out)⟩⟩
          · replace c8 := Bool.eq_false_iff.mpr c8
            subst c8
            have H1 : ((boscageref06_Reserved.f k a0).bind fun t261 => (boscageref06_IsName.j0 k a0 t261)) = some r := by rw [if_neg (show ¬ (false = true) by decide)] at H; exact H
            clear H
            have H := H1
            clear H1
            replace H := Option.bind_eq_some_iff.mp H
            obtain ⟨t261, A90, H⟩ := H
            replace H : (boscageref06_IsName.j0 k a0 t261) = some r := H
            have A9 := Aside0.mk A90
            clear A90
            have H' := Aside0.mk H
            clear H
            have p6 : 0 ≤ (0 : Int) := (by omega)
            have q6 : 0 < a0.size := (by have : (0 : Int) < (a0.size : Int) := of_decide_eq_true (by first | (with_reducible assumption) | assumption); omega)
            have hx6 : ∀ h : 0 < a0.size, ((a0[0]'h).toNat : Int) = bt a0 0 := bt_at a0 0
            clear p6
            have qi6 : (0 < (a0.size : Int)) = True := eq_true (of_decide_eq_true (by first | (with_reducible assumption) | assumption))
            replace q6 := eq_true q6
            go_wp2_with (first | (go_at_call 24; (with_reducible refine (boscageref06_digit.calls (bt a0 0) false _ A7.out).mono ?_); rintro e w' ⟨rfl, ⟨nd, rfl⟩⟩) | (go_at_call 16; (with_reducible refine (boscageref06_Reserved.calls k a0 t261 _ A9.out).mono ?_); rintro e w10 ⟨rfl, hb⟩; have n0_ := Aside0.mk (below_step (by repeat (first | (with_reducible first | exact HB.out | apply below_alloc | apply pw_below_drewN | apply below_drew1) | exact HB.out)) hb); clear HB; have HB := n0_; clear n0_; (try clear hb); (try clear hb2); (try clear hk); (try clear hi)))
            go_meet
            case rel => exact ⟨_, (t261), (by first | rfl | (simp; done) | (simp [*]; done) | (simp; first | exact Go.Proofs.YtffaibjiiiochaaDoor.Pre.ne1 _ | exact Go.Proofs.YtffaibjiiiochaaDoor.Pre.ne2 _ | exact Go.Proofs.YtffaibjiiiochaaDoor.Pre.ne3 _ | exact Go.Proofs.YtffaibjiiiochaaDoor.Pre.ne4 _ | exact Go.Proofs.YtffaibjiiiochaaDoor.Pre.ne5 _ | exact Go.Proofs.YtffaibjiiiochaaDoor.Pre.ne6 _)), H', ⟨by first | omega | exact Nat.le_refl _⟩, ⟨by repeat (first | (with_reducible first | exact HB.out | apply below_alloc | apply pw_below_drewN | apply below_drew1) | exact HB.out)⟩⟩
        · rw [if_neg c5] at H
          exact absurd H (by simp)
  case rest =>
    clear HC2
    try clear c1
    try clear p2
    try clear c3
    try clear c3b0
    try clear c3b1
    try clear c4
    try clear c4b0
    try clear c4b1
    try clear c5
    try clear c5b0
    try clear c5b1
    try clear p6
    try clear q6
    try clear hx6
    try clear qi6
    try clear c8
    try clear p6
    try clear q6
    obtain ⟨kq, x19_1, rfl, HA, HJ1, HB⟩ := hcut
    cases kq with
    | zero => exact absurd HA.out (by simp [boscageref06_IsName.j0])
    | succ kj1 =>
      have H := HA.out
      clear HA
      simp only [boscageref06_IsName.j0] at H
      by_cases c11 : x19_1 = true
      · subst c11
        have H1 : (some false) = some r := by rw [if_pos rfl] at H; exact H
        clear H
        have H := H1
        clear H1
        obtain rfl := Option.some.inj H
        go_wp2
        go_ret
        exact ⟨by first | rfl | (simp [errW_none, errW_some] <;> rfl) | (simp [*, errW_none, errW_some] <;> rfl), by repeat (first | (with_reducible first | exact HB.out | apply below_alloc | apply pw_below_drewN | apply below_drew1) | exact HB.out)⟩
      · replace c11 := Bool.eq_false_iff.mpr c11
        subst c11
        have H1 : (boscageref06_IsName.l0 kj1 a0 0) = some r := by rw [if_neg (show ¬ (false = true) by decide)] at H; exact H
        clear H
        have H := H1
        clear H1
        have H' := Aside0.mk H
        clear H
        go_wp2
        go_loopg [3] kj1 (fun kq v3 w' => ∃ (x3_2 : Int), v3 = .int .i64 x3_2 ∧ Aside0 (boscageref06_IsName.l0 kq a0 x3_2 = some r) ∧ Aside0 (kq ≤ kj1) ∧ Aside0 (Below w.heap.size w w'))
        case atStart => exact ⟨(0), (by first | rfl | (simp; done) | (simp [*]; done) | (simp; first | exact Go.Proofs.YtffaibjiiiochaaDoor.Pre.ne1 _ | exact Go.Proofs.YtffaibjiiiochaaDoor.Pre.ne2 _ | exact Go.Proofs.YtffaibjiiiochaaDoor.Pre.ne3 _ | exact Go.Proofs.YtffaibjiiiochaaDoor.Pre.ne4 _ | exact Go.Proofs.YtffaibjiiiochaaDoor.Pre.ne5 _ | exact Go.Proofs.YtffaibjiiiochaaDoor.Pre.ne6 _)), H', ⟨Nat.le_refl _⟩, ⟨by repeat (first | (with_reducible first | exact HB.out | apply below_alloc | apply pw_below_drewN | apply below_drew1) | exact HB.out)⟩⟩
        case round =>
          clear H'
          try clear c1
          try clear p2
          try clear c3
          try clear c3b0
          try clear c3b1
          try clear c4
          try clear c4b0
          try clear c4b1
          try clear c5
          try clear c5b0
          try clear c5b1
          try clear p6
          try clear q6
          try clear hx6
          try clear qi6
          try clear c8
          try clear c11
          try clear p2
          try clear p6
          try clear q6
          obtain ⟨x3_2, rfl, HA, HK2, HB⟩ := hrel
          cases gk with
          | zero => exact absurd HA.out (by simp [boscageref06_IsName.l0])
          | succ k2 =>
            have H := HA.out
            clear HA
            simp only [boscageref06_IsName.l0] at H
            by_cases c12 : x3_2 < (a0.size : Int)
            · rw [if_pos c12] at H
              have c12b0 : decide (x3_2 < (a0.size : Int)) = true := decide_eq_true c12
              clear c12
              by_cases c13 : 0 ≤ x3_2
              · rw [if_pos c13] at H
                have c13b0 : decide (0 ≤ x3_2) = true := decide_eq_true c13
                clear c13
                replace H := Option.bind_eq_some_iff.mp H
                obtain ⟨t262, A150, H⟩ := H
                replace H : (if t262 = true then (if (bt a0 x3_2) ≥ 65 then (if (bt a0 x3_2) ≤ 90 then (some false) else (boscageref06_IsName.l0 k2 a0 (wrap64 (x3_2 + 1)))) else (boscageref06_IsName.l0 k2 a0 (wrap64 (x3_2 + 1)))) else ((boscageref06_digit.f (bt a0 x3_2)).bind fun t263 => (if t263 = true then (if (bt a0 x3_2) ≥ 65 then (if (bt a0 x3_2) ≤ 90 then (some false) else (boscageref06_IsName.l0 k2 a0 (wrap64 (x3_2 + 1)))) else (boscageref06_IsName.l0 k2 a0 (wrap64 (x3_2 + 1)))) else (some false)))) = some r := H
                have A15 := Aside0.mk A150
                clear A150
                by_cases c16 : t262 = true
                · subst c16
                  have H1 : (if (bt a0 x3_2) ≥ 65 then (if (bt a0 x3_2) ≤ 90 then (some false) else (boscageref06_IsName.l0 k2 a0 (wrap64 (x3_2 + 1)))) else (boscageref06_IsName.l0 k2 a0 (wrap64 (x3_2 + 1)))) = some r := by rw [if_pos rfl] at H; exact H
                  clear H
                  have H := H1
                  clear H1
                  by_cases c18 : (bt a0 x3_2) ≥ 65
                  · rw [if_pos c18] at H
                    have c18b0 : decide (65 ≤ (bt a0 x3_2)) = true := decide_eq_true c18
                    clear c18
                    by_cases c20 : (bt a0 x3_2) ≤ 90
                    · rw [if_pos c20] at H
                      have c20b0 : decide ((bt a0 x3_2) ≤ 90) = true := decide_eq_true c20
                      clear c20
                      obtain rfl := Option.some.inj H
                      have p14 : 0 ≤ (x3_2 : Int) := of_decide_eq_true (by first | (with_reducible assumption) | assumption)
                      have q14 : x3_2 < (a0.size : Int) := of_decide_eq_true (by first | (with_reducible assumption) | assumption)
                      have hx14 := bt_at a0 x3_2
                      replace p14 := eq_true p14
                      replace q14 := eq_true q14
                      go_wp2_with (first | ((with_reducible refine gate_callee (f := 25) rfl ?_); refine goesL_ (some 29) rfl rfl Tryd.func25 (by kernel_rfl) rfl #[.int .u8 (bt a0 x3_2)] rfl (by (try simp only [List.map_toArray, List.map_cons, List.map_nil]); first | done | rfl | (simp only [List.length_drop, List.length_take]; rfl)) ?_; (with_reducible refine (boscageref06_letter.calls (bt a0 x3_2) true _ A15.out).mono ?_); rintro e w' ⟨rfl, ⟨nd, rfl⟩⟩; refine ⟨_, rfl, ?_⟩; have p17 : 0 ≤ (x3_2 : Int) := of_decide_eq_true (by first | (with_reducible assumption) | assumption); have q17 : x3_2 < (a0.size : Int) := of_decide_eq_true (by first | (with_reducible assumption) | assumption); have hx17 := bt_at a0 x3_2; replace p17 := eq_true p17; replace q17 := eq_true q17; have p19 : 0 ≤ (x3_2 : Int) := of_decide_eq_true (by first | (with_reducible assumption) | assumption); have q19 : x3_2 < (a0.size : Int) := of_decide_eq_true (by first | (with_reducible assumption) | assumption); have hx19 := bt_at a0 x3_2; replace p19 := eq_true p19; replace q19 := eq_true q19))
                      go_ret
                      exact ⟨by first | rfl | (simp [errW_none, errW_some] <;> rfl) | (simp [*, errW_none, errW_some] <;> rfl), by repeat (first | (with_reducible first | exact HB.out | apply below_alloc | apply pw_below_drewN | apply below_drew1) | exact HB.out)⟩
                    · rw [if_neg c20] at H
                      have c20b0 : decide ((bt a0 x3_2) ≤ 90) = false := decide_eq_false c20
                      clear c20
                      have H' := Aside0.mk H
                      clear H
                      have p14 : 0 ≤ (x3_2 : Int) := of_decide_eq_true (by first | (with_reducible assumption) | assumption)
                      have q14 : x3_2 < (a0.size : Int) := of_decide_eq_true (by first | (with_reducible assumption) | assumption)
                      have hx14 := bt_at a0 x3_2
                      replace p14 := eq_true p14
                      replace q14 := eq_true q14
                      go_wp2_with (first | ((with_reducible refine gate_callee (f := 25) rfl ?_); refine goesL_ (some 29) rfl rfl Tryd.func25 (by kernel_rfl) rfl #[.int .u8 (bt a0 x3_2)] rfl (by (try simp only [List.map_toArray, List.map_cons, List.map_nil]); first | done | rfl | (simp only [List.length_drop, List.length_take]; rfl)) ?_; (with_reducible refine (boscageref06_letter.calls (bt a0 x3_2) true _ A15.out).mono ?_); rintro e w' ⟨rfl, ⟨nd, rfl⟩⟩; refine ⟨_, rfl, ?_⟩; have p17 : 0 ≤ (x3_2 : Int) := of_decide_eq_true (by first | (with_reducible assumption) | assumption); have q17 : x3_2 < (a0.size : Int) := of_decide_eq_true (by first | (with_reducible assumption) | assumption); have hx17 := bt_at a0 x3_2; replace p17 := eq_true p17; replace q17 := eq_true q17; have p19 : 0 ≤ (x3_2 : Int) := of_decide_eq_true (by first | (with_reducible assumption) | assumption); have q19 : x3_2 < (a0.size : Int) := of_decide_eq_true (by first | (with_reducible assumption) | assumption); have hx19 := bt_at a0 x3_2; replace p19 := eq_true p19; replace q19 := eq_true q19))
                      go_roundg k2
                      case measure => have := HJ1.out; have := HK2.out; omega
                      case rel => exact ⟨(wrap64 (x3_2 + 1)), (by first | rfl | (simp; done) | (simp [*]; done) | (simp; first | exact Go.Proofs.YtffaibjiiiochaaDoor.Pre.ne1 _ | exact Go.Proofs.YtffaibjiiiochaaDoor.Pre.ne2 _ | exact Go.Proofs.YtffaibjiiiochaaDoor.Pre.ne3 _ | exact Go.Proofs.YtffaibjiiiochaaDoor.Pre.ne4 _ | exact Go.Proofs.YtffaibjiiiochaaDoor.Pre.ne5 _ | exact Go.Proofs.YtffaibjiiiochaaDoor.Pre.ne6 _)), H', ⟨by have := HJ1.out; have := HK2.out; omega⟩, ⟨by repeat (first | (with_reducible first | exact HB.out | apply below_alloc | apply pw_below_drewN | apply below_drew1) | exact HB.out)⟩⟩
                  · rw [if_neg c18] at H
                    have c18b0 : decide (65 ≤ (bt a0 x3_2)) = false := decide_eq_false c18
                    clear c18
                    have H' := Aside0.mk H
                    clear H
                    have p14 : 0 ≤ (x3_2 : Int) := of_decide_eq_true (by first | (with_reducible assumption) | assumption)
                    have q14 : x3_2 < (a0.size : Int) := of_decide_eq_true (by first | (with_reducible assumption) | assumption)
                    have hx14 := bt_at a0 x3_2
                    replace p14 := eq_true p14
                    replace q14 := eq_true q14
                    go_wp2_with (first | ((with_reducible refine gate_callee (f := 25) rfl ?_); refine goesL_ (some 29) rfl rfl Tryd.func25 (by kernel_rfl) rfl #[.int .u8 (bt a0 x3_2)] rfl (by (try simp only [List.map_toArray, List.map_cons, List.map_nil]); first | done | rfl | (simp only [List.length_drop, List.length_take]; rfl)) ?_; (with_reducible refine (boscageref06_letter.calls (bt a0 x3_2) true _ A15.out).mono ?_); rintro e w' ⟨rfl, ⟨nd, rfl⟩⟩; refine ⟨_, rfl, ?_⟩; have p17 : 0 ≤ (x3_2 : Int) := of_decide_eq_true (by first | (with_reducible assumption) | assumption); have q17 : x3_2 < (a0.size : Int) := of_decide_eq_true (by first | (with_reducible assumption) | assumption); have hx17 := bt_at a0 x3_2; replace p17 := eq_true p17; replace q17 := eq_true q17))
                    go_roundg k2
                    case measure => have := HJ1.out; have := HK2.out; omega
                    case rel => exact ⟨(wrap64 (x3_2 + 1)), (by first | rfl | (simp; done) | (simp [*]; done) | (simp; first | exact Go.Proofs.YtffaibjiiiochaaDoor.Pre.ne1 _ | exact Go.Proofs.YtffaibjiiiochaaDoor.Pre.ne2 _ | exact Go.Proofs.YtffaibjiiiochaaDoor.Pre.ne3 _ | exact Go.Proofs.YtffaibjiiiochaaDoor.Pre.ne4 _ | exact Go.Proofs.YtffaibjiiiochaaDoor.Pre.ne5 _ | exact Go.Proofs.YtffaibjiiiochaaDoor.Pre.ne6 _)), H', ⟨by have := HJ1.out; have := HK2.out; omega⟩, ⟨by repeat (first | (with_reducible first | exact HB.out | apply below_alloc | apply pw_below_drewN | apply below_drew1) | exact HB.out)⟩⟩
                · replace c16 := Bool.eq_false_iff.mpr c16
                  subst c16
                  have H1 : ((boscageref06_digit.f (bt a0 x3_2)).bind fun t263 => (if t263 = true then (if (bt a0 x3_2) ≥ 65 then (if (bt a0 x3_2) ≤ 90 then (some false) else (boscageref06_IsName.l0 k2 a0 (wrap64 (x3_2 + 1)))) else (boscageref06_IsName.l0 k2 a0 (wrap64 (x3_2 + 1)))) else (some false))) = some r := by rw [if_neg (show ¬ (false = true) by decide)] at H; exact H
                  clear H
                  have H := H1
                  clear H1
                  replace H := Option.bind_eq_some_iff.mp H
                  obtain ⟨t263, A220, H⟩ := H
                  replace H : (if t263 = true then (if (bt a0 x3_2) ≥ 65 then (if (bt a0 x3_2) ≤ 90 then (some false) else (boscageref06_IsName.l0 k2 a0 (wrap64 (x3_2 + 1)))) else (boscageref06_IsName.l0 k2 a0 (wrap64 (x3_2 + 1)))) else (some false)) = some r := H
                  have A22 := Aside0.mk A220
                  clear A220
                  by_cases c23 : t263 = true
                  · subst c23
                    have H1 : (if (bt a0 x3_2) ≥ 65 then (if (bt a0 x3_2) ≤ 90 then (some false) else (boscageref06_IsName.l0 k2 a0 (wrap64 (x3_2 + 1)))) else (boscageref06_IsName.l0 k2 a0 (wrap64 (x3_2 + 1)))) = some r := by rw [if_pos rfl] at H; exact H
                    clear H
                    have H := H1
                    clear H1
                    by_cases c25 : (bt a0 x3_2) ≥ 65
                    · rw [if_pos c25] at H
                      have c25b0 : decide (65 ≤ (bt a0 x3_2)) = true := decide_eq_true c25
                      clear c25
                      by_cases c27 : (bt a0 x3_2) ≤ 90
                      · rw [if_pos c27] at H
                        have c27b0 : decide ((bt a0 x3_2) ≤ 90) = true := decide_eq_true c27
                        clear c27
                        obtain rfl := Option.some.inj H
                        have p14 : 0 ≤ (x3_2 : Int) := of_decide_eq_true (by first | (with_reducible assumption) | assumption)
                        have q14 : x3_2 < (a0.size : Int) := of_decide_eq_true (by first | (with_reducible assumption) | assumption)
                        have hx14 := bt_at a0 x3_2
                        replace p14 := eq_true p14
                        replace q14 := eq_true q14
                        go_wp2_with (first | ((with_reducible refine gate_callee (f := 25) rfl ?_); refine goesL_ (some 29) rfl rfl Tryd.func25 (by kernel_rfl) rfl #[.int .u8 (bt a0 x3_2)] rfl (by (try simp only [List.map_toArray, List.map_cons, List.map_nil]); first | done | rfl | (simp only [List.length_drop, List.length_take]; rfl)) ?_; (with_reducible refine (boscageref06_letter.calls (bt a0 x3_2) false _ A15.out).mono ?_); rintro e w' ⟨rfl, ⟨nd, rfl⟩⟩; refine ⟨_, rfl, ?_⟩; have p21 : 0 ≤ (x3_2 : Int) := of_decide_eq_true (by first | (with_reducible assumption) | assumption); have q21 : x3_2 < (a0.size : Int) := of_decide_eq_true (by first | (with_reducible assumption) | assumption); have hx21 := bt_at a0 x3_2; replace p21 := eq_true p21; replace q21 := eq_true q21) | (go_at_call 24; (with_reducible refine (boscageref06_digit.calls (bt a0 x3_2) true _ A22.out).mono ?_); rintro e w' ⟨rfl, ⟨nd, rfl⟩⟩; have p24 : 0 ≤ (x3_2 : Int) := of_decide_eq_true (by first | (with_reducible assumption) | assumption); have q24 : x3_2 < (a0.size : Int) := of_decide_eq_true (by first | (with_reducible assumption) | assumption); have hx24 := bt_at a0 x3_2; replace p24 := eq_true p24; replace q24 := eq_true q24; have p26 : 0 ≤ (x3_2 : Int) := of_decide_eq_true (by first | (with_reducible assumption) | assumption); have q26 : x3_2 < (a0.size : Int) := of_decide_eq_true (by first | (with_reducible assumption) | assumption); have hx26 := bt_at a0 x3_2; replace p26 := eq_true p26; replace q26 := eq_true q26))
                        go_ret
                        exact ⟨by first | rfl | (simp [errW_none, errW_some] <;> rfl) | (simp [*, errW_none, errW_some] <;> rfl), by repeat (first | (with_reducible first | exact HB.out | apply below_alloc | apply pw_below_drewN | apply below_drew1) | exact HB.out)⟩
                      · rw [if_neg c27] at H
                        have c27b0 : decide ((bt a0 x3_2) ≤ 90) = false := decide_eq_false c27
                        clear c27
                        have H' := Aside0.mk H
                        clear H
                        have p14 : 0 ≤ (x3_2 : Int) := of_decide_eq_true (by first | (with_reducible assumption) | assumption)
                        have q14 : x3_2 < (a0.size : Int) := of_decide_eq_true (by first | (with_reducible assumption) | assumption)
                        have hx14 := bt_at a0 x3_2
                        replace p14 := eq_true p14
                        replace q14 := eq_true q14
                        go_wp2_with (first | ((with_reducible refine gate_callee (f := 25) rfl ?_); refine goesL_ (some 29) rfl rfl Tryd.func25 (by kernel_rfl) rfl #[.int .u8 (bt a0 x3_2)] rfl (by (try simp only [List.map_toArray, List.map_cons, List.map_nil]); first | done | rfl | (simp only [List.length_drop, List.length_take]; rfl)) ?_; (with_reducible refine (boscageref06_letter.calls (bt a0 x3_2) false _ A15.out).mono ?_); rintro e w' ⟨rfl, ⟨nd, rfl⟩⟩; refine ⟨_, rfl, ?_⟩; have p21 : 0 ≤ (x3_2 : Int) := of_decide_eq_true (by first | (with_reducible assumption) | assumption); have q21 : x3_2 < (a0.size : Int) := of_decide_eq_true (by first | (with_reducible assumption) | assumption); have hx21 := bt_at a0 x3_2; replace p21 := eq_true p21; replace q21 := eq_true q21) | (go_at_call 24; (with_reducible refine (boscageref06_digit.calls (bt a0 x3_2) true _ A22.out).mono ?_); rintro e w' ⟨rfl, ⟨nd, rfl⟩⟩; have p24 : 0 ≤ (x3_2 : Int) := of_decide_eq_true (by first | (with_reducible assumption) | assumption); have q24 : x3_2 < (a0.size : Int) := of_decide_eq_true (by first | (with_reducible assumption) | assumption); have hx24 := bt_at a0 x3_2; replace p24 := eq_true p24; replace q24 := eq_true q24; have p26 : 0 ≤ (x3_2 : Int) := of_decide_eq_true (by first | (with_reducible assumption) | assumption); have q26 : x3_2 < (a0.size : Int) := of_decide_eq_true (by first | (with_reducible assumption) | assumption); have hx26 := bt_at a0 x3_2; replace p26 := eq_true p26; replace q26 := eq_true q26))
                        go_roundg k2
                        case measure => have := HJ1.out; have := HK2.out; omega
                        case rel => exact ⟨(wrap64 (x3_2 + 1)), (by first | rfl | (simp; done) | (simp [*]; done) | (simp; first | exact Go.Proofs.YtffaibjiiiochaaDoor.Pre.ne1 _ | exact Go.Proofs.YtffaibjiiiochaaDoor.Pre.ne2 _ | exact Go.Proofs.YtffaibjiiiochaaDoor.Pre.ne3 _ | exact Go.Proofs.YtffaibjiiiochaaDoor.Pre.ne4 _ | exact Go.Proofs.YtffaibjiiiochaaDoor.Pre.ne5 _ | exact Go.Proofs.YtffaibjiiiochaaDoor.Pre.ne6 _)), H', ⟨by have := HJ1.out; have := HK2.out; omega⟩, ⟨by repeat (first | (with_reducible first | exact HB.out | apply below_alloc | apply pw_below_drewN | apply below_drew1) | exact HB.out)⟩⟩
                    · rw [if_neg c25] at H
                      have c25b0 : decide (65 ≤ (bt a0 x3_2)) = false := decide_eq_false c25
                      clear c25
                      have H' := Aside0.mk H
                      clear H
                      have p14 : 0 ≤ (x3_2 : Int) := of_decide_eq_true (by first | (with_reducible assumption) | assumption)
                      have q14 : x3_2 < (a0.size : Int) := of_decide_eq_true (by first | (with_reducible assumption) | assumption)
                      have hx14 := bt_at a0 x3_2
                      replace p14 := eq_true p14
                      replace q14 := eq_true q14
                      go_wp2_with (first | ((with_reducible refine gate_callee (f := 25) rfl ?_); refine goesL_ (some 29) rfl rfl Tryd.func25 (by kernel_rfl) rfl #[.int .u8 (bt a0 x3_2)] rfl (by (try simp only [List.map_toArray, List.map_cons, List.map_nil]); first | done | rfl | (simp only [List.length_drop, List.length_take]; rfl)) ?_; (with_reducible refine (boscageref06_letter.calls (bt a0 x3_2) false _ A15.out).mono ?_); rintro e w' ⟨rfl, ⟨nd, rfl⟩⟩; refine ⟨_, rfl, ?_⟩; have p21 : 0 ≤ (x3_2 : Int) := of_decide_eq_true (by first | (with_reducible assumption) | assumption); have q21 : x3_2 < (a0.size : Int) := of_decide_eq_true (by first | (with_reducible assumption) | assumption); have hx21 := bt_at a0 x3_2; replace p21 := eq_true p21; replace q21 := eq_true q21) | (go_at_call 24; (with_reducible refine (boscageref06_digit.calls (bt a0 x3_2) true _ A22.out).mono ?_); rintro e w' ⟨rfl, ⟨nd, rfl⟩⟩; have p24 : 0 ≤ (x3_2 : Int) := of_decide_eq_true (by first | (with_reducible assumption) | assumption); have q24 : x3_2 < (a0.size : Int) := of_decide_eq_true (by first | (with_reducible assumption) | assumption); have hx24 := bt_at a0 x3_2; replace p24 := eq_true p24; replace q24 := eq_true q24))
                      go_roundg k2
                      case measure => have := HJ1.out; have := HK2.out; omega
                      case rel => exact ⟨(wrap64 (x3_2 + 1)), (by first | rfl | (simp; done) | (simp [*]; done) | (simp; first | exact Go.Proofs.YtffaibjiiiochaaDoor.Pre.ne1 _ | exact Go.Proofs.YtffaibjiiiochaaDoor.Pre.ne2 _ | exact Go.Proofs.YtffaibjiiiochaaDoor.Pre.ne3 _ | exact Go.Proofs.YtffaibjiiiochaaDoor.Pre.ne4 _ | exact Go.Proofs.YtffaibjiiiochaaDoor.Pre.ne5 _ | exact Go.Proofs.YtffaibjiiiochaaDoor.Pre.ne6 _)), H', ⟨by have := HJ1.out; have := HK2.out; omega⟩, ⟨by repeat (first | (with_reducible first | exact HB.out | apply below_alloc | apply pw_below_drewN | apply below_drew1) | exact HB.out)⟩⟩
                  · replace c23 := Bool.eq_false_iff.mpr c23
                    subst c23
                    have H1 : (some false) = some r := by rw [if_neg (show ¬ (false = true) by decide)] at H; exact H
                    clear H
                    have H := H1
                    clear H1
                    obtain rfl := Option.some.inj H
                    have p14 : 0 ≤ (x3_2 : Int) := of_decide_eq_true (by first | (with_reducible assumption) | assumption)
                    have q14 : x3_2 < (a0.size : Int) := of_decide_eq_true (by first | (with_reducible assumption) | assumption)
                    have hx14 := bt_at a0 x3_2
                    replace p14 := eq_true p14
                    replace q14 := eq_true q14
                    go_wp2_with (first | ((with_reducible refine gate_callee (f := 25) rfl ?_); refine goesL_ (some 29) rfl rfl Tryd.func25 (by kernel_rfl) rfl #[.int .u8 (bt a0 x3_2)] rfl (by (try simp only [List.map_toArray, List.map_cons, List.map_nil]); first | done | rfl | (simp only [List.length_drop, List.length_take]; rfl)) ?_; (with_reducible refine (boscageref06_letter.calls (bt a0 x3_2) false _ A15.out).mono ?_); rintro e w' ⟨rfl, ⟨nd, rfl⟩⟩; refine ⟨_, rfl, ?_⟩; have p21 : 0 ≤ (x3_2 : Int) := of_decide_eq_true (by first | (with_reducible assumption) | assumption); have q21 : x3_2 < (a0.size : Int) := of_decide_eq_true (by first | (with_reducible assumption) | assumption); have hx21 := bt_at a0 x3_2; replace p21 := eq_true p21; replace q21 := eq_true q21) | (go_at_call 24; (with_reducible refine (boscageref06_digit.calls (bt a0 x3_2) false _ A22.out).mono ?_); rintro e w' ⟨rfl, ⟨nd, rfl⟩⟩))
                    go_ret
                    exact ⟨by first | rfl | (simp [errW_none, errW_some] <;> rfl) | (simp [*, errW_none, errW_some] <;> rfl), by repeat (first | (with_reducible first | exact HB.out | apply below_alloc | apply pw_below_drewN | apply below_drew1) | exact HB.out)⟩
              · rw [if_neg c13] at H
                exact absurd H (by simp)
            · rw [if_neg c12] at H
              have c12b0 : decide (x3_2 < (a0.size : Int)) = false := decide_eq_false c12
              clear c12
              obtain rfl := Option.some.inj H
              go_wp2
              go_ret
              exact ⟨by first | rfl | (simp [errW_none, errW_some] <;> rfl) | (simp [*, errW_none, errW_some] <;> rfl), by repeat (first | (with_reducible first | exact HB.out | apply below_alloc | apply pw_below_drewN | apply below_drew1) | exact HB.out)⟩

/-! ### boscagelaw06_TokenNames: function 4 -/
def boscagelaw06_TokenNames.f (k : Nat) (a0 : ByteArray) : Option (Bool) := (boscagelaw06_live.f k).bind fun t264 => (if t264 = true then ((token_IsName.f k a0).bind fun t265 => ((boscageref06_IsName.f k a0).bind fun t266 => (if (t265 == t266) = true then ((token_Reserved.f a0).bind fun t267 => ((boscageref06_Reserved.f k a0).bind fun t268 => (if (t267 == t268) = true then ((token_IsName.f k a0).bind fun t269 => (if t269 = true then ((token_Reserved.f a0).bind fun t270 => (some (!t270))) else (some (!false)))) else (some false)))) else (some false)))) else (some false))
theorem boscagelaw06_TokenNames.mono : ∀ a0 k, LeO (boscagelaw06_TokenNames.f k a0) (boscagelaw06_TokenNames.f (k + 1) a0) := by
  intro a0 k
  unfold boscagelaw06_TokenNames.f
  repeat' first
      | (with_reducible exact boscagelaw06_live.mono _)
      | (with_reducible exact boscageref06_IsName.mono _ _)
      | (with_reducible exact boscageref06_Reserved.mono _ _)
      | (with_reducible exact token_IsName.mono _ _)
      | (with_reducible exact LeO.refl _)
      | (with_reducible exact LeO.none _)
      | (with_reducible refine LeO.ite ?_ ?_)
      | (with_reducible refine LeO.bind ?_ (fun _ => ?_))
      | exact boscagelaw06_live.mono _
      | exact boscageref06_IsName.mono _ _
      | exact boscageref06_Reserved.mono _ _
      | exact token_IsName.mono _ _
      | exact LeO.none _
      | refine LeO.ite ?_ ?_
      | refine LeO.bind ?_ (fun _ => ?_)
set_option maxHeartbeats 8000000 in
set_option maxRecDepth 100000 in
theorem boscagelaw06_TokenNames.calls (k : Nat) (a0 : ByteArray) (r : Bool) (w : World) (h : boscagelaw06_TokenNames.f k a0 = some r) (hrt : r = true) (hok : Ct.OkW w := by first | assumption | exact Ct.OkW.below hok (by repeat (first | (with_reducible first | exact HB.out | apply below_alloc | apply pw_below_drewN | apply below_drew1) | exact HB.out | refine below_set ?_ (Aside0.out (by assumption))))) :
    Calls Tryd.prog 4 #[.string a0] w fun e w' => e = .returned (.bool r) ∧ Below w.heap.size w w' := by
  have HB := Aside0.mk (Below.refl w.heap.size w)
  have HRT := Aside0.mk hrt
  clear hrt
  have H : ((boscagelaw06_live.f k).bind fun t264 => (if t264 = true then ((token_IsName.f k a0).bind fun t265 => ((boscageref06_IsName.f k a0).bind fun t266 => (if (t265 == t266) = true then ((token_Reserved.f a0).bind fun t267 => ((boscageref06_Reserved.f k a0).bind fun t268 => (if (t267 == t268) = true then ((token_IsName.f k a0).bind fun t269 => (if t269 = true then ((token_Reserved.f a0).bind fun t270 => (some (!t270))) else (some (!false)))) else (some false)))) else (some false)))) else (some false))) = some r := h
  clear h
  replace H := Option.bind_eq_some_iff.mp H
  obtain ⟨t264, A20, H⟩ := H
  replace H : (if t264 = true then ((token_IsName.f k a0).bind fun t265 => ((boscageref06_IsName.f k a0).bind fun t266 => (if (t265 == t266) = true then ((token_Reserved.f a0).bind fun t267 => ((boscageref06_Reserved.f k a0).bind fun t268 => (if (t267 == t268) = true then ((token_IsName.f k a0).bind fun t269 => (if t269 = true then ((token_Reserved.f a0).bind fun t270 => (some (!t270))) else (some (!false)))) else (some false)))) else (some false)))) else (some false)) = some r := H
  have A2 := Aside0.mk A20
  clear A20
  by_cases c3 : t264 = true
  · subst c3
    have H1 : ((token_IsName.f k a0).bind fun t265 => ((boscageref06_IsName.f k a0).bind fun t266 => (if (t265 == t266) = true then ((token_Reserved.f a0).bind fun t267 => ((boscageref06_Reserved.f k a0).bind fun t268 => (if (t267 == t268) = true then ((token_IsName.f k a0).bind fun t269 => (if t269 = true then ((token_Reserved.f a0).bind fun t270 => (some (!t270))) else (some (!false)))) else (some false)))) else (some false)))) = some r := by rw [if_pos rfl] at H; exact H
    clear H
    have H := H1
    clear H1
    replace H := Option.bind_eq_some_iff.mp H
    obtain ⟨t265, A40, H⟩ := H
    replace H : ((boscageref06_IsName.f k a0).bind fun t266 => (if (t265 == t266) = true then ((token_Reserved.f a0).bind fun t267 => ((boscageref06_Reserved.f k a0).bind fun t268 => (if (t267 == t268) = true then ((token_IsName.f k a0).bind fun t269 => (if t269 = true then ((token_Reserved.f a0).bind fun t270 => (some (!t270))) else (some (!false)))) else (some false)))) else (some false))) = some r := H
    have A4 := Aside0.mk A40
    clear A40
    replace H := Option.bind_eq_some_iff.mp H
    obtain ⟨t266, A50, H⟩ := H
    replace H : (if (t265 == t266) = true then ((token_Reserved.f a0).bind fun t267 => ((boscageref06_Reserved.f k a0).bind fun t268 => (if (t267 == t268) = true then ((token_IsName.f k a0).bind fun t269 => (if t269 = true then ((token_Reserved.f a0).bind fun t270 => (some (!t270))) else (some (!false)))) else (some false)))) else (some false)) = some r := H
    have A5 := Aside0.mk A50
    clear A50
    by_cases c6 : (t265 == t266) = true
    · rw [if_pos c6] at H
      have c6b0 : (t265 == t266) = true := c6
      (try (have c6b1 : decide (t265 = t266) = true := by simpa using c6))
      (try (have c6b2 : (t265 == t266) = true := by simpa using c6))
      clear c6
      replace H := Option.bind_eq_some_iff.mp H
      obtain ⟨t267, A70, H⟩ := H
      replace H : ((boscageref06_Reserved.f k a0).bind fun t268 => (if (t267 == t268) = true then ((token_IsName.f k a0).bind fun t269 => (if t269 = true then ((token_Reserved.f a0).bind fun t270 => (some (!t270))) else (some (!false)))) else (some false))) = some r := H
      have A7 := Aside0.mk A70
      clear A70
      replace H := Option.bind_eq_some_iff.mp H
      obtain ⟨t268, A80, H⟩ := H
      replace H : (if (t267 == t268) = true then ((token_IsName.f k a0).bind fun t269 => (if t269 = true then ((token_Reserved.f a0).bind fun t270 => (some (!t270))) else (some (!false)))) else (some false)) = some r := H
      have A8 := Aside0.mk A80
      clear A80
      by_cases c9 : (t267 == t268) = true
      · rw [if_pos c9] at H
        have c9b0 : (t267 == t268) = true := c9
        (try (have c9b1 : decide (t267 = t268) = true := by simpa using c9))
        (try (have c9b2 : (t267 == t268) = true := by simpa using c9))
        clear c9
        replace H := Option.bind_eq_some_iff.mp H
        obtain ⟨t269, A100, H⟩ := H
        replace H : (if t269 = true then ((token_Reserved.f a0).bind fun t270 => (some (!t270))) else (some (!false))) = some r := H
        have A10 := Aside0.mk A100
        clear A100
        have EQ_1 : t269 = t265 := Option.some.inj (A10.out.symm.trans A4.out)
        subst EQ_1
        by_cases c11 : t269 = true
        · subst c11
          have H1 : ((token_Reserved.f a0).bind fun t270 => (some (!t270))) = some r := by rw [if_pos rfl] at H; exact H
          clear H
          have H := H1
          clear H1
          replace H := Option.bind_eq_some_iff.mp H
          obtain ⟨t270, A120, H⟩ := H
          replace H : (some (!t270)) = some r := H
          have A12 := Aside0.mk A120
          clear A120
          have EQ_2 : t270 = t267 := Option.some.inj (A12.out.symm.trans A7.out)
          subst EQ_2
          obtain rfl := Option.some.inj H
          go_enter Tryd.func4, Tryd.ntmps4
          go_wp2_with (first | ((with_reducible refine gate_callee (f := 9) rfl ?_); refine goesL_ (some 3) rfl rfl Tryd.func9 (by kernel_rfl) rfl #[] rfl (by (try simp only [List.map_toArray, List.map_cons, List.map_nil]); first | done | rfl | (simp only [List.length_drop, List.length_take]; rfl)) ?_; (with_reducible refine (boscagelaw06_live.calls k  true _ A2.out).mono ?_); rintro e w13 ⟨rfl, hb⟩; refine ⟨_, rfl, ?_⟩; have n0_ := Aside0.mk (below_step (by repeat (first | (with_reducible first | exact HB.out | apply below_alloc | apply pw_below_drewN | apply below_drew1) | exact HB.out)) hb); clear HB; have HB := n0_; clear n0_; (try clear hb); (try clear hb2); (try clear hk); (try clear hi)) | (go_at_call 13; (with_reducible refine (token_IsName.calls k a0 t265 _ A4.out).mono ?_); rintro e w14 ⟨rfl, hb⟩; have n0_ := Aside0.mk (below_step (by repeat (first | (with_reducible first | exact HB.out | apply below_alloc | apply pw_below_drewN | apply below_drew1) | exact HB.out)) hb); clear HB; have HB := n0_; clear n0_; (try clear hb); (try clear hb2); (try clear hk); (try clear hi)) | (go_at_call 14; (with_reducible refine (boscageref06_IsName.calls k a0 t266 _ A5.out).mono ?_); rintro e w15 ⟨rfl, hb⟩; have n0_ := Aside0.mk (below_step (by repeat (first | (with_reducible first | exact HB.out | apply below_alloc | apply pw_below_drewN | apply below_drew1) | exact HB.out)) hb); clear HB; have HB := n0_; clear n0_; (try clear hb); (try clear hb2); (try clear hk); (try clear hi)) | (go_at_call 15; (with_reducible refine (token_Reserved.calls a0 t267 _ A7.out).mono ?_); rintro e w16 ⟨rfl, hb⟩; have n0_ := Aside0.mk (below_step (by repeat (first | (with_reducible first | exact HB.out | apply below_alloc | apply pw_below_drewN | apply below_drew1) | exact HB.out)) hb); clear HB; have HB := n0_; clear n0_; (try clear hb); (try clear hb2); (try clear hk); (try clear hi)) | (go_at_call 16; (with_reducible refine (boscageref06_Reserved.calls k a0 t268 _ A8.out).mono ?_); rintro e w17 ⟨rfl, hb⟩; have n0_ := Aside0.mk (below_step (by repeat (first | (with_reducible first | exact HB.out | apply below_alloc | apply pw_below_drewN | apply below_drew1) | exact HB.out)) hb); clear HB; have HB := n0_; clear n0_; (try clear hb); (try clear hb2); (try clear hk); (try clear hi)) | (go_at_call 13; (with_reducible refine (token_IsName.calls k a0 true _ A10.out).mono ?_); rintro e w18 ⟨rfl, hb⟩; have n0_ := Aside0.mk (below_step (by repeat (first | (with_reducible first | exact HB.out | apply below_alloc | apply pw_below_drewN | apply below_drew1) | exact HB.out)) hb); clear HB; have HB := n0_; clear n0_; (try clear hb); (try clear hb2); (try clear hk); (try clear hi)) | (go_at_call 15; (with_reducible refine (token_Reserved.calls a0 t270 _ A12.out).mono ?_); rintro e w19 ⟨rfl, hb⟩; have n0_ := Aside0.mk (below_step (by repeat (first | (with_reducible first | exact HB.out | apply below_alloc | apply pw_below_drewN | apply below_drew1) | exact HB.out)) hb); clear HB; have HB := n0_; clear n0_; (try clear hb); (try clear hb2); (try clear hk); (try clear hi)))
          go_ret
          exact ⟨by first | rfl | (simp [errW_none, errW_some] <;> rfl) | (simp [*, errW_none, errW_some] <;> rfl), by repeat (first | (with_reducible first | exact HB.out | apply below_alloc | apply pw_below_drewN | apply below_drew1) | exact HB.out)⟩
        · replace c11 := Bool.eq_false_iff.mpr c11
          subst c11
          have H1 : (some (!false)) = some r := by rw [if_neg (show ¬ (false = true) by decide)] at H; exact H
          clear H
          have H := H1
          clear H1
          obtain rfl := Option.some.inj H
          go_enter Tryd.func4, Tryd.ntmps4
          go_wp2_with (first | ((with_reducible refine gate_callee (f := 9) rfl ?_); refine goesL_ (some 3) rfl rfl Tryd.func9 (by kernel_rfl) rfl #[] rfl (by (try simp only [List.map_toArray, List.map_cons, List.map_nil]); first | done | rfl | (simp only [List.length_drop, List.length_take]; rfl)) ?_; (with_reducible refine (boscagelaw06_live.calls k  true _ A2.out).mono ?_); rintro e w20 ⟨rfl, hb⟩; refine ⟨_, rfl, ?_⟩; have n0_ := Aside0.mk (below_step (by repeat (first | (with_reducible first | exact HB.out | apply below_alloc | apply pw_below_drewN | apply below_drew1) | exact HB.out)) hb); clear HB; have HB := n0_; clear n0_; (try clear hb); (try clear hb2); (try clear hk); (try clear hi)) | (go_at_call 13; (with_reducible refine (token_IsName.calls k a0 t265 _ A4.out).mono ?_); rintro e w21 ⟨rfl, hb⟩; have n0_ := Aside0.mk (below_step (by repeat (first | (with_reducible first | exact HB.out | apply below_alloc | apply pw_below_drewN | apply below_drew1) | exact HB.out)) hb); clear HB; have HB := n0_; clear n0_; (try clear hb); (try clear hb2); (try clear hk); (try clear hi)) | (go_at_call 14; (with_reducible refine (boscageref06_IsName.calls k a0 t266 _ A5.out).mono ?_); rintro e w22 ⟨rfl, hb⟩; have n0_ := Aside0.mk (below_step (by repeat (first | (with_reducible first | exact HB.out | apply below_alloc | apply pw_below_drewN | apply below_drew1) | exact HB.out)) hb); clear HB; have HB := n0_; clear n0_; (try clear hb); (try clear hb2); (try clear hk); (try clear hi)) | (go_at_call 15; (with_reducible refine (token_Reserved.calls a0 t267 _ A7.out).mono ?_); rintro e w23 ⟨rfl, hb⟩; have n0_ := Aside0.mk (below_step (by repeat (first | (with_reducible first | exact HB.out | apply below_alloc | apply pw_below_drewN | apply below_drew1) | exact HB.out)) hb); clear HB; have HB := n0_; clear n0_; (try clear hb); (try clear hb2); (try clear hk); (try clear hi)) | (go_at_call 16; (with_reducible refine (boscageref06_Reserved.calls k a0 t268 _ A8.out).mono ?_); rintro e w24 ⟨rfl, hb⟩; have n0_ := Aside0.mk (below_step (by repeat (first | (with_reducible first | exact HB.out | apply below_alloc | apply pw_below_drewN | apply below_drew1) | exact HB.out)) hb); clear HB; have HB := n0_; clear n0_; (try clear hb); (try clear hb2); (try clear hk); (try clear hi)) | (go_at_call 13; (with_reducible refine (token_IsName.calls k a0 false _ A10.out).mono ?_); rintro e w25 ⟨rfl, hb⟩; have n0_ := Aside0.mk (below_step (by repeat (first | (with_reducible first | exact HB.out | apply below_alloc | apply pw_below_drewN | apply below_drew1) | exact HB.out)) hb); clear HB; have HB := n0_; clear n0_; (try clear hb); (try clear hb2); (try clear hk); (try clear hi)))
          go_ret
          exact ⟨by first | rfl | (simp [errW_none, errW_some] <;> rfl) | (simp [*, errW_none, errW_some] <;> rfl), by repeat (first | (with_reducible first | exact HB.out | apply below_alloc | apply pw_below_drewN | apply below_drew1) | exact HB.out)⟩
      · rw [if_neg c9] at H
        have c9b0 : (t267 == t268) = false := by simpa using c9
        (try (have c9b1 : decide (t267 = t268) = false := by simpa using c9))
        (try (have c9b2 : (t267 == t268) = false := by simpa using c9))
        (try (have c9b3 : ¬ (t267 = t268) := by simpa using c9))
        clear c9
        exact absurd ((Option.some.inj H).trans HRT.out) Bool.false_ne_true
    · rw [if_neg c6] at H
      have c6b0 : (t265 == t266) = false := by simpa using c6
      (try (have c6b1 : decide (t265 = t266) = false := by simpa using c6))
      (try (have c6b2 : (t265 == t266) = false := by simpa using c6))
      (try (have c6b3 : ¬ (t265 = t266) := by simpa using c6))
      clear c6
      exact absurd ((Option.some.inj H).trans HRT.out) Bool.false_ne_true
  · replace c3 := Bool.eq_false_iff.mpr c3
    subst c3
    have H1 : (some false) = some r := by rw [if_neg (show ¬ (false = true) by decide)] at H; exact H
    clear H
    have H := H1
    clear H1
    exact absurd ((Option.some.inj H).trans HRT.out) Bool.false_ne_true



end Go.Proofs.YtffaibjiiiochaaDoor.QTA
