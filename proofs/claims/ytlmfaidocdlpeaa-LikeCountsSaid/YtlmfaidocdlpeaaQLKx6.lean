-- printed by our own turn of the print (wip/pr)
import Derived.Test.YtlmfaidocdlpeaaQLKx0
import Derived.Test.YtlmfaidocdlpeaaQLKx1
import Derived.Test.YtlmfaidocdlpeaaQLKx2
namespace Go.Proofs.Ytlmfaidocdlpeaa.QLK
open Go.RowKit Go.Proofs.YtlmfaidocdlpeaaW.PrintWords Go.Proofs.YtlmfaidocdlpeaaW.PrintLast Go.Proofs.YtlmfaidocdlpeaaW.PrintMore
attribute [local go_sem] max2_int min2_int max_two min_two max_three min_three max_four min_four   -- for this text's walks alone
set_option linter.unusedVariables false
set_option linter.unusedSimpArgs false

/-! ### boscagelaw04_LikeCounts: function 6 -/
def boscagelaw04_LikeCounts.l0 : Nat → ByteArray → Int → Int → Bool → ByteArray → ByteArray → Int → Int → Option (Bool)
  | 0, _, _, _, _, _, _, _, _ => none
  | k + 1, x0, x1, x2, x7, x8, x9, x34, x35 => if x35 < x34 then (if x35 = x2 then (if x9.size + 1 ≤ 9223372036854775807 then (if x8.size + 1 ≤ 9223372036854775807 then (if (x9 ++ (⟨#[37]⟩ : ByteArray)).size + 1 ≤ 9223372036854775807 then (boscagelaw04_LikeCounts.l0 k x0 x1 x2 x7 (x8 ++ (⟨#[95]⟩ : ByteArray)) ((x9 ++ (⟨#[37]⟩ : ByteArray)) ++ (⟨#[95]⟩ : ByteArray)) x34 (wrap64 (x35 + 1))) else (none)) else (none)) else (none)) else (if x8.size + 1 ≤ 9223372036854775807 then (if x9.size + 1 ≤ 9223372036854775807 then (boscagelaw04_LikeCounts.l0 k x0 x1 x2 x7 (x8 ++ (⟨#[95]⟩ : ByteArray)) (x9 ++ (⟨#[95]⟩ : ByteArray)) x34 (wrap64 (x35 + 1))) else (none)) else (none))) else (if x2 = x1 then (if x9.size + 1 ≤ 9223372036854775807 then ((like_Like.f k x0 x8).bind fun bt207 => ((like_Like.f k x0 (x9 ++ (⟨#[37]⟩ : ByteArray))).bind fun bt209 => (if x7 = true then (if bt207.2 = 0 then (if bt209.2 = 0 then (if (bt207.1 == ((x0.size : Int) == x1)) = true then (some (bt209.1 == (decide ((x0.size : Int) ≥ x1)))) else (some false)) else (some false)) else (some false)) else (some false)))) else (none)) else ((like_Like.f k x0 x8).bind fun bt211 => ((like_Like.f k x0 x9).bind fun bt213 => (if x7 = true then (if bt211.2 = 0 then (if bt213.2 = 0 then (if (bt211.1 == ((x0.size : Int) == x1)) = true then (some (bt213.1 == (decide ((x0.size : Int) ≥ x1)))) else (some false)) else (some false)) else (some false)) else (some false)))))
def boscagelaw04_LikeCounts.f (k : Nat) (a0 : ByteArray) (a1 : Int) (a2 : Int) : Option (Bool) := (boscagelaw04_live.f k).bind fun t206 => (if (a0.size : Int) > 300 then (some t206) else (if (wrap64 ((Int.tmod (wrap64 ((Int.tmod a1 20) + 20)) 20) + 1)) = 0 then (none) else (boscagelaw04_LikeCounts.l0 k a0 (Int.tmod (wrap64 ((Int.tmod a1 20) + 20)) 20) (Int.tmod (wrap64 ((wrap64 ((Int.tmod a2 (wrap64 ((Int.tmod (wrap64 ((Int.tmod a1 20) + 20)) 20) + 1))) + (Int.tmod (wrap64 ((Int.tmod a1 20) + 20)) 20))) + 1)) (wrap64 ((Int.tmod (wrap64 ((Int.tmod a1 20) + 20)) 20) + 1))) t206 (⟨#[]⟩ : ByteArray) (⟨#[]⟩ : ByteArray) (Int.tmod (wrap64 ((Int.tmod a1 20) + 20)) 20) 0)))
theorem boscagelaw04_LikeCounts.mono_l : ∀ k, (∀ y0 y1 y2 y3 y4 y5 y6 y7, LeO (boscagelaw04_LikeCounts.l0 k y0 y1 y2 y3 y4 y5 y6 y7) (boscagelaw04_LikeCounts.l0 (k + 1) y0 y1 y2 y3 y4 y5 y6 y7))
  | 0 => fun _ _ _ _ _ _ _ _ r h => by simp [boscagelaw04_LikeCounts.l0] at h
  | k + 1 => by
    have ih0 := boscagelaw04_LikeCounts.mono_l k
    · intro y0 y1 y2 y3 y4 y5 y6 y7
      unfold boscagelaw04_LikeCounts.l0
      repeat' first
      | (with_reducible exact ih0 _ _ _ _ _ _ _ _)
      | (with_reducible exact boscagelaw04_live.mono _)
      | (with_reducible exact like_Like.mono _ _ _)
      | (with_reducible exact LeO.refl _)
      | (with_reducible exact LeO.none _)
      | (with_reducible refine LeO.ite ?_ ?_)
      | (with_reducible refine LeO.bind ?_ (fun _ => ?_))
      | exact ih0 _ _ _ _ _ _ _ _
      | exact boscagelaw04_live.mono _
      | exact like_Like.mono _ _ _
      | exact LeO.none _
      | refine LeO.ite ?_ ?_
      | refine LeO.bind ?_ (fun _ => ?_)
theorem boscagelaw04_LikeCounts.mono : ∀ a0 a1 a2 k, LeO (boscagelaw04_LikeCounts.f k a0 a1 a2) (boscagelaw04_LikeCounts.f (k + 1) a0 a1 a2) := by
  intro a0 a1 a2 k
  have ih0 := boscagelaw04_LikeCounts.mono_l k
  unfold boscagelaw04_LikeCounts.f
  repeat' first
      | (with_reducible exact ih0 _ _ _ _ _ _ _ _)
      | (with_reducible exact boscagelaw04_live.mono _)
      | (with_reducible exact like_Like.mono _ _ _)
      | (with_reducible exact LeO.refl _)
      | (with_reducible exact LeO.none _)
      | (with_reducible refine LeO.ite ?_ ?_)
      | (with_reducible refine LeO.bind ?_ (fun _ => ?_))
      | exact ih0 _ _ _ _ _ _ _ _
      | exact boscagelaw04_live.mono _
      | exact like_Like.mono _ _ _
      | exact LeO.none _
      | refine LeO.ite ?_ ?_
      | refine LeO.bind ?_ (fun _ => ?_)
set_option maxHeartbeats 8000000 in
set_option maxRecDepth 100000 in
theorem boscagelaw04_LikeCounts.calls (k : Nat) (a0 : ByteArray) (a1 : Int) (a2 : Int) (r : Bool) (w : World) (h : boscagelaw04_LikeCounts.f k a0 a1 a2 = some r) :
    Calls Try.prog 6 #[.string a0, .int .i64 a1, .int .i64 a2] w fun e w' => e = .returned (.bool r) ∧ Below w.heap.size w w' := by
  have HB := Aside0.mk (Below.refl w.heap.size w)
  have H : ((boscagelaw04_live.f k).bind fun t206 => (if (a0.size : Int) > 300 then (some t206) else (if (wrap64 ((Int.tmod (wrap64 ((Int.tmod a1 20) + 20)) 20) + 1)) = 0 then (none) else (boscagelaw04_LikeCounts.l0 k a0 (Int.tmod (wrap64 ((Int.tmod a1 20) + 20)) 20) (Int.tmod (wrap64 ((wrap64 ((Int.tmod a2 (wrap64 ((Int.tmod (wrap64 ((Int.tmod a1 20) + 20)) 20) + 1))) + (Int.tmod (wrap64 ((Int.tmod a1 20) + 20)) 20))) + 1)) (wrap64 ((Int.tmod (wrap64 ((Int.tmod a1 20) + 20)) 20) + 1))) t206 (⟨#[]⟩ : ByteArray) (⟨#[]⟩ : ByteArray) (Int.tmod (wrap64 ((Int.tmod a1 20) + 20)) 20) 0)))) = some r := h
  clear h
  replace H := Option.bind_eq_some_iff.mp H
  obtain ⟨t206, A40, H⟩ := H
  replace H : (if (a0.size : Int) > 300 then (some t206) else (if (wrap64 ((Int.tmod (wrap64 ((Int.tmod a1 20) + 20)) 20) + 1)) = 0 then (none) else (boscagelaw04_LikeCounts.l0 k a0 (Int.tmod (wrap64 ((Int.tmod a1 20) + 20)) 20) (Int.tmod (wrap64 ((wrap64 ((Int.tmod a2 (wrap64 ((Int.tmod (wrap64 ((Int.tmod a1 20) + 20)) 20) + 1))) + (Int.tmod (wrap64 ((Int.tmod a1 20) + 20)) 20))) + 1)) (wrap64 ((Int.tmod (wrap64 ((Int.tmod a1 20) + 20)) 20) + 1))) t206 (⟨#[]⟩ : ByteArray) (⟨#[]⟩ : ByteArray) (Int.tmod (wrap64 ((Int.tmod a1 20) + 20)) 20) 0))) = some r := H
  have A4 := Aside0.mk A40
  clear A40
  by_cases c5 : (a0.size : Int) > 300
  · rw [if_pos c5] at H
    have c5b0 : decide (300 < (a0.size : Int)) = true := decide_eq_true c5
    have c5b1 : decide (300 < a0.size) = true := decide_eq_true (by omega)
    clear c5
    obtain rfl := Option.some.inj H
    go_enter Try.func6, Try.ntmps6
    go_wp2_with (first | ((with_reducible refine gate_callee (f := 7) rfl ?_); refine goesL_ (some 15) rfl rfl Try.func7 (by kernel_rfl) rfl #[] rfl (by (try simp only [List.map_toArray, List.map_cons, List.map_nil]); first | done | rfl | (simp only [List.length_drop, List.length_take]; rfl)) ?_; (with_reducible refine (boscagelaw04_live.calls k  t206 _ A4.out).mono ?_); rintro e w6 ⟨rfl, hb⟩; refine ⟨_, rfl, ?_⟩; have n0_ := Aside0.mk (below_step (by repeat (first | (with_reducible first | exact HB.out | apply below_alloc | apply pw_below_drewN | apply below_drew1) | exact HB.out)) hb); clear HB; have HB := n0_; clear n0_; (try clear hb); (try clear hb2); (try clear hk); (try clear hi)))
    go_ret
    exact ⟨by first | rfl | (simp [errW_none, errW_some] <;> rfl) | (simp [*, errW_none, errW_some] <;> rfl), by repeat (first | (with_reducible first | exact HB.out | apply below_alloc | apply pw_below_drewN | apply below_drew1) | exact HB.out)⟩
  · rw [if_neg c5] at H
    have c5b0 : decide (300 < (a0.size : Int)) = false := decide_eq_false c5
    have c5b1 : decide (300 < a0.size) = false := decide_eq_false (by omega)
    clear c5
    by_cases c7 : (wrap64 ((Int.tmod (wrap64 ((Int.tmod a1 20) + 20)) 20) + 1)) = 0
    · rw [if_pos c7] at H
      exact absurd H (by simp)
    · rw [if_neg c7] at H
      have c7b0 : ((wrap64 ((Int.tmod (wrap64 ((Int.tmod a1 20) + 20)) 20) + 1)) == 0) = false := beq_eq_false_iff_ne.mpr c7
      have c7b1 : ((wrap64 ((Int.tmod (wrap64 ((Int.tmod a1 20) + 20)) 20) + 1)) != 0) = true := bne_iff_ne.mpr c7
      have H' := Aside0.mk H
      clear H
      go_enter Try.func6, Try.ntmps6
      go_wp2_with (first | ((with_reducible refine gate_callee (f := 7) rfl ?_); refine goesL_ (some 15) rfl rfl Try.func7 (by kernel_rfl) rfl #[] rfl (by (try simp only [List.map_toArray, List.map_cons, List.map_nil]); first | done | rfl | (simp only [List.length_drop, List.length_take]; rfl)) ?_; (with_reducible refine (boscagelaw04_live.calls k  t206 _ A4.out).mono ?_); rintro e w8 ⟨rfl, hb⟩; refine ⟨_, rfl, ?_⟩; have n0_ := Aside0.mk (below_step (by repeat (first | (with_reducible first | exact HB.out | apply below_alloc | apply pw_below_drewN | apply below_drew1) | exact HB.out)) hb); clear HB; have HB := n0_; clear n0_; (try clear hb); (try clear hb2); (try clear hk); (try clear hi)))
      go_loopg [8, 9, 35] k (fun kq v8 v9 v35 w' => ∃ (x8_1 : ByteArray) (x9_1 : ByteArray) (x35_1 : Int), v8 = .string x8_1 ∧ v9 = .string x9_1 ∧ v35 = .int .i64 x35_1 ∧ Aside0 (boscagelaw04_LikeCounts.l0 kq a0 (Int.tmod (wrap64 ((Int.tmod a1 20) + 20)) 20) (Int.tmod (wrap64 ((wrap64 ((Int.tmod a2 (wrap64 ((Int.tmod (wrap64 ((Int.tmod a1 20) + 20)) 20) + 1))) + (Int.tmod (wrap64 ((Int.tmod a1 20) + 20)) 20))) + 1)) (wrap64 ((Int.tmod (wrap64 ((Int.tmod a1 20) + 20)) 20) + 1))) t206 x8_1 x9_1 (Int.tmod (wrap64 ((Int.tmod a1 20) + 20)) 20) x35_1 = some r) ∧ Aside0 (kq ≤ k) ∧ Aside0 (Below w.heap.size w w'))
      case atStart => exact ⟨((⟨#[]⟩ : ByteArray)), ((⟨#[]⟩ : ByteArray)), (0), (by first | rfl | (simp; done) | (simp [*]; done)), (by first | rfl | (simp; done) | (simp [*]; done)), (by first | rfl | (simp; done) | (simp [*]; done)), H', ⟨Nat.le_refl _⟩, ⟨by repeat (first | (with_reducible first | exact HB.out | apply below_alloc | apply pw_below_drewN | apply below_drew1) | exact HB.out)⟩⟩
      case round =>
        clear H'
        try clear p2
        try clear c5
        try clear c5b0
        try clear c5b1
        try clear c6
        try clear p6
        try clear c7
        try clear c7b0
        try clear c7b1
        obtain ⟨x8_1, x9_1, x35_1, rfl, rfl, rfl, HA, HK1, HB⟩ := hrel
        cases gk with
        | zero => exact absurd HA.out (by simp [boscagelaw04_LikeCounts.l0])
        | succ k1 =>
          have H := HA.out
          clear HA
          simp only [boscagelaw04_LikeCounts.l0] at H
          by_cases c9 : x35_1 < (Int.tmod (wrap64 ((Int.tmod a1 20) + 20)) 20)
          · rw [if_pos c9] at H
            have c9b0 : decide (x35_1 < (Int.tmod (wrap64 ((Int.tmod a1 20) + 20)) 20)) = true := decide_eq_true c9
            clear c9
            by_cases c10 : x35_1 = (Int.tmod (wrap64 ((wrap64 ((Int.tmod a2 (wrap64 ((Int.tmod (wrap64 ((Int.tmod a1 20) + 20)) 20) + 1))) + (Int.tmod (wrap64 ((Int.tmod a1 20) + 20)) 20))) + 1)) (wrap64 ((Int.tmod (wrap64 ((Int.tmod a1 20) + 20)) 20) + 1)))
            · rw [if_pos c10] at H
              have c10b0 : (x35_1 == (Int.tmod (wrap64 ((wrap64 ((Int.tmod a2 (wrap64 ((Int.tmod (wrap64 ((Int.tmod a1 20) + 20)) 20) + 1))) + (Int.tmod (wrap64 ((Int.tmod a1 20) + 20)) 20))) + 1)) (wrap64 ((Int.tmod (wrap64 ((Int.tmod a1 20) + 20)) 20) + 1)))) = true := beq_iff_eq.mpr c10
              have c10b1 : (x35_1 != (Int.tmod (wrap64 ((wrap64 ((Int.tmod a2 (wrap64 ((Int.tmod (wrap64 ((Int.tmod a1 20) + 20)) 20) + 1))) + (Int.tmod (wrap64 ((Int.tmod a1 20) + 20)) 20))) + 1)) (wrap64 ((Int.tmod (wrap64 ((Int.tmod a1 20) + 20)) 20) + 1)))) = false := bne_eq_false_iff_eq.mpr c10
              clear c10
              by_cases c11 : x9_1.size + 1 ≤ 9223372036854775807
              · rw [if_pos c11] at H
                have c11b0 := eq_true c11
                have c11b1 : decide (x9_1.size + 1 ≤ 9223372036854775807) = true := decide_eq_true c11
                try have c11b2 : (9223372036854775807 < x9_1.size + 1) = False := eq_false (Nat.not_lt.2 c11)
                by_cases c12 : x8_1.size + 1 ≤ 9223372036854775807
                · rw [if_pos c12] at H
                  have c12b0 := eq_true c12
                  have c12b1 : decide (x8_1.size + 1 ≤ 9223372036854775807) = true := decide_eq_true c12
                  try have c12b2 : (9223372036854775807 < x8_1.size + 1) = False := eq_false (Nat.not_lt.2 c12)
                  by_cases c13 : (x9_1 ++ (⟨#[37]⟩ : ByteArray)).size + 1 ≤ 9223372036854775807
                  · rw [if_pos c13] at H
                    have c13b0 := eq_true c13
                    have c13b1 : decide ((x9_1 ++ (⟨#[37]⟩ : ByteArray)).size + 1 ≤ 9223372036854775807) = true := decide_eq_true c13
                    try have c13b2 : (9223372036854775807 < (x9_1 ++ (⟨#[37]⟩ : ByteArray)).size + 1) = False := eq_false (Nat.not_lt.2 c13)
                    try have c13b2m := c13b2
                    try simp only [ByteArray.size_append] at c13b2m
                    try rw [show (⟨#[37]⟩ : ByteArray).size = 1 from rfl] at c13b2m
                    have H' := Aside0.mk H
                    clear H
                    go_wp2
                    go_roundg k1
                    case measure => have := HK1.out; omega
                    case rel => exact ⟨(x8_1 ++ (⟨#[95]⟩ : ByteArray)), ((x9_1 ++ (⟨#[37]⟩ : ByteArray)) ++ (⟨#[95]⟩ : ByteArray)), (wrap64 (x35_1 + 1)), (by first | rfl | (simp; done) | (simp [*]; done)), (by first | rfl | (simp; done) | (simp [*]; done)), (by first | rfl | (simp; done) | (simp [*]; done)), H', ⟨by have := HK1.out; omega⟩, ⟨by repeat (first | (with_reducible first | exact HB.out | apply below_alloc | apply pw_below_drewN | apply below_drew1) | exact HB.out)⟩⟩
                  · rw [if_neg c13] at H
                    exact absurd H (by simp)
                · rw [if_neg c12] at H
                  exact absurd H (by simp)
              · rw [if_neg c11] at H
                exact absurd H (by simp)
            · rw [if_neg c10] at H
              have c10b0 : (x35_1 == (Int.tmod (wrap64 ((wrap64 ((Int.tmod a2 (wrap64 ((Int.tmod (wrap64 ((Int.tmod a1 20) + 20)) 20) + 1))) + (Int.tmod (wrap64 ((Int.tmod a1 20) + 20)) 20))) + 1)) (wrap64 ((Int.tmod (wrap64 ((Int.tmod a1 20) + 20)) 20) + 1)))) = false := beq_eq_false_iff_ne.mpr c10
              have c10b1 : (x35_1 != (Int.tmod (wrap64 ((wrap64 ((Int.tmod a2 (wrap64 ((Int.tmod (wrap64 ((Int.tmod a1 20) + 20)) 20) + 1))) + (Int.tmod (wrap64 ((Int.tmod a1 20) + 20)) 20))) + 1)) (wrap64 ((Int.tmod (wrap64 ((Int.tmod a1 20) + 20)) 20) + 1)))) = true := bne_iff_ne.mpr c10
              by_cases c14 : x8_1.size + 1 ≤ 9223372036854775807
              · rw [if_pos c14] at H
                have c14b0 := eq_true c14
                have c14b1 : decide (x8_1.size + 1 ≤ 9223372036854775807) = true := decide_eq_true c14
                try have c14b2 : (9223372036854775807 < x8_1.size + 1) = False := eq_false (Nat.not_lt.2 c14)
                by_cases c15 : x9_1.size + 1 ≤ 9223372036854775807
                · rw [if_pos c15] at H
                  have c15b0 := eq_true c15
                  have c15b1 : decide (x9_1.size + 1 ≤ 9223372036854775807) = true := decide_eq_true c15
                  try have c15b2 : (9223372036854775807 < x9_1.size + 1) = False := eq_false (Nat.not_lt.2 c15)
                  have H' := Aside0.mk H
                  clear H
                  go_wp2
                  go_roundg k1
                  case measure => have := HK1.out; omega
                  case rel => exact ⟨(x8_1 ++ (⟨#[95]⟩ : ByteArray)), (x9_1 ++ (⟨#[95]⟩ : ByteArray)), (wrap64 (x35_1 + 1)), (by first | rfl | (simp; done) | (simp [*]; done)), (by first | rfl | (simp; done) | (simp [*]; done)), (by first | rfl | (simp; done) | (simp [*]; done)), H', ⟨by have := HK1.out; omega⟩, ⟨by repeat (first | (with_reducible first | exact HB.out | apply below_alloc | apply pw_below_drewN | apply below_drew1) | exact HB.out)⟩⟩
                · rw [if_neg c15] at H
                  exact absurd H (by simp)
              · rw [if_neg c14] at H
                exact absurd H (by simp)
          · rw [if_neg c9] at H
            have c9b0 : decide (x35_1 < (Int.tmod (wrap64 ((Int.tmod a1 20) + 20)) 20)) = false := decide_eq_false c9
            clear c9
            by_cases c16 : (Int.tmod (wrap64 ((wrap64 ((Int.tmod a2 (wrap64 ((Int.tmod (wrap64 ((Int.tmod a1 20) + 20)) 20) + 1))) + (Int.tmod (wrap64 ((Int.tmod a1 20) + 20)) 20))) + 1)) (wrap64 ((Int.tmod (wrap64 ((Int.tmod a1 20) + 20)) 20) + 1))) = (Int.tmod (wrap64 ((Int.tmod a1 20) + 20)) 20)
            · rw [if_pos c16] at H
              have c16b0 : ((Int.tmod (wrap64 ((wrap64 ((Int.tmod a2 (wrap64 ((Int.tmod (wrap64 ((Int.tmod a1 20) + 20)) 20) + 1))) + (Int.tmod (wrap64 ((Int.tmod a1 20) + 20)) 20))) + 1)) (wrap64 ((Int.tmod (wrap64 ((Int.tmod a1 20) + 20)) 20) + 1))) == (Int.tmod (wrap64 ((Int.tmod a1 20) + 20)) 20)) = true := beq_iff_eq.mpr c16
              have c16b1 : ((Int.tmod (wrap64 ((wrap64 ((Int.tmod a2 (wrap64 ((Int.tmod (wrap64 ((Int.tmod a1 20) + 20)) 20) + 1))) + (Int.tmod (wrap64 ((Int.tmod a1 20) + 20)) 20))) + 1)) (wrap64 ((Int.tmod (wrap64 ((Int.tmod a1 20) + 20)) 20) + 1))) != (Int.tmod (wrap64 ((Int.tmod a1 20) + 20)) 20)) = false := bne_eq_false_iff_eq.mpr c16
              clear c16
              by_cases c17 : x9_1.size + 1 ≤ 9223372036854775807
              · rw [if_pos c17] at H
                have c17b0 := eq_true c17
                have c17b1 : decide (x9_1.size + 1 ≤ 9223372036854775807) = true := decide_eq_true c17
                try have c17b2 : (9223372036854775807 < x9_1.size + 1) = False := eq_false (Nat.not_lt.2 c17)
                replace H := Option.bind_eq_some_iff.mp H
                obtain ⟨⟨t207, t208⟩, A180, H⟩ := H
                replace H : ((like_Like.f k1 a0 (x9_1 ++ (⟨#[37]⟩ : ByteArray))).bind fun bt209 => (if t206 = true then (if t208 = 0 then (if bt209.2 = 0 then (if (t207 == ((a0.size : Int) == (Int.tmod (wrap64 ((Int.tmod a1 20) + 20)) 20))) = true then (some (bt209.1 == (decide ((a0.size : Int) ≥ (Int.tmod (wrap64 ((Int.tmod a1 20) + 20)) 20))))) else (some false)) else (some false)) else (some false)) else (some false))) = some r := H
                have A18 := Aside0.mk A180
                clear A180
                replace H := Option.bind_eq_some_iff.mp H
                obtain ⟨⟨t209, t210⟩, A190, H⟩ := H
                replace H : (if t206 = true then (if t208 = 0 then (if t210 = 0 then (if (t207 == ((a0.size : Int) == (Int.tmod (wrap64 ((Int.tmod a1 20) + 20)) 20))) = true then (some (t209 == (decide ((a0.size : Int) ≥ (Int.tmod (wrap64 ((Int.tmod a1 20) + 20)) 20))))) else (some false)) else (some false)) else (some false)) else (some false)) = some r := H
                have A19 := Aside0.mk A190
                clear A190
                by_cases c20 : t206 = true
                · subst c20
                  have H1 : (if t208 = 0 then (if t210 = 0 then (if (t207 == ((a0.size : Int) == (Int.tmod (wrap64 ((Int.tmod a1 20) + 20)) 20))) = true then (some (t209 == (decide ((a0.size : Int) ≥ (Int.tmod (wrap64 ((Int.tmod a1 20) + 20)) 20))))) else (some false)) else (some false)) else (some false)) = some r := by rw [if_pos rfl] at H; exact H
                  clear H
                  have H := H1
                  clear H1
                  by_cases c21 : t208 = 0
                  · rw [if_pos c21] at H
                    have c21b0 : (t208 == 0) = true := beq_iff_eq.mpr c21
                    have c21b1 : (t208 != 0) = false := bne_eq_false_iff_eq.mpr c21
                    clear c21
                    by_cases c22 : t210 = 0
                    · rw [if_pos c22] at H
                      have c22b0 : (t210 == 0) = true := beq_iff_eq.mpr c22
                      have c22b1 : (t210 != 0) = false := bne_eq_false_iff_eq.mpr c22
                      clear c22
                      by_cases c23 : (t207 == ((a0.size : Int) == (Int.tmod (wrap64 ((Int.tmod a1 20) + 20)) 20))) = true
                      · rw [if_pos c23] at H
                        have c23b0 : (t207 == ((a0.size : Int) == (Int.tmod (wrap64 ((Int.tmod a1 20) + 20)) 20))) = true := c23
                        (try (have c23b1 : decide (t207 = ((a0.size : Int) == (Int.tmod (wrap64 ((Int.tmod a1 20) + 20)) 20))) = true := by simpa using c23))
                        (try (have c23b2 : (t207 == ((a0.size : Int) == (Int.tmod (wrap64 ((Int.tmod a1 20) + 20)) 20))) = true := by simpa using c23))
                        clear c23
                        obtain rfl := Option.some.inj H
                        go_wp2_with (first | ((with_reducible refine gate_callee (f := 8) rfl ?_); refine goesL_ (some 56) rfl rfl Try.func8 (by kernel_rfl) rfl #[.string a0, .string x8_1] rfl (by (try simp only [List.map_toArray, List.map_cons, List.map_nil]); first | done | rfl | (simp only [List.length_drop, List.length_take]; rfl)) ?_; (with_reducible refine (like_Like.calls k1 a0 x8_1 t207 t208 _ A18.out).mono ?_); rintro e w' ⟨rfl, ⟨nd, rfl⟩⟩; refine ⟨_, rfl, ?_⟩) | ((with_reducible refine gate_callee (f := 8) rfl ?_); refine goesL_ (some 62) rfl rfl Try.func8 (by kernel_rfl) rfl #[.string a0, .string (x9_1 ++ (⟨#[37]⟩ : ByteArray))] rfl (by (try simp only [List.map_toArray, List.map_cons, List.map_nil]); first | done | rfl | (simp only [List.length_drop, List.length_take]; rfl)) ?_; (with_reducible refine (like_Like.calls k1 a0 (x9_1 ++ (⟨#[37]⟩ : ByteArray)) t209 t210 _ A19.out).mono ?_); rintro e w' ⟨rfl, ⟨nd, rfl⟩⟩; refine ⟨_, rfl, ?_⟩))
                        go_ret
                        exact ⟨by first | rfl | (simp [errW_none, errW_some] <;> rfl) | (simp [*, errW_none, errW_some] <;> rfl), by repeat (first | (with_reducible first | exact HB.out | apply below_alloc | apply pw_below_drewN | apply below_drew1) | exact HB.out)⟩
                      · rw [if_neg c23] at H
                        have c23b0 : (t207 == ((a0.size : Int) == (Int.tmod (wrap64 ((Int.tmod a1 20) + 20)) 20))) = false := by simpa using c23
                        (try (have c23b1 : decide (t207 = ((a0.size : Int) == (Int.tmod (wrap64 ((Int.tmod a1 20) + 20)) 20))) = false := by simpa using c23))
                        (try (have c23b2 : (t207 == ((a0.size : Int) == (Int.tmod (wrap64 ((Int.tmod a1 20) + 20)) 20))) = false := by simpa using c23))
                        (try (have c23b3 : ¬ (t207 = ((a0.size : Int) == (Int.tmod (wrap64 ((Int.tmod a1 20) + 20)) 20))) := by simpa using c23))
                        clear c23
                        obtain rfl := Option.some.inj H
                        go_wp2_with (first | ((with_reducible refine gate_callee (f := 8) rfl ?_); refine goesL_ (some 56) rfl rfl Try.func8 (by kernel_rfl) rfl #[.string a0, .string x8_1] rfl (by (try simp only [List.map_toArray, List.map_cons, List.map_nil]); first | done | rfl | (simp only [List.length_drop, List.length_take]; rfl)) ?_; (with_reducible refine (like_Like.calls k1 a0 x8_1 t207 t208 _ A18.out).mono ?_); rintro e w' ⟨rfl, ⟨nd, rfl⟩⟩; refine ⟨_, rfl, ?_⟩) | ((with_reducible refine gate_callee (f := 8) rfl ?_); refine goesL_ (some 62) rfl rfl Try.func8 (by kernel_rfl) rfl #[.string a0, .string (x9_1 ++ (⟨#[37]⟩ : ByteArray))] rfl (by (try simp only [List.map_toArray, List.map_cons, List.map_nil]); first | done | rfl | (simp only [List.length_drop, List.length_take]; rfl)) ?_; (with_reducible refine (like_Like.calls k1 a0 (x9_1 ++ (⟨#[37]⟩ : ByteArray)) t209 t210 _ A19.out).mono ?_); rintro e w' ⟨rfl, ⟨nd, rfl⟩⟩; refine ⟨_, rfl, ?_⟩))
                        go_ret
                        exact ⟨by first | rfl | (simp [errW_none, errW_some] <;> rfl) | (simp [*, errW_none, errW_some] <;> rfl), by repeat (first | (with_reducible first | exact HB.out | apply below_alloc | apply pw_below_drewN | apply below_drew1) | exact HB.out)⟩
                    · rw [if_neg c22] at H
                      have c22b0 : (t210 == 0) = false := beq_eq_false_iff_ne.mpr c22
                      have c22b1 : (t210 != 0) = true := bne_iff_ne.mpr c22
                      obtain rfl := Option.some.inj H
                      go_wp2_with (first | ((with_reducible refine gate_callee (f := 8) rfl ?_); refine goesL_ (some 56) rfl rfl Try.func8 (by kernel_rfl) rfl #[.string a0, .string x8_1] rfl (by (try simp only [List.map_toArray, List.map_cons, List.map_nil]); first | done | rfl | (simp only [List.length_drop, List.length_take]; rfl)) ?_; (with_reducible refine (like_Like.calls k1 a0 x8_1 t207 t208 _ A18.out).mono ?_); rintro e w' ⟨rfl, ⟨nd, rfl⟩⟩; refine ⟨_, rfl, ?_⟩) | ((with_reducible refine gate_callee (f := 8) rfl ?_); refine goesL_ (some 62) rfl rfl Try.func8 (by kernel_rfl) rfl #[.string a0, .string (x9_1 ++ (⟨#[37]⟩ : ByteArray))] rfl (by (try simp only [List.map_toArray, List.map_cons, List.map_nil]); first | done | rfl | (simp only [List.length_drop, List.length_take]; rfl)) ?_; (with_reducible refine (like_Like.calls k1 a0 (x9_1 ++ (⟨#[37]⟩ : ByteArray)) t209 t210 _ A19.out).mono ?_); rintro e w' ⟨rfl, ⟨nd, rfl⟩⟩; refine ⟨_, rfl, ?_⟩))
                      go_ret
                      exact ⟨by first | rfl | (simp [errW_none, errW_some] <;> rfl) | (simp [*, errW_none, errW_some] <;> rfl), by repeat (first | (with_reducible first | exact HB.out | apply below_alloc | apply pw_below_drewN | apply below_drew1) | exact HB.out)⟩
                  · rw [if_neg c21] at H
                    have c21b0 : (t208 == 0) = false := beq_eq_false_iff_ne.mpr c21
                    have c21b1 : (t208 != 0) = true := bne_iff_ne.mpr c21
                    obtain rfl := Option.some.inj H
                    go_wp2_with (first | ((with_reducible refine gate_callee (f := 8) rfl ?_); refine goesL_ (some 56) rfl rfl Try.func8 (by kernel_rfl) rfl #[.string a0, .string x8_1] rfl (by (try simp only [List.map_toArray, List.map_cons, List.map_nil]); first | done | rfl | (simp only [List.length_drop, List.length_take]; rfl)) ?_; (with_reducible refine (like_Like.calls k1 a0 x8_1 t207 t208 _ A18.out).mono ?_); rintro e w' ⟨rfl, ⟨nd, rfl⟩⟩; refine ⟨_, rfl, ?_⟩) | ((with_reducible refine gate_callee (f := 8) rfl ?_); refine goesL_ (some 62) rfl rfl Try.func8 (by kernel_rfl) rfl #[.string a0, .string (x9_1 ++ (⟨#[37]⟩ : ByteArray))] rfl (by (try simp only [List.map_toArray, List.map_cons, List.map_nil]); first | done | rfl | (simp only [List.length_drop, List.length_take]; rfl)) ?_; (with_reducible refine (like_Like.calls k1 a0 (x9_1 ++ (⟨#[37]⟩ : ByteArray)) t209 t210 _ A19.out).mono ?_); rintro e w' ⟨rfl, ⟨nd, rfl⟩⟩; refine ⟨_, rfl, ?_⟩))
                    go_ret
                    exact ⟨by first | rfl | (simp [errW_none, errW_some] <;> rfl) | (simp [*, errW_none, errW_some] <;> rfl), by repeat (first | (with_reducible first | exact HB.out | apply below_alloc | apply pw_below_drewN | apply below_drew1) | exact HB.out)⟩
                · replace c20 := Bool.eq_false_iff.mpr c20
                  subst c20
                  have H1 : (some false) = some r := by rw [if_neg (show ¬ (false = true) by decide)] at H; exact H
                  clear H
                  have H := H1
                  clear H1
                  obtain rfl := Option.some.inj H
                  go_wp2_with (first | ((with_reducible refine gate_callee (f := 8) rfl ?_); refine goesL_ (some 56) rfl rfl Try.func8 (by kernel_rfl) rfl #[.string a0, .string x8_1] rfl (by (try simp only [List.map_toArray, List.map_cons, List.map_nil]); first | done | rfl | (simp only [List.length_drop, List.length_take]; rfl)) ?_; (with_reducible refine (like_Like.calls k1 a0 x8_1 t207 t208 _ A18.out).mono ?_); rintro e w' ⟨rfl, ⟨nd, rfl⟩⟩; refine ⟨_, rfl, ?_⟩) | ((with_reducible refine gate_callee (f := 8) rfl ?_); refine goesL_ (some 62) rfl rfl Try.func8 (by kernel_rfl) rfl #[.string a0, .string (x9_1 ++ (⟨#[37]⟩ : ByteArray))] rfl (by (try simp only [List.map_toArray, List.map_cons, List.map_nil]); first | done | rfl | (simp only [List.length_drop, List.length_take]; rfl)) ?_; (with_reducible refine (like_Like.calls k1 a0 (x9_1 ++ (⟨#[37]⟩ : ByteArray)) t209 t210 _ A19.out).mono ?_); rintro e w' ⟨rfl, ⟨nd, rfl⟩⟩; refine ⟨_, rfl, ?_⟩))
                  go_ret
                  exact ⟨by first | rfl | (simp [errW_none, errW_some] <;> rfl) | (simp [*, errW_none, errW_some] <;> rfl), by repeat (first | (with_reducible first | exact HB.out | apply below_alloc | apply pw_below_drewN | apply below_drew1) | exact HB.out)⟩
              · rw [if_neg c17] at H
                exact absurd H (by simp)
            · rw [if_neg c16] at H
              have c16b0 : ((Int.tmod (wrap64 ((wrap64 ((Int.tmod a2 (wrap64 ((Int.tmod (wrap64 ((Int.tmod a1 20) + 20)) 20) + 1))) + (Int.tmod (wrap64 ((Int.tmod a1 20) + 20)) 20))) + 1)) (wrap64 ((Int.tmod (wrap64 ((Int.tmod a1 20) + 20)) 20) + 1))) == (Int.tmod (wrap64 ((Int.tmod a1 20) + 20)) 20)) = false := beq_eq_false_iff_ne.mpr c16
              have c16b1 : ((Int.tmod (wrap64 ((wrap64 ((Int.tmod a2 (wrap64 ((Int.tmod (wrap64 ((Int.tmod a1 20) + 20)) 20) + 1))) + (Int.tmod (wrap64 ((Int.tmod a1 20) + 20)) 20))) + 1)) (wrap64 ((Int.tmod (wrap64 ((Int.tmod a1 20) + 20)) 20) + 1))) != (Int.tmod (wrap64 ((Int.tmod a1 20) + 20)) 20)) = true := bne_iff_ne.mpr c16
              replace H := Option.bind_eq_some_iff.mp H
              obtain ⟨⟨t211, t212⟩, A240, H⟩ := H
              replace H : ((like_Like.f k1 a0 x9_1).bind fun bt213 => (if t206 = true then (if t212 = 0 then (if bt213.2 = 0 then (if (t211 == ((a0.size : Int) == (Int.tmod (wrap64 ((Int.tmod a1 20) + 20)) 20))) = true then (some (bt213.1 == (decide ((a0.size : Int) ≥ (Int.tmod (wrap64 ((Int.tmod a1 20) + 20)) 20))))) else (some false)) else (some false)) else (some false)) else (some false))) = some r := H
              have A24 := Aside0.mk A240
              clear A240
              replace H := Option.bind_eq_some_iff.mp H
              obtain ⟨⟨t213, t214⟩, A250, H⟩ := H
              replace H : (if t206 = true then (if t212 = 0 then (if t214 = 0 then (if (t211 == ((a0.size : Int) == (Int.tmod (wrap64 ((Int.tmod a1 20) + 20)) 20))) = true then (some (t213 == (decide ((a0.size : Int) ≥ (Int.tmod (wrap64 ((Int.tmod a1 20) + 20)) 20))))) else (some false)) else (some false)) else (some false)) else (some false)) = some r := H
              have A25 := Aside0.mk A250
              clear A250
              by_cases c26 : t206 = true
              · subst c26
                have H1 : (if t212 = 0 then (if t214 = 0 then (if (t211 == ((a0.size : Int) == (Int.tmod (wrap64 ((Int.tmod a1 20) + 20)) 20))) = true then (some (t213 == (decide ((a0.size : Int) ≥ (Int.tmod (wrap64 ((Int.tmod a1 20) + 20)) 20))))) else (some false)) else (some false)) else (some false)) = some r := by rw [if_pos rfl] at H; exact H
                clear H
                have H := H1
                clear H1
                by_cases c27 : t212 = 0
                · rw [if_pos c27] at H
                  have c27b0 : (t212 == 0) = true := beq_iff_eq.mpr c27
                  have c27b1 : (t212 != 0) = false := bne_eq_false_iff_eq.mpr c27
                  clear c27
                  by_cases c28 : t214 = 0
                  · rw [if_pos c28] at H
                    have c28b0 : (t214 == 0) = true := beq_iff_eq.mpr c28
                    have c28b1 : (t214 != 0) = false := bne_eq_false_iff_eq.mpr c28
                    clear c28
                    by_cases c29 : (t211 == ((a0.size : Int) == (Int.tmod (wrap64 ((Int.tmod a1 20) + 20)) 20))) = true
                    · rw [if_pos c29] at H
                      have c29b0 : (t211 == ((a0.size : Int) == (Int.tmod (wrap64 ((Int.tmod a1 20) + 20)) 20))) = true := c29
                      (try (have c29b1 : decide (t211 = ((a0.size : Int) == (Int.tmod (wrap64 ((Int.tmod a1 20) + 20)) 20))) = true := by simpa using c29))
                      (try (have c29b2 : (t211 == ((a0.size : Int) == (Int.tmod (wrap64 ((Int.tmod a1 20) + 20)) 20))) = true := by simpa using c29))
                      clear c29
                      obtain rfl := Option.some.inj H
                      go_wp2_with (first | ((with_reducible refine gate_callee (f := 8) rfl ?_); refine goesL_ (some 56) rfl rfl Try.func8 (by kernel_rfl) rfl #[.string a0, .string x8_1] rfl (by (try simp only [List.map_toArray, List.map_cons, List.map_nil]); first | done | rfl | (simp only [List.length_drop, List.length_take]; rfl)) ?_; (with_reducible refine (like_Like.calls k1 a0 x8_1 t211 t212 _ A24.out).mono ?_); rintro e w' ⟨rfl, ⟨nd, rfl⟩⟩; refine ⟨_, rfl, ?_⟩) | ((with_reducible refine gate_callee (f := 8) rfl ?_); refine goesL_ (some 62) rfl rfl Try.func8 (by kernel_rfl) rfl #[.string a0, .string x9_1] rfl (by (try simp only [List.map_toArray, List.map_cons, List.map_nil]); first | done | rfl | (simp only [List.length_drop, List.length_take]; rfl)) ?_; (with_reducible refine (like_Like.calls k1 a0 x9_1 t213 t214 _ A25.out).mono ?_); rintro e w' ⟨rfl, ⟨nd, rfl⟩⟩; refine ⟨_, rfl, ?_⟩))
                      go_ret
                      exact ⟨by first | rfl | (simp [errW_none, errW_some] <;> rfl) | (simp [*, errW_none, errW_some] <;> rfl), by repeat (first | (with_reducible first | exact HB.out | apply below_alloc | apply pw_below_drewN | apply below_drew1) | exact HB.out)⟩
                    · rw [if_neg c29] at H
                      have c29b0 : (t211 == ((a0.size : Int) == (Int.tmod (wrap64 ((Int.tmod a1 20) + 20)) 20))) = false := by simpa using c29
                      (try (have c29b1 : decide (t211 = ((a0.size : Int) == (Int.tmod (wrap64 ((Int.tmod a1 20) + 20)) 20))) = false := by simpa using c29))
                      (try (have c29b2 : (t211 == ((a0.size : Int) == (Int.tmod (wrap64 ((Int.tmod a1 20) + 20)) 20))) = false := by simpa using c29))
                      (try (have c29b3 : ¬ (t211 = ((a0.size : Int) == (Int.tmod (wrap64 ((Int.tmod a1 20) + 20)) 20))) := by simpa using c29))
                      clear c29
                      obtain rfl := Option.some.inj H
                      go_wp2_with (first | ((with_reducible refine gate_callee (f := 8) rfl ?_); refine goesL_ (some 56) rfl rfl Try.func8 (by kernel_rfl) rfl #[.string a0, .string x8_1] rfl (by (try simp only [List.map_toArray, List.map_cons, List.map_nil]); first | done | rfl | (simp only [List.length_drop, List.length_take]; rfl)) ?_; (with_reducible refine (like_Like.calls k1 a0 x8_1 t211 t212 _ A24.out).mono ?_); rintro e w' ⟨rfl, ⟨nd, rfl⟩⟩; refine ⟨_, rfl, ?_⟩) | ((with_reducible refine gate_callee (f := 8) rfl ?_); refine goesL_ (some 62) rfl rfl Try.func8 (by kernel_rfl) rfl #[.string a0, .string x9_1] rfl (by (try simp only [List.map_toArray, List.map_cons, List.map_nil]); first | done | rfl | (simp only [List.length_drop, List.length_take]; rfl)) ?_; (with_reducible refine (like_Like.calls k1 a0 x9_1 t213 t214 _ A25.out).mono ?_); rintro e w' ⟨rfl, ⟨nd, rfl⟩⟩; refine ⟨_, rfl, ?_⟩))
                      go_ret
                      exact ⟨by first | rfl | (simp [errW_none, errW_some] <;> rfl) | (simp [*, errW_none, errW_some] <;> rfl), by repeat (first | (with_reducible first | exact HB.out | apply below_alloc | apply pw_below_drewN | apply below_drew1) | exact HB.out)⟩
                  · rw [if_neg c28] at H
                    have c28b0 : (t214 == 0) = false := beq_eq_false_iff_ne.mpr c28
                    have c28b1 : (t214 != 0) = true := bne_iff_ne.mpr c28
                    obtain rfl := Option.some.inj H
                    go_wp2_with (first | ((with_reducible refine gate_callee (f := 8) rfl ?_); refine goesL_ (some 56) rfl rfl Try.func8 (by kernel_rfl) rfl #[.string a0, .string x8_1] rfl (by (try simp only [List.map_toArray, List.map_cons, List.map_nil]); first | done | rfl | (simp only [List.length_drop, List.length_take]; rfl)) ?_; (with_reducible refine (like_Like.calls k1 a0 x8_1 t211 t212 _ A24.out).mono ?_); rintro e w' ⟨rfl, ⟨nd, rfl⟩⟩; refine ⟨_, rfl, ?_⟩) | ((with_reducible refine gate_callee (f := 8) rfl ?_); refine goesL_ (some 62) rfl rfl Try.func8 (by kernel_rfl) rfl #[.string a0, .string x9_1] rfl (by (try simp only [List.map_toArray, List.map_cons, List.map_nil]); first | done | rfl | (simp only [List.length_drop, List.length_take]; rfl)) ?_; (with_reducible refine (like_Like.calls k1 a0 x9_1 t213 t214 _ A25.out).mono ?_); rintro e w' ⟨rfl, ⟨nd, rfl⟩⟩; refine ⟨_, rfl, ?_⟩))
                    go_ret
                    exact ⟨by first | rfl | (simp [errW_none, errW_some] <;> rfl) | (simp [*, errW_none, errW_some] <;> rfl), by repeat (first | (with_reducible first | exact HB.out | apply below_alloc | apply pw_below_drewN | apply below_drew1) | exact HB.out)⟩
                · rw [if_neg c27] at H
                  have c27b0 : (t212 == 0) = false := beq_eq_false_iff_ne.mpr c27
                  have c27b1 : (t212 != 0) = true := bne_iff_ne.mpr c27
                  obtain rfl := Option.some.inj H
                  go_wp2_with (first | ((with_reducible refine gate_callee (f := 8) rfl ?_); refine goesL_ (some 56) rfl rfl Try.func8 (by kernel_rfl) rfl #[.string a0, .string x8_1] rfl (by (try simp only [List.map_toArray, List.map_cons, List.map_nil]); first | done | rfl | (simp only [List.length_drop, List.length_take]; rfl)) ?_; (with_reducible refine (like_Like.calls k1 a0 x8_1 t211 t212 _ A24.out).mono ?_); rintro e w' ⟨rfl, ⟨nd, rfl⟩⟩; refine ⟨_, rfl, ?_⟩) | ((with_reducible refine gate_callee (f := 8) rfl ?_); refine goesL_ (some 62) rfl rfl Try.func8 (by kernel_rfl) rfl #[.string a0, .string x9_1] rfl (by (try simp only [List.map_toArray, List.map_cons, List.map_nil]); first | done | rfl | (simp only [List.length_drop, List.length_take]; rfl)) ?_; (with_reducible refine (like_Like.calls k1 a0 x9_1 t213 t214 _ A25.out).mono ?_); rintro e w' ⟨rfl, ⟨nd, rfl⟩⟩; refine ⟨_, rfl, ?_⟩))
                  go_ret
                  exact ⟨by first | rfl | (simp [errW_none, errW_some] <;> rfl) | (simp [*, errW_none, errW_some] <;> rfl), by repeat (first | (with_reducible first | exact HB.out | apply below_alloc | apply pw_below_drewN | apply below_drew1) | exact HB.out)⟩
              · replace c26 := Bool.eq_false_iff.mpr c26
                subst c26
                have H1 : (some false) = some r := by rw [if_neg (show ¬ (false = true) by decide)] at H; exact H
                clear H
                have H := H1
                clear H1
                obtain rfl := Option.some.inj H
                go_wp2_with (first | ((with_reducible refine gate_callee (f := 8) rfl ?_); refine goesL_ (some 56) rfl rfl Try.func8 (by kernel_rfl) rfl #[.string a0, .string x8_1] rfl (by (try simp only [List.map_toArray, List.map_cons, List.map_nil]); first | done | rfl | (simp only [List.length_drop, List.length_take]; rfl)) ?_; (with_reducible refine (like_Like.calls k1 a0 x8_1 t211 t212 _ A24.out).mono ?_); rintro e w' ⟨rfl, ⟨nd, rfl⟩⟩; refine ⟨_, rfl, ?_⟩) | ((with_reducible refine gate_callee (f := 8) rfl ?_); refine goesL_ (some 62) rfl rfl Try.func8 (by kernel_rfl) rfl #[.string a0, .string x9_1] rfl (by (try simp only [List.map_toArray, List.map_cons, List.map_nil]); first | done | rfl | (simp only [List.length_drop, List.length_take]; rfl)) ?_; (with_reducible refine (like_Like.calls k1 a0 x9_1 t213 t214 _ A25.out).mono ?_); rintro e w' ⟨rfl, ⟨nd, rfl⟩⟩; refine ⟨_, rfl, ?_⟩))
                go_ret
                exact ⟨by first | rfl | (simp [errW_none, errW_some] <;> rfl) | (simp [*, errW_none, errW_some] <;> rfl), by repeat (first | (with_reducible first | exact HB.out | apply below_alloc | apply pw_below_drewN | apply below_drew1) | exact HB.out)⟩

/-- THE ONE PURE STATEMENT of boscagelaw04_LikeCounts: yours. -/
def boscagelaw04_LikeCounts.Pure : Prop := ∀ (a0 : ByteArray) (a1 : Int) (a2 : Int), a0.size ≤ 140737488351232 → (Lit.int .i64 a1).wf = true → (Lit.int .i64 a2).wf = true → ∃ k, boscagelaw04_LikeCounts.f k a0 a1 a2 = some true
theorem boscagelaw04_LikeCounts.walk (P : boscagelaw04_LikeCounts.Pure) (a0 : ByteArray) (a1 : Int) (a2 : Int) (w : World) (w0 : a0.size ≤ 140737488351232) (w1 : (Lit.int .i64 a1).wf = true) (w2 : (Lit.int .i64 a2).wf = true) :
    Calls Try.prog 6 #[.string a0, .int .i64 a1, .int .i64 a2] w fun e w' => e = .returned (.bool true) ∧ Below w.heap.size w w' := by
  obtain ⟨k, h⟩ := P a0 a1 a2 w0 w1 w2
  refine (boscagelaw04_LikeCounts.calls k a0 a1 a2 true w h).mono ?_
  rintro e w' ⟨rfl, hd⟩
  exact ⟨rfl, hd⟩

end Go.Proofs.Ytlmfaidocdlpeaa.QLK
