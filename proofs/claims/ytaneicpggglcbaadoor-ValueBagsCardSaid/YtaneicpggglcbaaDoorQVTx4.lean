-- printed by our own turn of the print (wip/pr)
import Derived.Test.YtaneicpggglcbaaDoorQVTx0
namespace Go.Proofs.YtaneicpggglcbaaDoor.QVT
open Go.RowKit Go.Proofs.YtaneicpggglcbaaDoorW.PrintWords Go.Proofs.YtaneicpggglcbaaDoorW.PrintLast Go.Proofs.YtaneicpggglcbaaDoorW.PrintMore
attribute [local go_sem] max2_int min2_int max_two min_two max_three min_three max_four min_four   -- for this text's walks alone
set_option linter.unusedVariables false
set_option linter.unusedSimpArgs false

/-! ### value_Check: function 18 -/
mutual
def value_Check.j0 : Nat → Bool → Int → Int → ByteArray → Option (Int)
  | 0, _, _, _, _ => none
  | k + 1, x3, x118000, x118001, x118002 => if x118000 < 0 then (value_Check.j1 k x3 true x118000 x118001 x118002) else (value_Check.j1 k x3 (decide (x118000 > 4)) x118000 x118001 x118002)
def value_Check.j1 : Nat → Bool → Bool → Int → Int → ByteArray → Option (Int)
  | 0, _, _, _, _, _ => none
  | k + 1, x3, x12, x118000, x118001, x118002 => if x12 = true then (some 1) else (if x3 = true then (value_Check.j2 k x3 false x118000 x118001 x118002) else (value_Check.j2 k x3 (x118002.toList != ([] : List UInt8)) x118000 x118001 x118002))
def value_Check.j2 : Nat → Bool → Bool → Int → Int → ByteArray → Option (Int)
  | 0, _, _, _, _, _ => none
  | k + 1, x3, x12, x118000, x118001, x118002 => if x12 = true then (some 1) else (if x3 = true then (value_Check.j3 k (x118001 != 0) x118000 x118001 x118002) else (value_Check.j3 k false x118000 x118001 x118002))
def value_Check.j3 : Nat → Bool → Int → Int → ByteArray → Option (Int)
  | 0, _, _, _, _ => none
  | k + 1, x12, x118000, x118001, x118002 => if x12 = true then (some 1) else (if x118000 = 0 then (value_Check.j4 k (x118001 != 0) x118000 x118001 x118002) else (value_Check.j4 k false x118000 x118001 x118002))
def value_Check.j4 : Nat → Bool → Int → Int → ByteArray → Option (Int)
  | 0, _, _, _, _ => none
  | k + 1, x12, x118000, x118001, x118002 => if x12 = true then (some 1) else (if x118000 = 1 then (if (Go.bits .andNot .i64 x118001 1) = 0 then (some 0) else (some 1)) else (some 0))
end
def value_Check.f (k : Nat) (a0_0 : Int) (a0_1 : Int) (a0_2 : ByteArray) : Option (Int) := if a0_0 = 3 then (value_Check.j0 k true a0_0 a0_1 a0_2) else (value_Check.j0 k (a0_0 == 4) a0_0 a0_1 a0_2)
theorem value_Check.mono_l : ∀ k, (∀ y0 y1 y2 y3, LeO (value_Check.j0 k y0 y1 y2 y3) (value_Check.j0 (k + 1) y0 y1 y2 y3)) ∧ (∀ y0 y1 y2 y3 y4, LeO (value_Check.j1 k y0 y1 y2 y3 y4) (value_Check.j1 (k + 1) y0 y1 y2 y3 y4)) ∧ (∀ y0 y1 y2 y3 y4, LeO (value_Check.j2 k y0 y1 y2 y3 y4) (value_Check.j2 (k + 1) y0 y1 y2 y3 y4)) ∧ (∀ y0 y1 y2 y3, LeO (value_Check.j3 k y0 y1 y2 y3) (value_Check.j3 (k + 1) y0 y1 y2 y3)) ∧ (∀ y0 y1 y2 y3, LeO (value_Check.j4 k y0 y1 y2 y3) (value_Check.j4 (k + 1) y0 y1 y2 y3))
  | 0 => ⟨fun _ _ _ _ r h => by simp [value_Check.j0] at h, fun _ _ _ _ _ r h => by simp [value_Check.j1] at h, fun _ _ _ _ _ r h => by simp [value_Check.j2] at h, fun _ _ _ _ r h => by simp [value_Check.j3] at h, fun _ _ _ _ r h => by simp [value_Check.j4] at h⟩
  | k + 1 => by
    obtain ⟨ih0, ih1, ih2, ih3, ih4⟩ := value_Check.mono_l k
    refine ⟨?_, ?_, ?_, ?_, ?_⟩
    · intro y0 y1 y2 y3
      unfold value_Check.j0
      repeat' first
      | (with_reducible exact ih0 _ _ _ _)
      | (with_reducible exact ih1 _ _ _ _ _)
      | (with_reducible exact ih2 _ _ _ _ _)
      | (with_reducible exact ih3 _ _ _ _)
      | (with_reducible exact ih4 _ _ _ _)
      | (with_reducible exact LeO.refl _)
      | (with_reducible exact LeO.none _)
      | (with_reducible refine LeO.ite ?_ ?_)
      | (with_reducible refine LeO.bind ?_ (fun _ => ?_))
      | exact ih0 _ _ _ _
      | exact ih1 _ _ _ _ _
      | exact ih2 _ _ _ _ _
      | exact ih3 _ _ _ _
      | exact ih4 _ _ _ _
      | exact LeO.none _
      | refine LeO.ite ?_ ?_
      | refine LeO.bind ?_ (fun _ => ?_)
    · intro y0 y1 y2 y3 y4
      unfold value_Check.j1
      repeat' first
      | (with_reducible exact ih0 _ _ _ _)
      | (with_reducible exact ih1 _ _ _ _ _)
      | (with_reducible exact ih2 _ _ _ _ _)
      | (with_reducible exact ih3 _ _ _ _)
      | (with_reducible exact ih4 _ _ _ _)
      | (with_reducible exact LeO.refl _)
      | (with_reducible exact LeO.none _)
      | (with_reducible refine LeO.ite ?_ ?_)
      | (with_reducible refine LeO.bind ?_ (fun _ => ?_))
      | exact ih0 _ _ _ _
      | exact ih1 _ _ _ _ _
      | exact ih2 _ _ _ _ _
      | exact ih3 _ _ _ _
      | exact ih4 _ _ _ _
      | exact LeO.none _
      | refine LeO.ite ?_ ?_
      | refine LeO.bind ?_ (fun _ => ?_)
    · intro y0 y1 y2 y3 y4
      unfold value_Check.j2
      repeat' first
      | (with_reducible exact ih0 _ _ _ _)
      | (with_reducible exact ih1 _ _ _ _ _)
      | (with_reducible exact ih2 _ _ _ _ _)
      | (with_reducible exact ih3 _ _ _ _)
      | (with_reducible exact ih4 _ _ _ _)
      | (with_reducible exact LeO.refl _)
      | (with_reducible exact LeO.none _)
      | (with_reducible refine LeO.ite ?_ ?_)
      | (with_reducible refine LeO.bind ?_ (fun _ => ?_))
      | exact ih0 _ _ _ _
      | exact ih1 _ _ _ _ _
      | exact ih2 _ _ _ _ _
      | exact ih3 _ _ _ _
      | exact ih4 _ _ _ _
      | exact LeO.none _
      | refine LeO.ite ?_ ?_
      | refine LeO.bind ?_ (fun _ => ?_)
    · intro y0 y1 y2 y3
      unfold value_Check.j3
      repeat' first
      | (with_reducible exact ih0 _ _ _ _)
      | (with_reducible exact ih1 _ _ _ _ _)
      | (with_reducible exact ih2 _ _ _ _ _)
      | (with_reducible exact ih3 _ _ _ _)
      | (with_reducible exact ih4 _ _ _ _)
      | (with_reducible exact LeO.refl _)
      | (with_reducible exact LeO.none _)
      | (with_reducible refine LeO.ite ?_ ?_)
      | (with_reducible refine LeO.bind ?_ (fun _ => ?_))
      | exact ih0 _ _ _ _
      | exact ih1 _ _ _ _ _
      | exact ih2 _ _ _ _ _
      | exact ih3 _ _ _ _
      | exact ih4 _ _ _ _
      | exact LeO.none _
      | refine LeO.ite ?_ ?_
      | refine LeO.bind ?_ (fun _ => ?_)
    · intro y0 y1 y2 y3
      unfold value_Check.j4
      repeat' first
      | (with_reducible exact ih0 _ _ _ _)
      | (with_reducible exact ih1 _ _ _ _ _)
      | (with_reducible exact ih2 _ _ _ _ _)
      | (with_reducible exact ih3 _ _ _ _)
      | (with_reducible exact ih4 _ _ _ _)
      | (with_reducible exact LeO.refl _)
      | (with_reducible exact LeO.none _)
      | (with_reducible refine LeO.ite ?_ ?_)
      | (with_reducible refine LeO.bind ?_ (fun _ => ?_))
      | exact ih0 _ _ _ _
      | exact ih1 _ _ _ _ _
      | exact ih2 _ _ _ _ _
      | exact ih3 _ _ _ _
      | exact ih4 _ _ _ _
      | exact LeO.none _
      | refine LeO.ite ?_ ?_
      | refine LeO.bind ?_ (fun _ => ?_)
theorem value_Check.mono : ∀ a0 a1 a2 k, LeO (value_Check.f k a0 a1 a2) (value_Check.f (k + 1) a0 a1 a2) := by
  intro a0 a1 a2 k
  obtain ⟨ih0, ih1, ih2, ih3, ih4⟩ := value_Check.mono_l k
  unfold value_Check.f
  repeat' first
      | (with_reducible exact ih0 _ _ _ _)
      | (with_reducible exact ih1 _ _ _ _ _)
      | (with_reducible exact ih2 _ _ _ _ _)
      | (with_reducible exact ih3 _ _ _ _)
      | (with_reducible exact ih4 _ _ _ _)
      | (with_reducible exact LeO.refl _)
      | (with_reducible exact LeO.none _)
      | (with_reducible refine LeO.ite ?_ ?_)
      | (with_reducible refine LeO.bind ?_ (fun _ => ?_))
      | exact ih0 _ _ _ _
      | exact ih1 _ _ _ _ _
      | exact ih2 _ _ _ _ _
      | exact ih3 _ _ _ _
      | exact ih4 _ _ _ _
      | exact LeO.none _
      | refine LeO.ite ?_ ?_
      | refine LeO.bind ?_ (fun _ => ?_)
set_option maxHeartbeats 8000000 in
set_option maxRecDepth 100000 in
theorem value_Check.calls (k : Nat) (a0_0 : Int) (a0_1 : Int) (a0_2 : ByteArray) (r : Int) (w : World) (h : value_Check.f k a0_0 a0_1 a0_2 = some r) :
    Calls Tryd.prog 18 #[.agg #[.int .i64 a0_0, .int .i64 a0_1, .string a0_2]] w fun e w' => e = .returned (.int .i64 r) ∧ Below w.heap.size w w' := by
  have hu27 := Tryd.underlying27
  have HB := Aside0.mk (Below.refl w.heap.size w)
  have H : (if a0_0 = 3 then (value_Check.j0 k true a0_0 a0_1 a0_2) else (value_Check.j0 k (a0_0 == 4) a0_0 a0_1 a0_2)) = some r := h
  clear h
  have HC2 := Aside0.mk H
  clear H
  go_enter Tryd.func18, Tryd.ntmps18
  go_upto_region 1 with (first | ((with_reducible refine gate_dst (N := 1) rfl ?_); refine box_event ?hg (N := 1) ?hd (cs := #[.int .i64 a0_0, .int .i64 a0_1, .string a0_2]) (t := 27) ?hr ?_; (case hd => rfl); (case hg => rfl); (case hr => first | (go_simp; done) | (go_simp; rfl)); intro gb117 hg w3 hbox hb; have n0_ := Aside0.mk (below_step (by repeat (first | (with_reducible first | exact HB.out | apply below_alloc | apply pw_below_drewN | apply below_drew1) | exact HB.out)) hb); have n1_ := Aside0.mk (hbox); have n2_ := Aside0.mk ((by rw [hg]; exact (below_size (by repeat (first | (with_reducible first | exact HB.out | apply below_alloc | apply pw_below_drewN | apply below_drew1) | exact HB.out))) : w.heap.size ≤ gb117)); have n3_ := Aside0.mk ((by rw [hg]; exact (below_size (by repeat (first | (with_reducible first | exact HB.out | apply below_alloc | apply pw_below_drewN | apply below_drew1) | exact HB.out))) : w.heap.size ≤ gb117)); clear HB; have HB := n0_; have BK117 := n1_; have GW117 := n2_; have GE117 := n3_; clear n0_ n1_ n2_ n3_; clear hb hbox hg))
  (try simp only [Act.put, List.setIfInBounds_toArray, List.set_cons_zero, List.set_cons_succ])
  go_cut [3] (fun v3 wc => ∃ (kq : Nat) (x3_1 : Bool), v3 = .bool x3_1 ∧ Aside0 (value_Check.j0 kq x3_1 a0_0 a0_1 a0_2 = some r) ∧ Aside0 (kq ≤ k) ∧ Aside0 (wc.heap[gb117]? = some (.cells #[.int .i64 a0_0, .int .i64 a0_1, .string a0_2] 27 (0, 0))) ∧ Aside0 (Below w.heap.size w wc))
  case first =>
    have H := HC2.out
    clear HC2
    by_cases c4 : a0_0 = 3
    · rw [if_pos c4] at H
      have c4b0 : (a0_0 == 3) = true := beq_iff_eq.mpr c4
      have c4b1 : (a0_0 != 3) = false := bne_eq_false_iff_eq.mpr c4
      clear c4
      (first | rw [c4b0] | (simp only [i64_w, i32_w]; rw [c4b0]) | skip)
      have H' := Aside0.mk H
      clear H
      have hcz5_0 : w3.cell? ⟨gb117, 0, none⟩ = some (.int .i64 a0_0) := (blk_cell BK117.out 0).trans rfl
      have hcz5_1 : w3.cell? ⟨gb117, 1, none⟩ = some (.int .i64 a0_1) := (blk_cell BK117.out 1).trans rfl
      have hcz5_2 : w3.cell? ⟨gb117, 2, none⟩ = some (.string a0_2) := (blk_cell BK117.out 2).trans rfl
      have hfz5_0 := blk_frozen BK117.out 0
      have hfz5_1 := blk_frozen BK117.out 1
      have hfz5_2 := blk_frozen BK117.out 2
      go_wp2
      go_meet
      case rel => exact ⟨_, (true), (by first | rfl | (simp; done) | (simp [*]; done) | (simp; first | exact Go.Proofs.YtaneicpggglcbaaDoor.Pre.ne1 _ | exact Go.Proofs.YtaneicpggglcbaaDoor.Pre.ne2 _ | exact Go.Proofs.YtaneicpggglcbaaDoor.Pre.ne3 _ | exact Go.Proofs.YtaneicpggglcbaaDoor.Pre.ne4 _ | exact Go.Proofs.YtaneicpggglcbaaDoor.Pre.ne5 _ | exact Go.Proofs.YtaneicpggglcbaaDoor.Pre.ne6 _)), H', ⟨by first | omega | exact Nat.le_refl _⟩, ⟨by (with_reducible repeat (first | refine blk_drewN ?_ _ | refine blk_drew ?_ | refine blk_alloc ?_ _)); exact BK117.out⟩, ⟨by repeat (first | (with_reducible first | exact HB.out | apply below_alloc | apply pw_below_drewN | apply below_drew1 | refine below_set ?_ GE117.out) | exact HB.out)⟩⟩
    · rw [if_neg c4] at H
      have c4b0 : (a0_0 == 3) = false := beq_eq_false_iff_ne.mpr c4
      have c4b1 : (a0_0 != 3) = true := bne_iff_ne.mpr c4
      (first | rw [c4b0] | (simp only [i64_w, i32_w]; rw [c4b0]) | skip)
      have H' := Aside0.mk H
      clear H
      have hcz6_0 : w3.cell? ⟨gb117, 0, none⟩ = some (.int .i64 a0_0) := (blk_cell BK117.out 0).trans rfl
      have hcz6_1 : w3.cell? ⟨gb117, 1, none⟩ = some (.int .i64 a0_1) := (blk_cell BK117.out 1).trans rfl
      have hcz6_2 : w3.cell? ⟨gb117, 2, none⟩ = some (.string a0_2) := (blk_cell BK117.out 2).trans rfl
      have hfz6_0 := blk_frozen BK117.out 0
      have hfz6_1 := blk_frozen BK117.out 1
      have hfz6_2 := blk_frozen BK117.out 2
      go_wp2
      go_meet
      case rel => exact ⟨_, ((a0_0 == 4)), (by first | rfl | (simp; done) | (simp [*]; done) | (simp; first | exact Go.Proofs.YtaneicpggglcbaaDoor.Pre.ne1 _ | exact Go.Proofs.YtaneicpggglcbaaDoor.Pre.ne2 _ | exact Go.Proofs.YtaneicpggglcbaaDoor.Pre.ne3 _ | exact Go.Proofs.YtaneicpggglcbaaDoor.Pre.ne4 _ | exact Go.Proofs.YtaneicpggglcbaaDoor.Pre.ne5 _ | exact Go.Proofs.YtaneicpggglcbaaDoor.Pre.ne6 _)), H', ⟨by first | omega | exact Nat.le_refl _⟩, ⟨by (with_reducible repeat (first | refine blk_drewN ?_ _ | refine blk_drew ?_ | refine blk_alloc ?_ _)); exact BK117.out⟩, ⟨by repeat (first | (with_reducible first | exact HB.out | apply below_alloc | apply pw_below_drewN | apply below_drew1 | refine below_set ?_ GE117.out) | exact HB.out)⟩⟩
  case rest =>
    clear HC2
    try clear c1
    try clear p2
    try clear c4
    try clear c4b0
    try clear c4b1
    try clear hcz5_0
    try clear hcz5_1
    try clear hcz5_2
    try clear hcz6_0
    try clear hcz6_1
    try clear hcz6_2
    try clear hfz5_0
    try clear hfz5_1
    try clear hfz5_2
    try clear hfz6_0
    try clear hfz6_1
    try clear hfz6_2
    obtain ⟨kq, x3_1, rfl, HA, HJ1, BK117, HB⟩ := hcut
    cases kq with
    | zero => exact absurd HA.out (by simp [value_Check.j0])
    | succ kj1 =>
      have H := HA.out
      clear HA
      simp only [value_Check.j0] at H
      have HC7 := Aside0.mk H
      clear H
      go_upto_region 2 with (fail)
      go_cut [12] (fun v12 wc => ∃ (kq : Nat) (x12_6 : Bool), v12 = .bool x12_6 ∧ Aside0 (value_Check.j1 kq x3_1 x12_6 a0_0 a0_1 a0_2 = some r) ∧ Aside0 (kq ≤ kj1) ∧ Aside0 (wc.heap[gb117]? = some (.cells #[.int .i64 a0_0, .int .i64 a0_1, .string a0_2] 27 (0, 0))) ∧ Aside0 (Below w.heap.size w wc))
      case first =>
        have H := HC7.out
        clear HC7
        by_cases c8 : a0_0 < 0
        · rw [if_pos c8] at H
          have c8b0 : decide (a0_0 < 0) = true := decide_eq_true c8
          clear c8
          (first | rw [c8b0] | (simp only [i64_w, i32_w]; rw [c8b0]) | skip)
          have H' := Aside0.mk H
          clear H
          have hcz9_0 : wc.cell? ⟨gb117, 0, none⟩ = some (.int .i64 a0_0) := (blk_cell BK117.out 0).trans rfl
          have hcz9_1 : wc.cell? ⟨gb117, 1, none⟩ = some (.int .i64 a0_1) := (blk_cell BK117.out 1).trans rfl
          have hcz9_2 : wc.cell? ⟨gb117, 2, none⟩ = some (.string a0_2) := (blk_cell BK117.out 2).trans rfl
          have hfz9_0 := blk_frozen BK117.out 0
          have hfz9_1 := blk_frozen BK117.out 1
          have hfz9_2 := blk_frozen BK117.out 2
          go_wp2
          go_meet
          case rel => exact ⟨_, (true), (by first | rfl | (simp; done) | (simp [*]; done) | (simp; first | exact Go.Proofs.YtaneicpggglcbaaDoor.Pre.ne1 _ | exact Go.Proofs.YtaneicpggglcbaaDoor.Pre.ne2 _ | exact Go.Proofs.YtaneicpggglcbaaDoor.Pre.ne3 _ | exact Go.Proofs.YtaneicpggglcbaaDoor.Pre.ne4 _ | exact Go.Proofs.YtaneicpggglcbaaDoor.Pre.ne5 _ | exact Go.Proofs.YtaneicpggglcbaaDoor.Pre.ne6 _)), H', ⟨by have := HJ1.out; first | omega | exact Nat.le_refl _⟩, ⟨by (with_reducible repeat (first | refine blk_drewN ?_ _ | refine blk_drew ?_ | refine blk_alloc ?_ _)); exact BK117.out⟩, ⟨by repeat (first | (with_reducible first | exact HB.out | apply below_alloc | apply pw_below_drewN | apply below_drew1 | refine below_set ?_ GE117.out) | exact HB.out)⟩⟩
        · rw [if_neg c8] at H
          have c8b0 : decide (a0_0 < 0) = false := decide_eq_false c8
          clear c8
          (first | rw [c8b0] | (simp only [i64_w, i32_w]; rw [c8b0]) | skip)
          have H' := Aside0.mk H
          clear H
          have hcz10_0 : wc.cell? ⟨gb117, 0, none⟩ = some (.int .i64 a0_0) := (blk_cell BK117.out 0).trans rfl
          have hcz10_1 : wc.cell? ⟨gb117, 1, none⟩ = some (.int .i64 a0_1) := (blk_cell BK117.out 1).trans rfl
          have hcz10_2 : wc.cell? ⟨gb117, 2, none⟩ = some (.string a0_2) := (blk_cell BK117.out 2).trans rfl
          have hfz10_0 := blk_frozen BK117.out 0
          have hfz10_1 := blk_frozen BK117.out 1
          have hfz10_2 := blk_frozen BK117.out 2
          go_wp2
          go_meet
          case rel => exact ⟨_, (decide (a0_0 > 4)), (by first | rfl | (simp; done) | (simp [*]; done) | (simp; first | exact Go.Proofs.YtaneicpggglcbaaDoor.Pre.ne1 _ | exact Go.Proofs.YtaneicpggglcbaaDoor.Pre.ne2 _ | exact Go.Proofs.YtaneicpggglcbaaDoor.Pre.ne3 _ | exact Go.Proofs.YtaneicpggglcbaaDoor.Pre.ne4 _ | exact Go.Proofs.YtaneicpggglcbaaDoor.Pre.ne5 _ | exact Go.Proofs.YtaneicpggglcbaaDoor.Pre.ne6 _)), H', ⟨by have := HJ1.out; first | omega | exact Nat.le_refl _⟩, ⟨by (with_reducible repeat (first | refine blk_drewN ?_ _ | refine blk_drew ?_ | refine blk_alloc ?_ _)); exact BK117.out⟩, ⟨by repeat (first | (with_reducible first | exact HB.out | apply below_alloc | apply pw_below_drewN | apply below_drew1 | refine below_set ?_ GE117.out) | exact HB.out)⟩⟩
      case rest =>
        clear HC7
        try clear c1
        try clear p2
        try clear c4
        try clear c4b0
        try clear c4b1
        try clear c8
        try clear c8b0
        try clear hcz10_0
        try clear hcz10_1
        try clear hcz10_2
        try clear hcz5_0
        try clear hcz5_1
        try clear hcz5_2
        try clear hcz6_0
        try clear hcz6_1
        try clear hcz6_2
        try clear hcz9_0
        try clear hcz9_1
        try clear hcz9_2
        try clear hfz10_0
        try clear hfz10_1
        try clear hfz10_2
        try clear hfz5_0
        try clear hfz5_1
        try clear hfz5_2
        try clear hfz6_0
        try clear hfz6_1
        try clear hfz6_2
        try clear hfz9_0
        try clear hfz9_1
        try clear hfz9_2
        try clear p2
        obtain ⟨kq, x12_6, rfl, HA, HJ6, BK117, HB⟩ := hcut
        cases kq with
        | zero => exact absurd HA.out (by simp [value_Check.j1])
        | succ kj6 =>
          have H := HA.out
          clear HA
          simp only [value_Check.j1] at H
          by_cases c11 : x12_6 = true
          · subst c11
            have H1 : (some 1) = some r := by rw [if_pos rfl] at H; exact H
            clear H
            have H := H1
            clear H1
            obtain rfl := Option.some.inj H
            go_wp2
            go_ret
            exact ⟨by first | rfl | (simp [errW_none, errW_some] <;> rfl) | (simp [*, errW_none, errW_some] <;> rfl), by repeat (first | (with_reducible first | exact HB.out | apply below_alloc | apply pw_below_drewN | apply below_drew1 | refine below_set ?_ GE117.out) | exact HB.out)⟩
          · replace c11 := Bool.eq_false_iff.mpr c11
            subst c11
            have H1 : (if x3_1 = true then (value_Check.j2 kj6 x3_1 false a0_0 a0_1 a0_2) else (value_Check.j2 kj6 x3_1 (a0_2.toList != ([] : List UInt8)) a0_0 a0_1 a0_2)) = some r := by rw [if_neg (show ¬ (false = true) by decide)] at H; exact H
            clear H
            have H := H1
            clear H1
            have HC12 := Aside0.mk H
            clear H
            go_upto_region 3 with (fail)
            go_cut [12] (fun v12 wc => ∃ (kq : Nat) (x12_11 : Bool), v12 = .bool x12_11 ∧ Aside0 (value_Check.j2 kq x3_1 x12_11 a0_0 a0_1 a0_2 = some r) ∧ Aside0 (kq ≤ kj6) ∧ Aside0 (wc.heap[gb117]? = some (.cells #[.int .i64 a0_0, .int .i64 a0_1, .string a0_2] 27 (0, 0))) ∧ Aside0 (Below w.heap.size w wc))
            case first =>
              have H := HC12.out
              clear HC12
              by_cases c13 : x3_1 = true
              · subst c13
                have H1 : (value_Check.j2 kj6 true false a0_0 a0_1 a0_2) = some r := by rw [if_pos rfl] at H; exact H
                clear H
                have H := H1
                clear H1
                have H' := Aside0.mk H
                clear H
                go_wp2
                go_meet
                case rel => exact ⟨_, (false), (by first | rfl | (simp; done) | (simp [*]; done) | (simp; first | exact Go.Proofs.YtaneicpggglcbaaDoor.Pre.ne1 _ | exact Go.Proofs.YtaneicpggglcbaaDoor.Pre.ne2 _ | exact Go.Proofs.YtaneicpggglcbaaDoor.Pre.ne3 _ | exact Go.Proofs.YtaneicpggglcbaaDoor.Pre.ne4 _ | exact Go.Proofs.YtaneicpggglcbaaDoor.Pre.ne5 _ | exact Go.Proofs.YtaneicpggglcbaaDoor.Pre.ne6 _)), H', ⟨by have := HJ1.out; have := HJ6.out; first | omega | exact Nat.le_refl _⟩, ⟨by (with_reducible repeat (first | refine blk_drewN ?_ _ | refine blk_drew ?_ | refine blk_alloc ?_ _)); exact BK117.out⟩, ⟨by repeat (first | (with_reducible first | exact HB.out | apply below_alloc | apply pw_below_drewN | apply below_drew1 | refine below_set ?_ GE117.out) | exact HB.out)⟩⟩
              · replace c13 := Bool.eq_false_iff.mpr c13
                subst c13
                have H1 : (value_Check.j2 kj6 false (a0_2.toList != ([] : List UInt8)) a0_0 a0_1 a0_2) = some r := by rw [if_neg (show ¬ (false = true) by decide)] at H; exact H
                clear H
                have H := H1
                clear H1
                have H' := Aside0.mk H
                clear H
                have hcz14_0 : wc.cell? ⟨gb117, 0, none⟩ = some (.int .i64 a0_0) := (blk_cell BK117.out 0).trans rfl
                have hcz14_1 : wc.cell? ⟨gb117, 1, none⟩ = some (.int .i64 a0_1) := (blk_cell BK117.out 1).trans rfl
                have hcz14_2 : wc.cell? ⟨gb117, 2, none⟩ = some (.string a0_2) := (blk_cell BK117.out 2).trans rfl
                have hfz14_0 := blk_frozen BK117.out 0
                have hfz14_1 := blk_frozen BK117.out 1
                have hfz14_2 := blk_frozen BK117.out 2
                go_wp2
                go_meet
                case rel => exact ⟨_, ((a0_2.toList != ([] : List UInt8))), (by first | rfl | (simp; done) | (simp [*]; done) | (simp; first | exact Go.Proofs.YtaneicpggglcbaaDoor.Pre.ne1 _ | exact Go.Proofs.YtaneicpggglcbaaDoor.Pre.ne2 _ | exact Go.Proofs.YtaneicpggglcbaaDoor.Pre.ne3 _ | exact Go.Proofs.YtaneicpggglcbaaDoor.Pre.ne4 _ | exact Go.Proofs.YtaneicpggglcbaaDoor.Pre.ne5 _ | exact Go.Proofs.YtaneicpggglcbaaDoor.Pre.ne6 _)), H', ⟨by have := HJ1.out; have := HJ6.out; first | omega | exact Nat.le_refl _⟩, ⟨by (with_reducible repeat (first | refine blk_drewN ?_ _ | refine blk_drew ?_ | refine blk_alloc ?_ _)); exact BK117.out⟩, ⟨by repeat (first | (with_reducible first | exact HB.out | apply below_alloc | apply pw_below_drewN | apply below_drew1 | refine below_set ?_ GE117.out) | exact HB.out)⟩⟩
            case rest =>
              clear HC12
              try clear c1
              try clear p2
              try clear c4
              try clear c4b0
              try clear c4b1
              try clear c8
              try clear c8b0
              try clear c11
              try clear c13
              try clear hcz10_0
              try clear hcz10_1
              try clear hcz10_2
              try clear hcz14_0
              try clear hcz14_1
              try clear hcz14_2
              try clear hcz5_0
              try clear hcz5_1
              try clear hcz5_2
              try clear hcz6_0
              try clear hcz6_1
              try clear hcz6_2
              try clear hcz9_0
              try clear hcz9_1
              try clear hcz9_2
              try clear hfz10_0
              try clear hfz10_1
              try clear hfz10_2
              try clear hfz14_0
              try clear hfz14_1
              try clear hfz14_2
              try clear hfz5_0
              try clear hfz5_1
              try clear hfz5_2
              try clear hfz6_0
              try clear hfz6_1
              try clear hfz6_2
              try clear hfz9_0
              try clear hfz9_1
              try clear hfz9_2
              try clear p2
              obtain ⟨kq, x12_11, rfl, HA, HJ11, BK117, HB⟩ := hcut
              cases kq with
              | zero => exact absurd HA.out (by simp [value_Check.j2])
              | succ kj11 =>
                have H := HA.out
                clear HA
                simp only [value_Check.j2] at H
                by_cases c15 : x12_11 = true
                · subst c15
                  have H1 : (some 1) = some r := by rw [if_pos rfl] at H; exact H
                  clear H
                  have H := H1
                  clear H1
                  obtain rfl := Option.some.inj H
                  go_wp2
                  go_ret
                  exact ⟨by first | rfl | (simp [errW_none, errW_some] <;> rfl) | (simp [*, errW_none, errW_some] <;> rfl), by repeat (first | (with_reducible first | exact HB.out | apply below_alloc | apply pw_below_drewN | apply below_drew1 | refine below_set ?_ GE117.out) | exact HB.out)⟩
                · replace c15 := Bool.eq_false_iff.mpr c15
                  subst c15
                  have H1 : (if x3_1 = true then (value_Check.j3 kj11 (a0_1 != 0) a0_0 a0_1 a0_2) else (value_Check.j3 kj11 false a0_0 a0_1 a0_2)) = some r := by rw [if_neg (show ¬ (false = true) by decide)] at H; exact H
                  clear H
                  have H := H1
                  clear H1
                  have HC16 := Aside0.mk H
                  clear H
                  go_upto_region 4 with (fail)
                  go_cut [12] (fun v12 wc => ∃ (kq : Nat) (x12_15 : Bool), v12 = .bool x12_15 ∧ Aside0 (value_Check.j3 kq x12_15 a0_0 a0_1 a0_2 = some r) ∧ Aside0 (kq ≤ kj11) ∧ Aside0 (wc.heap[gb117]? = some (.cells #[.int .i64 a0_0, .int .i64 a0_1, .string a0_2] 27 (0, 0))) ∧ Aside0 (Below w.heap.size w wc))
                  case first =>
                    have H := HC16.out
                    clear HC16
                    by_cases c17 : x3_1 = true
                    · subst c17
                      have H1 : (value_Check.j3 kj11 (a0_1 != 0) a0_0 a0_1 a0_2) = some r := by rw [if_pos rfl] at H; exact H
                      clear H
                      have H := H1
                      clear H1
                      have H' := Aside0.mk H
                      clear H
                      have hcz18_0 : wc.cell? ⟨gb117, 0, none⟩ = some (.int .i64 a0_0) := (blk_cell BK117.out 0).trans rfl
                      have hcz18_1 : wc.cell? ⟨gb117, 1, none⟩ = some (.int .i64 a0_1) := (blk_cell BK117.out 1).trans rfl
                      have hcz18_2 : wc.cell? ⟨gb117, 2, none⟩ = some (.string a0_2) := (blk_cell BK117.out 2).trans rfl
                      have hfz18_0 := blk_frozen BK117.out 0
                      have hfz18_1 := blk_frozen BK117.out 1
                      have hfz18_2 := blk_frozen BK117.out 2
                      go_wp2
                      go_meet
                      case rel => exact ⟨_, ((a0_1 != 0)), (by first | rfl | (simp; done) | (simp [*]; done) | (simp; first | exact Go.Proofs.YtaneicpggglcbaaDoor.Pre.ne1 _ | exact Go.Proofs.YtaneicpggglcbaaDoor.Pre.ne2 _ | exact Go.Proofs.YtaneicpggglcbaaDoor.Pre.ne3 _ | exact Go.Proofs.YtaneicpggglcbaaDoor.Pre.ne4 _ | exact Go.Proofs.YtaneicpggglcbaaDoor.Pre.ne5 _ | exact Go.Proofs.YtaneicpggglcbaaDoor.Pre.ne6 _)), H', ⟨by have := HJ1.out; have := HJ6.out; have := HJ11.out; first | omega | exact Nat.le_refl _⟩, ⟨by (with_reducible repeat (first | refine blk_drewN ?_ _ | refine blk_drew ?_ | refine blk_alloc ?_ _)); exact BK117.out⟩, ⟨by repeat (first | (with_reducible first | exact HB.out | apply below_alloc | apply pw_below_drewN | apply below_drew1 | refine below_set ?_ GE117.out) | exact HB.out)⟩⟩
                    · replace c17 := Bool.eq_false_iff.mpr c17
                      subst c17
                      have H1 : (value_Check.j3 kj11 false a0_0 a0_1 a0_2) = some r := by rw [if_neg (show ¬ (false = true) by decide)] at H; exact H
                      clear H
                      have H := H1
                      clear H1
                      have H' := Aside0.mk H
                      clear H
                      go_wp2
                      go_meet
                      case rel => exact ⟨_, (false), (by first | rfl | (simp; done) | (simp [*]; done) | (simp; first | exact Go.Proofs.YtaneicpggglcbaaDoor.Pre.ne1 _ | exact Go.Proofs.YtaneicpggglcbaaDoor.Pre.ne2 _ | exact Go.Proofs.YtaneicpggglcbaaDoor.Pre.ne3 _ | exact Go.Proofs.YtaneicpggglcbaaDoor.Pre.ne4 _ | exact Go.Proofs.YtaneicpggglcbaaDoor.Pre.ne5 _ | exact Go.Proofs.YtaneicpggglcbaaDoor.Pre.ne6 _)), H', ⟨by have := HJ1.out; have := HJ6.out; have := HJ11.out; first | omega | exact Nat.le_refl _⟩, ⟨by (with_reducible repeat (first | refine blk_drewN ?_ _ | refine blk_drew ?_ | refine blk_alloc ?_ _)); exact BK117.out⟩, ⟨by repeat (first | (with_reducible first | exact HB.out | apply below_alloc | apply pw_below_drewN | apply below_drew1 | refine below_set ?_ GE117.out) | exact HB.out)⟩⟩
                  case rest =>
                    clear HC16
                    try clear c1
                    try clear p2
                    try clear c4
                    try clear c4b0
                    try clear c4b1
                    try clear c8
                    try clear c8b0
                    try clear c11
                    try clear c13
                    try clear c15
                    try clear c17
                    try clear c18
                    try clear hcz10_0
                    try clear hcz10_1
                    try clear hcz10_2
                    try clear hcz14_0
                    try clear hcz14_1
                    try clear hcz14_2
                    try clear hcz18_0
                    try clear hcz18_1
                    try clear hcz18_2
                    try clear hcz5_0
                    try clear hcz5_1
                    try clear hcz5_2
                    try clear hcz6_0
                    try clear hcz6_1
                    try clear hcz6_2
                    try clear hcz9_0
                    try clear hcz9_1
                    try clear hcz9_2
                    try clear hfz10_0
                    try clear hfz10_1
                    try clear hfz10_2
                    try clear hfz14_0
                    try clear hfz14_1
                    try clear hfz14_2
                    try clear hfz18_0
                    try clear hfz18_1
                    try clear hfz18_2
                    try clear hfz5_0
                    try clear hfz5_1
                    try clear hfz5_2
                    try clear hfz6_0
                    try clear hfz6_1
                    try clear hfz6_2
                    try clear hfz9_0
                    try clear hfz9_1
                    try clear hfz9_2
                    try clear p2
                    obtain ⟨kq, x12_15, rfl, HA, HJ15, BK117, HB⟩ := hcut
                    cases kq with
                    | zero => exact absurd HA.out (by simp [value_Check.j3])
                    | succ kj15 =>
                      have H := HA.out
                      clear HA
                      simp only [value_Check.j3] at H
                      by_cases c19 : x12_15 = true
                      · subst c19
                        have H1 : (some 1) = some r := by rw [if_pos rfl] at H; exact H
                        clear H
                        have H := H1
                        clear H1
                        obtain rfl := Option.some.inj H
                        go_wp2
                        go_ret
                        exact ⟨by first | rfl | (simp [errW_none, errW_some] <;> rfl) | (simp [*, errW_none, errW_some] <;> rfl), by repeat (first | (with_reducible first | exact HB.out | apply below_alloc | apply pw_below_drewN | apply below_drew1 | refine below_set ?_ GE117.out) | exact HB.out)⟩
                      · replace c19 := Bool.eq_false_iff.mpr c19
                        subst c19
                        have H1 : (if a0_0 = 0 then (value_Check.j4 kj15 (a0_1 != 0) a0_0 a0_1 a0_2) else (value_Check.j4 kj15 false a0_0 a0_1 a0_2)) = some r := by rw [if_neg (show ¬ (false = true) by decide)] at H; exact H
                        clear H
                        have H := H1
                        clear H1
                        have HC20 := Aside0.mk H
                        clear H
                        go_upto_region 5 with (fail)
                        go_cut [12] (fun v12 wc => ∃ (kq : Nat) (x12_19 : Bool), v12 = .bool x12_19 ∧ Aside0 (value_Check.j4 kq x12_19 a0_0 a0_1 a0_2 = some r) ∧ Aside0 (kq ≤ kj15) ∧ Aside0 (wc.heap[gb117]? = some (.cells #[.int .i64 a0_0, .int .i64 a0_1, .string a0_2] 27 (0, 0))) ∧ Aside0 (Below w.heap.size w wc))
                        case first =>
                          have H := HC20.out
                          clear HC20
                          by_cases c21 : a0_0 = 0
                          · rw [if_pos c21] at H
                            have c21b0 : (a0_0 == 0) = true := beq_iff_eq.mpr c21
                            have c21b1 : (a0_0 != 0) = false := bne_eq_false_iff_eq.mpr c21
                            clear c21
                            (first | rw [c21b0] | (simp only [i64_w, i32_w]; rw [c21b0]) | skip)
                            have H' := Aside0.mk H
                            clear H
                            have hcz22_0 : wc.cell? ⟨gb117, 0, none⟩ = some (.int .i64 a0_0) := (blk_cell BK117.out 0).trans rfl
                            have hcz22_1 : wc.cell? ⟨gb117, 1, none⟩ = some (.int .i64 a0_1) := (blk_cell BK117.out 1).trans rfl
                            have hcz22_2 : wc.cell? ⟨gb117, 2, none⟩ = some (.string a0_2) := (blk_cell BK117.out 2).trans rfl
                            have hfz22_0 := blk_frozen BK117.out 0
                            have hfz22_1 := blk_frozen BK117.out 1
                            have hfz22_2 := blk_frozen BK117.out 2
                            go_wp2
                            go_meet
                            case rel => exact ⟨_, ((a0_1 != 0)), (by first | rfl | (simp; done) | (simp [*]; done) | (simp; first | exact Go.Proofs.YtaneicpggglcbaaDoor.Pre.ne1 _ | exact Go.Proofs.YtaneicpggglcbaaDoor.Pre.ne2 _ | exact Go.Proofs.YtaneicpggglcbaaDoor.Pre.ne3 _ | exact Go.Proofs.YtaneicpggglcbaaDoor.Pre.ne4 _ | exact Go.Proofs.YtaneicpggglcbaaDoor.Pre.ne5 _ | exact Go.Proofs.YtaneicpggglcbaaDoor.Pre.ne6 _)), H', ⟨by have := HJ1.out; have := HJ6.out; have := HJ11.out; have := HJ15.out; first | omega | exact Nat.le_refl _⟩, ⟨by (with_reducible repeat (first | refine blk_drewN ?_ _ | refine blk_drew ?_ | refine blk_alloc ?_ _)); exact BK117.out⟩, ⟨by repeat (first | (with_reducible first | exact HB.out | apply below_alloc | apply pw_below_drewN | apply below_drew1 | refine below_set ?_ GE117.out) | exact HB.out)⟩⟩
                          · rw [if_neg c21] at H
                            have c21b0 : (a0_0 == 0) = false := beq_eq_false_iff_ne.mpr c21
                            have c21b1 : (a0_0 != 0) = true := bne_iff_ne.mpr c21
                            (first | rw [c21b0] | (simp only [i64_w, i32_w]; rw [c21b0]) | skip)
                            have H' := Aside0.mk H
                            clear H
                            have hcz23_0 : wc.cell? ⟨gb117, 0, none⟩ = some (.int .i64 a0_0) := (blk_cell BK117.out 0).trans rfl
                            have hcz23_1 : wc.cell? ⟨gb117, 1, none⟩ = some (.int .i64 a0_1) := (blk_cell BK117.out 1).trans rfl
                            have hcz23_2 : wc.cell? ⟨gb117, 2, none⟩ = some (.string a0_2) := (blk_cell BK117.out 2).trans rfl
                            have hfz23_0 := blk_frozen BK117.out 0
                            have hfz23_1 := blk_frozen BK117.out 1
                            have hfz23_2 := blk_frozen BK117.out 2
                            go_wp2
                            go_meet
                            case rel => exact ⟨_, (false), (by first | rfl | (simp; done) | (simp [*]; done) | (simp; first | exact Go.Proofs.YtaneicpggglcbaaDoor.Pre.ne1 _ | exact Go.Proofs.YtaneicpggglcbaaDoor.Pre.ne2 _ | exact Go.Proofs.YtaneicpggglcbaaDoor.Pre.ne3 _ | exact Go.Proofs.YtaneicpggglcbaaDoor.Pre.ne4 _ | exact Go.Proofs.YtaneicpggglcbaaDoor.Pre.ne5 _ | exact Go.Proofs.YtaneicpggglcbaaDoor.Pre.ne6 _)), H', ⟨by have := HJ1.out; have := HJ6.out; have := HJ11.out; have := HJ15.out; first | omega | exact Nat.le_refl _⟩, ⟨by (with_reducible repeat (first | refine blk_drewN ?_ _ | refine blk_drew ?_ | refine blk_alloc ?_ _)); exact BK117.out⟩, ⟨by repeat (first | (with_reducible first | exact HB.out | apply below_alloc | apply pw_below_drewN | apply below_drew1 | refine below_set ?_ GE117.out) | exact HB.out)⟩⟩
                        case rest =>
                          clear HC20
                          try clear c1
                          try clear c2
                          try clear p2
                          try clear c4
                          try clear c4b0
                          try clear c4b1
                          try clear c8
                          try clear c8b0
                          try clear c11
                          try clear c13
                          try clear c15
                          try clear c17
                          try clear c18
                          try clear c19
                          try clear c21
                          try clear c21b0
                          try clear c21b1
                          try clear hcz10_0
                          try clear hcz10_1
                          try clear hcz10_2
                          try clear hcz14_0
                          try clear hcz14_1
                          try clear hcz14_2
                          try clear hcz18_0
                          try clear hcz18_1
                          try clear hcz18_2
                          try clear hcz22_0
                          try clear hcz22_1
                          try clear hcz22_2
                          try clear hcz23_0
                          try clear hcz23_1
                          try clear hcz23_2
                          try clear hcz5_0
                          try clear hcz5_1
                          try clear hcz5_2
                          try clear hcz6_0
                          try clear hcz6_1
                          try clear hcz6_2
                          try clear hcz9_0
                          try clear hcz9_1
                          try clear hcz9_2
                          try clear hfz10_0
                          try clear hfz10_1
                          try clear hfz10_2
                          try clear hfz14_0
                          try clear hfz14_1
                          try clear hfz14_2
                          try clear hfz18_0
                          try clear hfz18_1
                          try clear hfz18_2
                          try clear hfz22_0
                          try clear hfz22_1
                          try clear hfz22_2
                          try clear hfz23_0
                          try clear hfz23_1
                          try clear hfz23_2
                          try clear hfz5_0
                          try clear hfz5_1
                          try clear hfz5_2
                          try clear hfz6_0
                          try clear hfz6_1
                          try clear hfz6_2
                          try clear hfz9_0
                          try clear hfz9_1
                          try clear hfz9_2
                          try clear p2
                          obtain ⟨kq, x12_19, rfl, HA, HJ19, BK117, HB⟩ := hcut
                          cases kq with
                          | zero => exact absurd HA.out (by simp [value_Check.j4])
                          | succ kj19 =>
                            have H := HA.out
                            clear HA
                            simp only [value_Check.j4] at H
                            by_cases c24 : x12_19 = true
                            · subst c24
                              have H1 : (some 1) = some r := by rw [if_pos rfl] at H; exact H
                              clear H
                              have H := H1
                              clear H1
                              obtain rfl := Option.some.inj H
                              go_wp2
                              go_ret
                              exact ⟨by first | rfl | (simp [errW_none, errW_some] <;> rfl) | (simp [*, errW_none, errW_some] <;> rfl), by repeat (first | (with_reducible first | exact HB.out | apply below_alloc | apply pw_below_drewN | apply below_drew1 | refine below_set ?_ GE117.out) | exact HB.out)⟩
                            · replace c24 := Bool.eq_false_iff.mpr c24
                              subst c24
                              have H1 : (if a0_0 = 1 then (if (Go.bits .andNot .i64 a0_1 1) = 0 then (some 0) else (some 1)) else (some 0)) = some r := by rw [if_neg (show ¬ (false = true) by decide)] at H; exact H
                              clear H
                              have H := H1
                              clear H1
                              by_cases c25 : a0_0 = 1
                              · rw [if_pos c25] at H
                                have c25b0 : (a0_0 == 1) = true := beq_iff_eq.mpr c25
                                have c25b1 : (a0_0 != 1) = false := bne_eq_false_iff_eq.mpr c25
                                clear c25
                                by_cases c26 : (Go.bits .andNot .i64 a0_1 1) = 0
                                · rw [if_pos c26] at H
                                  have c26b0 : ((Go.bits .andNot .i64 a0_1 1) == 0) = true := beq_iff_eq.mpr c26
                                  have c26b1 : ((Go.bits .andNot .i64 a0_1 1) != 0) = false := bne_eq_false_iff_eq.mpr c26
                                  clear c26
                                  obtain rfl := Option.some.inj H
                                  have hcz27_0 : wc.cell? ⟨gb117, 0, none⟩ = some (.int .i64 a0_0) := (blk_cell BK117.out 0).trans rfl
                                  have hcz27_1 : wc.cell? ⟨gb117, 1, none⟩ = some (.int .i64 a0_1) := (blk_cell BK117.out 1).trans rfl
                                  have hcz27_2 : wc.cell? ⟨gb117, 2, none⟩ = some (.string a0_2) := (blk_cell BK117.out 2).trans rfl
                                  have hfz27_0 := blk_frozen BK117.out 0
                                  have hfz27_1 := blk_frozen BK117.out 1
                                  have hfz27_2 := blk_frozen BK117.out 2
                                  go_wp2
                                  go_ret
                                  exact ⟨by first | rfl | (simp [errW_none, errW_some] <;> rfl) | (simp [*, errW_none, errW_some] <;> rfl), by repeat (first | (with_reducible first | exact HB.out | apply below_alloc | apply pw_below_drewN | apply below_drew1 | refine below_set ?_ GE117.out) | exact HB.out)⟩
                                · rw [if_neg c26] at H
                                  have c26b0 : ((Go.bits .andNot .i64 a0_1 1) == 0) = false := beq_eq_false_iff_ne.mpr c26
                                  have c26b1 : ((Go.bits .andNot .i64 a0_1 1) != 0) = true := bne_iff_ne.mpr c26
                                  obtain rfl := Option.some.inj H
                                  have hcz28_0 : wc.cell? ⟨gb117, 0, none⟩ = some (.int .i64 a0_0) := (blk_cell BK117.out 0).trans rfl
                                  have hcz28_1 : wc.cell? ⟨gb117, 1, none⟩ = some (.int .i64 a0_1) := (blk_cell BK117.out 1).trans rfl
                                  have hcz28_2 : wc.cell? ⟨gb117, 2, none⟩ = some (.string a0_2) := (blk_cell BK117.out 2).trans rfl
                                  have hfz28_0 := blk_frozen BK117.out 0
                                  have hfz28_1 := blk_frozen BK117.out 1
                                  have hfz28_2 := blk_frozen BK117.out 2
                                  go_wp2
                                  go_ret
                                  exact ⟨by first | rfl | (simp [errW_none, errW_some] <;> rfl) | (simp [*, errW_none, errW_some] <;> rfl), by repeat (first | (with_reducible first | exact HB.out | apply below_alloc | apply pw_below_drewN | apply below_drew1 | refine below_set ?_ GE117.out) | exact HB.out)⟩
                              · rw [if_neg c25] at H
                                have c25b0 : (a0_0 == 1) = false := beq_eq_false_iff_ne.mpr c25
                                have c25b1 : (a0_0 != 1) = true := bne_iff_ne.mpr c25
                                obtain rfl := Option.some.inj H
                                have hcz29_0 : wc.cell? ⟨gb117, 0, none⟩ = some (.int .i64 a0_0) := (blk_cell BK117.out 0).trans rfl
                                have hcz29_1 : wc.cell? ⟨gb117, 1, none⟩ = some (.int .i64 a0_1) := (blk_cell BK117.out 1).trans rfl
                                have hcz29_2 : wc.cell? ⟨gb117, 2, none⟩ = some (.string a0_2) := (blk_cell BK117.out 2).trans rfl
                                have hfz29_0 := blk_frozen BK117.out 0
                                have hfz29_1 := blk_frozen BK117.out 1
                                have hfz29_2 := blk_frozen BK117.out 2
                                go_wp2
                                go_ret
                                exact ⟨by first | rfl | (simp [errW_none, errW_some] <;> rfl) | (simp [*, errW_none, errW_some] <;> rfl), by repeat (first | (with_reducible first | exact HB.out | apply below_alloc | apply pw_below_drewN | apply below_drew1 | refine below_set ?_ GE117.out) | exact HB.out)⟩

/-! ### strconv_small: function 68 -/

/-! ### strconv_log10Pow2: function 78 -/

/-! ### bits_Len64: function 79 -/

/-! ### strconv_bool2_int: function 80 -/

-- NOT PRINTED: function 69 (strconv_numDigits)

-- NOT PRINTED: function 70 (strconv_formatBase10)

/-! ### strconv_isPowerOfTwo: function 81 -/

-- NOT PRINTED: function 89 (bits_TrailingZeros32)

-- NOT PRINTED: function 90 (bits_TrailingZeros64)

-- NOT PRINTED: function 82 (bits_TrailingZeros)

-- NOT PRINTED: function 71 (strconv_formatBits)

-- NOT PRINTED: function 63 (strconv_FormatInt_63)

-- NOT PRINTED: function 53 (strconv_FormatInt_53)

-- NOT PRINTED: function 37 (strings_Builder_String)

-- NOT PRINTED: function 65 (abi_NoEscape)

-- NOT PRINTED: function 56 (strings_Builder_copyCheck)

-- NOT PRINTED: function 40 (strings_Builder_WriteString)

-- NOT PRINTED: function 97 (bytealg_IndexByteString)

-- NOT PRINTED: function 92 (stringslite_IndexByte)

-- NOT PRINTED: function 93 (bytealg_IndexString)

/-! ### bytealg_Cutover: function 94 -/

/-! ### bytealg_hashStr_string: function 98 -/

/-! ### bytealg_IndexRabinKarp_string: function 95 -/

-- NOT PRINTED: function 86 (stringslite_Index)

-- NOT PRINTED: function 74 (strings_Index)

-- NOT PRINTED: function 83 (utf8_RuneCountInString)

-- NOT PRINTED: function 84 (bytealg_CountString)

-- NOT PRINTED: function 72 (strings_Count)

-- NOT PRINTED: function 91 (bytealg_MakeNoZero)

-- NOT PRINTED: function 85 (strings_Builder_grow)

-- NOT PRINTED: function 73 (strings_Builder_Grow)

-- NOT PRINTED: function 87 (utf8_decodeRuneInStringSlow)

-- NOT PRINTED: function 75 (utf8_DecodeRuneInString)

-- NOT PRINTED: function 64 (strings_Replace)

-- NOT PRINTED: function 54 (strings_ReplaceAll)

-- NOT PRINTED: function 36 (value_writer_value)

/-! ### value_Text: function 12 -/
def value_Text.f (a0_0 : Int) (a0_1 : Int) (a0_2 : ByteArray) : Option (ByteArray × Int) :=
  if a0_2.size ≤ 1000000000 ∧ -9223372036854775808 ≤ a0_1 ∧ a0_1 ≤ 9223372036854775807 then
    (value_Check.f 5 a0_0 a0_1 a0_2).bind fun e => if e = 0 then (if (a0_0 = 0 ∨ a0_0 = 1 ∨ a0_0 = 2 ∨ a0_0 = 3 ∨ a0_0 = 4) ∧ (a0_0 = 1 → a0_1 = 0 ∨ a0_1 = 1) then some (⟨(Wv.textL a0_0 a0_1 a0_2).toArray⟩, 0) else none) else some (⟨#[]⟩, e)
  else none
/-- a new builder, in a block of the writer's -/
theorem fresh_bld (w : World) : Lib.IsBuilderF 54 5 w.heap.size w.heap.size (Lib.byteCells []) (w.alloc (.cells #[.pointer none, .slice none 0 0] 54)) :=
  .inl ⟨Nat.le_refl _, _, heap_alloc_new w _, World.ownsRowF_nil _ _ _ _, fun e => by cases e⟩
theorem textL_ne (k i : Int) (s : ByteArray) (hk : k = 0 ∨ k = 1 ∨ k = 2 ∨ k = 3 ∨ k = 4) : Wv.textL k i s ≠ [] := by
  unfold Wv.textL
  rcases hk with rfl | rfl | rfl | rfl | rfl
  · simp
  · simp; split <;> simp
  · simp only [show ¬ (2 : Int) = 0 by decide, show ¬ (2 : Int) = 1 by decide, if_false, if_true]
    unfold Lib.itoa
    split
    · simp
    · intro h
      have := congrArg List.length h
      rw [Lib.decDigits_length] at this
      have := Lib.nDigits_pos i.toNat
      simp at *
      omega
  · simp
  · simp
theorem below_at {B : Nat} {w0 w w' : World} (h : Below w0.heap.size w0 w) (hB : w0.heap.size ≤ B) (hb : Below B w w') : Below w0.heap.size w0 w' := h.trans (hb.mono hB)
set_option maxHeartbeats 4000000 in
set_option maxRecDepth 100000 in
theorem value_Text.calls (a0_0 : Int) (a0_1 : Int) (a0_2 : ByteArray) (r1 : ByteArray) (r2 : Int) (w : World) (h : value_Text.f a0_0 a0_1 a0_2 = some (r1, r2)) (hok : Wv.OkW w := by first | assumption | exact Wv.OkW.below hok (by repeat (first | (with_reducible first | exact HB.out | apply below_alloc | apply pw_below_drewN | apply below_drew1) | exact HB.out | refine below_set ?_ (Aside0.out (by assumption))))) :
    Calls Tryd.prog 12 #[.agg #[.int .i64 a0_0, .int .i64 a0_1, .string a0_2]] w fun e w' => e = .returned (.tuple #[.string r1, .int .i64 r2]) ∧ Below w.heap.size w w' := by
  unfold value_Text.f at h
  by_cases hc : a0_2.size ≤ 1000000000 ∧ -9223372036854775808 ≤ a0_1 ∧ a0_1 ≤ 9223372036854775807
  · rw [if_pos hc] at h
    obtain ⟨e, he, h⟩ := Option.bind_eq_some_iff.mp h
    have HA := Wv.alloc3 w a0_0 a0_1 a0_2
    have HL := Aside0.mk (Below.refl w.heap.size w |>.alloc (Nat.le_refl _) (.cells #[.int .i64 a0_0, .int .i64 a0_1, .string a0_2] 27))
    have HK := Aside0.mk hok
    have HE := Aside0.mk he
    have HC := Aside0.mk hc
    clear hok he hc
    by_cases h0 : e = 0
    · rw [if_pos h0] at h
      subst h0
      by_cases hd : (a0_0 = 0 ∨ a0_0 = 1 ∨ a0_0 = 2 ∨ a0_0 = 3 ∨ a0_0 = 4) ∧ (a0_0 = 1 → a0_1 = 0 ∨ a0_1 = 1)
      · rw [if_pos hd] at h
        simp only [Option.some.injEq, Prod.mk.injEq] at h
        obtain ⟨rfl, rfl⟩ := h
        have HD := Aside0.mk hd
        clear hd
        go_enter Tryd.func12, Tryd.ntmps12
        go_wp2_with fail
        refine (value_Check.calls 5 a0_0 a0_1 a0_2 0 _ HE.out).mono ?_
        rintro e w1 ⟨rfl, hb1⟩
        have hg := (hb1.block _ (by rw [World.size_alloc]; omega)).trans HA
        have HB := Aside0.mk (below_step HL.out hb1)
        have HO := Aside0.mk (Wv.OkW.below HK.out HB.out)
        have hgl : w.heap.size < w1.heap.size := by have := hb1.size; rw [World.size_alloc] at this; omega
        clear hb1 HA HL
        obtain ⟨hx0, hx1, hx2⟩ := Wv.cell3 hg
        have hy0 := (Below.refl w1.heap.size w1 |>.alloc (Nat.le_refl _) (.cells #[.pointer none, .slice none 0 0] 54) |>.cell (p := ⟨w.heap.size, 0, none⟩) hgl).trans hx0
        have hy1 := (Below.refl w1.heap.size w1 |>.alloc (Nat.le_refl _) (.cells #[.pointer none, .slice none 0 0] 54) |>.cell (p := ⟨w.heap.size, 1, none⟩) hgl).trans hx1
        have hy2 := (Below.refl w1.heap.size w1 |>.alloc (Nat.le_refl _) (.cells #[.pointer none, .slice none 0 0] 54) |>.cell (p := ⟨w.heap.size, 2, none⟩) hgl).trans hx2
        go_wp2_with fail
        refine (Wv.value w1.heap.size w1.heap.size [] a0_0 a0_1 a0_2 _ (fresh_bld w1) (by have := HC.out.1; simp; omega) HC.out.1 HO.out.lt (HO.out.alloc _) HC.out.2.1 HC.out.2.2 HD.out.1 HD.out.2).mono ?_
        rintro e w2 ⟨rfl, h2⟩
        have H2 := Aside0.mk h2
        have HB2 := Aside0.mk (below_at (HB.out.alloc HB.out.size _) HB.out.size h2.2.1)
        clear h2 hx0 hx1 hx2 hy0 hy1 hy2 hg
        go_wp2_with fail
        refine (Wv.String w1.heap.size w1.heap.size (Wv.textL a0_0 a0_1 a0_2) _ H2.out.1 (textL_ne _ _ _ HD.out.1)).mono ?_
        rintro e w3 ⟨rfl, hb3⟩
        have HB3 := Aside0.mk (below_at HB2.out HB.out.size hb3)
        clear hb3
        go_wp2
        go_ret2
        exact ⟨rfl, HB3.out⟩
      · rw [if_neg hd] at h; cases h
    · rw [if_neg h0] at h
      simp only [Option.some.injEq, Prod.mk.injEq] at h
      obtain ⟨rfl, rfl⟩ := h
      go_enter Tryd.func12, Tryd.ntmps12
      go_wp2_with fail
      refine (value_Check.calls 5 a0_0 a0_1 a0_2 e _ HE.out).mono ?_
      rintro e w1 ⟨rfl, hb1⟩
      have HB := Aside0.mk (below_step HL.out hb1)
      clear hb1
      go_wp2
      go_ret2
      exact ⟨rfl, HB.out⟩
  · rw [if_neg hc] at h; cases h

-- NOT PRINTED: function 60 (api_Value_60)

-- NOT PRINTED: function 45 (api_Value_45)

end Go.Proofs.YtaneicpggglcbaaDoor.QVT
