-- printed by our own turn of the print (wip/pr)
import Derived.Test.YtaneicpggglcbaaDoorQVAx0
import Derived.Test.YtaneicpggglcbaaDoorQVAx1
import Derived.Test.YtaneicpggglcbaaDoorQVAx2
import Derived.Test.YtaneicpggglcbaaDoorQVAx3
namespace Go.Proofs.YtaneicpggglcbaaDoor.QVA
open Go.RowKit Go.Proofs.YtaneicpggglcbaaDoorW.PrintWords Go.Proofs.YtaneicpggglcbaaDoorW.PrintLast Go.Proofs.YtaneicpggglcbaaDoorW.PrintMore
attribute [local go_sem] max2_int min2_int max_two min_two max_three min_three max_four min_four   -- for this text's walks alone
set_option linter.unusedVariables false
set_option linter.unusedSimpArgs false

attribute [local go_sem high] eqA27
/-! ### value_Text: function 12 -/
def value_Text.f (a0_0 : Int) (a0_1 : Int) (a0_2 : ByteArray) : Option (ByteArray × Int) :=
  if a0_2.size ≤ 1000000000 ∧ -9223372036854775808 ≤ a0_1 ∧ a0_1 ≤ 9223372036854775807 then
    (value_Check.f 5 a0_0 a0_1 a0_2).bind fun e => if e = 0 then (if (a0_0 = 0 ∨ a0_0 = 1 ∨ a0_0 = 2 ∨ a0_0 = 3 ∨ a0_0 = 4) ∧ (a0_0 = 1 → a0_1 = 0 ∨ a0_1 = 1) then some (⟨(Wv.textL a0_0 a0_1 a0_2).toArray⟩, 0) else none) else some (⟨#[]⟩, e)
  else none
/-- a new builder, in a block of the writer's -/
theorem fresh_bld (w : World) : Lib.IsBuilderF 54 5 w.heap.size w.heap.size (Lib.byteCells []) (w.alloc (.cells #[.pointer none, .slice none 0 0] 54)) :=
  .inl ⟨Nat.le_refl _, _, heap_alloc_new w _, World.ownsRowF_nil _ _ _ _, fun e => by cases e⟩
theorem textL_ne (k i : Int) (s : ByteArray) (hk : k = 0 ∨ k = 1 ∨ k = 2 ∨ k = 3 ∨ k = 4) : Wv.textL k i s ≠ [] := by
  unfold Wv.textL
  rcases hk with rfl | rfl | rfl | rfl | rfl
  · simp
  · simp; split <;> simp
  · simp only [show ¬ (2 : Int) = 0 by decide, show ¬ (2 : Int) = 1 by decide, if_false, if_true]
    unfold Lib.itoa
    split
    · simp
    · intro h
      have := congrArg List.length h
      rw [Lib.decDigits_length] at this
      have := Lib.nDigits_pos i.toNat
      simp at *
      omega
  · simp
  · simp
theorem below_at {B : Nat} {w0 w w' : World} (h : Below w0.heap.size w0 w) (hB : w0.heap.size ≤ B) (hb : Below B w w') : Below w0.heap.size w0 w' := h.trans (hb.mono hB)
set_option maxHeartbeats 4000000 in
set_option maxRecDepth 100000 in
theorem value_Text.calls (a0_0 : Int) (a0_1 : Int) (a0_2 : ByteArray) (r1 : ByteArray) (r2 : Int) (w : World) (h : value_Text.f a0_0 a0_1 a0_2 = some (r1, r2)) (hok : Wv.OkW w := by first | assumption | exact Wv.OkW.below hok (by repeat (first | (with_reducible first | exact HB.out | apply below_alloc | apply pw_below_drewN | apply below_drew1) | exact HB.out | refine below_set ?_ (Aside0.out (by assumption))))) :
    Calls Tryd.prog 12 #[.agg #[.int .i64 a0_0, .int .i64 a0_1, .string a0_2]] w fun e w' => e = .returned (.tuple #[.string r1, .int .i64 r2]) ∧ Below w.heap.size w w' := by
  unfold value_Text.f at h
  by_cases hc : a0_2.size ≤ 1000000000 ∧ -9223372036854775808 ≤ a0_1 ∧ a0_1 ≤ 9223372036854775807
  · rw [if_pos hc] at h
    obtain ⟨e, he, h⟩ := Option.bind_eq_some_iff.mp h
    have HA := Wv.alloc3 w a0_0 a0_1 a0_2
    have HL := Aside0.mk (Below.refl w.heap.size w |>.alloc (Nat.le_refl _) (.cells #[.int .i64 a0_0, .int .i64 a0_1, .string a0_2] 27))
    have HK := Aside0.mk hok
    have HE := Aside0.mk he
    have HC := Aside0.mk hc
    clear hok he hc
    by_cases h0 : e = 0
    · rw [if_pos h0] at h
      subst h0
      by_cases hd : (a0_0 = 0 ∨ a0_0 = 1 ∨ a0_0 = 2 ∨ a0_0 = 3 ∨ a0_0 = 4) ∧ (a0_0 = 1 → a0_1 = 0 ∨ a0_1 = 1)
      · rw [if_pos hd] at h
        simp only [Option.some.injEq, Prod.mk.injEq] at h
        obtain ⟨rfl, rfl⟩ := h
        have HD := Aside0.mk hd
        clear hd
        go_enter Tryd.func12, Tryd.ntmps12
        go_wp2_with fail
        refine (value_Check.calls 5 a0_0 a0_1 a0_2 0 _ HE.out).mono ?_
        rintro e w1 ⟨rfl, hb1⟩
        have hg := (hb1.block _ (by rw [World.size_alloc]; omega)).trans HA
        have HB := Aside0.mk (below_step HL.out hb1)
        have HO := Aside0.mk (Wv.OkW.below HK.out HB.out)
        have hgl : w.heap.size < w1.heap.size := by have := hb1.size; rw [World.size_alloc] at this; omega
        clear hb1 HA HL
        obtain ⟨hx0, hx1, hx2⟩ := Wv.cell3 hg
        have hy0 := (Below.refl w1.heap.size w1 |>.alloc (Nat.le_refl _) (.cells #[.pointer none, .slice none 0 0] 54) |>.cell (p := ⟨w.heap.size, 0, none⟩) hgl).trans hx0
        have hy1 := (Below.refl w1.heap.size w1 |>.alloc (Nat.le_refl _) (.cells #[.pointer none, .slice none 0 0] 54) |>.cell (p := ⟨w.heap.size, 1, none⟩) hgl).trans hx1
        have hy2 := (Below.refl w1.heap.size w1 |>.alloc (Nat.le_refl _) (.cells #[.pointer none, .slice none 0 0] 54) |>.cell (p := ⟨w.heap.size, 2, none⟩) hgl).trans hx2
        go_wp2_with fail
        refine (Wv.value w1.heap.size w1.heap.size [] a0_0 a0_1 a0_2 _ (fresh_bld w1) (by have := HC.out.1; simp; omega) HC.out.1 HO.out.lt (HO.out.alloc _) HC.out.2.1 HC.out.2.2 HD.out.1 HD.out.2).mono ?_
        rintro e w2 ⟨rfl, h2⟩
        have H2 := Aside0.mk h2
        have HB2 := Aside0.mk (below_at (HB.out.alloc HB.out.size _) HB.out.size h2.2.1)
        clear h2 hx0 hx1 hx2 hy0 hy1 hy2 hg
        go_wp2_with fail
        refine (Wv.String w1.heap.size w1.heap.size (Wv.textL a0_0 a0_1 a0_2) _ H2.out.1 (textL_ne _ _ _ HD.out.1)).mono ?_
        rintro e w3 ⟨rfl, hb3⟩
        have HB3 := Aside0.mk (below_at HB2.out HB.out.size hb3)
        clear hb3
        go_wp2
        go_ret2
        exact ⟨rfl, HB3.out⟩
      · rw [if_neg hd] at h; cases h
    · rw [if_neg h0] at h
      simp only [Option.some.injEq, Prod.mk.injEq] at h
      obtain ⟨rfl, rfl⟩ := h
      go_enter Tryd.func12, Tryd.ntmps12
      go_wp2_with fail
      refine (value_Check.calls 5 a0_0 a0_1 a0_2 e _ HE.out).mono ?_
      rintro e w1 ⟨rfl, hb1⟩
      have HB := Aside0.mk (below_step HL.out hb1)
      clear hb1
      go_wp2
      go_ret2
      exact ⟨rfl, HB.out⟩
  · rw [if_neg hc] at h; cases h

-- NOT PRINTED: function 60 (api_Value_60)

-- NOT PRINTED: function 45 (api_Value_45)

/-! ### value_CheckRow: function 22 -/
theorem isSome_ite {α : Type} {c : Prop} [Decidable c] {a b : Option α} (ha : a.isSome = true) (hb : b.isSome = true) : (if c then a else b).isSome = true := by split <;> assumption
/-- whether a value may be, as Check tells it -/
def chkV (x : S27) : Int := (value_Check.f 5 x.f0 x.f1 x.f2).getD 1
theorem chkV_at (x : S27) : value_Check.f 5 x.f0 x.f1 x.f2 = some (chkV x) := by
  have h : (value_Check.f 5 x.f0 x.f1 x.f2).isSome = true := by
    simp only [value_Check.f, value_Check.j0, value_Check.j1, value_Check.j2, value_Check.j3, value_Check.j4]
    repeat' (first | rfl | apply isSome_ite)
  unfold chkV
  generalize value_Check.f 5 x.f0 x.f1 x.f2 = o at h ⊢
  cases o with
  | none => cases h
  | some e => rfl
def badV (x : S27) : Bool := chkV x != 0
theorem pred_walk (x : S27) (w : World) :
    Calls Tryd.prog 46 #[.agg #[.int .i64 x.f0, .int .i64 x.f1, .string x.f2]] w fun e w' => e = .returned (.bool (badV x)) ∧ Below w.heap.size w w' := by
  go_enter Tryd.func46, Tryd.ntmps46
  go_wp2_with fail
  refine (value_Check.calls 5 x.f0 x.f1 x.f2 (chkV x) _ (chkV_at x)).mono ?_
  rintro e w2 ⟨rfl, hb⟩
  have hb2 := Aside0.mk (below_step ((Below.refl w.heap.size w).alloc (Nat.le_refl _) _) hb)
  clear hb
  go_wp2
  go_ret
  exact ⟨rfl, hb2.out⟩
set_option maxHeartbeats 4000000 in
set_option maxRecDepth 100000 in
theorem index_walk (A0 : Option Addr) (c0 : Nat) (l0 : List S27) (w : World) (hr0 : Kd.C k27 w A0 l0.length l0) (hn : l0.length ≤ 9223372036854775807) :
    Calls Tryd.prog 60 #[.slice A0 l0.length c0, .func (.func 46) #[] #[]] w fun e w' => (∃ i : Int, e = .returned (.int .i64 i) ∧ decide (0 ≤ i) = l0.any badV) ∧ Below w.heap.size w w' := by
  have HR0 := Aside0.mk hr0
  have HN := Aside0.mk hn
  clear hr0 hn
  go_enter Tryd.func60, Tryd.ntmps60
  go_wp2
  go_loopg [5, 8] l0.length (fun gg _ s8 wr => ∃ kk : Nat, Aside0 (kk ≤ l0.length) ∧ Aside0 (l0.length - kk ≤ gg) ∧ s8 = .int .i64 kk ∧ Aside0 (Below w.heap.size w wr) ∧ Aside0 ((l0.take kk).any badV = false))
  case atStart => exact ⟨0, ⟨Nat.zero_le _⟩, ⟨Nat.le_refl _⟩, rfl, ⟨Below.refl _ w⟩, ⟨rfl⟩⟩
  case round =>
    obtain ⟨kk, hkk, hg, rfl, HB, A⟩ := hrel
    by_cases hlt : kk < l0.length
    · have p109 : 0 ≤ (kk : Int) := Int.natCast_nonneg kk
      have q109 : (kk : Int) < (l0.length : Int) := by omega
      obtain ⟨ad109, e109, hx0, hx1, hx2⟩ := at_T27 HR0.out kk p109 q109
      cases e109
      replace hx0 := (HB.out.cell (World.block_lt_of_cell? w _ hx0)).trans hx0
      replace hx1 := (HB.out.cell (World.block_lt_of_cell? w _ hx1)).trans hx1
      replace hx2 := (HB.out.cell (World.block_lt_of_cell? w _ hx2)).trans hx2
      simp only [Int.toNat_natCast] at hx0 hx1 hx2
      replace p109 := eq_true p109
      replace q109 := eq_true q109
      have hlen := Aside0.mk hlt
      have hw : Aside0 (wrap64 ((kk : Int) + 1) = ((kk + 1 : Nat) : Int)) := ⟨by have := HN.out; unfold wrap64; omega⟩
      have hsp : Aside0 (l0.take (kk + 1) = l0.take kk ++ [rd_T27 l0 (kk : Int)]) := ⟨by
        rw [List.take_succ_eq_append_getElem hlt]
        unfold rd_T27
        rw [Int.toNat_natCast, List.getD_eq_getElem?_getD, List.getElem?_eq_getElem hlt, Option.getD_some]⟩
      generalize hy : rd_T27 l0 (kk : Int) = y at hx0 hx1 hx2 hsp
      have hd : Aside0 (y ∈ l0) := ⟨List.mem_of_mem_take (by rw [hsp.out]; exact List.mem_append_right _ List.mem_cons_self)⟩
      clear hy hlt
      by_cases hq : badV y = true
      · go_wp2_with fail
        refine (pred_walk y _).mono ?_
        rintro e w' ⟨rfl, hb'⟩
        have HC := Aside0.mk (below_step HB.out hb')
        clear hb'
        rw [hq]
        go_wp2
        go_ret
        refine ⟨⟨_, rfl, ?_⟩, HC.out⟩
        rw [List.any_eq_true.2 ⟨y, hd.out, hq⟩]
        exact decide_eq_true (Int.natCast_nonneg kk)
      · simp only [Bool.not_eq_true] at hq
        go_wp2_with fail
        refine (pred_walk y _).mono ?_
        rintro e w' ⟨rfl, hb'⟩
        have HC := Aside0.mk (below_step HB.out hb')
        clear hb'
        rw [hq]
        go_wp2
        go_roundg (l0.length - (kk + 1))
        case measure => have := hlen.out; have := hg.out; omega
        case rel =>
          refine ⟨kk + 1, ⟨hlen.out⟩, ⟨Nat.le_refl _⟩, ?_, ⟨HC.out⟩, ⟨?_⟩⟩
          · rw [hw.out]
          · rw [hsp.out, List.any_append, A.out]; simp [hq]
    · have hltz : ¬ (kk : Int) < (l0.length : Int) := by omega
      have hk : Aside0 (kk = l0.length) := ⟨by have := hkk.out; omega⟩
      clear hlt
      go_wp2
      go_ret
      refine ⟨⟨_, rfl, ?_⟩, HB.out⟩
      have := A.out
      rw [hk.out, List.take_length] at this
      rw [this]; rfl
theorem cont_walk (A0 : Option Addr) (c0 : Nat) (l0 : List S27) (w : World) (hr0 : Kd.C k27 w A0 l0.length l0) (hn : l0.length ≤ 9223372036854775807) :
    Calls Tryd.prog 45 #[.slice A0 l0.length c0, .func (.func 46) #[] #[]] w fun e w' => e = .returned (.bool (l0.any badV)) ∧ Below w.heap.size w w' := by
  go_enter Tryd.func45, Tryd.ntmps45
  go_wp2_with fail
  refine (index_walk A0 c0 l0 _ hr0 hn).mono ?_
  rintro e w' ⟨⟨i, rfl, hi⟩, hb'⟩
  go_wp2
  go_ret
  exact ⟨by rw [← hi]; rfl, hb'⟩
def value_CheckRow.f (l0 : List S27) : Option Int := if l0.length ≤ 9223372036854775807 then some (if l0.any badV = true then 1 else if (l0.length : Int) > 64 then 2 else 0) else none
theorem value_CheckRow.calls (A0 : Option Addr) (c0 : Nat) (l0 : List S27) (r : Int) (w : World) (hr0 : Kd.C k27 w A0 l0.length l0) (hc0 : l0.length ≤ c0) (h : value_CheckRow.f l0 = some r) :
    Calls Tryd.prog 22 #[.slice A0 l0.length c0] w fun e w' => e = .returned (.int .i64 r) ∧ Below w.heap.size w w' := by
  unfold value_CheckRow.f at h
  by_cases hn : l0.length ≤ 9223372036854775807
  · rw [if_pos hn] at h
    have HB := Aside0.mk (Option.some.inj h)
    clear h
    by_cases h1 : l0.any badV = true
    · go_enter Tryd.func22, Tryd.ntmps22
      go_wp2_with fail
      refine (cont_walk A0 c0 l0 _ hr0 hn).mono ?_
      rintro e w' ⟨rfl, hb'⟩
      rw [h1]
      go_wp2
      go_ret
      refine ⟨?_, hb'⟩
      rw [← HB.out, if_pos h1]; rfl
    · simp only [Bool.not_eq_true] at h1
      by_cases h2 : (l0.length : Int) > 64
      · go_enter Tryd.func22, Tryd.ntmps22
        go_wp2_with fail
        refine (cont_walk A0 c0 l0 _ hr0 hn).mono ?_
        rintro e w' ⟨rfl, hb'⟩
        rw [h1]
        go_wp2
        go_ret
        refine ⟨?_, hb'⟩
        rw [← HB.out, h1, if_neg (by decide), if_pos h2]; rfl
      · go_enter Tryd.func22, Tryd.ntmps22
        go_wp2_with fail
        refine (cont_walk A0 c0 l0 _ hr0 hn).mono ?_
        rintro e w' ⟨rfl, hb'⟩
        rw [h1]
        go_wp2
        go_ret
        refine ⟨?_, hb'⟩
        rw [← HB.out, h1, if_neg (by decide), if_neg (by omega)]; rfl
  · rw [if_neg hn] at h; cases h

/-! ### value_RowText: function 14 -/
def okk (x : S27) : Prop := x.f2.size ≤ 1000000000 ∧ -9223372036854775808 ≤ x.f1 ∧ x.f1 ≤ 9223372036854775807
instance (x : S27) : Decidable (okk x) := by unfold okk; exact inferInstance
def okt (x : S27) : Prop := (x.f0 = 0 ∨ x.f0 = 1 ∨ x.f0 = 2 ∨ x.f0 = 3 ∨ x.f0 = 4) ∧ (x.f0 = 1 → x.f1 = 0 ∨ x.f1 = 1)
instance (x : S27) : Decidable (okt x) := by unfold okt; exact inferInstance
def segs : Nat → List S27 → List UInt8
  | _, [] => []
  | i, x :: r => (if 0 < i then [44, 32] else []) ++ Wv.textL x.f0 x.f1 x.f2 ++ segs (i + 1) r
def rowL (l : List S27) : List UInt8 := [40] ++ segs 0 l ++ [41]
theorem segs_snoc (x : S27) : ∀ (l : List S27) (i : Nat), segs i (l ++ [x]) = segs i l ++ (if 0 < i + l.length then [44, 32] else []) ++ Wv.textL x.f0 x.f1 x.f2
  | [], i => by simp [segs]
  | y :: l, i => by
    have := segs_snoc x l (i + 1)
    rw [List.cons_append, segs, this, segs, List.length_cons, show i + 1 + l.length = i + (l.length + 1) by omega]
    simp [List.append_assoc]
theorem textL_len (k i : Int) (s : ByteArray) (h0 : -9223372036854775808 ≤ i) (h1 : i ≤ 9223372036854775807) : (Wv.textL k i s).length ≤ 2 * s.size + 40 := by
  have hL := Lib.itoa_length_le i h0 h1
  have hD := Wv.dblL_length s.data.toList
  have hs : s.data.toList.length = s.size := Array.length_toList
  unfold Wv.textL
  split
  · simp
    try omega
  · split
    · split <;> (simp; try omega)
    · split
      · omega
      · split
        · simp
          try omega
        · split
          · simp [Wv.hexL_length, hs]
            try omega
          · simp
theorem segs_len : ∀ (l : List S27) (i : Nat), (∀ x ∈ l, okk x) → (segs i l).length ≤ l.length * 2000000042
  | [], _, _ => by simp [segs]
  | x :: l, i, h => by
    have hx := h x List.mem_cons_self
    have h1 := textL_len x.f0 x.f1 x.f2 hx.2.1 hx.2.2
    have h2 := segs_len l (i + 1) fun y hy => h y (List.mem_cons_of_mem _ hy)
    have h3 := hx.1
    rw [segs, List.length_append, List.length_append, List.length_cons]
    split
    · simp; omega
    · simp; omega
theorem St_ok {B b : Nat} {w0 : World} {l : List UInt8} {w : World} (h : Wv.St B b w0 l w) (hB : 2 ≤ B) (hok : Wv.OkW w0) : Wv.OkW w := hok.belowB hB h.2.1
theorem row_snoc (l0 : List S27) (kk : Nat) (h : kk < l0.length) : l0.take (kk + 1) = l0.take kk ++ [rd_T27 l0 (kk : Int)] := by
  rw [List.take_succ_eq_append_getElem h]
  unfold rd_T27
  rw [Int.toNat_natCast, List.getD_eq_getElem?_getD, List.getElem?_eq_getElem h, Option.getD_some]
theorem row_lens (l0 : List S27) (hk : ∀ x ∈ l0, okk x) (hn : l0.length ≤ 64) (kk : Nat) (hlt : kk < l0.length) (y : S27) (hy : okk y) :
    ([40] ++ segs 0 (l0.take kk)).length + 2 ≤ 140737488355328 ∧ ([40] ++ segs 0 (l0.take kk) ++ [44, 32]).length + 2 * y.f2.size + 40 ≤ 140737488355328 ∧ ([40] ++ segs 0 (l0.take kk)).length + 2 * y.f2.size + 40 ≤ 140737488355328 := by
  have h1 := segs_len (l0.take kk) 0 fun x hx => hk x (List.mem_of_mem_take hx)
  have h2 : (l0.take kk).length ≤ kk := List.length_take_le _ _
  have h3 := hy.1
  simp only [List.length_append, List.length_cons, List.length_nil]
  omega
set_option maxHeartbeats 4000000 in
set_option maxRecDepth 100000 in
theorem rowtext_ok (A0 : Option Addr) (c0 : Nat) (l0 : List S27) (w : World) (hr0 : Kd.C k27 w A0 l0.length l0) (hc0 : l0.length ≤ c0) (hok : Wv.OkW w) (hk : ∀ x ∈ l0, okk x) (ht : ∀ x ∈ l0, okt x) (hn : l0.length ≤ 64) (he : value_CheckRow.f l0 = some 0) :
    Calls Tryd.prog 14 #[.slice A0 l0.length c0] w fun e w' => e = .returned (.tuple #[.string ⟨(rowL l0).toArray⟩, .int .i64 0]) ∧ Below w.heap.size w w' := by
  have HR0 := Aside0.mk hr0
  have HE := Aside0.mk he
  have HK := Aside0.mk (And.intro hk (And.intro ht hn))
  have HOK := Aside0.mk hok
  have HC := Aside0.mk hc0
  clear hr0 he hk ht hn hok hc0
  go_enter Tryd.func14, Tryd.ntmps14
  go_wp2_with fail
  refine (value_CheckRow.calls A0 c0 l0 0 _ HR0.out HC.out HE.out).mono ?_
  rintro e w1 ⟨rfl, hb1⟩
  have HB := Aside0.mk hb1
  have HO := Aside0.mk (HOK.out.below hb1)
  clear hb1
  go_wp2_with fail
  refine (Wv.wbyte w1.heap.size w1.heap.size _ [] 40 _ (Wv.St.refl (fresh_bld w1)) (by simp)).mono ?_
  rintro e w2 ⟨rfl, h2, _⟩
  have HT0 := Aside0.mk h2
  have HW := Aside0.mk (HB.out.alloc HB.out.size (.cells #[.pointer none, .slice none 0 0] 54))
  have HO0 := Aside0.mk (HO.out.alloc (.cells #[.pointer none, .slice none 0 0] 54))
  have HB2 := Aside0.mk HO.out.lt
  have HBs := Aside0.mk HB.out.size
  clear h2 HB HO HOK
  generalize w1.alloc (.cells #[.pointer none, .slice none 0 0] 54) = W0 at *
  generalize w1.heap.size = B at *
  go_wp2
  go_loopg [17] l0.length (fun gg s17 wr => ∃ kk : Nat, Aside0 (kk ≤ l0.length) ∧ Aside0 (l0.length - kk ≤ gg) ∧ s17 = .int .i64 kk ∧ Aside0 (Wv.St B B W0 ([40] ++ segs 0 (l0.take kk)) wr))
  case atStart => exact ⟨0, ⟨Nat.zero_le _⟩, ⟨Nat.le_refl _⟩, rfl, ⟨by simpa [segs] using HT0.out⟩⟩
  case round =>
    obtain ⟨kk, hkk, hg, rfl, HT⟩ := hrel
    by_cases hlt : kk < l0.length
    · have p109 : 0 ≤ (kk : Int) := Int.natCast_nonneg kk
      have q109 : (kk : Int) < (l0.length : Int) := by omega
      obtain ⟨ad109, e109, hx0, hx1, hx2⟩ := at_T27 HR0.out kk p109 q109
      cases e109
      have HBr := Aside0.mk (below_at HW.out HBs.out HT.out.2.1)
      replace hx0 := (HBr.out.cell (World.block_lt_of_cell? w _ hx0)).trans hx0
      replace hx1 := (HBr.out.cell (World.block_lt_of_cell? w _ hx1)).trans hx1
      replace hx2 := (HBr.out.cell (World.block_lt_of_cell? w _ hx2)).trans hx2
      simp only [Int.toNat_natCast] at hx0 hx1 hx2
      have hlen := Aside0.mk hlt
      have hw : Aside0 (wrap64 ((kk : Int) + 1) = ((kk + 1 : Nat) : Int)) := ⟨by have := HK.out.2.2; unfold wrap64; omega⟩
      have hsp := Aside0.mk (row_snoc l0 kk hlt)
      replace p109 := eq_true p109
      replace q109 := eq_true q109
      generalize hy : rd_T27 l0 (kk : Int) = y at hx0 hx1 hx2 hsp
      have hd : Aside0 (y ∈ l0) := ⟨List.mem_of_mem_take (by rw [hsp.out]; exact List.mem_append_right _ List.mem_cons_self)⟩
      have HL := Aside0.mk (row_lens l0 HK.out.1 HK.out.2.2 kk hlt y (HK.out.1 y hd.out))
      have hlt3 := Aside0.mk (Wv.alloc3 wr y.f0 y.f1 y.f2)
      have hne : Aside0 (wr.heap.size ≠ B) := ⟨Nat.ne_of_gt HT.out.lt.1⟩
      clear hy hlt
      by_cases h0 : 0 < kk
      · have c1 : decide ((0 : Int) < (kk : Int)) = true := decide_eq_true (by omega)
        have c2 : (0 : Int) < (kk : Int) := by omega
        have H0 := Aside0.mk h0
        clear h0
        go_wp2_with fail
        refine (Wv.wstr B B W0 _ ⟨#[44, 32]⟩ _ (HT.out.alloc _) (by have := HL.out.1; show _ + 2 ≤ _; omega)).mono ?_
        rintro e w3 ⟨rfl, h3, hk3, hb3⟩
        have HT3 := Aside0.mk h3
        obtain ⟨hy0, hy1, hy2⟩ := Wv.cell3 (Wv.kept3 hk3 hlt3.out hne.out)
        clear h3 hk3 hb3 hx0 hx1 hx2
        go_wp2_with fail
        refine (Wv.value B B _ y.f0 y.f1 y.f2 _ HT3.out.1 (by have := HL.out.2.1; simpa using this) (HK.out.1 y hd.out).1 HB2.out (St_ok HT3.out HB2.out HO0.out) (HK.out.1 y hd.out).2.1 (HK.out.1 y hd.out).2.2 (HK.out.2.1 y hd.out).1 (HK.out.2.1 y hd.out).2).mono ?_
        rintro e w4 ⟨rfl, h4⟩
        have HT4 := Aside0.mk (HT3.out.step h4.1 h4.2.1 h4.2.2)
        clear h4 hy0 hy1 hy2
        go_wp2
        go_roundg (l0.length - (kk + 1))
        case measure => have := hlen.out; have := hg.out; omega
        case rel =>
          refine ⟨kk + 1, ⟨hlen.out⟩, ⟨Nat.le_refl _⟩, ?_, ⟨?_⟩⟩
          · first | rw [hw.out] | go_num
          · have h5 := HT4.out
            have e : [40] ++ segs 0 (l0.take (kk + 1)) = [40] ++ segs 0 (l0.take kk) ++ [44, 32] ++ Wv.textL y.f0 y.f1 y.f2 := by
              rw [hsp.out, segs_snoc, if_pos (by rw [List.length_take]; have := H0.out; have := hlen.out; omega)]
              simp [List.append_assoc]
            rw [e]
            exact h5
      · have c1 : decide ((0 : Int) < (kk : Int)) = false := decide_eq_false (by omega)
        have c2 : ¬ (0 : Int) < (kk : Int) := by omega
        have H0 := Aside0.mk h0
        clear h0
        obtain ⟨hy0, hy1, hy2⟩ := Wv.cell3 hlt3.out
        go_wp2_with fail
        refine (Wv.value B B _ y.f0 y.f1 y.f2 _ (HT.out.alloc _).1 (by have := HL.out.2.2; exact this) (HK.out.1 y hd.out).1 HB2.out (St_ok (HT.out.alloc _) HB2.out HO0.out) (HK.out.1 y hd.out).2.1 (HK.out.1 y hd.out).2.2 (HK.out.2.1 y hd.out).1 (HK.out.2.1 y hd.out).2).mono ?_
        rintro e w4 ⟨rfl, h4⟩
        have HT4 := Aside0.mk ((HT.out.alloc _).step h4.1 h4.2.1 h4.2.2)
        clear h4 hy0 hy1 hy2 hx0 hx1 hx2
        go_wp2
        go_roundg (l0.length - (kk + 1))
        case measure => have := hlen.out; have := hg.out; omega
        case rel =>
          refine ⟨kk + 1, ⟨hlen.out⟩, ⟨Nat.le_refl _⟩, ?_, ⟨?_⟩⟩
          · first | rw [hw.out] | go_num
          · have h5 := HT4.out
            have e : [40] ++ segs 0 (l0.take (kk + 1)) = [40] ++ segs 0 (l0.take kk) ++ Wv.textL y.f0 y.f1 y.f2 := by
              rw [hsp.out, segs_snoc, if_neg (by rw [List.length_take]; have := H0.out; omega)]
              simp [List.append_assoc]
            rw [e]
            exact h5
    · have hltz : ¬ (kk : Int) < (l0.length : Int) := by omega
      have hk : Aside0 (kk = l0.length) := ⟨by have := hkk.out; omega⟩
      clear hlt
      have HF : Aside0 (Wv.St B B W0 ([40] ++ segs 0 l0) wr) := ⟨by have := HT.out; rwa [hk.out, List.take_length] at this⟩
      clear HT
      go_wp2_with fail
      refine (Wv.wbyte B B W0 _ 41 _ HF.out (by
        have h1 := segs_len l0 0 HK.out.1
        have h2 := HK.out.2.2
        simp only [List.length_append, List.length_cons, List.length_nil]
        omega)).mono ?_
      rintro e w3 ⟨rfl, h3, _⟩
      have HT3 := Aside0.mk h3
      clear h3
      go_wp2_with fail
      refine (Wv.String B B (rowL l0) _ HT3.out.1 (by simp [rowL])).mono ?_
      rintro e w4 ⟨rfl, hb4⟩
      have HF4 := Aside0.mk (below_at HW.out HBs.out (HT3.out.2.1.trans hb4))
      clear hb4
      go_wp2
      go_ret2
      exact ⟨rfl, HF4.out⟩
def value_RowText.f (l0 : List S27) : Option (ByteArray × Int) :=
  if l0.length ≤ 9223372036854775807 ∧ ∀ x ∈ l0, okk x then
    (value_CheckRow.f l0).bind fun e => if e = 0 then (if l0.length ≤ 64 ∧ ∀ x ∈ l0, okt x then some (⟨(rowL l0).toArray⟩, 0) else none) else some (⟨#[]⟩, e)
  else none
set_option maxHeartbeats 1000000 in
set_option maxRecDepth 100000 in
theorem value_RowText.calls (A0 : Option Addr) (c0 : Nat) (l0 : List S27) (r1 : ByteArray) (r2 : Int) (w : World) (hr0 : Kd.C k27 w A0 l0.length l0) (hc0 : l0.length ≤ c0) (h : value_RowText.f l0 = some (r1, r2)) (hok : Wv.OkW w := by first | assumption | exact Wv.OkW.below hok (by repeat (first | (with_reducible first | exact HB.out | apply below_alloc | apply pw_below_drewN | apply below_drew1) | exact HB.out | refine below_set ?_ (Aside0.out (by assumption))))) :
    Calls Tryd.prog 14 #[.slice A0 l0.length c0] w fun e w' => e = .returned (.tuple #[.string r1, .int .i64 r2]) ∧ Below w.heap.size w w' := by
  unfold value_RowText.f at h
  by_cases hc : l0.length ≤ 9223372036854775807 ∧ ∀ x ∈ l0, okk x
  · rw [if_pos hc] at h
    obtain ⟨e, he, h⟩ := Option.bind_eq_some_iff.mp h
    by_cases h0 : e = 0
    · rw [if_pos h0] at h
      subst h0
      by_cases hd : l0.length ≤ 64 ∧ ∀ x ∈ l0, okt x
      · rw [if_pos hd] at h
        simp only [Option.some.injEq, Prod.mk.injEq] at h
        obtain ⟨rfl, rfl⟩ := h
        exact rowtext_ok A0 c0 l0 w hr0 hc0 hok hc.2 hd.2 hd.1 he
      · rw [if_neg hd] at h; cases h
    · rw [if_neg h0] at h
      simp only [Option.some.injEq, Prod.mk.injEq] at h
      obtain ⟨rfl, rfl⟩ := h
      have h0' : (e == 0) = false := by simpa using h0
      have h1' : (e != 0) = true := by simpa using h0
      have HR0 := Aside0.mk hr0
      have HE := Aside0.mk he
      have HC := Aside0.mk hc0
      clear hr0 he hc hok hc0
      go_enter Tryd.func14, Tryd.ntmps14
      go_wp2_with fail
      refine (value_CheckRow.calls A0 c0 l0 e _ HR0.out HC.out HE.out).mono ?_
      rintro e w1 ⟨rfl, hb1⟩
      have HB := Aside0.mk hb1
      clear hb1
      go_wp2
      go_ret2
      exact ⟨rfl, HB.out⟩
  · rw [if_neg hc] at h; cases h

/-! ### value_Same: function 16 -/
def value_Same.f (a0_0 : Int) (a0_1 : Int) (a0_2 : ByteArray) (a1_0 : Int) (a1_1 : Int) (a1_2 : ByteArray) : Option (Bool) := some (a0_0 == a1_0 && (a0_1 == a1_1 && (a0_2.toList == a1_2.toList)))
set_option maxHeartbeats 8000000 in
set_option maxRecDepth 100000 in
theorem value_Same.calls (a0_0 : Int) (a0_1 : Int) (a0_2 : ByteArray) (a1_0 : Int) (a1_1 : Int) (a1_2 : ByteArray) (r : Bool) (w : World) (h : value_Same.f a0_0 a0_1 a0_2 a1_0 a1_1 a1_2 = some r) :
    Calls Tryd.prog 16 #[.agg #[.int .i64 a0_0, .int .i64 a0_1, .string a0_2], .agg #[.int .i64 a1_0, .int .i64 a1_1, .string a1_2]] w fun e w' => e = .returned (.bool r) ∧ Below w.heap.size w w' := by
  have hu27 := Tryd.underlying27
  have HB := Aside0.mk (Below.refl w.heap.size w)
  have H : (some (a0_0 == a1_0 && (a0_1 == a1_1 && (a0_2.toList == a1_2.toList)))) = some r := h
  clear h
  obtain rfl := Option.some.inj H
  go_enter Tryd.func16, Tryd.ntmps16
  go_wp2_with (first | ((with_reducible refine gate_dst (N := 2) rfl ?_); refine box_event ?hg (N := 2) ?hd (cs := #[.int .i64 a0_0, .int .i64 a0_1, .string a0_2]) (t := 27) ?hr ?_; (case hd => rfl); (case hg => rfl); (case hr => first | (go_simp; done) | (go_simp; rfl)); intro gb147 hg w3 hbox hb; have n0_ := Aside0.mk (below_step (by repeat (first | (with_reducible first | exact HB.out | apply below_alloc | apply pw_below_drewN | apply below_drew1) | exact HB.out)) hb); have n1_ := Aside0.mk (hbox); have n2_ := Aside0.mk ((by rw [hg]; exact (below_size (by repeat (first | (with_reducible first | exact HB.out | apply below_alloc | apply pw_below_drewN | apply below_drew1) | exact HB.out))) : w.heap.size ≤ gb147)); have n3_ := Aside0.mk ((by rw [hg]; exact (below_size (by repeat (first | (with_reducible first | exact HB.out | apply below_alloc | apply pw_below_drewN | apply below_drew1) | exact HB.out))) : w.heap.size ≤ gb147)); clear HB; have HB := n0_; have BK147 := n1_; have GW147 := n2_; have GE147 := n3_; clear n0_ n1_ n2_ n3_; clear hb hbox hg) | ((with_reducible refine gate_dst (N := 3) rfl ?_); refine box_event ?hg (N := 3) ?hd (cs := #[.int .i64 a1_0, .int .i64 a1_1, .string a1_2]) (t := 27) ?hr ?_; (case hd => rfl); (case hg => rfl); (case hr => first | (go_simp; done) | (go_simp; rfl)); intro gb148 hg w4 hbox hb; have n0_ := Aside0.mk (blk_below (g := gb147) (o := .cells #[.int .i64 a0_0, .int .i64 a0_1, .string a0_2] 27 (0, 0)) (by (with_reducible repeat (first | refine blk_drewN ?_ _ | refine blk_drew ?_ | refine blk_alloc ?_ _)); exact BK147.out) hb); have n1_ := Aside0.mk (below_step (by repeat (first | (with_reducible first | exact HB.out | apply below_alloc | apply pw_below_drewN | apply below_drew1 | refine below_set ?_ GE147.out) | exact HB.out)) hb); have n2_ := Aside0.mk (hbox); have n3_ := Aside0.mk ((by rw [hg]; exact (below_size (by repeat (first | (with_reducible first | exact HB.out | apply below_alloc | apply pw_below_drewN | apply below_drew1 | refine below_set ?_ GE147.out) | exact HB.out))) : w.heap.size ≤ gb148)); have n4_ := Aside0.mk ((by rw [hg]; exact (below_size (by repeat (first | (with_reducible first | exact HB.out | apply below_alloc | apply pw_below_drewN | apply below_drew1 | refine below_set ?_ GE147.out) | exact HB.out))) : w.heap.size ≤ gb148)); have n5_ := Aside0.mk ((by rw [hg]; exact Nat.ne_of_lt (blk_lt (g := gb147) (o := .cells #[.int .i64 a0_0, .int .i64 a0_1, .string a0_2] 27 (0, 0)) (by (with_reducible repeat (first | refine blk_drewN ?_ _ | refine blk_drew ?_ | refine blk_alloc ?_ _)); exact BK147.out)) : gb147 ≠ gb148)); have n6_ := Aside0.mk ((by rw [hg]; exact Nat.ne_of_gt (blk_lt (g := gb147) (o := .cells #[.int .i64 a0_0, .int .i64 a0_1, .string a0_2] 27 (0, 0)) (by (with_reducible repeat (first | refine blk_drewN ?_ _ | refine blk_drew ?_ | refine blk_alloc ?_ _)); exact BK147.out)) : gb148 ≠ gb147)); clear BK147; clear HB; have BK147 := n0_; have HB := n1_; have BK148 := n2_; have GW148 := n3_; have GE148 := n4_; have NB147_148 := n5_; have NB148_147 := n6_; clear n0_ n1_ n2_ n3_ n4_ n5_ n6_; clear hb hbox hg; have hnb5 := NB147_148.out; have hnc5 := NB148_147.out; have hcz6_0 : w4.cell? ⟨gb147, 0, none⟩ = some (.int .i64 a0_0) := (blk_cell BK147.out 0).trans rfl; have hcz6_1 : w4.cell? ⟨gb147, 1, none⟩ = some (.int .i64 a0_1) := (blk_cell BK147.out 1).trans rfl; have hcz6_2 : w4.cell? ⟨gb147, 2, none⟩ = some (.string a0_2) := (blk_cell BK147.out 2).trans rfl; have hfz6_0 := blk_frozen BK147.out 0; have hfz6_1 := blk_frozen BK147.out 1; have hfz6_2 := blk_frozen BK147.out 2; have hcz7_0 : w4.cell? ⟨gb148, 0, none⟩ = some (.int .i64 a1_0) := (blk_cell BK148.out 0).trans rfl; have hcz7_1 : w4.cell? ⟨gb148, 1, none⟩ = some (.int .i64 a1_1) := (blk_cell BK148.out 1).trans rfl; have hcz7_2 : w4.cell? ⟨gb148, 2, none⟩ = some (.string a1_2) := (blk_cell BK148.out 2).trans rfl; have hfz7_0 := blk_frozen BK148.out 0; have hfz7_1 := blk_frozen BK148.out 1; have hfz7_2 := blk_frozen BK148.out 2))
  go_ret
  exact ⟨by first | rfl | (simp [errW_none, errW_some] <;> rfl) | (simp [*, errW_none, errW_some] <;> rfl), by repeat (first | (with_reducible first | exact HB.out | apply below_alloc | apply pw_below_drewN | apply below_drew1 | refine below_set ?_ GE147.out | refine below_set ?_ GE148.out) | exact HB.out)⟩

/-! ### boscageref01_Text1: function 31 -/

def boscageref01_Text1.f (a0 : ByteArray) : Option (Int × Int × ByteArray) := some (3, 0, a0)
set_option maxHeartbeats 400000 in
set_option maxRecDepth 100000 in
theorem boscageref01_Text1.calls (a0 : ByteArray) (r1 : Int) (r2 : Int) (r3 : ByteArray) (w : World) (h : boscageref01_Text1.f a0 = some (r1, r2, r3)) :
    Calls Tryd.prog 31 #[.string a0] w fun e w' => e = .returned (.agg #[.int .i64 r1, .int .i64 r2, .string r3]) ∧ Below w.heap.size w w' := by
  simp only [boscageref01_Text1.f, Option.some.injEq, Prod.mk.injEq] at h
  obtain ⟨rfl, rfl, rfl⟩ := h
  go_enter Tryd.func31, Tryd.ntmps31
  go_wp2
  refine bodyPost_ret (v := .agg #[.int .i64 3, .int .i64 0, .string a0]) (by simp [results, Tryd.results31, go_sem]) rfl ⟨rfl, ?_⟩
  repeat (first | exact Below.refl _ _ | (refine Below.alloc ?_ (by simp) _))

/-! ### boscageref01_Int1: function 32 -/

def boscageref01_Int1.f (a0 : Int) : Option (Int × Int × ByteArray) := some (2, a0, (⟨#[]⟩ : ByteArray))
set_option maxHeartbeats 400000 in
set_option maxRecDepth 100000 in
theorem boscageref01_Int1.calls (a0 : Int) (r1 : Int) (r2 : Int) (r3 : ByteArray) (w : World) (h : boscageref01_Int1.f a0 = some (r1, r2, r3)) :
    Calls Tryd.prog 32 #[.int .i64 a0] w fun e w' => e = .returned (.agg #[.int .i64 r1, .int .i64 r2, .string r3]) ∧ Below w.heap.size w w' := by
  simp only [boscageref01_Int1.f, Option.some.injEq, Prod.mk.injEq] at h
  obtain ⟨rfl, rfl, rfl⟩ := h
  go_enter Tryd.func32, Tryd.ntmps32
  go_wp2
  refine bodyPost_ret (v := .agg #[.int .i64 2, .int .i64 a0, .string (⟨#[]⟩ : ByteArray)]) (by simp [results, Tryd.results32, go_sem]) rfl ⟨rfl, ?_⟩
  repeat (first | exact Below.refl _ _ | (refine Below.alloc ?_ (by simp) _))

/-! ### boscageref01_Bool1: function 33 -/

def boscageref01_Bool1.f (a0 : Bool) : Option (Int × Int × ByteArray) := if a0 = true then (some (1, 1, (⟨#[]⟩ : ByteArray))) else (some (1, 0, (⟨#[]⟩ : ByteArray)))
set_option maxHeartbeats 400000 in
set_option maxRecDepth 100000 in
theorem boscageref01_Bool1.calls (a0 : Bool) (r1 : Int) (r2 : Int) (r3 : ByteArray) (w : World) (h : boscageref01_Bool1.f a0 = some (r1, r2, r3)) :
    Calls Tryd.prog 33 #[.bool a0] w fun e w' => e = .returned (.agg #[.int .i64 r1, .int .i64 r2, .string r3]) ∧ Below w.heap.size w w' := by
  cases a0
  · simp only [boscageref01_Bool1.f, Bool.false_eq_true, if_true, if_false, Option.some.injEq, Prod.mk.injEq] at h
    obtain ⟨rfl, rfl, rfl⟩ := h
    go_enter Tryd.func33, Tryd.ntmps33
    go_wp2
    refine bodyPost_ret (v := .agg #[.int .i64 1, .int .i64 0, .string (⟨#[]⟩ : ByteArray)]) (by simp [results, Tryd.results33, go_sem]) rfl ⟨rfl, ?_⟩
    repeat (first | exact Below.refl _ _ | (refine Below.alloc ?_ (by simp) _))
  · simp only [boscageref01_Bool1.f, if_true, if_true, if_false, Option.some.injEq, Prod.mk.injEq] at h
    obtain ⟨rfl, rfl, rfl⟩ := h
    go_enter Tryd.func33, Tryd.ntmps33
    go_wp2
    refine bodyPost_ret (v := .agg #[.int .i64 1, .int .i64 1, .string (⟨#[]⟩ : ByteArray)]) (by simp [results, Tryd.results33, go_sem]) rfl ⟨rfl, ?_⟩
    repeat (first | exact Below.refl _ _ | (refine Below.alloc ?_ (by simp) _))

/-! ### boscageref01_Blob1: function 34 -/

def boscageref01_Blob1.f (a0 : ByteArray) : Option (Int × Int × ByteArray) := some (4, 0, a0)
set_option maxHeartbeats 400000 in
set_option maxRecDepth 100000 in
theorem boscageref01_Blob1.calls (a0 : ByteArray) (r1 : Int) (r2 : Int) (r3 : ByteArray) (w : World) (h : boscageref01_Blob1.f a0 = some (r1, r2, r3)) :
    Calls Tryd.prog 34 #[.string a0] w fun e w' => e = .returned (.agg #[.int .i64 r1, .int .i64 r2, .string r3]) ∧ Below w.heap.size w w' := by
  simp only [boscageref01_Blob1.f, Option.some.injEq, Prod.mk.injEq] at h
  obtain ⟨rfl, rfl, rfl⟩ := h
  go_enter Tryd.func34, Tryd.ntmps34
  go_wp2
  refine bodyPost_ret (v := .agg #[.int .i64 4, .int .i64 0, .string a0]) (by simp [results, Tryd.results34, go_sem]) rfl ⟨rfl, ?_⟩
  repeat (first | exact Below.refl _ _ | (refine Below.alloc ?_ (by simp) _))

/-! ### boscagelaw01_live: function 10 -/
def boscagelaw01_live.f (k : Nat)  : Option (Bool) := (boscageref01_Text1.f (⟨#[105, 116, 39, 115]⟩ : ByteArray)).bind fun bt149 => ((value_Text.f bt149.1 bt149.2.1 bt149.2.2).bind fun bt152 => ((boscageref01_Int1.f 1).bind fun bt154 => ((value_RowText.f (([(⟨bt154.1, bt154.2.1, bt154.2.2⟩ : S27), (⟨0, 0, (⟨#[]⟩ : ByteArray)⟩ : S27)] : List (S27)))).bind fun bt160 => (if bt152.1.toList = ([39, 105, 116, 39, 39, 115, 39] : List UInt8) then (if bt152.2 = 0 then (if bt160.1.toList = ([40, 49, 44, 32, 78, 85, 76, 76, 41] : List UInt8) then (if bt160.2 = 0 then ((boscageref01_Bool1.f true).bind fun bt162 => ((value_Compare.f k 0 0 (⟨#[]⟩ : ByteArray) bt162.1 bt162.2.1 bt162.2.2).bind fun t165 => (if t165 = (-1) then ((boscageref01_Blob1.f (⟨#[]⟩ : ByteArray)).bind fun bt166 => ((boscageref01_Text1.f (⟨#[122]⟩ : ByteArray)).bind fun bt169 => ((value_Compare.f k bt166.1 bt166.2.1 bt166.2.2 bt169.1 bt169.2.1 bt169.2.2).bind fun t172 => (if t172 = 1 then ((boscageref01_Int1.f 3).bind fun bt173 => ((boscageref01_Int1.f 3).bind fun bt176 => ((value_Same.f bt173.1 bt173.2.1 bt173.2.2 bt176.1 bt176.2.1 bt176.2.2).bind fun t179 => (if t179 = true then ((value_Check.f k 9 0 (⟨#[]⟩ : ByteArray)).bind fun t180 => (some (t180 == 1))) else (some false))))) else (some false))))) else (some false)))) else (some false)) else (some false)) else (some false)) else (some false)))))
theorem boscagelaw01_live.mono : ∀ k, LeO (boscagelaw01_live.f k ) (boscagelaw01_live.f (k + 1) ) := by
  intro  k
  unfold boscagelaw01_live.f
  repeat' first
      | (with_reducible exact value_Check.mono _ _ _ _)
      | (with_reducible exact value_Compare.mono _ _ _ _ _ _ _)
      | (with_reducible exact LeO.refl _)
      | (with_reducible exact LeO.none _)
      | (with_reducible refine LeO.ite ?_ ?_)
      | (with_reducible refine LeO.bind ?_ (fun _ => ?_))
      | exact value_Check.mono _ _ _ _
      | exact value_Compare.mono _ _ _ _ _ _ _
      | exact LeO.none _
      | refine LeO.ite ?_ ?_
      | refine LeO.bind ?_ (fun _ => ?_)
theorem boscagelaw01_live.only (k : Nat) (r : Bool) (h : boscagelaw01_live.f k = some r) : r = true := by
  have h1 : boscagelaw01_live.f 80 = some true := by decide +kernel
  have h2 := at_rounds (fun k => boscagelaw01_live.mono k) (Nat.le_max_left k 80) h
  have h3 := at_rounds (fun k => boscagelaw01_live.mono k) (Nat.le_max_right k 80) h1
  rw [h2] at h3
  exact Option.some.inj h3
set_option maxHeartbeats 8000000 in
set_option maxRecDepth 100000 in
theorem boscagelaw01_live.calls (k : Nat)  (r : Bool) (w : World) (h : boscagelaw01_live.f k  = some r) (hok : Wv.OkW w := by first | assumption | exact Wv.OkW.below hok (by repeat (first | (with_reducible first | exact HB.out | apply below_alloc | apply pw_below_drewN | apply below_drew1) | exact HB.out | refine below_set ?_ (Aside0.out (by assumption))))) :
    Calls Tryd.prog 10 #[] w fun e w' => e = .returned (.bool r) ∧ Below w.heap.size w w' := by
  have hu27 := Tryd.underlying27
  have HB := Aside0.mk (Below.refl w.heap.size w)
  have HRT := Aside0.mk (boscagelaw01_live.only k r h)
  have H : ((boscageref01_Text1.f (⟨#[105, 116, 39, 115]⟩ : ByteArray)).bind fun bt149 => ((value_Text.f bt149.1 bt149.2.1 bt149.2.2).bind fun bt152 => ((boscageref01_Int1.f 1).bind fun bt154 => ((value_RowText.f (([(⟨bt154.1, bt154.2.1, bt154.2.2⟩ : S27), (⟨0, 0, (⟨#[]⟩ : ByteArray)⟩ : S27)] : List (S27)))).bind fun bt160 => (if bt152.1.toList = ([39, 105, 116, 39, 39, 115, 39] : List UInt8) then (if bt152.2 = 0 then (if bt160.1.toList = ([40, 49, 44, 32, 78, 85, 76, 76, 41] : List UInt8) then (if bt160.2 = 0 then ((boscageref01_Bool1.f true).bind fun bt162 => ((value_Compare.f k 0 0 (⟨#[]⟩ : ByteArray) bt162.1 bt162.2.1 bt162.2.2).bind fun t165 => (if t165 = (-1) then ((boscageref01_Blob1.f (⟨#[]⟩ : ByteArray)).bind fun bt166 => ((boscageref01_Text1.f (⟨#[122]⟩ : ByteArray)).bind fun bt169 => ((value_Compare.f k bt166.1 bt166.2.1 bt166.2.2 bt169.1 bt169.2.1 bt169.2.2).bind fun t172 => (if t172 = 1 then ((boscageref01_Int1.f 3).bind fun bt173 => ((boscageref01_Int1.f 3).bind fun bt176 => ((value_Same.f bt173.1 bt173.2.1 bt173.2.2 bt176.1 bt176.2.1 bt176.2.2).bind fun t179 => (if t179 = true then ((value_Check.f k 9 0 (⟨#[]⟩ : ByteArray)).bind fun t180 => (some (t180 == 1))) else (some false))))) else (some false))))) else (some false)))) else (some false)) else (some false)) else (some false)) else (some false)))))) = some r := h
  clear h
  replace H := Option.bind_eq_some_iff.mp H
  obtain ⟨⟨t149, t150, t151⟩, A10, H⟩ := H
  replace H : ((value_Text.f t149 t150 t151).bind fun bt152 => ((boscageref01_Int1.f 1).bind fun bt154 => ((value_RowText.f (([(⟨bt154.1, bt154.2.1, bt154.2.2⟩ : S27), (⟨0, 0, (⟨#[]⟩ : ByteArray)⟩ : S27)] : List (S27)))).bind fun bt160 => (if bt152.1.toList = ([39, 105, 116, 39, 39, 115, 39] : List UInt8) then (if bt152.2 = 0 then (if bt160.1.toList = ([40, 49, 44, 32, 78, 85, 76, 76, 41] : List UInt8) then (if bt160.2 = 0 then ((boscageref01_Bool1.f true).bind fun bt162 => ((value_Compare.f k 0 0 (⟨#[]⟩ : ByteArray) bt162.1 bt162.2.1 bt162.2.2).bind fun t165 => (if t165 = (-1) then ((boscageref01_Blob1.f (⟨#[]⟩ : ByteArray)).bind fun bt166 => ((boscageref01_Text1.f (⟨#[122]⟩ : ByteArray)).bind fun bt169 => ((value_Compare.f k bt166.1 bt166.2.1 bt166.2.2 bt169.1 bt169.2.1 bt169.2.2).bind fun t172 => (if t172 = 1 then ((boscageref01_Int1.f 3).bind fun bt173 => ((boscageref01_Int1.f 3).bind fun bt176 => ((value_Same.f bt173.1 bt173.2.1 bt173.2.2 bt176.1 bt176.2.1 bt176.2.2).bind fun t179 => (if t179 = true then ((value_Check.f k 9 0 (⟨#[]⟩ : ByteArray)).bind fun t180 => (some (t180 == 1))) else (some false))))) else (some false))))) else (some false)))) else (some false)) else (some false)) else (some false)) else (some false))))) = some r := H
  have A1 := Aside0.mk A10
  clear A10
  replace H := Option.bind_eq_some_iff.mp H
  obtain ⟨⟨t152, t153⟩, A20, H⟩ := H
  replace H : ((boscageref01_Int1.f 1).bind fun bt154 => ((value_RowText.f (([(⟨bt154.1, bt154.2.1, bt154.2.2⟩ : S27), (⟨0, 0, (⟨#[]⟩ : ByteArray)⟩ : S27)] : List (S27)))).bind fun bt160 => (if t152.toList = ([39, 105, 116, 39, 39, 115, 39] : List UInt8) then (if t153 = 0 then (if bt160.1.toList = ([40, 49, 44, 32, 78, 85, 76, 76, 41] : List UInt8) then (if bt160.2 = 0 then ((boscageref01_Bool1.f true).bind fun bt162 => ((value_Compare.f k 0 0 (⟨#[]⟩ : ByteArray) bt162.1 bt162.2.1 bt162.2.2).bind fun t165 => (if t165 = (-1) then ((boscageref01_Blob1.f (⟨#[]⟩ : ByteArray)).bind fun bt166 => ((boscageref01_Text1.f (⟨#[122]⟩ : ByteArray)).bind fun bt169 => ((value_Compare.f k bt166.1 bt166.2.1 bt166.2.2 bt169.1 bt169.2.1 bt169.2.2).bind fun t172 => (if t172 = 1 then ((boscageref01_Int1.f 3).bind fun bt173 => ((boscageref01_Int1.f 3).bind fun bt176 => ((value_Same.f bt173.1 bt173.2.1 bt173.2.2 bt176.1 bt176.2.1 bt176.2.2).bind fun t179 => (if t179 = true then ((value_Check.f k 9 0 (⟨#[]⟩ : ByteArray)).bind fun t180 => (some (t180 == 1))) else (some false))))) else (some false))))) else (some false)))) else (some false)) else (some false)) else (some false)) else (some false)))) = some r := H
  have A2 := Aside0.mk A20
  clear A20
  replace H := Option.bind_eq_some_iff.mp H
  obtain ⟨⟨t154, t155, t156⟩, A30, H⟩ := H
  replace H : ((value_RowText.f (([(⟨t154, t155, t156⟩ : S27), (⟨0, 0, (⟨#[]⟩ : ByteArray)⟩ : S27)] : List (S27)))).bind fun bt160 => (if t152.toList = ([39, 105, 116, 39, 39, 115, 39] : List UInt8) then (if t153 = 0 then (if bt160.1.toList = ([40, 49, 44, 32, 78, 85, 76, 76, 41] : List UInt8) then (if bt160.2 = 0 then ((boscageref01_Bool1.f true).bind fun bt162 => ((value_Compare.f k 0 0 (⟨#[]⟩ : ByteArray) bt162.1 bt162.2.1 bt162.2.2).bind fun t165 => (if t165 = (-1) then ((boscageref01_Blob1.f (⟨#[]⟩ : ByteArray)).bind fun bt166 => ((boscageref01_Text1.f (⟨#[122]⟩ : ByteArray)).bind fun bt169 => ((value_Compare.f k bt166.1 bt166.2.1 bt166.2.2 bt169.1 bt169.2.1 bt169.2.2).bind fun t172 => (if t172 = 1 then ((boscageref01_Int1.f 3).bind fun bt173 => ((boscageref01_Int1.f 3).bind fun bt176 => ((value_Same.f bt173.1 bt173.2.1 bt173.2.2 bt176.1 bt176.2.1 bt176.2.2).bind fun t179 => (if t179 = true then ((value_Check.f k 9 0 (⟨#[]⟩ : ByteArray)).bind fun t180 => (some (t180 == 1))) else (some false))))) else (some false))))) else (some false)))) else (some false)) else (some false)) else (some false)) else (some false))) = some r := H
  have A3 := Aside0.mk A30
  clear A30
  obtain ⟨y157, hy157⟩ : ∃ y_ : List (S27), y_ = (([(⟨t154, t155, t156⟩ : S27), (⟨0, 0, (⟨#[]⟩ : ByteArray)⟩ : S27)] : List (S27))) := ⟨_, rfl⟩
  replace H : ((value_RowText.f y157).bind fun bt160 => (if t152.toList = ([39, 105, 116, 39, 39, 115, 39] : List UInt8) then (if t153 = 0 then (if bt160.1.toList = ([40, 49, 44, 32, 78, 85, 76, 76, 41] : List UInt8) then (if bt160.2 = 0 then ((boscageref01_Bool1.f true).bind fun bt162 => ((value_Compare.f k 0 0 (⟨#[]⟩ : ByteArray) bt162.1 bt162.2.1 bt162.2.2).bind fun t165 => (if t165 = (-1) then ((boscageref01_Blob1.f (⟨#[]⟩ : ByteArray)).bind fun bt166 => ((boscageref01_Text1.f (⟨#[122]⟩ : ByteArray)).bind fun bt169 => ((value_Compare.f k bt166.1 bt166.2.1 bt166.2.2 bt169.1 bt169.2.1 bt169.2.2).bind fun t172 => (if t172 = 1 then ((boscageref01_Int1.f 3).bind fun bt173 => ((boscageref01_Int1.f 3).bind fun bt176 => ((value_Same.f bt173.1 bt173.2.1 bt173.2.2 bt176.1 bt176.2.1 bt176.2.2).bind fun t179 => (if t179 = true then ((value_Check.f k 9 0 (⟨#[]⟩ : ByteArray)).bind fun t180 => (some (t180 == 1))) else (some false))))) else (some false))))) else (some false)))) else (some false)) else (some false)) else (some false)) else (some false))) = some r := by first | (rw [hy157]; with_reducible exact H) | (have H2_ := (Option.bind_some _ _).symm.trans H; rw [hy157]; with_reducible exact H2_) | (have H2_ := (Option.bind_some _ _).symm.trans H; with_reducible exact H2_) | with_reducible exact H | (rw [hy157]; exact H) | exact H
  have Ny157 := Aside0.mk hy157
  clear hy157
  replace H := Option.bind_eq_some_iff.mp H
  obtain ⟨⟨t160, t161⟩, A40, H⟩ := H
  replace H : (if t152.toList = ([39, 105, 116, 39, 39, 115, 39] : List UInt8) then (if t153 = 0 then (if t160.toList = ([40, 49, 44, 32, 78, 85, 76, 76, 41] : List UInt8) then (if t161 = 0 then ((boscageref01_Bool1.f true).bind fun bt162 => ((value_Compare.f k 0 0 (⟨#[]⟩ : ByteArray) bt162.1 bt162.2.1 bt162.2.2).bind fun t165 => (if t165 = (-1) then ((boscageref01_Blob1.f (⟨#[]⟩ : ByteArray)).bind fun bt166 => ((boscageref01_Text1.f (⟨#[122]⟩ : ByteArray)).bind fun bt169 => ((value_Compare.f k bt166.1 bt166.2.1 bt166.2.2 bt169.1 bt169.2.1 bt169.2.2).bind fun t172 => (if t172 = 1 then ((boscageref01_Int1.f 3).bind fun bt173 => ((boscageref01_Int1.f 3).bind fun bt176 => ((value_Same.f bt173.1 bt173.2.1 bt173.2.2 bt176.1 bt176.2.1 bt176.2.2).bind fun t179 => (if t179 = true then ((value_Check.f k 9 0 (⟨#[]⟩ : ByteArray)).bind fun t180 => (some (t180 == 1))) else (some false))))) else (some false))))) else (some false)))) else (some false)) else (some false)) else (some false)) else (some false)) = some r := H
  have A4 := Aside0.mk A40
  clear A40
  by_cases c5 : t152.toList = ([39, 105, 116, 39, 39, 115, 39] : List UInt8)
  · rw [if_pos c5] at H
    have c5b0 : (t152.toList == ([39, 105, 116, 39, 39, 115, 39] : List UInt8)) = true := beq_iff_eq.mpr c5
    have c5b1 : (t152.toList != ([39, 105, 116, 39, 39, 115, 39] : List UInt8)) = false := bne_eq_false_iff_eq.mpr c5
    clear c5
    by_cases c6 : t153 = 0
    · rw [if_pos c6] at H
      have c6b0 : (t153 == 0) = true := beq_iff_eq.mpr c6
      have c6b1 : (t153 != 0) = false := bne_eq_false_iff_eq.mpr c6
      clear c6
      by_cases c7 : t160.toList = ([40, 49, 44, 32, 78, 85, 76, 76, 41] : List UInt8)
      · rw [if_pos c7] at H
        have c7b0 : (t160.toList == ([40, 49, 44, 32, 78, 85, 76, 76, 41] : List UInt8)) = true := beq_iff_eq.mpr c7
        have c7b1 : (t160.toList != ([40, 49, 44, 32, 78, 85, 76, 76, 41] : List UInt8)) = false := bne_eq_false_iff_eq.mpr c7
        clear c7
        by_cases c8 : t161 = 0
        · rw [if_pos c8] at H
          have c8b0 : (t161 == 0) = true := beq_iff_eq.mpr c8
          have c8b1 : (t161 != 0) = false := bne_eq_false_iff_eq.mpr c8
          clear c8
          replace H := Option.bind_eq_some_iff.mp H
          obtain ⟨⟨t162, t163, t164⟩, A90, H⟩ := H
          replace H : ((value_Compare.f k 0 0 (⟨#[]⟩ : ByteArray) t162 t163 t164).bind fun t165 => (if t165 = (-1) then ((boscageref01_Blob1.f (⟨#[]⟩ : ByteArray)).bind fun bt166 => ((boscageref01_Text1.f (⟨#[122]⟩ : ByteArray)).bind fun bt169 => ((value_Compare.f k bt166.1 bt166.2.1 bt166.2.2 bt169.1 bt169.2.1 bt169.2.2).bind fun t172 => (if t172 = 1 then ((boscageref01_Int1.f 3).bind fun bt173 => ((boscageref01_Int1.f 3).bind fun bt176 => ((value_Same.f bt173.1 bt173.2.1 bt173.2.2 bt176.1 bt176.2.1 bt176.2.2).bind fun t179 => (if t179 = true then ((value_Check.f k 9 0 (⟨#[]⟩ : ByteArray)).bind fun t180 => (some (t180 == 1))) else (some false))))) else (some false))))) else (some false))) = some r := H
          have A9 := Aside0.mk A90
          clear A90
          replace H := Option.bind_eq_some_iff.mp H
          obtain ⟨t165, A100, H⟩ := H
          replace H : (if t165 = (-1) then ((boscageref01_Blob1.f (⟨#[]⟩ : ByteArray)).bind fun bt166 => ((boscageref01_Text1.f (⟨#[122]⟩ : ByteArray)).bind fun bt169 => ((value_Compare.f k bt166.1 bt166.2.1 bt166.2.2 bt169.1 bt169.2.1 bt169.2.2).bind fun t172 => (if t172 = 1 then ((boscageref01_Int1.f 3).bind fun bt173 => ((boscageref01_Int1.f 3).bind fun bt176 => ((value_Same.f bt173.1 bt173.2.1 bt173.2.2 bt176.1 bt176.2.1 bt176.2.2).bind fun t179 => (if t179 = true then ((value_Check.f k 9 0 (⟨#[]⟩ : ByteArray)).bind fun t180 => (some (t180 == 1))) else (some false))))) else (some false))))) else (some false)) = some r := H
          have A10 := Aside0.mk A100
          clear A100
          by_cases c11 : t165 = (-1)
          · rw [if_pos c11] at H
            have c11b0 : (t165 == (-1)) = true := beq_iff_eq.mpr c11
            have c11b1 : (t165 != (-1)) = false := bne_eq_false_iff_eq.mpr c11
            clear c11
            replace H := Option.bind_eq_some_iff.mp H
            obtain ⟨⟨t166, t167, t168⟩, A120, H⟩ := H
            replace H : ((boscageref01_Text1.f (⟨#[122]⟩ : ByteArray)).bind fun bt169 => ((value_Compare.f k t166 t167 t168 bt169.1 bt169.2.1 bt169.2.2).bind fun t172 => (if t172 = 1 then ((boscageref01_Int1.f 3).bind fun bt173 => ((boscageref01_Int1.f 3).bind fun bt176 => ((value_Same.f bt173.1 bt173.2.1 bt173.2.2 bt176.1 bt176.2.1 bt176.2.2).bind fun t179 => (if t179 = true then ((value_Check.f k 9 0 (⟨#[]⟩ : ByteArray)).bind fun t180 => (some (t180 == 1))) else (some false))))) else (some false)))) = some r := H
            have A12 := Aside0.mk A120
            clear A120
            replace H := Option.bind_eq_some_iff.mp H
            obtain ⟨⟨t169, t170, t171⟩, A130, H⟩ := H
            replace H : ((value_Compare.f k t166 t167 t168 t169 t170 t171).bind fun t172 => (if t172 = 1 then ((boscageref01_Int1.f 3).bind fun bt173 => ((boscageref01_Int1.f 3).bind fun bt176 => ((value_Same.f bt173.1 bt173.2.1 bt173.2.2 bt176.1 bt176.2.1 bt176.2.2).bind fun t179 => (if t179 = true then ((value_Check.f k 9 0 (⟨#[]⟩ : ByteArray)).bind fun t180 => (some (t180 == 1))) else (some false))))) else (some false))) = some r := H
            have A13 := Aside0.mk A130
            clear A130
            replace H := Option.bind_eq_some_iff.mp H
            obtain ⟨t172, A140, H⟩ := H
            replace H : (if t172 = 1 then ((boscageref01_Int1.f 3).bind fun bt173 => ((boscageref01_Int1.f 3).bind fun bt176 => ((value_Same.f bt173.1 bt173.2.1 bt173.2.2 bt176.1 bt176.2.1 bt176.2.2).bind fun t179 => (if t179 = true then ((value_Check.f k 9 0 (⟨#[]⟩ : ByteArray)).bind fun t180 => (some (t180 == 1))) else (some false))))) else (some false)) = some r := H
            have A14 := Aside0.mk A140
            clear A140
            by_cases c15 : t172 = 1
            · rw [if_pos c15] at H
              have c15b0 : (t172 == 1) = true := beq_iff_eq.mpr c15
              have c15b1 : (t172 != 1) = false := bne_eq_false_iff_eq.mpr c15
              clear c15
              replace H := Option.bind_eq_some_iff.mp H
              obtain ⟨⟨t173, t174, t175⟩, A160, H⟩ := H
              replace H : ((boscageref01_Int1.f 3).bind fun bt176 => ((value_Same.f t173 t174 t175 bt176.1 bt176.2.1 bt176.2.2).bind fun t179 => (if t179 = true then ((value_Check.f k 9 0 (⟨#[]⟩ : ByteArray)).bind fun t180 => (some (t180 == 1))) else (some false)))) = some r := H
              have A16 := Aside0.mk A160
              clear A160
              replace H := Option.bind_eq_some_iff.mp H
              obtain ⟨⟨t176, t177, t178⟩, A170, H⟩ := H
              replace H : ((value_Same.f t173 t174 t175 t176 t177 t178).bind fun t179 => (if t179 = true then ((value_Check.f k 9 0 (⟨#[]⟩ : ByteArray)).bind fun t180 => (some (t180 == 1))) else (some false))) = some r := H
              have A17 := Aside0.mk A170
              clear A170
              obtain ⟨rfl, rfl, rfl⟩ : t173 = t176 ∧ t174 = t177 ∧ t175 = t178 := by have E := A16.out.symm.trans A17.out; simp only [Option.some.injEq, Prod.mk.injEq] at E; exact ⟨E.1, E.2.1, E.2.2⟩
              replace H := Option.bind_eq_some_iff.mp H
              obtain ⟨t179, A180, H⟩ := H
              replace H : (if t179 = true then ((value_Check.f k 9 0 (⟨#[]⟩ : ByteArray)).bind fun t180 => (some (t180 == 1))) else (some false)) = some r := H
              have A18 := Aside0.mk A180
              clear A180
              by_cases c19 : t179 = true
              · subst c19
                have H1 : ((value_Check.f k 9 0 (⟨#[]⟩ : ByteArray)).bind fun t180 => (some (t180 == 1))) = some r := by rw [if_pos rfl] at H; exact H
                clear H
                have H := H1
                clear H1
                replace H := Option.bind_eq_some_iff.mp H
                obtain ⟨t180, A200, H⟩ := H
                replace H : (some (t180 == 1)) = some r := H
                have A20 := Aside0.mk A200
                clear A200
                obtain rfl := Option.some.inj H
                go_enter Tryd.func10, Tryd.ntmps10
                go_wp2_with (first | ((with_reducible refine gate_callee (f := 31) rfl ?_); refine goesL_ (some 6) rfl rfl Tryd.func31 (by kernel_rfl) rfl #[.string (⟨#[105, 116, 39, 115]⟩ : ByteArray)] rfl (by (try simp only [List.map_toArray, List.map_cons, List.map_nil]); first | done | rfl | (simp only [List.length_drop, List.length_take]; rfl)) ?_; (with_reducible refine (boscageref01_Text1.calls (⟨#[105, 116, 39, 115]⟩ : ByteArray) t149 t150 t151 _ A1.out).mono ?_); rintro e w21 ⟨rfl, hb⟩; refine ⟨_, rfl, ?_⟩; have n0_ := Aside0.mk (below_step (by repeat (first | (with_reducible first | exact HB.out | apply below_alloc | apply pw_below_drewN | apply below_drew1) | exact HB.out)) hb); clear HB; have HB := n0_; clear n0_; (try clear hb); (try clear hb2); (try clear hk); (try clear hi)) | ((with_reducible refine gate_callee (f := 12) rfl ?_); refine goesL_ (some 7) rfl rfl Tryd.func12 (by kernel_rfl) rfl #[.agg #[.int .i64 t149, .int .i64 t150, .string t151]] rfl (by (try simp only [List.map_toArray, List.map_cons, List.map_nil]); first | done | rfl | (simp only [List.length_drop, List.length_take]; rfl)) ?_; (with_reducible refine (value_Text.calls t149 t150 t151 t152 t153 _ A2.out).mono ?_); rintro e w22 ⟨rfl, hb⟩; refine ⟨_, rfl, ?_⟩; have n0_ := Aside0.mk (below_step (by repeat (first | (with_reducible first | exact HB.out | apply below_alloc | apply pw_below_drewN | apply below_drew1) | exact HB.out)) hb); clear HB; have HB := n0_; clear n0_; (try clear hb); (try clear hb2); (try clear hk); (try clear hi)) | ((with_reducible refine gate_callee (f := 32) rfl ?_); refine goesL_ (some 11) rfl rfl Tryd.func32 (by kernel_rfl) rfl #[.int .i64 1] rfl (by (try simp only [List.map_toArray, List.map_cons, List.map_nil]); first | done | rfl | (simp only [List.length_drop, List.length_take]; rfl)) ?_; (with_reducible refine (boscageref01_Int1.calls 1 t154 t155 t156 _ A3.out).mono ?_); rintro e w23 ⟨rfl, hb⟩; refine ⟨_, rfl, ?_⟩; have n0_ := Aside0.mk (below_step (by repeat (first | (with_reducible first | exact HB.out | apply below_alloc | apply pw_below_drewN | apply below_drew1) | exact HB.out)) hb); clear HB; have HB := n0_; clear n0_; (try clear hb); (try clear hb2); (try clear hk); (try clear hi)) | ((with_reducible refine gate_dst (N := 13) rfl ?_); refine Kd.R_lit k27 _ 27 ?hg (N := 13) ?hd (xs := ([(⟨t154, t155, t156⟩ : S27), (⟨0, 0, (⟨#[]⟩ : ByteArray)⟩ : S27)] : List (S27))) (inner := [.int .i64 t154, .int .i64 t155, .string t156, .int .i64 0, .int .i64 0, .string (⟨#[]⟩ : ByteArray)]) (ok := fun _ => True) (okp := fun _ => True) ?hr ?hp (fun _ hk => hk) trivial (Below.refl _ _) (Nat.le_refl _) (by simp) ?_; (case hd => rfl); (case hg => rfl); (case hr => first | (go_simp; done) | (go_simp; rfl)); (case hp => exact (Reps.c3 (show Kd.M k27 _ _ _ (⟨t154, t155, t156⟩ : S27) [.int .i64 t154, .int .i64 t155, .string t156] from (k27_mkM _ _ _ (⟨t154, t155, t156⟩ : S27) )) (Reps.c3 (show Kd.M k27 _ _ _ (⟨0, 0, (⟨#[]⟩ : ByteArray)⟩ : S27) [.int .i64 0, .int .i64 0, .string (⟨#[]⟩ : ByteArray)] from (k27_mkM _ _ _ (⟨0, 0, (⟨#[]⟩ : ByteArray)⟩ : S27) )) (Reps.none _ _)))); intro v158 w24 ho25 hb hg_ hnew_; clear hg_ hnew_; (first | rw [← Ny157.out] at ho25 | (simp only [Int.reduceToNat] at ho25; rw [← Ny157.out] at ho25)); have n0_ := Aside0.mk (Kd.R_lower ho25 (below_size (by repeat (first | (with_reducible first | exact HB.out | apply below_alloc | apply pw_below_drewN | apply below_drew1) | exact HB.out)))); have n1_ := Aside0.mk (below_step (by repeat (first | (with_reducible first | exact HB.out | apply below_alloc | apply pw_below_drewN | apply below_drew1) | exact HB.out)) hb); clear HB; have HO159 := n0_; have HB := n1_; clear n0_ n1_; clear hb ho25; obtain ⟨Ao26, co26, eo26⟩ := Kd.R_slice HO159.out; subst eo26) | ((with_reducible refine gate_callee (f := 14) rfl ?_); refine goesL_ (some 14) rfl rfl Tryd.func14 (by kernel_rfl) rfl #[.slice Ao26 y157.length co26] rfl (by (try simp only [List.map_toArray, List.map_cons, List.map_nil]); first | done | rfl | (simp only [List.length_drop, List.length_take]; rfl)) ?_; (with_reducible refine (value_RowText.calls _ _ y157 t160 t161 _ ?side1 ?side2 A4.out).mono ?_); (case side1 => repeat (first | exact (Kd.R_reads' HO159.out).2.2 | (with_reducible refine Kd.C_alloc ?_ _) | (with_reducible refine Kd.C_drewN ?_ _) | (with_reducible refine Kd.C_drew ?_))); (case side2 => exact (Kd.R_reads' HO159.out).2.1); rintro e w27 ⟨rfl, hb⟩; refine ⟨_, rfl, ?_⟩; have n0_ := Aside0.mk (Kd.R_below (by (with_reducible repeat (first | apply Kd.R_alloc | apply Kd.R_drewN | apply Kd.R_drew)); exact HO159.out) hb); have n1_ := Aside0.mk (below_step (by repeat (first | (with_reducible first | exact HB.out | apply below_alloc | apply pw_below_drewN | apply below_drew1) | exact HB.out)) hb); clear HO159; clear HB; have HO159 := n0_; have HB := n1_; clear n0_ n1_; (try clear hb); (try clear hb2); (try clear hk); (try clear hi)) | (go_at_call 33; (with_reducible refine (boscageref01_Bool1.calls true t162 t163 t164 _ A9.out).mono ?_); rintro e w28 ⟨rfl, hb⟩; have n0_ := Aside0.mk (Kd.R_below (by (with_reducible repeat (first | apply Kd.R_alloc | apply Kd.R_drewN | apply Kd.R_drew)); exact HO159.out) hb); have n1_ := Aside0.mk (below_step (by repeat (first | (with_reducible first | exact HB.out | apply below_alloc | apply pw_below_drewN | apply below_drew1) | exact HB.out)) hb); clear HO159; clear HB; have HO159 := n0_; have HB := n1_; clear n0_ n1_; (try clear hb); (try clear hb2); (try clear hk); (try clear hi)) | (go_at_call 17; (with_reducible refine (value_Compare.calls k 0 0 (⟨#[]⟩ : ByteArray) t162 t163 t164 t165 _ A10.out).mono ?_); rintro e w29 ⟨rfl, hb⟩; have n0_ := Aside0.mk (Kd.R_below (by (with_reducible repeat (first | apply Kd.R_alloc | apply Kd.R_drewN | apply Kd.R_drew)); exact HO159.out) hb); have n1_ := Aside0.mk (below_step (by repeat (first | (with_reducible first | exact HB.out | apply below_alloc | apply pw_below_drewN | apply below_drew1) | exact HB.out)) hb); clear HO159; clear HB; have HO159 := n0_; have HB := n1_; clear n0_ n1_; (try clear hb); (try clear hb2); (try clear hk); (try clear hi)) | (go_at_call 34; (with_reducible refine (boscageref01_Blob1.calls (⟨#[]⟩ : ByteArray) t166 t167 t168 _ A12.out).mono ?_); rintro e w30 ⟨rfl, hb⟩; have n0_ := Aside0.mk (Kd.R_below (by (with_reducible repeat (first | apply Kd.R_alloc | apply Kd.R_drewN | apply Kd.R_drew)); exact HO159.out) hb); have n1_ := Aside0.mk (below_step (by repeat (first | (with_reducible first | exact HB.out | apply below_alloc | apply pw_below_drewN | apply below_drew1) | exact HB.out)) hb); clear HO159; clear HB; have HO159 := n0_; have HB := n1_; clear n0_ n1_; (try clear hb); (try clear hb2); (try clear hk); (try clear hi)) | (go_at_call 31; (with_reducible refine (boscageref01_Text1.calls (⟨#[122]⟩ : ByteArray) t169 t170 t171 _ A13.out).mono ?_); rintro e w31 ⟨rfl, hb⟩; have n0_ := Aside0.mk (Kd.R_below (by (with_reducible repeat (first | apply Kd.R_alloc | apply Kd.R_drewN | apply Kd.R_drew)); exact HO159.out) hb); have n1_ := Aside0.mk (below_step (by repeat (first | (with_reducible first | exact HB.out | apply below_alloc | apply pw_below_drewN | apply below_drew1) | exact HB.out)) hb); clear HO159; clear HB; have HO159 := n0_; have HB := n1_; clear n0_ n1_; (try clear hb); (try clear hb2); (try clear hk); (try clear hi)) | (go_at_call 17; (with_reducible refine (value_Compare.calls k t166 t167 t168 t169 t170 t171 t172 _ A14.out).mono ?_); rintro e w32 ⟨rfl, hb⟩; have n0_ := Aside0.mk (Kd.R_below (by (with_reducible repeat (first | apply Kd.R_alloc | apply Kd.R_drewN | apply Kd.R_drew)); exact HO159.out) hb); have n1_ := Aside0.mk (below_step (by repeat (first | (with_reducible first | exact HB.out | apply below_alloc | apply pw_below_drewN | apply below_drew1) | exact HB.out)) hb); clear HO159; clear HB; have HO159 := n0_; have HB := n1_; clear n0_ n1_; (try clear hb); (try clear hb2); (try clear hk); (try clear hi)) | (go_at_call 32; (with_reducible refine (boscageref01_Int1.calls 3 t173 t174 t175 _ A16.out).mono ?_); rintro e w33 ⟨rfl, hb⟩; have n0_ := Aside0.mk (Kd.R_below (by (with_reducible repeat (first | apply Kd.R_alloc | apply Kd.R_drewN | apply Kd.R_drew)); exact HO159.out) hb); have n1_ := Aside0.mk (below_step (by repeat (first | (with_reducible first | exact HB.out | apply below_alloc | apply pw_below_drewN | apply below_drew1) | exact HB.out)) hb); clear HO159; clear HB; have HO159 := n0_; have HB := n1_; clear n0_ n1_; (try clear hb); (try clear hb2); (try clear hk); (try clear hi)) | (go_at_call 32; (with_reducible refine (boscageref01_Int1.calls 3 t173 t174 t175 _ A17.out).mono ?_); rintro e w34 ⟨rfl, hb⟩; have n0_ := Aside0.mk (Kd.R_below (by (with_reducible repeat (first | apply Kd.R_alloc | apply Kd.R_drewN | apply Kd.R_drew)); exact HO159.out) hb); have n1_ := Aside0.mk (below_step (by repeat (first | (with_reducible first | exact HB.out | apply below_alloc | apply pw_below_drewN | apply below_drew1) | exact HB.out)) hb); clear HO159; clear HB; have HO159 := n0_; have HB := n1_; clear n0_ n1_; (try clear hb); (try clear hb2); (try clear hk); (try clear hi)) | (go_at_call 16; (with_reducible refine (value_Same.calls t173 t174 t175 t173 t174 t175 true _ A18.out).mono ?_); rintro e w35 ⟨rfl, hb⟩; have n0_ := Aside0.mk (Kd.R_below (by (with_reducible repeat (first | apply Kd.R_alloc | apply Kd.R_drewN | apply Kd.R_drew)); exact HO159.out) hb); have n1_ := Aside0.mk (below_step (by repeat (first | (with_reducible first | exact HB.out | apply below_alloc | apply pw_below_drewN | apply below_drew1) | exact HB.out)) hb); clear HO159; clear HB; have HO159 := n0_; have HB := n1_; clear n0_ n1_; (try clear hb); (try clear hb2); (try clear hk); (try clear hi)) | (go_at_call 18; (with_reducible refine (value_Check.calls k 9 0 (⟨#[]⟩ : ByteArray) t180 _ A20.out).mono ?_); rintro e w36 ⟨rfl, hb⟩; have n0_ := Aside0.mk (Kd.R_below (by (with_reducible repeat (first | apply Kd.R_alloc | apply Kd.R_drewN | apply Kd.R_drew)); exact HO159.out) hb); have n1_ := Aside0.mk (below_step (by repeat (first | (with_reducible first | exact HB.out | apply below_alloc | apply pw_below_drewN | apply below_drew1) | exact HB.out)) hb); clear HO159; clear HB; have HO159 := n0_; have HB := n1_; clear n0_ n1_; (try clear hb); (try clear hb2); (try clear hk); (try clear hi)))
                go_ret
                exact ⟨by first | rfl | (simp [errW_none, errW_some] <;> rfl) | (simp [*, errW_none, errW_some] <;> rfl), by repeat (first | (with_reducible first | exact HB.out | apply below_alloc | apply pw_below_drewN | apply below_drew1) | exact HB.out)⟩
              · replace c19 := Bool.eq_false_iff.mpr c19
                subst c19
                have H1 : (some false) = some r := by rw [if_neg (show ¬ (false = true) by decide)] at H; exact H
                clear H
                have H := H1
                clear H1
                exact absurd ((Option.some.inj H).trans HRT.out) Bool.false_ne_true
            · rw [if_neg c15] at H
              have c15b0 : (t172 == 1) = false := beq_eq_false_iff_ne.mpr c15
              have c15b1 : (t172 != 1) = true := bne_iff_ne.mpr c15
              exact absurd ((Option.some.inj H).trans HRT.out) Bool.false_ne_true
          · rw [if_neg c11] at H
            have c11b0 : (t165 == (-1)) = false := beq_eq_false_iff_ne.mpr c11
            have c11b1 : (t165 != (-1)) = true := bne_iff_ne.mpr c11
            exact absurd ((Option.some.inj H).trans HRT.out) Bool.false_ne_true
        · rw [if_neg c8] at H
          have c8b0 : (t161 == 0) = false := beq_eq_false_iff_ne.mpr c8
          have c8b1 : (t161 != 0) = true := bne_iff_ne.mpr c8
          exact absurd ((Option.some.inj H).trans HRT.out) Bool.false_ne_true
      · rw [if_neg c7] at H
        have c7b0 : (t160.toList == ([40, 49, 44, 32, 78, 85, 76, 76, 41] : List UInt8)) = false := beq_eq_false_iff_ne.mpr c7
        have c7b1 : (t160.toList != ([40, 49, 44, 32, 78, 85, 76, 76, 41] : List UInt8)) = true := bne_iff_ne.mpr c7
        exact absurd ((Option.some.inj H).trans HRT.out) Bool.false_ne_true
    · rw [if_neg c6] at H
      have c6b0 : (t153 == 0) = false := beq_eq_false_iff_ne.mpr c6
      have c6b1 : (t153 != 0) = true := bne_iff_ne.mpr c6
      exact absurd ((Option.some.inj H).trans HRT.out) Bool.false_ne_true
  · rw [if_neg c5] at H
    have c5b0 : (t152.toList == ([39, 105, 116, 39, 39, 115, 39] : List UInt8)) = false := beq_eq_false_iff_ne.mpr c5
    have c5b1 : (t152.toList != ([39, 105, 116, 39, 39, 115, 39] : List UInt8)) = true := bne_iff_ne.mpr c5
    exact absurd ((Option.some.inj H).trans HRT.out) Bool.false_ne_true

-- NOT PRINTED: function 47 (api_Value_47)

/-! ### value_CompareRows: function 24 -/
def cmpF (a b : S27) : Int := (value_Compare.f 4 a.f0 a.f1 a.f2 b.f0 b.f1 b.f2).getD 0
def cmpL : List S27 → List S27 → Int
  | [], [] => 0
  | [], _ :: _ => -1
  | _ :: _, [] => 1
  | a :: x, b :: y => if cmpF a b = 0 then cmpL x y else cmpF a b
def value_CompareRows.f (l0 : List S27) (l1 : List S27) : Option Int := if l0.length ≤ 9223372036854775807 ∧ l1.length ≤ 9223372036854775807 then some (cmpL l0 l1) else none
theorem or3 (v1 v2 v3 : Int) : cmp_Or_int.f 4 [v1, v2, v3] = some (if v1 = 0 then if v2 = 0 then v3 else v2 else v1) := by
  have w1 : wrap64 (0 + 1) = 1 := by unfold wrap64; omega
  have w2 : wrap64 (1 + 1) = 2 := by unfold wrap64; omega
  have w3 : wrap64 (2 + 1) = 3 := by unfold wrap64; omega
  have r0 : rd [v1, v2, v3] 0 = v1 := rfl
  have r1 : rd [v1, v2, v3] 1 = v2 := rfl
  have r2 : rd [v1, v2, v3] 2 = v3 := rfl
  have l0 : (([v1, v2, v3] : List Int).length : Int) = 3 := rfl
  unfold cmp_Or_int.f
  rw [l0]
  simp only [cmp_Or_int.l0, l0, w1, w2, w3, r0, r1, r2, Int.reduceLT, Int.reduceLE, if_true, if_false]
  by_cases h1 : v1 = 0
  · by_cases h2 : v2 = 0
    · by_cases h3 : v3 = 0 <;> simp [h1, h2, h3]
    · simp [h1, h2]
  · simp [h1]
theorem cmpF_at (a b : S27) : value_Compare.f 4 a.f0 a.f1 a.f2 b.f0 b.f1 b.f2 = some (cmpF a b) := by
  have h : (value_Compare.f 4 a.f0 a.f1 a.f2 b.f0 b.f1 b.f2).isSome = true := by
    unfold value_Compare.f
    generalize e1 : cmp_Compare_int.f a.f0 b.f0 = o1
    generalize e2 : cmp_Compare_int64.f a.f1 b.f1 = o2
    generalize e3 : strings_Compare.f a.f2 b.f2 = o3
    have h1 : o1.isSome = true := by rw [← e1]; simp only [cmp_Compare_int.f, cmp_isNaN_int.f, Option.bind_some]; repeat' (first | rfl | apply isSome_ite)
    have h2 : o2.isSome = true := by rw [← e2]; simp only [cmp_Compare_int64.f, cmp_isNaN_int64.f, Option.bind_some]; repeat' (first | rfl | apply isSome_ite)
    have h3 : o3.isSome = true := by rw [← e3]; rfl
    obtain ⟨v1, rfl⟩ := Option.isSome_iff_exists.mp h1
    obtain ⟨v2, rfl⟩ := Option.isSome_iff_exists.mp h2
    obtain ⟨v3, rfl⟩ := Option.isSome_iff_exists.mp h3
    simp only [Option.bind_some, or3]
    rfl
  unfold cmpF
  generalize value_Compare.f 4 a.f0 a.f1 a.f2 b.f0 b.f1 b.f2 = o at h ⊢
  cases o with
  | none => cases h
  | some e => rfl
theorem drop_rd (l : List S27) (k : Nat) (h : k < l.length) : l.drop k = rd_T27 l (k : Int) :: l.drop (k + 1) := by
  rw [List.drop_eq_getElem_cons h]
  congr 1
  unfold rd_T27
  rw [Int.toNat_natCast, List.getD_eq_getElem?_getD, List.getElem?_eq_getElem h, Option.getD_some]
theorem cmpL_step (l0 l1 : List S27) (k : Nat) (h0 : k < l0.length) (h1 : k < l1.length) :
    cmpL (l0.drop k) (l1.drop k) = if cmpF (rd_T27 l0 k) (rd_T27 l1 k) = 0 then cmpL (l0.drop (k + 1)) (l1.drop (k + 1)) else cmpF (rd_T27 l0 k) (rd_T27 l1 k) := by
  rw [drop_rd l0 k h0, drop_rd l1 k h1]; rfl
theorem cmpL_one (l0 l1 : List S27) (k : Nat) (h0 : k < l0.length) (h1 : k = l1.length) : cmpL (l0.drop k) (l1.drop k) = 1 := by
  rw [drop_rd l0 k h0, h1, List.drop_length]; rfl
theorem cmpL_end (l0 l1 : List S27) (k : Nat) (h0 : k = l0.length) (h1 : k ≤ l1.length) : cmpL (l0.drop k) (l1.drop k) = if k < l1.length then -1 else 0 := by
  have e : l0.drop k = [] := by rw [h0, List.drop_length]
  rw [e]
  by_cases h : k < l1.length
  · rw [if_pos h, drop_rd l1 k h]; rfl
  · rw [if_neg h, show l1.drop k = [] from List.drop_eq_nil_of_le (by omega)]; rfl
set_option maxHeartbeats 4000000 in
set_option maxRecDepth 100000 in
theorem cmp_walk (A0 : Option Addr) (c0 : Nat) (l0 : List S27) (A1 : Option Addr) (c1 : Nat) (l1 : List S27) (w : World) (hr0 : Kd.C k27 w A0 l0.length l0) (hr1 : Kd.C k27 w A1 l1.length l1) (hn0 : l0.length ≤ 9223372036854775807) (hn1 : l1.length ≤ 9223372036854775807) :
    Calls Tryd.prog 47 #[.slice A0 l0.length c0, .slice A1 l1.length c1, .func (.func 17) #[] #[]] w fun e w' => e = .returned (.int .i64 (cmpL l0 l1)) ∧ Below w.heap.size w w' := by
  have HR0 := Aside0.mk hr0
  have HR1 := Aside0.mk hr1
  have HN0 := Aside0.mk hn0
  have HN1 := Aside0.mk hn1
  clear hr0 hr1 hn0 hn1
  go_enter Tryd.func47, Tryd.ntmps47
  go_wp2
  go_loopg [6, 13] l0.length (fun gg _ s13 wr => ∃ kk : Nat, Aside0 (kk ≤ l0.length) ∧ Aside0 (kk ≤ l1.length) ∧ Aside0 (l0.length - kk ≤ gg) ∧ s13 = .int .i64 kk ∧ Aside0 (Below w.heap.size w wr) ∧ Aside0 (cmpL l0 l1 = cmpL (l0.drop kk) (l1.drop kk)))
  case atStart => exact ⟨0, ⟨Nat.zero_le _⟩, ⟨Nat.zero_le _⟩, ⟨Nat.le_refl _⟩, rfl, ⟨Below.refl _ w⟩, ⟨rfl⟩⟩
  case round =>
    obtain ⟨kk, hkk, hkl, hg, rfl, HB, A⟩ := hrel
    by_cases hlt : kk < l0.length
    · have p109 : 0 ≤ (kk : Int) := Int.natCast_nonneg kk
      have q109 : (kk : Int) < (l0.length : Int) := by omega
      obtain ⟨ad109, e109, hx0, hx1, hx2⟩ := at_T27 HR0.out kk p109 q109
      cases e109
      replace hx0 := (HB.out.cell (World.block_lt_of_cell? w _ hx0)).trans hx0
      replace hx1 := (HB.out.cell (World.block_lt_of_cell? w _ hx1)).trans hx1
      replace hx2 := (HB.out.cell (World.block_lt_of_cell? w _ hx2)).trans hx2
      simp only [Int.toNat_natCast] at hx0 hx1 hx2
      by_cases hlt1 : kk < l1.length
      · have q110 : (kk : Int) < (l1.length : Int) := by omega
        obtain ⟨ad110, e110, hy0, hy1, hy2⟩ := at_T27 HR1.out kk p109 q110
        cases e110
        replace hy0 := (HB.out.cell (World.block_lt_of_cell? w _ hy0)).trans hy0
        replace hy1 := (HB.out.cell (World.block_lt_of_cell? w _ hy1)).trans hy1
        replace hy2 := (HB.out.cell (World.block_lt_of_cell? w _ hy2)).trans hy2
        simp only [Int.toNat_natCast] at hy0 hy1 hy2
        have hst := Aside0.mk (cmpL_step l0 l1 kk hlt hlt1)
        have hlen := Aside0.mk hlt
        have hlen1 := Aside0.mk hlt1
        have hw : Aside0 (wrap64 ((kk : Int) + 1) = ((kk + 1 : Nat) : Int)) := ⟨by have := HN0.out; unfold wrap64; omega⟩
        have hge : decide (l1.length ≤ kk) = false := decide_eq_false (by omega)
        have hge' : decide ((l1.length : Int) ≤ (kk : Int)) = false := decide_eq_false (by omega)
        replace p109 := eq_true p109
        replace q109 := eq_true q109
        replace q110 := eq_true q110
        generalize hy : rd_T27 l0 (kk : Int) = y at hx0 hx1 hx2 hst
        generalize hz : rd_T27 l1 (kk : Int) = z at hy0 hy1 hy2 hst
        clear hy hz hlt hlt1
        have hB1 := Aside0.mk ((Below.refl wr.heap.size wr).alloc (Nat.le_refl _) (.cells #[.int .i64 y.f0, .int .i64 y.f1, .string y.f2] 27))
        have hz0 := (hB1.out.cell (World.block_lt_of_cell? wr _ hy0)).trans hy0
        have hz1 := (hB1.out.cell (World.block_lt_of_cell? wr _ hy1)).trans hy1
        have hz2 := (hB1.out.cell (World.block_lt_of_cell? wr _ hy2)).trans hy2
        by_cases hq : cmpF y z = 0
        · go_wp2_with fail
          refine (value_Compare.calls 4 y.f0 y.f1 y.f2 z.f0 z.f1 z.f2 (cmpF y z) _ (cmpF_at y z)).mono ?_
          rintro e w' ⟨rfl, hb'⟩
          have HC := Aside0.mk (below_step ((HB.out.alloc HB.out.size _).alloc (by have := HB.out.size; simp; omega) _) hb')
          clear hb'
          rw [hq]
          go_wp2
          go_roundg (l0.length - (kk + 1))
          case measure => have := hlen.out; have := hg.out; omega
          case rel =>
            refine ⟨kk + 1, ⟨hlen.out⟩, ⟨hlen1.out⟩, ⟨Nat.le_refl _⟩, ?_, ⟨HC.out⟩, ⟨?_⟩⟩
            · first | rw [hw.out] | go_num
            · rw [A.out, hst.out, if_pos hq]
        · have hq' : (cmpF y z == 0) = false := by simpa using hq
          have hq2 : (cmpF y z != 0) = true := by simpa using hq
          go_wp2_with fail
          refine (value_Compare.calls 4 y.f0 y.f1 y.f2 z.f0 z.f1 z.f2 (cmpF y z) _ (cmpF_at y z)).mono ?_
          rintro e w' ⟨rfl, hb'⟩
          have HC := Aside0.mk (below_step ((HB.out.alloc HB.out.size _).alloc (by have := HB.out.size; simp; omega) _) hb')
          clear hb'
          go_wp2
          go_ret
          refine ⟨?_, HC.out⟩
          rw [A.out, hst.out, if_neg hq]; rfl
      · have hge : decide (l1.length ≤ kk) = true := decide_eq_true (by omega)
        have hge' : decide ((l1.length : Int) ≤ (kk : Int)) = true := decide_eq_true (by omega)
        have hone := Aside0.mk (cmpL_one l0 l1 kk hlt (by have := hkl.out; omega))
        replace p109 := eq_true p109
        replace q109 := eq_true q109
        clear hlt hlt1
        go_wp2
        go_ret
        refine ⟨?_, HB.out.alloc HB.out.size _⟩
        rw [A.out, hone.out]; rfl
    · have hltz : ¬ (kk : Int) < (l0.length : Int) := by omega
      have hk : kk = l0.length := by have := hkk.out; omega
      have hend := Aside0.mk (cmpL_end l0 l1 kk hk hkl.out)
      have HK := Aside0.mk hk
      clear hlt hk
      by_cases hq : l0.length < l1.length
      · have hq' : decide (l0.length < l1.length) = true := decide_eq_true hq
        go_wp2
        go_ret
        refine ⟨?_, HB.out⟩
        rw [A.out, hend.out, if_pos (by rw [HK.out]; exact hq)]; rfl
      · have hq' : decide (l0.length < l1.length) = false := decide_eq_false hq
        go_wp2
        go_ret
        refine ⟨?_, HB.out⟩
        rw [A.out, hend.out, if_neg (by rw [HK.out]; exact hq)]; rfl
theorem value_CompareRows.calls (A0 : Option Addr) (c0 : Nat) (l0 : List S27) (A1 : Option Addr) (c1 : Nat) (l1 : List S27) (r : Int) (w : World) (hr0 : Kd.C k27 w A0 l0.length l0) (hc0 : l0.length ≤ c0) (hr1 : Kd.C k27 w A1 l1.length l1) (hc1 : l1.length ≤ c1) (h : value_CompareRows.f l0 l1 = some r) :
    Calls Tryd.prog 24 #[.slice A0 l0.length c0, .slice A1 l1.length c1] w fun e w' => e = .returned (.int .i64 r) ∧ Below w.heap.size w w' := by
  unfold value_CompareRows.f at h
  by_cases hn : l0.length ≤ 9223372036854775807 ∧ l1.length ≤ 9223372036854775807
  · rw [if_pos hn] at h
    obtain rfl := Option.some.inj h
    clear h
    go_enter Tryd.func24, Tryd.ntmps24
    go_wp2_with fail
    refine (cmp_walk A0 c0 l0 A1 c1 l1 _ hr0 hr1 hn.1 hn.2).mono ?_
    rintro e w' ⟨rfl, hb'⟩
    go_wp2
    go_ret
    exact ⟨rfl, hb'⟩
  · rw [if_neg hn] at h; cases h

end Go.Proofs.YtaneicpggglcbaaDoor.QVA
