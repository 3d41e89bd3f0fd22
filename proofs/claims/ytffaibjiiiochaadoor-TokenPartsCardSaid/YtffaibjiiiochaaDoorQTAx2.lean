-- printed by our own turn of the print (wip/pr)
import Derived.Test.YtffaibjiiiochaaDoorQTAx0
import Derived.Test.YtffaibjiiiochaaDoorQTAx1
namespace Go.Proofs.YtffaibjiiiochaaDoor.QTA
open Go.RowKit Go.Proofs.YtffaibjiiiochaaDoorW.PrintWords Go.Proofs.YtffaibjiiiochaaDoorW.PrintLast Go.Proofs.YtffaibjiiiochaaDoorW.PrintMore
attribute [local go_sem] max2_int min2_int max_two min_two max_three min_three max_four min_four   -- for this text's walks alone
set_option linter.unusedVariables false
set_option linter.unusedSimpArgs false

attribute [local go_sem high] eqA30
/-! ### token_cutter_peek: function 28 -/

-- NOT PRINTED: function 51 (bytealg_IndexByteString)

-- NOT PRINTED: function 44 (stringslite_IndexByte)

-- NOT PRINTED: function 29 (strings_IndexByte)

-- NOT PRINTED: function 17 (token_cutter_blanks)

/-! ### token_letter: function 22 -/
def token_letter.f (a0 : Int) : Option (Bool) := if 97 ≤ (Go.bits .or .u8 a0 32) then (if (Go.bits .or .u8 a0 32) ≤ 122 then (some true) else (some (a0 == 95))) else (some (a0 == 95))
set_option maxHeartbeats 8000000 in
set_option maxRecDepth 100000 in
theorem token_letter.calls (a0 : Int) (r : Bool) (w : World) (h : token_letter.f a0 = some r) :
    Calls Tryd.prog 22 #[.int .u8 a0] w fun e w' => e = .returned (.bool r) ∧ Drawn0 w w' := by
  have H : (if 97 ≤ (Go.bits .or .u8 a0 32) then (if (Go.bits .or .u8 a0 32) ≤ 122 then (some true) else (some (a0 == 95))) else (some (a0 == 95))) = some r := h
  clear h
  by_cases c2 : 97 ≤ (Go.bits .or .u8 a0 32)
  · rw [if_pos c2] at H
    have c2b0 : decide (97 ≤ (Go.bits .or .u8 a0 32)) = true := decide_eq_true c2
    clear c2
    by_cases c3 : (Go.bits .or .u8 a0 32) ≤ 122
    · rw [if_pos c3] at H
      have c3b0 : decide ((Go.bits .or .u8 a0 32) ≤ 122) = true := decide_eq_true c3
      clear c3
      obtain rfl := Option.some.inj H
      go_enter Tryd.func22, Tryd.ntmps22
      go_wp2
      go_ret
      exact ⟨by first | rfl | (simp; done) | (simp [*]; done), by repeat (first | exact Drawn0.refl _ | apply Drawn0.step)⟩
    · rw [if_neg c3] at H
      have c3b0 : decide ((Go.bits .or .u8 a0 32) ≤ 122) = false := decide_eq_false c3
      clear c3
      obtain rfl := Option.some.inj H
      go_enter Tryd.func22, Tryd.ntmps22
      go_wp2
      go_ret
      exact ⟨by first | rfl | (simp; done) | (simp [*]; done), by repeat (first | exact Drawn0.refl _ | apply Drawn0.step)⟩
  · rw [if_neg c2] at H
    have c2b0 : decide (97 ≤ (Go.bits .or .u8 a0 32)) = false := decide_eq_false c2
    clear c2
    obtain rfl := Option.some.inj H
    go_enter Tryd.func22, Tryd.ntmps22
    go_wp2
    go_ret
    exact ⟨by first | rfl | (simp; done) | (simp [*]; done), by repeat (first | exact Drawn0.refl _ | apply Drawn0.step)⟩

/-! ### token_digit: function 23 -/
def token_digit.f (a0 : Int) : Option (Bool) := if 48 ≤ a0 then (some (decide (a0 ≤ 57))) else (some false)
set_option maxHeartbeats 8000000 in
set_option maxRecDepth 100000 in
theorem token_digit.calls (a0 : Int) (r : Bool) (w : World) (h : token_digit.f a0 = some r) :
    Calls Tryd.prog 23 #[.int .u8 a0] w fun e w' => e = .returned (.bool r) ∧ Drawn0 w w' := by
  have H : (if 48 ≤ a0 then (some (decide (a0 ≤ 57))) else (some false)) = some r := h
  clear h
  by_cases c2 : 48 ≤ a0
  · rw [if_pos c2] at H
    have c2b0 : decide (48 ≤ a0) = true := decide_eq_true c2
    clear c2
    obtain rfl := Option.some.inj H
    go_enter Tryd.func23, Tryd.ntmps23
    go_wp2
    go_ret
    exact ⟨by first | rfl | (simp; done) | (simp [*]; done), by repeat (first | exact Drawn0.refl _ | apply Drawn0.step)⟩
  · rw [if_neg c2] at H
    have c2b0 : decide (48 ≤ a0) = false := decide_eq_false c2
    clear c2
    obtain rfl := Option.some.inj H
    go_enter Tryd.func23, Tryd.ntmps23
    go_wp2
    go_ret
    exact ⟨by first | rfl | (simp; done) | (simp [*]; done), by repeat (first | exact Drawn0.refl _ | apply Drawn0.step)⟩

-- NOT PRINTED: function 19 (token_cutter_add)

-- NOT PRINTED: function 59 (abi_NoEscape)

-- NOT PRINTED: function 52 (strings_Builder_copyCheck)

-- NOT PRINTED: function 45 (strings_Builder_WriteByte)

-- NOT PRINTED: function 46 (strings_Builder_String)

-- NOT PRINTED: function 30 (token_cutter_blob)

-- NOT PRINTED: function 66 (bytealg_MakeNoZero)

-- NOT PRINTED: function 60 (strings_Builder_grow)

-- NOT PRINTED: function 53 (strings_Builder_Grow)

-- NOT PRINTED: function 54 (strings_Builder_WriteString)

-- NOT PRINTED: function 67 (utf8_decodeRuneInStringSlow)

-- NOT PRINTED: function 61 (utf8_DecodeRuneInString)

/-! ### utf8_RuneLen: function 62 -/

/-! ### utf8_appendRuneNonASCII: function 70 -/

/-! ### utf8_AppendRune: function 68 -/

-- NOT PRINTED: function 63 (strings_Builder_WriteRune)

-- NOT PRINTED: function 64 (strings_Builder_Cap)

-- NOT PRINTED: function 55 (strings_Map)

-- NOT PRINTED: function 71 (unicode_lookupCaseRange)

-- NOT PRINTED: function 72 (unicode_convertCase)

-- NOT PRINTED: function 69 (unicode_to)

-- NOT PRINTED: function 65 (unicode_To)

-- NOT PRINTED: function 56 (unicode_ToLower)

-- NOT PRINTED: function 47 (strings_ToLower)

-- NOT PRINTED: function 31 (token_cutter_word)

-- NOT PRINTED: function 32 (token_cutter_number)

-- NOT PRINTED: function 33 (token_cutter_text)

-- NOT PRINTED: function 34 (token_cutter_sign)

-- NOT PRINTED: function 18 (token_cutter_one)

/-! ### token_Cut: function 10 -/

/-- a token as the print's struct -/
def sOf (t : Ct.TokV) : S30 := ⟨t.1, t.2.1, t.2.2.1, t.2.2.2⟩
theorem reps_tok (w : World) (base : Nat) (ok : Nat → Prop) : ∀ (ts us : List Ct.TokV), Reps (k30.M w base ok) 4 (us.map sOf) (Ct.cellsT us) → Reps (k30.M w base ok) 4 ((us ++ ts).map sOf) (Ct.cellsT (us ++ ts))
  | [], us, h => by rw [List.append_nil]; exact h
  | t :: ts, us, h => by
    have e : us ++ t :: ts = (us ++ [t]) ++ ts := by simp
    rw [e]
    refine reps_tok w base ok ts (us ++ [t]) ?_
    rw [List.map_append, Ct.cellsT_snoc]
    exact h.snoc (k30_mkM w base ok (sOf t)) rfl
theorem kd_tok {w : World} {base : Nat} {v : Value} {ts : List Ct.TokV} (h : Ct.Own base w v ts) : Kd.R k30 30 w base (fun _ => True) v (ts.map sOf) := by
  refine ⟨fun _ _ => trivial, Ct.cellsT ts, ?_, ?_⟩
  · rw [List.length_map]; exact h
  · have := reps_tok w base (fun k => True ∧ some k ≠ v.ownBlock) ts [] (Reps.none _ _)
    rwa [List.nil_append] at this
/-- what Cut comes to -/
def cutP (a0 : ByteArray) : List S30 × Int × Int :=
  if 4096 < a0.size then ([], 0, 2) else match Tk.cutS (bytesOf a0) with
    | .inr k => ([], (a0.size : Int) - (k : Int), 60)
    | .inl ts => ((ts.map (Ct.toV a0.size)).map sOf, 0, 0)
def token_Cut.f (a0 : ByteArray) : Option (List S30 × Int × Int) := some (cutP a0)
theorem token_Cut.calls (a0 : ByteArray) (r1 : List S30) (r2 : Int) (r3 : Int) (w : World) (h : token_Cut.f a0 = some (r1, r2, r3)) :
    Calls Tryd.prog 10 #[.string a0] w fun e w' => ∃ v0_ : Value, e = .returned (.tuple #[v0_, .int .i64 r2, .int .i64 r3]) ∧ Kd.R k30 30 w' w.heap.size (fun _ => True) v0_ r1 ∧ Below w.heap.size w w' := by
  refine (Ct.Cut a0 w).mono ?_
  rintro e w' ⟨hc, hb⟩
  have h' : cutP a0 = (r1, r2, r3) := Option.some.inj h
  unfold Ct.CutR at hc
  unfold cutP at h'
  by_cases hbig : 4096 < a0.size
  · rw [if_pos hbig] at hc h'
    simp only [Prod.mk.injEq] at h'
    obtain ⟨rfl, rfl, rfl⟩ := h'
    exact ⟨_, hc, Kd.R_nil _ _ _ _ _, hb⟩
  · rw [if_neg hbig] at hc h'
    cases hk : Tk.cutS (bytesOf a0) with
    | inr k =>
      rw [hk] at hc h'
      simp only [Prod.mk.injEq] at h'
      obtain ⟨rfl, rfl, rfl⟩ := h'
      exact ⟨_, hc, Kd.R_nil _ _ _ _ _, hb⟩
    | inl ts =>
      rw [hk] at hc h'
      simp only [Prod.mk.injEq] at h'
      obtain ⟨rfl, rfl, rfl⟩ := h'
      obtain ⟨v, hv, ho⟩ := hc
      exact ⟨v, hv, kd_tok ho, hb⟩

/-! ### slices_Index_string_string: function 41 -/

/-! ### slices_Contains_string_string: function 26 -/

-- NOT PRINTED: function 42 (strings_FieldsFunc)

-- NOT PRINTED: function 57 (unicode_is16)

-- NOT PRINTED: function 58 (unicode_is32)

-- NOT PRINTED: function 50 (unicode_isExcludingLatin)

-- NOT PRINTED: function 43 (unicode_IsSpace)

-- NOT PRINTED: function 27 (strings_Fields)

/-! ### token_Reserved: function 15 -/

def token_Reserved.f (a0 : ByteArray) : Option (Bool) := some (Ct.resS a0)
theorem token_Reserved.calls (a0 : ByteArray) (r : Bool) (w : World) (h : token_Reserved.f a0 = some r) (hok : Ct.OkW w := by first | assumption | exact Ct.OkW.below hok (by repeat (first | (with_reducible first | exact HB.out | apply below_alloc | apply pw_below_drewN | apply below_drew1) | exact HB.out | refine below_set ?_ (Aside0.out (by assumption))))) :
    Calls Tryd.prog 15 #[.string a0] w fun e w' => e = .returned (.bool r) ∧ Below w.heap.size w w' := by
  refine (Ct.Reserved a0 w hok).mono ?_
  rintro e w' ⟨rfl, hb⟩
  have h' : Ct.resS a0 = r := Option.some.inj h
  subst h'
  exact ⟨rfl, hb⟩

/-! ### token_IsName: function 13 -/
def token_IsName.l0 : Nat → ByteArray → Int → Int → Option (Bool)
  | 0, _, _, _ => none
  | k + 1, x0, x5, x6 => if x6 < x5 then (if 0 ≤ x6 then (if x6 < (x0.size : Int) then ((token_letter.f (bt x0 x6)).bind fun t132 => (if t132 = true then (if 65 ≤ (bt x0 x6) then (if (bt x0 x6) ≤ 90 then (some false) else (token_IsName.l0 k x0 x5 (wrap64 (x6 + 1)))) else (token_IsName.l0 k x0 x5 (wrap64 (x6 + 1)))) else ((token_digit.f (bt x0 x6)).bind fun t133 => (if t133 = true then (if 65 ≤ (bt x0 x6) then (if (bt x0 x6) ≤ 90 then (some false) else (token_IsName.l0 k x0 x5 (wrap64 (x6 + 1)))) else (token_IsName.l0 k x0 x5 (wrap64 (x6 + 1)))) else (some false))))) else (none)) else (none)) else (if x0.toList = ([] : List UInt8) then (some false) else (if (x0.size : Int) ≤ 32 then (if 0 < (x0.size : Int) then ((token_digit.f (bt x0 0)).bind fun t130 => (if t130 = true then (some false) else ((token_Reserved.f x0).bind fun t131 => (some (!t131))))) else (none)) else (some false)))
def token_IsName.f (k : Nat) (a0 : ByteArray) : Option (Bool) := token_IsName.l0 k a0 (a0.size : Int) 0
theorem token_IsName.mono_l : ∀ k, (∀ y0 y1 y2, LeO (token_IsName.l0 k y0 y1 y2) (token_IsName.l0 (k + 1) y0 y1 y2))
  | 0 => fun _ _ _ r h => by simp [token_IsName.l0] at h
  | k + 1 => by
    have ih0 := token_IsName.mono_l k
    · intro y0 y1 y2
      unfold token_IsName.l0
      repeat' first
      | (with_reducible exact ih0 _ _ _)
      | (with_reducible exact LeO.refl _)
      | (with_reducible exact LeO.none _)
      | (with_reducible refine LeO.ite ?_ ?_)
      | (with_reducible refine LeO.bind ?_ (fun _ => ?_))
      | exact ih0 _ _ _
      | exact LeO.none _
      | refine LeO.ite ?_ ?_
      | refine LeO.bind ?_ (fun _ => ?_)
theorem token_IsName.mono : ∀ a0 k, LeO (token_IsName.f k a0) (token_IsName.f (k + 1) a0) := by
  intro a0 k
  have ih0 := token_IsName.mono_l k
  unfold token_IsName.f
  repeat' first
      | (with_reducible exact ih0 _ _ _)
      | (with_reducible exact LeO.refl _)
      | (with_reducible exact LeO.none _)
      | (with_reducible refine LeO.ite ?_ ?_)
      | (with_reducible refine LeO.bind ?_ (fun _ => ?_))
      | exact ih0 _ _ _
      | exact LeO.none _
      | refine LeO.ite ?_ ?_
      | refine LeO.bind ?_ (fun _ => ?_)
set_option maxHeartbeats 8000000 in
set_option maxRecDepth 100000 in
theorem token_IsName.calls (k : Nat) (a0 : ByteArray) (r : Bool) (w : World) (h : token_IsName.f k a0 = some r) (hok : Ct.OkW w := by first | assumption | exact Ct.OkW.below hok (by repeat (first | (with_reducible first | exact HB.out | apply below_alloc | apply pw_below_drewN | apply below_drew1) | exact HB.out | refine below_set ?_ (Aside0.out (by assumption))))) :
    Calls Tryd.prog 13 #[.string a0] w fun e w' => e = .returned (.bool r) ∧ Below w.heap.size w w' := by
  have HB := Aside0.mk (Below.refl w.heap.size w)
  have H : (token_IsName.l0 k a0 (a0.size : Int) 0) = some r := h
  clear h
  have H' := Aside0.mk H
  clear H
  go_enter Tryd.func13, Tryd.ntmps13
  go_wp2
  go_loopg [6] k (fun kq v6 w' => ∃ (x6_1 : Int), v6 = .int .i64 x6_1 ∧ Aside0 (token_IsName.l0 kq a0 (a0.size : Int) x6_1 = some r) ∧ Aside0 (kq ≤ k) ∧ Aside0 (Below w.heap.size w w'))
  case atStart => exact ⟨(0), (by first | rfl | (simp; done) | (simp [*]; done) | (simp; first | exact Go.Proofs.YtffaibjiiiochaaDoor.Pre.ne1 _ | exact Go.Proofs.YtffaibjiiiochaaDoor.Pre.ne2 _ | exact Go.Proofs.YtffaibjiiiochaaDoor.Pre.ne3 _ | exact Go.Proofs.YtffaibjiiiochaaDoor.Pre.ne4 _ | exact Go.Proofs.YtffaibjiiiochaaDoor.Pre.ne5 _ | exact Go.Proofs.YtffaibjiiiochaaDoor.Pre.ne6 _)), H', ⟨Nat.le_refl _⟩, ⟨by repeat (first | (with_reducible first | exact HB.out | apply below_alloc | apply pw_below_drewN | apply below_drew1) | exact HB.out)⟩⟩
  case round =>
    clear H'
    try clear c1
    obtain ⟨x6_1, rfl, HA, HK1, HB⟩ := hrel
    cases gk with
    | zero => exact absurd HA.out (by simp [token_IsName.l0])
    | succ k1 =>
      have H := HA.out
      clear HA
      simp only [token_IsName.l0] at H
      by_cases c2 : x6_1 < (a0.size : Int)
      · rw [if_pos c2] at H
        have c2b0 : decide (x6_1 < (a0.size : Int)) = true := decide_eq_true c2
        clear c2
        by_cases c3 : 0 ≤ x6_1
        · rw [if_pos c3] at H
          have c3b0 : decide (0 ≤ x6_1) = true := decide_eq_true c3
          clear c3
          by_cases c4 : x6_1 < (a0.size : Int)
          · rw [if_pos c4] at H
            have c4b0 : decide (x6_1 < (a0.size : Int)) = true := decide_eq_true c4
            clear c4
            replace H := Option.bind_eq_some_iff.mp H
            obtain ⟨t132, A60, H⟩ := H
            replace H : (if t132 = true then (if 65 ≤ (bt a0 x6_1) then (if (bt a0 x6_1) ≤ 90 then (some false) else (token_IsName.l0 k1 a0 (a0.size : Int) (wrap64 (x6_1 + 1)))) else (token_IsName.l0 k1 a0 (a0.size : Int) (wrap64 (x6_1 + 1)))) else ((token_digit.f (bt a0 x6_1)).bind fun t133 => (if t133 = true then (if 65 ≤ (bt a0 x6_1) then (if (bt a0 x6_1) ≤ 90 then (some false) else (token_IsName.l0 k1 a0 (a0.size : Int) (wrap64 (x6_1 + 1)))) else (token_IsName.l0 k1 a0 (a0.size : Int) (wrap64 (x6_1 + 1)))) else (some false)))) = some r := H
            have A6 := Aside0.mk A60
            clear A60
            by_cases c7 : t132 = true
            · subst c7
              have H1 : (if 65 ≤ (bt a0 x6_1) then (if (bt a0 x6_1) ≤ 90 then (some false) else (token_IsName.l0 k1 a0 (a0.size : Int) (wrap64 (x6_1 + 1)))) else (token_IsName.l0 k1 a0 (a0.size : Int) (wrap64 (x6_1 + 1)))) = some r := by rw [if_pos rfl] at H; exact H
              clear H
              have H := H1
              clear H1
              by_cases c9 : 65 ≤ (bt a0 x6_1)
              · rw [if_pos c9] at H
                have c9b0 : decide (65 ≤ (bt a0 x6_1)) = true := decide_eq_true c9
                clear c9
                by_cases c11 : (bt a0 x6_1) ≤ 90
                · rw [if_pos c11] at H
                  have c11b0 : decide ((bt a0 x6_1) ≤ 90) = true := decide_eq_true c11
                  clear c11
                  obtain rfl := Option.some.inj H
                  have p5 : 0 ≤ (x6_1 : Int) := of_decide_eq_true (by first | (with_reducible assumption) | assumption)
                  have q5 : x6_1 < (a0.size : Int) := of_decide_eq_true (by first | (with_reducible assumption) | assumption)
                  have hx5 := bt_at a0 x6_1
                  replace p5 := eq_true p5
                  replace q5 := eq_true q5
                  go_wp2_with (first | ((with_reducible refine gate_callee (f := 22) rfl ?_); refine goesL_ (some 12) rfl rfl Tryd.func22 (by kernel_rfl) rfl #[.int .u8 (bt a0 x6_1)] rfl (by (try simp only [List.map_toArray, List.map_cons, List.map_nil]); first | done | rfl | (simp only [List.length_drop, List.length_take]; rfl)) ?_; (with_reducible refine (token_letter.calls (bt a0 x6_1) true _ A6.out).mono ?_); rintro e w' ⟨rfl, ⟨nd, rfl⟩⟩; refine ⟨_, rfl, ?_⟩; have p8 : 0 ≤ (x6_1 : Int) := of_decide_eq_true (by first | (with_reducible assumption) | assumption); have q8 : x6_1 < (a0.size : Int) := of_decide_eq_true (by first | (with_reducible assumption) | assumption); have hx8 := bt_at a0 x6_1; replace p8 := eq_true p8; replace q8 := eq_true q8; have p10 : 0 ≤ (x6_1 : Int) := of_decide_eq_true (by first | (with_reducible assumption) | assumption); have q10 : x6_1 < (a0.size : Int) := of_decide_eq_true (by first | (with_reducible assumption) | assumption); have hx10 := bt_at a0 x6_1; replace p10 := eq_true p10; replace q10 := eq_true q10))
                  go_ret
                  exact ⟨by first | rfl | (simp [errW_none, errW_some] <;> rfl) | (simp [*, errW_none, errW_some] <;> rfl), by repeat (first | (with_reducible first | exact HB.out | apply below_alloc | apply pw_below_drewN | apply below_drew1) | exact HB.out)⟩
                · rw [if_neg c11] at H
                  have c11b0 : decide ((bt a0 x6_1) ≤ 90) = false := decide_eq_false c11
                  clear c11
                  have H' := Aside0.mk H
                  clear H
                  have p5 : 0 ≤ (x6_1 : Int) := of_decide_eq_true (by first | (with_reducible assumption) | assumption)
                  have q5 : x6_1 < (a0.size : Int) := of_decide_eq_true (by first | (with_reducible assumption) | assumption)
                  have hx5 := bt_at a0 x6_1
                  replace p5 := eq_true p5
                  replace q5 := eq_true q5
                  go_wp2_with (first | ((with_reducible refine gate_callee (f := 22) rfl ?_); refine goesL_ (some 12) rfl rfl Tryd.func22 (by kernel_rfl) rfl #[.int .u8 (bt a0 x6_1)] rfl (by (try simp only [List.map_toArray, List.map_cons, List.map_nil]); first | done | rfl | (simp only [List.length_drop, List.length_take]; rfl)) ?_; (with_reducible refine (token_letter.calls (bt a0 x6_1) true _ A6.out).mono ?_); rintro e w' ⟨rfl, ⟨nd, rfl⟩⟩; refine ⟨_, rfl, ?_⟩; have p8 : 0 ≤ (x6_1 : Int) := of_decide_eq_true (by first | (with_reducible assumption) | assumption); have q8 : x6_1 < (a0.size : Int) := of_decide_eq_true (by first | (with_reducible assumption) | assumption); have hx8 := bt_at a0 x6_1; replace p8 := eq_true p8; replace q8 := eq_true q8; have p10 : 0 ≤ (x6_1 : Int) := of_decide_eq_true (by first | (with_reducible assumption) | assumption); have q10 : x6_1 < (a0.size : Int) := of_decide_eq_true (by first | (with_reducible assumption) | assumption); have hx10 := bt_at a0 x6_1; replace p10 := eq_true p10; replace q10 := eq_true q10))
                  go_roundg k1
                  case measure => have := HK1.out; omega
                  case rel => exact ⟨(wrap64 (x6_1 + 1)), (by first | rfl | (simp; done) | (simp [*]; done) | (simp; first | exact Go.Proofs.YtffaibjiiiochaaDoor.Pre.ne1 _ | exact Go.Proofs.YtffaibjiiiochaaDoor.Pre.ne2 _ | exact Go.Proofs.YtffaibjiiiochaaDoor.Pre.ne3 _ | exact Go.Proofs.YtffaibjiiiochaaDoor.Pre.ne4 _ | exact Go.Proofs.YtffaibjiiiochaaDoor.Pre.ne5 _ | exact Go.Proofs.YtffaibjiiiochaaDoor.Pre.ne6 _)), H', ⟨by have := HK1.out; omega⟩, ⟨by repeat (first | (with_reducible first | exact HB.out | apply below_alloc | apply pw_below_drewN | apply below_drew1) | exact HB.out)⟩⟩
              · rw [if_neg c9] at H
                have c9b0 : decide (65 ≤ (bt a0 x6_1)) = false := decide_eq_false c9
                clear c9
                have H' := Aside0.mk H
                clear H
                have p5 : 0 ≤ (x6_1 : Int) := of_decide_eq_true (by first | (with_reducible assumption) | assumption)
                have q5 : x6_1 < (a0.size : Int) := of_decide_eq_true (by first | (with_reducible assumption) | assumption)
                have hx5 := bt_at a0 x6_1
                replace p5 := eq_true p5
                replace q5 := eq_true q5
                go_wp2_with (first | ((with_reducible refine gate_callee (f := 22) rfl ?_); refine goesL_ (some 12) rfl rfl Tryd.func22 (by kernel_rfl) rfl #[.int .u8 (bt a0 x6_1)] rfl (by (try simp only [List.map_toArray, List.map_cons, List.map_nil]); first | done | rfl | (simp only [List.length_drop, List.length_take]; rfl)) ?_; (with_reducible refine (token_letter.calls (bt a0 x6_1) true _ A6.out).mono ?_); rintro e w' ⟨rfl, ⟨nd, rfl⟩⟩; refine ⟨_, rfl, ?_⟩; have p8 : 0 ≤ (x6_1 : Int) := of_decide_eq_true (by first | (with_reducible assumption) | assumption); have q8 : x6_1 < (a0.size : Int) := of_decide_eq_true (by first | (with_reducible assumption) | assumption); have hx8 := bt_at a0 x6_1; replace p8 := eq_true p8; replace q8 := eq_true q8))
                go_roundg k1
                case measure => have := HK1.out; omega
                case rel => exact ⟨(wrap64 (x6_1 + 1)), (by first | rfl | (simp; done) | (simp [*]; done) | (simp; first | exact Go.Proofs.YtffaibjiiiochaaDoor.Pre.ne1 _ | exact Go.Proofs.YtffaibjiiiochaaDoor.Pre.ne2 _ | exact Go.Proofs.YtffaibjiiiochaaDoor.Pre.ne3 _ | exact Go.Proofs.YtffaibjiiiochaaDoor.Pre.ne4 _ | exact Go.Proofs.YtffaibjiiiochaaDoor.Pre.ne5 _ | exact Go.Proofs.YtffaibjiiiochaaDoor.Pre.ne6 _)), H', ⟨by have := HK1.out; omega⟩, ⟨by repeat (first | (with_reducible first | exact HB.out | apply below_alloc | apply pw_below_drewN | apply below_drew1) | exact HB.out)⟩⟩
            · replace c7 := Bool.eq_false_iff.mpr c7
              subst c7
              have H1 : ((token_digit.f (bt a0 x6_1)).bind fun t133 => (if t133 = true then (if 65 ≤ (bt a0 x6_1) then (if (bt a0 x6_1) ≤ 90 then (some false) else (token_IsName.l0 k1 a0 (a0.size : Int) (wrap64 (x6_1 + 1)))) else (token_IsName.l0 k1 a0 (a0.size : Int) (wrap64 (x6_1 + 1)))) else (some false))) = some r := by rw [if_neg (show ¬ (false = true) by decide)] at H; exact H
              clear H
              have H := H1
              clear H1
              replace H := Option.bind_eq_some_iff.mp H
              obtain ⟨t133, A130, H⟩ := H
              replace H : (if t133 = true then (if 65 ≤ (bt a0 x6_1) then (if (bt a0 x6_1) ≤ 90 then (some false) else (token_IsName.l0 k1 a0 (a0.size : Int) (wrap64 (x6_1 + 1)))) else (token_IsName.l0 k1 a0 (a0.size : Int) (wrap64 (x6_1 + 1)))) else (some false)) = some r := H
              have A13 := Aside0.mk A130
              clear A130
              by_cases c14 : t133 = true
              · subst c14
                have H1 : (if 65 ≤ (bt a0 x6_1) then (if (bt a0 x6_1) ≤ 90 then (some false) else (token_IsName.l0 k1 a0 (a0.size : Int) (wrap64 (x6_1 + 1)))) else (token_IsName.l0 k1 a0 (a0.size : Int) (wrap64 (x6_1 + 1)))) = some r := by rw [if_pos rfl] at H; exact H
                clear H
                have H := H1
                clear H1
                by_cases c16 : 65 ≤ (bt a0 x6_1)
                · rw [if_pos c16] at H
                  have c16b0 : decide (65 ≤ (bt a0 x6_1)) = true := decide_eq_true c16
                  clear c16
                  by_cases c18 : (bt a0 x6_1) ≤ 90
                  · rw [if_pos c18] at H
                    have c18b0 : decide ((bt a0 x6_1) ≤ 90) = true := decide_eq_true c18
                    clear c18
                    obtain rfl := Option.some.inj H
                    have p5 : 0 ≤ (x6_1 : Int) := of_decide_eq_true (by first | (with_reducible assumption) | assumption)
                    have q5 : x6_1 < (a0.size : Int) := of_decide_eq_true (by first | (with_reducible assumption) | assumption)
                    have hx5 := bt_at a0 x6_1
                    replace p5 := eq_true p5
                    replace q5 := eq_true q5
                    go_wp2_with (first | ((with_reducible refine gate_callee (f := 22) rfl ?_); refine goesL_ (some 12) rfl rfl Tryd.func22 (by kernel_rfl) rfl #[.int .u8 (bt a0 x6_1)] rfl (by (try simp only [List.map_toArray, List.map_cons, List.map_nil]); first | done | rfl | (simp only [List.length_drop, List.length_take]; rfl)) ?_; (with_reducible refine (token_letter.calls (bt a0 x6_1) false _ A6.out).mono ?_); rintro e w' ⟨rfl, ⟨nd, rfl⟩⟩; refine ⟨_, rfl, ?_⟩; have p12 : 0 ≤ (x6_1 : Int) := of_decide_eq_true (by first | (with_reducible assumption) | assumption); have q12 : x6_1 < (a0.size : Int) := of_decide_eq_true (by first | (with_reducible assumption) | assumption); have hx12 := bt_at a0 x6_1; replace p12 := eq_true p12; replace q12 := eq_true q12) | (go_at_call 23; (with_reducible refine (token_digit.calls (bt a0 x6_1) true _ A13.out).mono ?_); rintro e w' ⟨rfl, ⟨nd, rfl⟩⟩; have p15 : 0 ≤ (x6_1 : Int) := of_decide_eq_true (by first | (with_reducible assumption) | assumption); have q15 : x6_1 < (a0.size : Int) := of_decide_eq_true (by first | (with_reducible assumption) | assumption); have hx15 := bt_at a0 x6_1; replace p15 := eq_true p15; replace q15 := eq_true q15; have p17 : 0 ≤ (x6_1 : Int) := of_decide_eq_true (by first | (with_reducible assumption) | assumption); have q17 : x6_1 < (a0.size : Int) := of_decide_eq_true (by first | (with_reducible assumption) | assumption); have hx17 := bt_at a0 x6_1; replace p17 := eq_true p17; replace q17 := eq_true q17))
                    go_ret
                    exact ⟨by first | rfl | (simp [errW_none, errW_some] <;> rfl) | (simp [*, errW_none, errW_some] <;> rfl), by repeat (first | (with_reducible first | exact HB.out | apply below_alloc | apply pw_below_drewN | apply below_drew1) | exact HB.out)⟩
                  · rw [if_neg c18] at H
                    have c18b0 : decide ((bt a0 x6_1) ≤ 90) = false := decide_eq_false c18
                    clear c18
                    have H' := Aside0.mk H
                    clear H
                    have p5 : 0 ≤ (x6_1 : Int) := of_decide_eq_true (by first | (with_reducible assumption) | assumption)
                    have q5 : x6_1 < (a0.size : Int) := of_decide_eq_true (by first | (with_reducible assumption) | assumption)
                    have hx5 := bt_at a0 x6_1
                    replace p5 := eq_true p5
                    replace q5 := eq_true q5
                    go_wp2_with (first | ((with_reducible refine gate_callee (f := 22) rfl ?_); refine goesL_ (some 12) rfl rfl Tryd.func22 (by kernel_rfl) rfl #[.int .u8 (bt a0 x6_1)] rfl (by (try simp only [List.map_toArray, List.map_cons, List.map_nil]); first | done | rfl | (simp only [List.length_drop, List.length_take]; rfl)) ?_; (with_reducible refine (token_letter.calls (bt a0 x6_1) false _ A6.out).mono ?_); rintro e w' ⟨rfl, ⟨nd, rfl⟩⟩; refine ⟨_, rfl, ?_⟩; have p12 : 0 ≤ (x6_1 : Int) := of_decide_eq_true (by first | (with_reducible assumption) | assumption); have q12 : x6_1 < (a0.size : Int) := of_decide_eq_true (by first | (with_reducible assumption) | assumption); have hx12 := bt_at a0 x6_1; replace p12 := eq_true p12; replace q12 := eq_true q12) | (go_at_call 23; (with_reducible refine (token_digit.calls (bt a0 x6_1) true _ A13.out).mono ?_); rintro e w' ⟨rfl, ⟨nd, rfl⟩⟩; have p15 : 0 ≤ (x6_1 : Int) := of_decide_eq_true (by first | (with_reducible assumption) | assumption); have q15 : x6_1 < (a0.size : Int) := of_decide_eq_true (by first | (with_reducible assumption) | assumption); have hx15 := bt_at a0 x6_1; replace p15 := eq_true p15; replace q15 := eq_true q15; have p17 : 0 ≤ (x6_1 : Int) := of_decide_eq_true (by first | (with_reducible assumption) | assumption); have q17 : x6_1 < (a0.size : Int) := of_decide_eq_true (by first | (with_reducible assumption) | assumption); have hx17 := bt_at a0 x6_1; replace p17 := eq_true p17; replace q17 := eq_true q17))
                    go_roundg k1
                    case measure => have := HK1.out; omega
                    case rel => exact ⟨(wrap64 (x6_1 + 1)), (by first | rfl | (simp; done) | (simp [*]; done) | (simp; first | exact Go.Proofs.YtffaibjiiiochaaDoor.Pre.ne1 _ | exact Go.Proofs.YtffaibjiiiochaaDoor.Pre.ne2 _ | exact Go.Proofs.YtffaibjiiiochaaDoor.Pre.ne3 _ | exact Go.Proofs.YtffaibjiiiochaaDoor.Pre.ne4 _ | exact Go.Proofs.YtffaibjiiiochaaDoor.Pre.ne5 _ | exact Go.Proofs.YtffaibjiiiochaaDoor.Pre.ne6 _)), H', ⟨by have := HK1.out; omega⟩, ⟨by repeat (first | (with_reducible first | exact HB.out | apply below_alloc | apply pw_below_drewN | apply below_drew1) | exact HB.out)⟩⟩
                · rw [if_neg c16] at H
                  have c16b0 : decide (65 ≤ (bt a0 x6_1)) = false := decide_eq_false c16
                  clear c16
                  have H' := Aside0.mk H
                  clear H
                  have p5 : 0 ≤ (x6_1 : Int) := of_decide_eq_true (by first | (with_reducible assumption) | assumption)
                  have q5 : x6_1 < (a0.size : Int) := of_decide_eq_true (by first | (with_reducible assumption) | assumption)
                  have hx5 := bt_at a0 x6_1
                  replace p5 := eq_true p5
                  replace q5 := eq_true q5
                  go_wp2_with (first | ((with_reducible refine gate_callee (f := 22) rfl ?_); refine goesL_ (some 12) rfl rfl Tryd.func22 (by kernel_rfl) rfl #[.int .u8 (bt a0 x6_1)] rfl (by (try simp only [List.map_toArray, List.map_cons, List.map_nil]); first | done | rfl | (simp only [List.length_drop, List.length_take]; rfl)) ?_; (with_reducible refine (token_letter.calls (bt a0 x6_1) false _ A6.out).mono ?_); rintro e w' ⟨rfl, ⟨nd, rfl⟩⟩; refine ⟨_, rfl, ?_⟩; have p12 : 0 ≤ (x6_1 : Int) := of_decide_eq_true (by first | (with_reducible assumption) | assumption); have q12 : x6_1 < (a0.size : Int) := of_decide_eq_true (by first | (with_reducible assumption) | assumption); have hx12 := bt_at a0 x6_1; replace p12 := eq_true p12; replace q12 := eq_true q12) | (go_at_call 23; (with_reducible refine (token_digit.calls (bt a0 x6_1) true _ A13.out).mono ?_); rintro e w' ⟨rfl, ⟨nd, rfl⟩⟩; have p15 : 0 ≤ (x6_1 : Int) := of_decide_eq_true (by first | (with_reducible assumption) | assumption); have q15 : x6_1 < (a0.size : Int) := of_decide_eq_true (by first | (with_reducible assumption) | assumption); have hx15 := bt_at a0 x6_1; replace p15 := eq_true p15; replace q15 := eq_true q15))
                  go_roundg k1
                  case measure => have := HK1.out; omega
                  case rel => exact ⟨(wrap64 (x6_1 + 1)), (by first | rfl | (simp; done) | (simp [*]; done) | (simp; first | exact Go.Proofs.YtffaibjiiiochaaDoor.Pre.ne1 _ | exact Go.Proofs.YtffaibjiiiochaaDoor.Pre.ne2 _ | exact Go.Proofs.YtffaibjiiiochaaDoor.Pre.ne3 _ | exact Go.Proofs.YtffaibjiiiochaaDoor.Pre.ne4 _ | exact Go.Proofs.YtffaibjiiiochaaDoor.Pre.ne5 _ | exact Go.Proofs.YtffaibjiiiochaaDoor.Pre.ne6 _)), H', ⟨by have := HK1.out; omega⟩, ⟨by repeat (first | (with_reducible first | exact HB.out | apply below_alloc | apply pw_below_drewN | apply below_drew1) | exact HB.out)⟩⟩
              · replace c14 := Bool.eq_false_iff.mpr c14
                subst c14
                have H1 : (some false) = some r := by rw [if_neg (show ¬ (false = true) by decide)] at H; exact H
                clear H
                have H := H1
                clear H1
                obtain rfl := Option.some.inj H
                have p5 : 0 ≤ (x6_1 : Int) := of_decide_eq_true (by first | (with_reducible assumption) | assumption)
                have q5 : x6_1 < (a0.size : Int) := of_decide_eq_true (by first | (with_reducible assumption) | assumption)
                have hx5 := bt_at a0 x6_1
                replace p5 := eq_true p5
                replace q5 := eq_true q5
                go_wp2_with (first | ((with_reducible refine gate_callee (f := 22) rfl ?_); refine goesL_ (some 12) rfl rfl Tryd.func22 (by kernel_rfl) rfl #[.int .u8 (bt a0 x6_1)] rfl (by (try simp only [List.map_toArray, List.map_cons, List.map_nil]); first | done | rfl | (simp only [List.length_drop, List.length_take]; rfl)) ?_; (with_reducible refine (token_letter.calls (bt a0 x6_1) false _ A6.out).mono ?_); rintro e w' ⟨rfl, ⟨nd, rfl⟩⟩; refine ⟨_, rfl, ?_⟩; have p12 : 0 ≤ (x6_1 : Int) := of_decide_eq_true (by first | (with_reducible assumption) | assumption); have q12 : x6_1 < (a0.size : Int) := of_decide_eq_true (by first | (with_reducible assumption) | assumption); have hx12 := bt_at a0 x6_1; replace p12 := eq_true p12; replace q12 := eq_true q12) | (go_at_call 23; (with_reducible refine (token_digit.calls (bt a0 x6_1) false _ A13.out).mono ?_); rintro e w' ⟨rfl, ⟨nd, rfl⟩⟩))
                go_ret
                exact ⟨by first | rfl | (simp [errW_none, errW_some] <;> rfl) | (simp [*, errW_none, errW_some] <;> rfl), by repeat (first | (with_reducible first | exact HB.out | apply below_alloc | apply pw_below_drewN | apply below_drew1) | exact HB.out)⟩
          · rw [if_neg c4] at H
            exact absurd H (by simp)
        · rw [if_neg c3] at H
          exact absurd H (by simp)
      · rw [if_neg c2] at H
        have c2b0 : decide (x6_1 < (a0.size : Int)) = false := decide_eq_false c2
        clear c2
        by_cases c19 : a0.toList = ([] : List UInt8)
        · rw [if_pos c19] at H
          have c19b0 : (a0.toList == ([] : List UInt8)) = true := beq_iff_eq.mpr c19
          have c19b1 : (a0.toList != ([] : List UInt8)) = false := bne_eq_false_iff_eq.mpr c19
          clear c19
          obtain rfl := Option.some.inj H
          go_wp2
          go_ret
          exact ⟨by first | rfl | (simp [errW_none, errW_some] <;> rfl) | (simp [*, errW_none, errW_some] <;> rfl), by repeat (first | (with_reducible first | exact HB.out | apply below_alloc | apply pw_below_drewN | apply below_drew1) | exact HB.out)⟩
        · rw [if_neg c19] at H
          have c19b0 : (a0.toList == ([] : List UInt8)) = false := beq_eq_false_iff_ne.mpr c19
          have c19b1 : (a0.toList != ([] : List UInt8)) = true := bne_iff_ne.mpr c19
          by_cases c20 : (a0.size : Int) ≤ 32
          · rw [if_pos c20] at H
            have c20b0 : decide ((a0.size : Int) ≤ 32) = true := decide_eq_true c20
            have c20b1 : decide (a0.size ≤ 32) = true := decide_eq_true (by omega)
            clear c20
            by_cases c21 : 0 < (a0.size : Int)
            · rw [if_pos c21] at H
              have c21b0 : decide (0 < (a0.size : Int)) = true := decide_eq_true c21
              have c21b1 : decide (0 < a0.size) = true := decide_eq_true (by omega)
              clear c21
              replace H := Option.bind_eq_some_iff.mp H
              obtain ⟨t130, A230, H⟩ := H
              replace H : (if t130 = true then (some false) else ((token_Reserved.f a0).bind fun t131 => (some (!t131)))) = some r := H
              have A23 := Aside0.mk A230
              clear A230
              by_cases c24 : t130 = true
              · subst c24
                have H1 : (some false) = some r := by rw [if_pos rfl] at H; exact H
                clear H
                have H := H1
                clear H1
                obtain rfl := Option.some.inj H
                have p22 : 0 ≤ (0 : Int) := (by omega)
                have q22 : 0 < a0.size := (by have : (0 : Int) < (a0.size : Int) := of_decide_eq_true (by first | (with_reducible assumption) | assumption); omega)
                have hx22 : ∀ h : 0 < a0.size, ((a0[0]'h).toNat : Int) = bt a0 0 := bt_at a0 0
                clear p22
                have qi22 : (0 < (a0.size : Int)) = True := eq_true (of_decide_eq_true (by first | (with_reducible assumption) | assumption))
                replace q22 := eq_true q22
                go_wp2_with (first | (go_at_call 23; (with_reducible refine (token_digit.calls (bt a0 0) true _ A23.out).mono ?_); rintro e w' ⟨rfl, ⟨nd, rfl⟩⟩))
                go_ret
                exact ⟨by first | rfl | (simp [errW_none, errW_some] <;> rfl) | (simp [*, errW_none, errW_some] <;> rfl), by repeat (first | (with_reducible first | exact HB.out | apply below_alloc | apply pw_below_drewN | apply below_drew1) | exact HB.out)⟩
              · replace c24 := Bool.eq_false_iff.mpr c24
                subst c24
                have H1 : ((token_Reserved.f a0).bind fun t131 => (some (!t131))) = some r := by rw [if_neg (show ¬ (false = true) by decide)] at H; exact H
                clear H
                have H := H1
                clear H1
                replace H := Option.bind_eq_some_iff.mp H
                obtain ⟨t131, A250, H⟩ := H
                replace H : (some (!t131)) = some r := H
                have A25 := Aside0.mk A250
                clear A250
                obtain rfl := Option.some.inj H
                have p22 : 0 ≤ (0 : Int) := (by omega)
                have q22 : 0 < a0.size := (by have : (0 : Int) < (a0.size : Int) := of_decide_eq_true (by first | (with_reducible assumption) | assumption); omega)
                have hx22 : ∀ h : 0 < a0.size, ((a0[0]'h).toNat : Int) = bt a0 0 := bt_at a0 0
                clear p22
                have qi22 : (0 < (a0.size : Int)) = True := eq_true (of_decide_eq_true (by first | (with_reducible assumption) | assumption))
                replace q22 := eq_true q22
                go_wp2_with (first | (go_at_call 23; (with_reducible refine (token_digit.calls (bt a0 0) false _ A23.out).mono ?_); rintro e w' ⟨rfl, ⟨nd, rfl⟩⟩) | (go_at_call 15; (with_reducible refine (token_Reserved.calls a0 t131 _ A25.out).mono ?_); rintro e w26 ⟨rfl, hb⟩; have n0_ := Aside0.mk (below_step (by repeat (first | (with_reducible first | exact HB.out | apply below_alloc | apply pw_below_drewN | apply below_drew1) | exact HB.out)) hb); clear HB; have HB := n0_; clear n0_; (try clear hb); (try clear hb2); (try clear hk); (try clear hi)))
                go_ret
                exact ⟨by first | rfl | (simp [errW_none, errW_some] <;> rfl) | (simp [*, errW_none, errW_some] <;> rfl), by repeat (first | (with_reducible first | exact HB.out | apply below_alloc | apply pw_below_drewN | apply below_drew1) | exact HB.out)⟩
            · rw [if_neg c21] at H
              exact absurd H (by simp)
          · rw [if_neg c20] at H
            have c20b0 : decide ((a0.size : Int) ≤ 32) = false := decide_eq_false c20
            have c20b1 : decide (a0.size ≤ 32) = false := decide_eq_false (by omega)
            clear c20
            obtain rfl := Option.some.inj H
            go_wp2
            go_ret
            exact ⟨by first | rfl | (simp [errW_none, errW_some] <;> rfl) | (simp [*, errW_none, errW_some] <;> rfl), by repeat (first | (with_reducible first | exact HB.out | apply below_alloc | apply pw_below_drewN | apply below_drew1) | exact HB.out)⟩

/-! ### boscagelaw06_live: function 9 -/
def boscagelaw06_live.f (k : Nat)  : Option (Bool) := (token_Cut.f (⟨#[115, 101, 108, 101, 99, 116, 32, 65, 49, 44, 32, 39, 105, 116, 39, 39, 115, 39, 32, 102, 114, 111, 109, 32, 116, 32, 45, 45, 32, 120]⟩ : ByteArray)).bind fun bt134 => ((token_Cut.f (⟨#[120, 39, 48, 70, 39]⟩ : ByteArray)).bind fun bt139 => ((token_Cut.f (⟨#[49, 50, 97]⟩ : ByteArray)).bind fun bt144 => (if bt134.2.2 = 0 then (if bt134.2.1 = 0 then (if (bt134.1.length : Int) = 7 then (if 1 < (bt134.1.length : Int) then (if ((rd_T30 bt134.1 1).f1).toList = ([97, 49] : List UInt8) then (if 3 < (bt134.1.length : Int) then (if (((rd_T30 bt134.1 3).f0) == 3 && ((((rd_T30 bt134.1 3).f1).toList) == ([105, 116, 39, 115] : List UInt8) && (((rd_T30 bt134.1 3).f2) == 0 && (((rd_T30 bt134.1 3).f3) == 11)))) = true then (if 6 < (bt134.1.length : Int) then (if (((rd_T30 bt134.1 6).f0) == 6 && ((((rd_T30 bt134.1 6).f1).toList) == ([] : List UInt8) && (((rd_T30 bt134.1 6).f2) == 0 && (((rd_T30 bt134.1 6).f3) == 30)))) = true then (if bt139.2.2 = 0 then (if (bt139.1.length : Int) = 2 then (if 0 < (bt139.1.length : Int) then (if ((rd_T30 bt139.1 0).f1).toList = ([15] : List UInt8) then (if bt144.2.1 = 0 then (if bt144.2.2 = 60 then ((token_IsName.f k (⟨#[97, 49]⟩ : ByteArray)).bind fun t153 => (if t153 = true then ((token_Reserved.f (⟨#[115, 101, 108, 101, 99, 116]⟩ : ByteArray)).bind fun t154 => (some t154)) else (some false))) else (some false)) else (some false)) else (some false)) else (none)) else (some false)) else (some false)) else (some false)) else (none)) else (some false)) else (none)) else (some false)) else (none)) else (some false)) else (some false)) else (some false))))
theorem boscagelaw06_live.mono : ∀ k, LeO (boscagelaw06_live.f k ) (boscagelaw06_live.f (k + 1) ) := by
  intro  k
  unfold boscagelaw06_live.f
  repeat' first
      | (with_reducible exact token_IsName.mono _ _)
      | (with_reducible exact LeO.refl _)
      | (with_reducible exact LeO.none _)
      | (with_reducible refine LeO.ite ?_ ?_)
      | (with_reducible refine LeO.bind ?_ (fun _ => ?_))
      | exact token_IsName.mono _ _
      | exact LeO.none _
      | refine LeO.ite ?_ ?_
      | refine LeO.bind ?_ (fun _ => ?_)
theorem boscagelaw06_live.only (k : Nat) (r : Bool) (h : boscagelaw06_live.f k = some r) : r = true := by
  have h1 : boscagelaw06_live.f 80 = some true := by decide +kernel
  have h2 := at_rounds (fun k => boscagelaw06_live.mono k) (Nat.le_max_left k 80) h
  have h3 := at_rounds (fun k => boscagelaw06_live.mono k) (Nat.le_max_right k 80) h1
  rw [h2] at h3
  exact Option.some.inj h3
set_option maxHeartbeats 8000000 in
set_option maxRecDepth 100000 in
theorem boscagelaw06_live.calls (k : Nat)  (r : Bool) (w : World) (h : boscagelaw06_live.f k  = some r) (hok : Ct.OkW w := by first | assumption | exact Ct.OkW.below hok (by repeat (first | (with_reducible first | exact HB.out | apply below_alloc | apply pw_below_drewN | apply below_drew1) | exact HB.out | refine below_set ?_ (Aside0.out (by assumption))))) :
    Calls Tryd.prog 9 #[] w fun e w' => e = .returned (.bool r) ∧ Below w.heap.size w w' := by
  have hu30 := Tryd.underlying30
  have HB := Aside0.mk (Below.refl w.heap.size w)
  have HRT := Aside0.mk (boscagelaw06_live.only k r h)
  have H : ((token_Cut.f (⟨#[115, 101, 108, 101, 99, 116, 32, 65, 49, 44, 32, 39, 105, 116, 39, 39, 115, 39, 32, 102, 114, 111, 109, 32, 116, 32, 45, 45, 32, 120]⟩ : ByteArray)).bind fun bt134 => ((token_Cut.f (⟨#[120, 39, 48, 70, 39]⟩ : ByteArray)).bind fun bt139 => ((token_Cut.f (⟨#[49, 50, 97]⟩ : ByteArray)).bind fun bt144 => (if bt134.2.2 = 0 then (if bt134.2.1 = 0 then (if (bt134.1.length : Int) = 7 then (if 1 < (bt134.1.length : Int) then (if ((rd_T30 bt134.1 1).f1).toList = ([97, 49] : List UInt8) then (if 3 < (bt134.1.length : Int) then (if (((rd_T30 bt134.1 3).f0) == 3 && ((((rd_T30 bt134.1 3).f1).toList) == ([105, 116, 39, 115] : List UInt8) && (((rd_T30 bt134.1 3).f2) == 0 && (((rd_T30 bt134.1 3).f3) == 11)))) = true then (if 6 < (bt134.1.length : Int) then (if (((rd_T30 bt134.1 6).f0) == 6 && ((((rd_T30 bt134.1 6).f1).toList) == ([] : List UInt8) && (((rd_T30 bt134.1 6).f2) == 0 && (((rd_T30 bt134.1 6).f3) == 30)))) = true then (if bt139.2.2 = 0 then (if (bt139.1.length : Int) = 2 then (if 0 < (bt139.1.length : Int) then (if ((rd_T30 bt139.1 0).f1).toList = ([15] : List UInt8) then (if bt144.2.1 = 0 then (if bt144.2.2 = 60 then ((token_IsName.f k (⟨#[97, 49]⟩ : ByteArray)).bind fun t153 => (if t153 = true then ((token_Reserved.f (⟨#[115, 101, 108, 101, 99, 116]⟩ : ByteArray)).bind fun t154 => (some t154)) else (some false))) else (some false)) else (some false)) else (some false)) else (none)) else (some false)) else (some false)) else (some false)) else (none)) else (some false)) else (none)) else (some false)) else (none)) else (some false)) else (some false)) else (some false))))) = some r := h
  clear h
  replace H := Option.bind_eq_some_iff.mp H
  obtain ⟨⟨t134, t135, t136⟩, A10, H⟩ := H
  replace H : ((token_Cut.f (⟨#[120, 39, 48, 70, 39]⟩ : ByteArray)).bind fun bt139 => ((token_Cut.f (⟨#[49, 50, 97]⟩ : ByteArray)).bind fun bt144 => (if t136 = 0 then (if t135 = 0 then (if (t134.length : Int) = 7 then (if 1 < (t134.length : Int) then (if ((rd_T30 t134 1).f1).toList = ([97, 49] : List UInt8) then (if 3 < (t134.length : Int) then (if (((rd_T30 t134 3).f0) == 3 && ((((rd_T30 t134 3).f1).toList) == ([105, 116, 39, 115] : List UInt8) && (((rd_T30 t134 3).f2) == 0 && (((rd_T30 t134 3).f3) == 11)))) = true then (if 6 < (t134.length : Int) then (if (((rd_T30 t134 6).f0) == 6 && ((((rd_T30 t134 6).f1).toList) == ([] : List UInt8) && (((rd_T30 t134 6).f2) == 0 && (((rd_T30 t134 6).f3) == 30)))) = true then (if bt139.2.2 = 0 then (if (bt139.1.length : Int) = 2 then (if 0 < (bt139.1.length : Int) then (if ((rd_T30 bt139.1 0).f1).toList = ([15] : List UInt8) then (if bt144.2.1 = 0 then (if bt144.2.2 = 60 then ((token_IsName.f k (⟨#[97, 49]⟩ : ByteArray)).bind fun t153 => (if t153 = true then ((token_Reserved.f (⟨#[115, 101, 108, 101, 99, 116]⟩ : ByteArray)).bind fun t154 => (some t154)) else (some false))) else (some false)) else (some false)) else (some false)) else (none)) else (some false)) else (some false)) else (some false)) else (none)) else (some false)) else (none)) else (some false)) else (none)) else (some false)) else (some false)) else (some false)))) = some r := H
  have A1 := Aside0.mk A10
  clear A10
  replace H := Option.bind_eq_some_iff.mp H
  obtain ⟨⟨t139, t140, t141⟩, A20, H⟩ := H
  replace H : ((token_Cut.f (⟨#[49, 50, 97]⟩ : ByteArray)).bind fun bt144 => (if t136 = 0 then (if t135 = 0 then (if (t134.length : Int) = 7 then (if 1 < (t134.length : Int) then (if ((rd_T30 t134 1).f1).toList = ([97, 49] : List UInt8) then (if 3 < (t134.length : Int) then (if (((rd_T30 t134 3).f0) == 3 && ((((rd_T30 t134 3).f1).toList) == ([105, 116, 39, 115] : List UInt8) && (((rd_T30 t134 3).f2) == 0 && (((rd_T30 t134 3).f3) == 11)))) = true then (if 6 < (t134.length : Int) then (if (((rd_T30 t134 6).f0) == 6 && ((((rd_T30 t134 6).f1).toList) == ([] : List UInt8) && (((rd_T30 t134 6).f2) == 0 && (((rd_T30 t134 6).f3) == 30)))) = true then (if t141 = 0 then (if (t139.length : Int) = 2 then (if 0 < (t139.length : Int) then (if ((rd_T30 t139 0).f1).toList = ([15] : List UInt8) then (if bt144.2.1 = 0 then (if bt144.2.2 = 60 then ((token_IsName.f k (⟨#[97, 49]⟩ : ByteArray)).bind fun t153 => (if t153 = true then ((token_Reserved.f (⟨#[115, 101, 108, 101, 99, 116]⟩ : ByteArray)).bind fun t154 => (some t154)) else (some false))) else (some false)) else (some false)) else (some false)) else (none)) else (some false)) else (some false)) else (some false)) else (none)) else (some false)) else (none)) else (some false)) else (none)) else (some false)) else (some false)) else (some false))) = some r := H
  have A2 := Aside0.mk A20
  clear A20
  replace H := Option.bind_eq_some_iff.mp H
  obtain ⟨⟨t144, t145, t146⟩, A30, H⟩ := H
  replace H : (if t136 = 0 then (if t135 = 0 then (if (t134.length : Int) = 7 then (if 1 < (t134.length : Int) then (if ((rd_T30 t134 1).f1).toList = ([97, 49] : List UInt8) then (if 3 < (t134.length : Int) then (if (((rd_T30 t134 3).f0) == 3 && ((((rd_T30 t134 3).f1).toList) == ([105, 116, 39, 115] : List UInt8) && (((rd_T30 t134 3).f2) == 0 && (((rd_T30 t134 3).f3) == 11)))) = true then (if 6 < (t134.length : Int) then (if (((rd_T30 t134 6).f0) == 6 && ((((rd_T30 t134 6).f1).toList) == ([] : List UInt8) && (((rd_T30 t134 6).f2) == 0 && (((rd_T30 t134 6).f3) == 30)))) = true then (if t141 = 0 then (if (t139.length : Int) = 2 then (if 0 < (t139.length : Int) then (if ((rd_T30 t139 0).f1).toList = ([15] : List UInt8) then (if t145 = 0 then (if t146 = 60 then ((token_IsName.f k (⟨#[97, 49]⟩ : ByteArray)).bind fun t153 => (if t153 = true then ((token_Reserved.f (⟨#[115, 101, 108, 101, 99, 116]⟩ : ByteArray)).bind fun t154 => (some t154)) else (some false))) else (some false)) else (some false)) else (some false)) else (none)) else (some false)) else (some false)) else (some false)) else (none)) else (some false)) else (none)) else (some false)) else (none)) else (some false)) else (some false)) else (some false)) = some r := H
  have A3 := Aside0.mk A30
  clear A30
  by_cases c4 : t136 = 0
  · rw [if_pos c4] at H
    have c4b0 : (t136 == 0) = true := beq_iff_eq.mpr c4
    have c4b1 : (t136 != 0) = false := bne_eq_false_iff_eq.mpr c4
    clear c4
    by_cases c5 : t135 = 0
    · rw [if_pos c5] at H
      have c5b0 : (t135 == 0) = true := beq_iff_eq.mpr c5
      have c5b1 : (t135 != 0) = false := bne_eq_false_iff_eq.mpr c5
      clear c5
      by_cases c6 : (t134.length : Int) = 7
      · rw [if_pos c6] at H
        have c6b0 : ((t134.length : Int) == 7) = true := beq_iff_eq.mpr c6
        have c6b1 : ((t134.length : Int) != 7) = false := bne_eq_false_iff_eq.mpr c6
        clear c6
        by_cases c7 : 1 < (t134.length : Int)
        · rw [if_pos c7] at H
          have c7b0 : decide (1 < (t134.length : Int)) = true := decide_eq_true c7
          have c7b1 : decide (1 < t134.length) = true := decide_eq_true (by omega)
          clear c7
          by_cases c8 : ((rd_T30 t134 1).f1).toList = ([97, 49] : List UInt8)
          · rw [if_pos c8] at H
            have c8b0 : (((rd_T30 t134 1).f1).toList == ([97, 49] : List UInt8)) = true := beq_iff_eq.mpr c8
            have c8b1 : (((rd_T30 t134 1).f1).toList != ([97, 49] : List UInt8)) = false := bne_eq_false_iff_eq.mpr c8
            clear c8
            by_cases c9 : 3 < (t134.length : Int)
            · rw [if_pos c9] at H
              have c9b0 : decide (3 < (t134.length : Int)) = true := decide_eq_true c9
              have c9b1 : decide (3 < t134.length) = true := decide_eq_true (by omega)
              clear c9
              by_cases c10 : (((rd_T30 t134 3).f0) == 3 && ((((rd_T30 t134 3).f1).toList) == ([105, 116, 39, 115] : List UInt8) && (((rd_T30 t134 3).f2) == 0 && (((rd_T30 t134 3).f3) == 11)))) = true
              · rw [if_pos c10] at H
                have c10b0 : (((rd_T30 t134 3).f0) == 3 && ((((rd_T30 t134 3).f1).toList) == ([105, 116, 39, 115] : List UInt8) && (((rd_T30 t134 3).f2) == 0 && (((rd_T30 t134 3).f3) == 11)))) = true := c10
                (try (have c10b1 : decide (((rd_T30 t134 3).f0) = 3 && ((((rd_T30 t134 3).f1).toList) == ([105, 116, 39, 115] : List UInt8) && (((rd_T30 t134 3).f2) == 0 && (((rd_T30 t134 3).f3) == 11)))) = true := by simpa using c10))
                (try (have c10b2 : (((rd_T30 t134 3).f0) == 3 && ((((rd_T30 t134 3).f1).toList) == ([105, 116, 39, 115] : List UInt8) && (((rd_T30 t134 3).f2) == 0 && (((rd_T30 t134 3).f3) == 11)))) = true := by simpa using c10))
                clear c10
                by_cases c11 : 6 < (t134.length : Int)
                · rw [if_pos c11] at H
                  have c11b0 : decide (6 < (t134.length : Int)) = true := decide_eq_true c11
                  have c11b1 : decide (6 < t134.length) = true := decide_eq_true (by omega)
                  clear c11
                  by_cases c12 : (((rd_T30 t134 6).f0) == 6 && ((((rd_T30 t134 6).f1).toList) == ([] : List UInt8) && (((rd_T30 t134 6).f2) == 0 && (((rd_T30 t134 6).f3) == 30)))) = true
                  · rw [if_pos c12] at H
                    have c12b0 : (((rd_T30 t134 6).f0) == 6 && ((((rd_T30 t134 6).f1).toList) == ([] : List UInt8) && (((rd_T30 t134 6).f2) == 0 && (((rd_T30 t134 6).f3) == 30)))) = true := c12
                    (try (have c12b5 := c12; simp only [Bool.and_eq_true, beq_iff_eq] at c12b5))
                    (try (have c12b5 := c12; simp only [Bool.and_eq_true, beq_iff_eq] at c12b5))
                    (try (have c12b1 : decide (((rd_T30 t134 6).f0) = 6 && ((((rd_T30 t134 6).f1).toList) == ([] : List UInt8) && (((rd_T30 t134 6).f2) == 0 && (((rd_T30 t134 6).f3) == 30)))) = true := by simpa using c12))
                    (try (have c12b2 : (((rd_T30 t134 6).f0) == 6 && ((((rd_T30 t134 6).f1).toList) == ([] : List UInt8) && (((rd_T30 t134 6).f2) == 0 && (((rd_T30 t134 6).f3) == 30)))) = true := by simpa using c12))
                    clear c12
                    by_cases c13 : t141 = 0
                    · rw [if_pos c13] at H
                      have c13b0 : (t141 == 0) = true := beq_iff_eq.mpr c13
                      have c13b1 : (t141 != 0) = false := bne_eq_false_iff_eq.mpr c13
                      clear c13
                      by_cases c14 : (t139.length : Int) = 2
                      · rw [if_pos c14] at H
                        have c14b0 : ((t139.length : Int) == 2) = true := beq_iff_eq.mpr c14
                        have c14b1 : ((t139.length : Int) != 2) = false := bne_eq_false_iff_eq.mpr c14
                        clear c14
                        by_cases c15 : 0 < (t139.length : Int)
                        · rw [if_pos c15] at H
                          have c15b0 : decide (0 < (t139.length : Int)) = true := decide_eq_true c15
                          have c15b1 : decide (0 < t139.length) = true := decide_eq_true (by omega)
                          clear c15
                          by_cases c16 : ((rd_T30 t139 0).f1).toList = ([15] : List UInt8)
                          · rw [if_pos c16] at H
                            have c16b0 : (((rd_T30 t139 0).f1).toList == ([15] : List UInt8)) = true := beq_iff_eq.mpr c16
                            have c16b1 : (((rd_T30 t139 0).f1).toList != ([15] : List UInt8)) = false := bne_eq_false_iff_eq.mpr c16
                            clear c16
                            by_cases c17 : t145 = 0
                            · rw [if_pos c17] at H
                              have c17b0 : (t145 == 0) = true := beq_iff_eq.mpr c17
                              have c17b1 : (t145 != 0) = false := bne_eq_false_iff_eq.mpr c17
                              clear c17
                              by_cases c18 : t146 = 60
                              · rw [if_pos c18] at H
                                have c18b0 : (t146 == 60) = true := beq_iff_eq.mpr c18
                                have c18b1 : (t146 != 60) = false := bne_eq_false_iff_eq.mpr c18
                                clear c18
                                replace H := Option.bind_eq_some_iff.mp H
                                obtain ⟨t153, A190, H⟩ := H
                                replace H : (if t153 = true then ((token_Reserved.f (⟨#[115, 101, 108, 101, 99, 116]⟩ : ByteArray)).bind fun t154 => (some t154)) else (some false)) = some r := H
                                have A19 := Aside0.mk A190
                                clear A190
                                by_cases c20 : t153 = true
                                · subst c20
                                  have H1 : ((token_Reserved.f (⟨#[115, 101, 108, 101, 99, 116]⟩ : ByteArray)).bind fun t154 => (some t154)) = some r := by rw [if_pos rfl] at H; exact H
                                  clear H
                                  have H := H1
                                  clear H1
                                  replace H := Option.bind_eq_some_iff.mp H
                                  obtain ⟨t154, A210, H⟩ := H
                                  replace H : (some t154) = some r := H
                                  have A21 := Aside0.mk A210
                                  clear A210
                                  obtain rfl := Option.some.inj H
                                  go_enter Tryd.func9, Tryd.ntmps9
                                  go_wp2_with (first | ((with_reducible refine gate_callee (f := 10) rfl ?_); refine goesL_ (some 11) rfl rfl Tryd.func10 (by kernel_rfl) rfl #[.string (⟨#[115, 101, 108, 101, 99, 116, 32, 65, 49, 44, 32, 39, 105, 116, 39, 39, 115, 39, 32, 102, 114, 111, 109, 32, 116, 32, 45, 45, 32, 120]⟩ : ByteArray)] rfl (by (try simp only [List.map_toArray, List.map_cons, List.map_nil]); first | done | rfl | (simp only [List.length_drop, List.length_take]; rfl)) ?_; (with_reducible refine (token_Cut.calls (⟨#[115, 101, 108, 101, 99, 116, 32, 65, 49, 44, 32, 39, 105, 116, 39, 39, 115, 39, 32, 102, 114, 111, 109, 32, 116, 32, 45, 45, 32, 120]⟩ : ByteArray) t134 t135 t136 _ A1.out).mono ?_); rintro e w22 ⟨v137, rfl, ho0, hb⟩; refine ⟨_, rfl, ?_⟩; have n0_ := Aside0.mk (Kd.R_lower ho0 (below_size (by repeat (first | (with_reducible first | exact HB.out | apply below_alloc | apply pw_below_drewN | apply below_drew1) | exact HB.out)))); have n1_ := Aside0.mk (below_step (by repeat (first | (with_reducible first | exact HB.out | apply below_alloc | apply pw_below_drewN | apply below_drew1) | exact HB.out)) hb); clear HB; have HO138 := n0_; have HB := n1_; clear n0_ n1_; (try clear hb); (try clear hb2); (try clear hk); (try clear hi); (try clear ho0)) | ((with_reducible refine gate_callee (f := 10) rfl ?_); refine goesL_ (some 16) rfl rfl Tryd.func10 (by kernel_rfl) rfl #[.string (⟨#[120, 39, 48, 70, 39]⟩ : ByteArray)] rfl (by (try simp only [List.map_toArray, List.map_cons, List.map_nil]); first | done | rfl | (simp only [List.length_drop, List.length_take]; rfl)) ?_; (with_reducible refine (token_Cut.calls (⟨#[120, 39, 48, 70, 39]⟩ : ByteArray) t139 t140 t141 _ A2.out).mono ?_); rintro e w23 ⟨v142, rfl, ho0, hb⟩; refine ⟨_, rfl, ?_⟩; have n0_ := Aside0.mk (Kd.R_elder' (by (with_reducible repeat (first | apply Kd.R_alloc | apply Kd.R_drewN | apply Kd.R_drew)); exact HO138.out) (Kd.R_base ho0) hb); have n1_ := Aside0.mk (Kd.R_lower (Kd.R_new' ho0 (Kd.R_lt (by (with_reducible repeat (first | apply Kd.R_alloc | apply Kd.R_drewN | apply Kd.R_drew)); exact HO138.out))) (below_size (by repeat (first | (with_reducible first | exact HB.out | apply below_alloc | apply pw_below_drewN | apply below_drew1) | exact HB.out)))); have n2_ := Aside0.mk (below_step (by repeat (first | (with_reducible first | exact HB.out | apply below_alloc | apply pw_below_drewN | apply below_drew1) | exact HB.out)) hb); clear HO138; clear HB; have HO138 := n0_; have HO143 := n1_; have HB := n2_; clear n0_ n1_ n2_; (try clear hb); (try clear hb2); (try clear hk); (try clear hi); (try clear ho0)) | ((with_reducible refine gate_callee (f := 10) rfl ?_); refine goesL_ (some 21) rfl rfl Tryd.func10 (by kernel_rfl) rfl #[.string (⟨#[49, 50, 97]⟩ : ByteArray)] rfl (by (try simp only [List.map_toArray, List.map_cons, List.map_nil]); first | done | rfl | (simp only [List.length_drop, List.length_take]; rfl)) ?_; (with_reducible refine (token_Cut.calls (⟨#[49, 50, 97]⟩ : ByteArray) t144 t145 t146 _ A3.out).mono ?_); rintro e w24 ⟨v147, rfl, ho0, hb⟩; refine ⟨_, rfl, ?_⟩; have n0_ := Aside0.mk (Kd.R_elder' (by (with_reducible repeat (first | apply Kd.R_alloc | apply Kd.R_drewN | apply Kd.R_drew)); exact HO138.out) (Kd.R_base ho0) hb); have n1_ := Aside0.mk (Kd.R_elder' (by (with_reducible repeat (first | apply Kd.R_alloc | apply Kd.R_drewN | apply Kd.R_drew)); exact HO143.out) (Kd.R_base ho0) hb); have n2_ := Aside0.mk (Kd.R_lower (Kd.R_new' (Kd.R_new' ho0 (Kd.R_lt (by (with_reducible repeat (first | apply Kd.R_alloc | apply Kd.R_drewN | apply Kd.R_drew)); exact HO138.out))) (Kd.R_lt (by (with_reducible repeat (first | apply Kd.R_alloc | apply Kd.R_drewN | apply Kd.R_drew)); exact HO143.out))) (below_size (by repeat (first | (with_reducible first | exact HB.out | apply below_alloc | apply pw_below_drewN | apply below_drew1) | exact HB.out)))); have n3_ := Aside0.mk (below_step (by repeat (first | (with_reducible first | exact HB.out | apply below_alloc | apply pw_below_drewN | apply below_drew1) | exact HB.out)) hb); clear HO138; clear HO143; clear HB; have HO138 := n0_; have HO143 := n1_; have HO148 := n2_; have HB := n3_; clear n0_ n1_ n2_ n3_; (try clear hb); (try clear hb2); (try clear hk); (try clear hi); (try clear ho0); obtain ⟨Ao25, co25, eo25⟩ := Kd.R_slice HO138.out; subst eo25; have p149 : 0 ≤ (1 : Int) := (by omega); have q149 : 1 < (t134.length : Int) := of_decide_eq_true (by first | (with_reducible assumption) | assumption); obtain ⟨ad149, e149, hx149_0, hx149_1, hx149_2, hx149_3⟩ := at_T30 (Kd.R_reads' HO138.out).2.2 1 p149 q149; cases e149; (try simp only [show (1 : Int).toNat = 1 from rfl, Nat.reduceMul, Nat.reduceEqDiff, Go.Addr.add, ↓reduceIte] at hx149_0); (try simp only [show (1 : Int).toNat = 1 from rfl, Nat.reduceMul, Nat.reduceEqDiff, Go.Addr.add, ↓reduceIte] at hx149_1); (try simp only [show (1 : Int).toNat = 1 from rfl, Nat.reduceMul, Nat.reduceEqDiff, Go.Addr.add, ↓reduceIte] at hx149_2); (try simp only [show (1 : Int).toNat = 1 from rfl, Nat.reduceMul, Nat.reduceEqDiff, Go.Addr.add, ↓reduceIte] at hx149_3); have qi149 : (1 < t134.length) = True := eq_true (by omega); (try rw [show ((1 : Int)).toNat = 1 from rfl] at hx149_0); (try rw [show 1 * 4 = 4 from rfl] at hx149_0); (try rw [show ((1 : Int)).toNat = 1 from rfl] at hx149_1); (try rw [show 1 * 4 = 4 from rfl] at hx149_1); (try rw [show ((1 : Int)).toNat = 1 from rfl] at hx149_2); (try rw [show 1 * 4 = 4 from rfl] at hx149_2); (try rw [show ((1 : Int)).toNat = 1 from rfl] at hx149_3); (try rw [show 1 * 4 = 4 from rfl] at hx149_3); replace p149 := eq_true p149; replace q149 := eq_true q149; have p150 : 0 ≤ (3 : Int) := (by omega); have q150 : 3 < (t134.length : Int) := of_decide_eq_true (by first | (with_reducible assumption) | assumption); obtain ⟨ad150, e150, hx150_0, hx150_1, hx150_2, hx150_3⟩ := at_T30 (Kd.R_reads' HO138.out).2.2 3 p150 q150; obtain rfl : ad149 = ad150 := (by injection e150); (try simp only [show (3 : Int).toNat = 3 from rfl, Nat.reduceMul, Nat.reduceEqDiff, Go.Addr.add, ↓reduceIte] at hx150_0); (try simp only [show (3 : Int).toNat = 3 from rfl, Nat.reduceMul, Nat.reduceEqDiff, Go.Addr.add, ↓reduceIte] at hx150_1); (try simp only [show (3 : Int).toNat = 3 from rfl, Nat.reduceMul, Nat.reduceEqDiff, Go.Addr.add, ↓reduceIte] at hx150_2); (try simp only [show (3 : Int).toNat = 3 from rfl, Nat.reduceMul, Nat.reduceEqDiff, Go.Addr.add, ↓reduceIte] at hx150_3); have qi150 : (3 < t134.length) = True := eq_true (by omega); (try rw [show ((3 : Int)).toNat = 3 from rfl] at hx150_0); (try rw [show 3 * 4 = 12 from rfl] at hx150_0); (try rw [show ((3 : Int)).toNat = 3 from rfl] at hx150_1); (try rw [show 3 * 4 = 12 from rfl] at hx150_1); (try rw [show ((3 : Int)).toNat = 3 from rfl] at hx150_2); (try rw [show 3 * 4 = 12 from rfl] at hx150_2); (try rw [show ((3 : Int)).toNat = 3 from rfl] at hx150_3); (try rw [show 3 * 4 = 12 from rfl] at hx150_3); replace p150 := eq_true p150; replace q150 := eq_true q150; have p151 : 0 ≤ (6 : Int) := (by omega); have q151 : 6 < (t134.length : Int) := of_decide_eq_true (by first | (with_reducible assumption) | assumption); obtain ⟨ad151, e151, hx151_0, hx151_1, hx151_2, hx151_3⟩ := at_T30 (Kd.R_reads' HO138.out).2.2 6 p151 q151; obtain rfl : ad149 = ad151 := (by injection e151); (try simp only [show (6 : Int).toNat = 6 from rfl, Nat.reduceMul, Nat.reduceEqDiff, Go.Addr.add, ↓reduceIte] at hx151_0); (try simp only [show (6 : Int).toNat = 6 from rfl, Nat.reduceMul, Nat.reduceEqDiff, Go.Addr.add, ↓reduceIte] at hx151_1); (try simp only [show (6 : Int).toNat = 6 from rfl, Nat.reduceMul, Nat.reduceEqDiff, Go.Addr.add, ↓reduceIte] at hx151_2); (try simp only [show (6 : Int).toNat = 6 from rfl, Nat.reduceMul, Nat.reduceEqDiff, Go.Addr.add, ↓reduceIte] at hx151_3); have qi151 : (6 < t134.length) = True := eq_true (by omega); (try rw [show ((6 : Int)).toNat = 6 from rfl] at hx151_0); (try rw [show 6 * 4 = 24 from rfl] at hx151_0); (try rw [show ((6 : Int)).toNat = 6 from rfl] at hx151_1); (try rw [show 6 * 4 = 24 from rfl] at hx151_1); (try rw [show ((6 : Int)).toNat = 6 from rfl] at hx151_2); (try rw [show 6 * 4 = 24 from rfl] at hx151_2); (try rw [show ((6 : Int)).toNat = 6 from rfl] at hx151_3); (try rw [show 6 * 4 = 24 from rfl] at hx151_3); replace p151 := eq_true p151; replace q151 := eq_true q151; obtain ⟨Ao26, co26, eo26⟩ := Kd.R_slice HO143.out; subst eo26; have p152 : 0 ≤ (0 : Int) := (by omega); have q152 : 0 < (t139.length : Int) := of_decide_eq_true (by first | (with_reducible assumption) | assumption); obtain ⟨ad152, e152, hx152_0, hx152_1, hx152_2, hx152_3⟩ := at_T30 (Kd.R_reads' HO143.out).2.2 0 p152 q152; cases e152; have qi152 : (0 < t139.length) = True := eq_true (by omega); (try rw [show ((0 : Int)).toNat = 0 from rfl] at hx152_0); (try rw [show 0 * 4 = 0 from rfl] at hx152_0); (try rw [Addr.add_zero'] at hx152_0); (try rw [show ((0 : Int)).toNat = 0 from rfl] at hx152_1); (try rw [show 0 * 4 = 0 from rfl] at hx152_1); (try rw [Addr.add_zero'] at hx152_1); (try rw [show ((0 : Int)).toNat = 0 from rfl] at hx152_2); (try rw [show 0 * 4 = 0 from rfl] at hx152_2); (try rw [Addr.add_zero'] at hx152_2); (try rw [show ((0 : Int)).toNat = 0 from rfl] at hx152_3); (try rw [show 0 * 4 = 0 from rfl] at hx152_3); (try rw [Addr.add_zero'] at hx152_3); replace p152 := eq_true p152; replace q152 := eq_true q152) | (go_at_call 13; (with_reducible refine (token_IsName.calls k (⟨#[97, 49]⟩ : ByteArray) true _ A19.out).mono ?_); rintro e w27 ⟨rfl, hb⟩; have n0_ := Aside0.mk (Kd.R_below (by (with_reducible repeat (first | apply Kd.R_alloc | apply Kd.R_drewN | apply Kd.R_drew)); exact HO138.out) hb); have n1_ := Aside0.mk (Kd.R_below (by (with_reducible repeat (first | apply Kd.R_alloc | apply Kd.R_drewN | apply Kd.R_drew)); exact HO143.out) hb); have n2_ := Aside0.mk (Kd.R_below (by (with_reducible repeat (first | apply Kd.R_alloc | apply Kd.R_drewN | apply Kd.R_drew)); exact HO148.out) hb); have n3_ := Aside0.mk (below_step (by repeat (first | (with_reducible first | exact HB.out | apply below_alloc | apply pw_below_drewN | apply below_drew1) | exact HB.out)) hb); clear HO138; clear HO143; clear HO148; clear HB; have HO138 := n0_; have HO143 := n1_; have HO148 := n2_; have HB := n3_; clear n0_ n1_ n2_ n3_; (try clear hb); (try clear hb2); (try clear hk); (try clear hi)) | (go_at_call 15; (with_reducible refine (token_Reserved.calls (⟨#[115, 101, 108, 101, 99, 116]⟩ : ByteArray) t154 _ A21.out).mono ?_); rintro e w28 ⟨rfl, hb⟩; have n0_ := Aside0.mk (Kd.R_below (by (with_reducible repeat (first | apply Kd.R_alloc | apply Kd.R_drewN | apply Kd.R_drew)); exact HO138.out) hb); have n1_ := Aside0.mk (Kd.R_below (by (with_reducible repeat (first | apply Kd.R_alloc | apply Kd.R_drewN | apply Kd.R_drew)); exact HO143.out) hb); have n2_ := Aside0.mk (Kd.R_below (by (with_reducible repeat (first | apply Kd.R_alloc | apply Kd.R_drewN | apply Kd.R_drew)); exact HO148.out) hb); have n3_ := Aside0.mk (below_step (by repeat (first | (with_reducible first | exact HB.out | apply below_alloc | apply pw_below_drewN | apply below_drew1) | exact HB.out)) hb); clear HO138; clear HO143; clear HO148; clear HB; have HO138 := n0_; have HO143 := n1_; have HO148 := n2_; have HB := n3_; clear n0_ n1_ n2_ n3_; (try clear hb); (try clear hb2); (try clear hk); (try clear hi)))
                                  go_ret
                                  exact ⟨by first | rfl | (simp [errW_none, errW_some] <;> rfl) | (simp [*, errW_none, errW_some] <;> rfl), by repeat (first | (with_reducible first | exact HB.out | apply below_alloc | apply pw_below_drewN | apply below_drew1) | exact HB.out)⟩
                                · replace c20 := Bool.eq_false_iff.mpr c20
                                  subst c20
                                  have H1 : (some false) = some r := by rw [if_neg (show ¬ (false = true) by decide)] at H; exact H
                                  clear H
                                  have H := H1
                                  clear H1
                                  exact absurd ((Option.some.inj H).trans HRT.out) Bool.false_ne_true
                              · rw [if_neg c18] at H
                                have c18b0 : (t146 == 60) = false := beq_eq_false_iff_ne.mpr c18
                                have c18b1 : (t146 != 60) = true := bne_iff_ne.mpr c18
                                exact absurd ((Option.some.inj H).trans HRT.out) Bool.false_ne_true
                            · rw [if_neg c17] at H
                              have c17b0 : (t145 == 0) = false := beq_eq_false_iff_ne.mpr c17
                              have c17b1 : (t145 != 0) = true := bne_iff_ne.mpr c17
                              exact absurd ((Option.some.inj H).trans HRT.out) Bool.false_ne_true
                          · rw [if_neg c16] at H
                            have c16b0 : (((rd_T30 t139 0).f1).toList == ([15] : List UInt8)) = false := beq_eq_false_iff_ne.mpr c16
                            have c16b1 : (((rd_T30 t139 0).f1).toList != ([15] : List UInt8)) = true := bne_iff_ne.mpr c16
                            exact absurd ((Option.some.inj H).trans HRT.out) Bool.false_ne_true
                        · rw [if_neg c15] at H
                          exact absurd H (by simp)
                      · rw [if_neg c14] at H
                        have c14b0 : ((t139.length : Int) == 2) = false := beq_eq_false_iff_ne.mpr c14
                        have c14b1 : ((t139.length : Int) != 2) = true := bne_iff_ne.mpr c14
                        exact absurd ((Option.some.inj H).trans HRT.out) Bool.false_ne_true
                    · rw [if_neg c13] at H
                      have c13b0 : (t141 == 0) = false := beq_eq_false_iff_ne.mpr c13
                      have c13b1 : (t141 != 0) = true := bne_iff_ne.mpr c13
                      exact absurd ((Option.some.inj H).trans HRT.out) Bool.false_ne_true
                  · rw [if_neg c12] at H
                    have c12b0 : (((rd_T30 t134 6).f0) == 6 && ((((rd_T30 t134 6).f1).toList) == ([] : List UInt8) && (((rd_T30 t134 6).f2) == 0 && (((rd_T30 t134 6).f3) == 30)))) = false := by simpa using c12
                    (try (have c12b1 : decide (((rd_T30 t134 6).f0) = 6 && ((((rd_T30 t134 6).f1).toList) == ([] : List UInt8) && (((rd_T30 t134 6).f2) == 0 && (((rd_T30 t134 6).f3) == 30)))) = false := by simpa using c12))
                    (try (have c12b2 : (((rd_T30 t134 6).f0) == 6 && ((((rd_T30 t134 6).f1).toList) == ([] : List UInt8) && (((rd_T30 t134 6).f2) == 0 && (((rd_T30 t134 6).f3) == 30)))) = false := by simpa using c12))
                    (try (have c12b3 : ¬ (((rd_T30 t134 6).f0) = 6 && ((((rd_T30 t134 6).f1).toList) == ([] : List UInt8) && (((rd_T30 t134 6).f2) == 0 && (((rd_T30 t134 6).f3) == 30)))) := by simpa using c12))
                    clear c12
                    exact absurd ((Option.some.inj H).trans HRT.out) Bool.false_ne_true
                · rw [if_neg c11] at H
                  exact absurd H (by simp)
              · rw [if_neg c10] at H
                have c10b0 : (((rd_T30 t134 3).f0) == 3 && ((((rd_T30 t134 3).f1).toList) == ([105, 116, 39, 115] : List UInt8) && (((rd_T30 t134 3).f2) == 0 && (((rd_T30 t134 3).f3) == 11)))) = false := by simpa using c10
                (try (have c10b1 : decide (((rd_T30 t134 3).f0) = 3 && ((((rd_T30 t134 3).f1).toList) == ([105, 116, 39, 115] : List UInt8) && (((rd_T30 t134 3).f2) == 0 && (((rd_T30 t134 3).f3) == 11)))) = false := by simpa using c10))
                (try (have c10b2 : (((rd_T30 t134 3).f0) == 3 && ((((rd_T30 t134 3).f1).toList) == ([105, 116, 39, 115] : List UInt8) && (((rd_T30 t134 3).f2) == 0 && (((rd_T30 t134 3).f3) == 11)))) = false := by simpa using c10))
                (try (have c10b3 : ¬ (((rd_T30 t134 3).f0) = 3 && ((((rd_T30 t134 3).f1).toList) == ([105, 116, 39, 115] : List UInt8) && (((rd_T30 t134 3).f2) == 0 && (((rd_T30 t134 3).f3) == 11)))) := by simpa using c10))
                clear c10
                exact absurd ((Option.some.inj H).trans HRT.out) Bool.false_ne_true
            · rw [if_neg c9] at H
              exact absurd H (by simp)
          · rw [if_neg c8] at H
            have c8b0 : (((rd_T30 t134 1).f1).toList == ([97, 49] : List UInt8)) = false := beq_eq_false_iff_ne.mpr c8
            have c8b1 : (((rd_T30 t134 1).f1).toList != ([97, 49] : List UInt8)) = true := bne_iff_ne.mpr c8
            exact absurd ((Option.some.inj H).trans HRT.out) Bool.false_ne_true
        · rw [if_neg c7] at H
          exact absurd H (by simp)
      · rw [if_neg c6] at H
        have c6b0 : ((t134.length : Int) == 7) = false := beq_eq_false_iff_ne.mpr c6
        have c6b1 : ((t134.length : Int) != 7) = true := bne_iff_ne.mpr c6
        exact absurd ((Option.some.inj H).trans HRT.out) Bool.false_ne_true
    · rw [if_neg c5] at H
      have c5b0 : (t135 == 0) = false := beq_eq_false_iff_ne.mpr c5
      have c5b1 : (t135 != 0) = true := bne_iff_ne.mpr c5
      exact absurd ((Option.some.inj H).trans HRT.out) Bool.false_ne_true
  · rw [if_neg c4] at H
    have c4b0 : (t136 == 0) = false := beq_eq_false_iff_ne.mpr c4
    have c4b1 : (t136 != 0) = true := bne_iff_ne.mpr c4
    exact absurd ((Option.some.inj H).trans HRT.out) Bool.false_ne_true

/-! ### boscageref06_at: function 35 -/
def boscageref06_at.f (a0 : ByteArray) (a1 : Int) : Option (Int) := if a1 < 0 then (some 0) else (if a1 ≥ (a0.size : Int) then (some 0) else (if 0 ≤ a1 then (if a1 < (a0.size : Int) then (some (bt a0 a1)) else (none)) else (none)))
set_option maxHeartbeats 8000000 in
set_option maxRecDepth 100000 in
theorem boscageref06_at.calls (a0 : ByteArray) (a1 : Int) (r : Int) (w : World) (h : boscageref06_at.f a0 a1 = some r) :
    Calls Tryd.prog 35 #[.string a0, .int .i64 a1] w fun e w' => e = .returned (.int .u8 r) ∧ Drawn0 w w' := by
  have H : (if a1 < 0 then (some 0) else (if a1 ≥ (a0.size : Int) then (some 0) else (if 0 ≤ a1 then (if a1 < (a0.size : Int) then (some (bt a0 a1)) else (none)) else (none)))) = some r := h
  clear h
  by_cases c3 : a1 < 0
  · rw [if_pos c3] at H
    have c3b0 : decide (a1 < 0) = true := decide_eq_true c3
    clear c3
    obtain rfl := Option.some.inj H
    go_enter Tryd.func35, Tryd.ntmps35
    go_wp2
    go_ret
    exact ⟨by first | rfl | (simp; done) | (simp [*]; done), by repeat (first | exact Drawn0.refl _ | apply Drawn0.step)⟩
  · rw [if_neg c3] at H
    have c3b0 : decide (a1 < 0) = false := decide_eq_false c3
    clear c3
    by_cases c4 : a1 ≥ (a0.size : Int)
    · rw [if_pos c4] at H
      have c4b0 : decide ((a0.size : Int) ≤ a1) = true := decide_eq_true c4
      clear c4
      obtain rfl := Option.some.inj H
      go_enter Tryd.func35, Tryd.ntmps35
      go_wp2
      go_ret
      exact ⟨by first | rfl | (simp; done) | (simp [*]; done), by repeat (first | exact Drawn0.refl _ | apply Drawn0.step)⟩
    · rw [if_neg c4] at H
      have c4b0 : decide ((a0.size : Int) ≤ a1) = false := decide_eq_false c4
      clear c4
      by_cases c5 : 0 ≤ a1
      · rw [if_pos c5] at H
        have c5b0 : decide (0 ≤ a1) = true := decide_eq_true c5
        clear c5
        by_cases c6 : a1 < (a0.size : Int)
        · rw [if_pos c6] at H
          have c6b0 : decide (a1 < (a0.size : Int)) = true := decide_eq_true c6
          clear c6
          obtain rfl := Option.some.inj H
          have p7 : 0 ≤ (a1 : Int) := of_decide_eq_true (by first | (with_reducible assumption) | assumption)
          have q7 : a1 < (a0.size : Int) := of_decide_eq_true (by first | (with_reducible assumption) | assumption)
          have hx7 := bt_at a0 a1
          replace p7 := eq_true p7
          replace q7 := eq_true q7
          go_enter Tryd.func35, Tryd.ntmps35
          go_wp2
          go_ret
          exact ⟨by first | rfl | (simp; done) | (simp [*]; done), by repeat (first | exact Drawn0.refl _ | apply Drawn0.step)⟩
        · rw [if_neg c6] at H
          exact absurd H (by simp)
      · rw [if_neg c5] at H
        exact absurd H (by simp)

end Go.Proofs.YtffaibjiiiochaaDoor.QTA
