/- Plain facts on guarded texts, joined patterns and patterns of _ and %. -/
import Derived.Test.YtlmfaidocdlpeaaLikeB
set_option linter.unusedVariables false
set_option linter.unusedSimpArgs false
namespace Go.Proofs.Ytlmfaidocdlpeaa.Lk
open Go.RowKit Go.Proofs.YtlmfaidocdlpeaaW.PrintWords Go.Proofs.Ytlmfaidocdlpeaa.Pu Go.Proofs.Ytlmfaidocdlpeaa.QLK

theorem next_append {l r q : List UInt8} {x : Piece} (h : next l = some (x, r)) : next (l ++ q) = some (x, r ++ q) := by
  match l, h with
  | c :: p, h =>
    by_cases c1 : c.toNat = 92
    · rw [next, if_pos c1] at h
      match p, h with
      | d :: p', h =>
        by_cases c2 : d.toNat = 37 ∨ d.toNat = 95 ∨ d.toNat = 92
        · rw [esc, if_pos c2] at h
          simp only [Option.some.injEq, Prod.mk.injEq] at h
          rw [List.cons_append, List.cons_append, next, if_pos c1, esc, if_pos c2]
          simp [h.1, h.2]
        · rw [esc, if_neg c2] at h; cases h
    · rw [List.cons_append]
      rw [next, if_neg c1] at h ⊢
      by_cases c2 : c.toNat = 37
      · rw [if_pos c2] at h ⊢; simp only [Option.some.injEq, Prod.mk.injEq] at h; simp [h.1, h.2]
      · rw [if_neg c2] at h ⊢
        by_cases c3 : c.toNat = 95
        · rw [if_pos c3] at h ⊢; simp only [Option.some.injEq, Prod.mk.injEq] at h; simp [h.1, h.2]
        · rw [if_neg c3] at h ⊢; simp only [Option.some.injEq, Prod.mk.injEq] at h; simp [h.1, h.2]

theorem pieces_append (d : Nat) : ∀ (l q : List UInt8) (ps : List Piece), l.length = d → pieces l = some ps → pieces (l ++ q) = (pieces q).map (ps ++ ·) := by
  induction d using Nat.strongRecOn with
  | _ d ih =>
    intro l q ps hd hp
    by_cases e : l = []
    · subst e; rw [pieces_nil] at hp; obtain rfl := Option.some.inj hp
      rw [List.nil_append]
      cases hq : pieces q <;> simp
    · cases h : next l with
      | none => rw [pieces_none e h] at hp; cases hp
      | some z =>
        obtain ⟨pi, r⟩ := z
        obtain ⟨n, h1, h2, h3, rfl⟩ := next_shorter h
        rw [pieces_some h] at hp
        cases hr : pieces (l.drop n) with
        | none => rw [hr] at hp; cases hp
        | some rs =>
          rw [hr] at hp
          obtain rfl := (Option.some.inj hp)
          rw [pieces_some (next_append (q := q) h), ih (l.drop n).length (by rw [List.length_drop]; omega) (l.drop n) q rs rfl hr]
          cases pieces q <;> simp
theorem pieces_join {l q : List UInt8} {ps qs : List Piece} (hp : pieces l = some ps) (hq : pieces q = some qs) : pieces (l ++ q) = some (ps ++ qs) := by
  rw [pieces_append _ l q ps rfl hp, hq]; rfl

/-! a text with each sign guarded -/
def sign (c : UInt8) : Prop := c.toNat = 37 ∨ c.toNat = 95 ∨ c.toNat = 92
instance (c : UInt8) : Decidable (sign c) := inferInstanceAs (Decidable (_ ∨ _ ∨ _))
def guard : List UInt8 → List UInt8
  | [] => []
  | c :: s => (if sign c then [92, c] else [c]) ++ guard s
theorem guard_append (a b : List UInt8) : guard (a ++ b) = guard a ++ guard b := by
  induction a with
  | nil => rfl
  | cons c a ih => simp only [List.cons_append, guard, ih, List.append_assoc]
theorem pieces_guard (s : List UInt8) : pieces (guard s) = some (s.map .ch) := by
  induction s with
  | nil => exact pieces_nil
  | cons c s ih =>
    by_cases h : sign c
    · have e : next (guard (c :: s)) = some (.ch c, guard s) := by
        rw [guard, if_pos h]
        show next (92 :: c :: guard s) = _
        rw [next, if_pos (by rfl), esc]
        exact if_pos h
      rw [pieces_some e, ih]; rfl
    · have e : next (guard (c :: s)) = some (.ch c, guard s) := by
        rw [guard, if_neg h]
        show next (c :: guard s) = _
        unfold sign at h
        rw [next, if_neg (by omega), if_neg (by omega), if_neg (by omega)]
      rw [pieces_some e, ih]; rfl
theorem guard_length (s : List UInt8) : (guard s).length ≤ 2 * s.length := by
  induction s with
  | nil => simp [guard]
  | cons c s ih =>
    simp only [guard, List.length_append, List.length_cons]
    split <;> simp <;> omega
theorem m_chs (s t : List UInt8) : m (s.map .ch) t = decide (t = s) := by
  induction s generalizing t with
  | nil => cases t <;> simp [m]
  | cons c s ih =>
    cases t with
    | nil => simp [m]
    | cons d t => simp [m, ih]
theorem m_all (t : List UInt8) : m [.any] t = true := by
  rw [m_any]; exact ⟨t.length, Nat.le_refl _, by rw [List.drop_length]; simp [m]⟩
theorem m_chs_any (s t : List UInt8) : m (s.map .ch ++ [.any]) t = (decide (s.length ≤ t.length) && decide (t.take s.length = s)) := by
  apply Bool.eq_iff_iff.2
  rw [m_append, Bool.and_eq_true, decide_eq_true_eq, decide_eq_true_eq]
  constructor
  · rintro ⟨i, hi, h, _⟩
    rw [m_chs, decide_eq_true_eq] at h
    have hl := congrArg List.length h
    rw [List.length_take] at hl
    have : i = s.length := by omega
    subst this
    exact ⟨hi, h⟩
  · rintro ⟨h1, h2⟩
    exact ⟨s.length, h1, by rw [m_chs, decide_eq_true_eq]; exact h2, m_all _⟩
theorem pre_chs (s : List UInt8) : pre (s.map .ch) = (s, true) := by
  induction s with
  | nil => rfl
  | cons c s ih => simp [pre, ih]
theorem pieces_percent : pieces [37] = some [.any] := by
  have e : next [37] = some (.any, []) := by rw [next, if_neg (by decide), if_pos (by rfl)]
  rw [pieces_some e, pieces_nil]; rfl
theorem pieces_low : pieces [95] = some [.one] := by
  have e : next [95] = some (.one, []) := by rw [next, if_neg (by decide), if_neg (by decide), if_pos (by rfl)]
  rw [pieces_some e, pieces_nil]; rfl
theorem pre_begins (ps : List Piece) (s : List UInt8) (h : m ps s = true) : (pre ps).1.length ≤ s.length ∧ s.take (pre ps).1.length = (pre ps).1 := by
  induction ps generalizing s with
  | nil => simp [pre]
  | cons x ps ih =>
    cases x with
    | any => simp [pre]
    | one => simp [pre]
    | ch c =>
      cases s with
      | nil => simp [m] at h
      | cons d s =>
        simp only [m, Bool.and_eq_true, decide_eq_true_eq] at h
        obtain ⟨rfl, h⟩ := h
        have := ih s h
        simp [pre]
        exact this
theorem m_ones (n : Nat) (s : List UInt8) : m (List.replicate n .one) s = decide (s.length = n) := by
  induction n generalizing s with
  | zero => cases s <;> simp [m]
  | succ n ih =>
    rw [List.replicate_succ]
    cases s with
    | nil => simp [m]
    | cons c s => simp [m, ih]
theorem m_ones_any (a b : Nat) (s : List UInt8) : m (List.replicate a .one ++ (.any :: List.replicate b .one)) s = decide (a + b ≤ s.length) := by
  apply Bool.eq_iff_iff.2
  rw [m_append, decide_eq_true_eq]
  constructor
  · rintro ⟨i, hi, h1, h2⟩
    rw [m_ones, decide_eq_true_eq, List.length_take] at h1
    rw [m_any] at h2
    obtain ⟨j, hj, h2⟩ := h2
    rw [m_ones, decide_eq_true_eq, List.length_drop, List.length_drop] at h2
    rw [List.length_drop] at hj
    omega
  · intro h
    refine ⟨a, by omega, by rw [m_ones, decide_eq_true_eq, List.length_take]; omega, ?_⟩
    rw [m_any]
    exact ⟨s.length - a - b, by rw [List.length_drop]; omega, by rw [m_ones, decide_eq_true_eq, List.length_drop, List.length_drop]; omega⟩

/-! the law's guarded -/
theorem guarded_loop (x : ByteArray) (hsz : x.size ≤ 1000000) (rest : List UInt8) : ∀ (i : Nat) (acc : ByteArray), (bs x).drop i = rest → i ≤ x.size → acc.size ≤ 2 * i →
    Ev (fun k => boscagelaw04_guarded.l0 k x acc (i : Int)) (⟨(bs acc ++ guard rest).toArray⟩) := by
  have hs := bs_length x
  induction rest with
  | nil =>
    intro i acc hr hi ha
    have := drop_len hr (by omega)
    simp only [List.length_nil] at this
    refine Ev.at1 ?_
    simp only [boscagelaw04_guarded.l0]
    refine Ev.neg (by omega) (Ev.done ?_)
    simp [guard, mk_bs]
  | cons c r ih =>
    intro i acc hr hi ha
    have hl := drop_lt hr
    have hb := bt_drop hr
    have hw : wrap64 ((i : Int) + 1) = ((i + 1 : Nat) : Int) := by rw [wrap_id (by omega) (by omega)]; rfl
    have hx : bs (x.extract ((i : Int)).toNat (((i + 1 : Nat) : Int)).toNat) = [c] := by
      rw [Int.toNat_natCast, Int.toNat_natCast, bs_extract, take_next hr, List.drop_append_of_le_length (by rw [List.length_take]; omega)]
      rw [List.drop_of_length_le (by rw [List.length_take]; omega)]; rfl
    have hz : (x.extract ((i : Int)).toNat (((i + 1 : Nat) : Int)).toNat).size = 1 := by rw [← bs_length, hx]; rfl
    have hz2 : (acc ++ (⟨#[92]⟩ : ByteArray)).size = acc.size + 1 := by rw [ByteArray.size_append]; rfl
    refine Ev.at1 ?_
    simp only [boscagelaw04_guarded.l0]
    refine Ev.pos (by omega) ?_
    refine Ev.pos (by omega) ?_
    rw [hb, hw]
    have h92 : sign c → Ev (fun k => if acc.size + 1 ≤ 9223372036854775807 then if (i : Int) ≤ ((i + 1 : Nat) : Int) then if ((i + 1 : Nat) : Int) ≤ (x.size : Int) then if (acc ++ (⟨#[92]⟩ : ByteArray)).size + (x.extract ((i : Int)).toNat (((i + 1 : Nat) : Int)).toNat).size ≤ 9223372036854775807 then boscagelaw04_guarded.l0 k x ((acc ++ (⟨#[92]⟩ : ByteArray)) ++ (x.extract ((i : Int)).toNat (((i + 1 : Nat) : Int)).toNat)) ((i + 1 : Nat) : Int) else none else none else none else none)
        (⟨(bs acc ++ guard (c :: r)).toArray⟩) := by
      intro h
      refine Ev.pos (by omega) ?_
      refine Ev.pos (by omega) ?_
      refine Ev.pos (by omega) ?_
      refine Ev.pos (by omega) ?_
      refine Ev.eq (ih (i + 1) _ (drop_next hr) (by omega) (by rw [ByteArray.size_append]; omega)) ?_
      rw [bs_append, bs_append, hx, guard, if_pos h]
      simp [bs]
    by_cases c37 : c.toNat = 37
    · refine Ev.pos (by omega) ?_
      exact h92 (.inl c37)
    · refine Ev.neg (by omega) ?_
      by_cases c95 : c.toNat = 95
      · refine Ev.pos (by omega) ?_
        exact h92 (.inr (.inl c95))
      · refine Ev.neg (by omega) ?_
        by_cases c92 : c.toNat = 92
        · refine Ev.pos (by omega) ?_
          exact h92 (.inr (.inr c92))
        · refine Ev.neg (by omega) ?_
          refine Ev.pos (by omega) ?_
          refine Ev.pos (by omega) ?_
          refine Ev.pos (by omega) ?_
          refine Ev.eq (ih (i + 1) _ (drop_next hr) (by omega) (by rw [ByteArray.size_append]; omega)) ?_
          rw [bs_append, hx, guard, if_neg (by unfold sign; omega)]
          simp
theorem guarded_ev (x : ByteArray) (hsz : x.size ≤ 1000000) : Ev (fun k => boscagelaw04_guarded.f k x) (⟨(guard (bs x)).toArray⟩) := by
  unfold boscagelaw04_guarded.f
  have := guarded_loop x hsz (bs x) 0 ⟨#[]⟩ (by simp) (by omega) (Nat.le_refl _)
  simpa [bs] using this

theorem live_ev : Ev (fun k => boscagelaw04_live.f k) true := Ev.of (fun k => boscagelaw04_live.mono k) (k := 80) (by decide +kernel)
end Go.Proofs.Ytlmfaidocdlpeaa.Lk
