/- Patterns as lists of pieces: what the program's like and the document's come to: the plain law of layer 4, and that every printed function says it. -/
import Derived.Test.YtlmfaidocdlpeaaPu
import Derived.Test.YtlmfaidocdlpeaaQLKx4
set_option linter.unusedVariables false
set_option linter.unusedSimpArgs false
namespace Go.Proofs.Ytlmfaidocdlpeaa.Lk
open Go.RowKit Go.Proofs.YtlmfaidocdlpeaaW.PrintWords Go.Proofs.Ytlmfaidocdlpeaa.Pu Go.Proofs.Ytlmfaidocdlpeaa.QLK

inductive Piece where
  | any
  | one
  | ch (c : UInt8)

/-- what stands behind a backslash -/
def esc : List UInt8 → Option (Piece × List UInt8)
  | [] => none
  | d :: q => if d.toNat = 37 ∨ d.toNat = 95 ∨ d.toNat = 92 then some (.ch d, q) else none
/-- a pattern's first piece, and what is left -/
def next : List UInt8 → Option (Piece × List UInt8)
  | [] => none
  | c :: p => if c.toNat = 92 then esc p else if c.toNat = 37 then some (.any, p) else if c.toNat = 95 then some (.one, p) else some (.ch c, p)

theorem next_shorter {l r : List UInt8} {x : Piece} (h : next l = some (x, r)) : ∃ n, 1 ≤ n ∧ n ≤ 2 ∧ n ≤ l.length ∧ r = l.drop n := by
  match l, h with
  | c :: p, h =>
    by_cases c1 : c.toNat = 92
    · rw [next, if_pos c1] at h
      match p, h with
      | d :: q, h =>
        by_cases c2 : d.toNat = 37 ∨ d.toNat = 95 ∨ d.toNat = 92
        · rw [esc, if_pos c2] at h
          simp only [Option.some.injEq, Prod.mk.injEq] at h
          exact ⟨2, by omega, by omega, by simp, by simp [h.2]⟩
        · rw [esc, if_neg c2] at h
          cases h
    · refine ⟨1, by omega, by omega, by simp, ?_⟩
      by_cases c2 : c.toNat = 37
      · simp only [next, if_neg c1, if_pos c2, Option.some.injEq, Prod.mk.injEq] at h
        simp [h.2]
      · by_cases c3 : c.toNat = 95
        · simp only [next, if_neg c1, if_neg c2, if_pos c3, Option.some.injEq, Prod.mk.injEq] at h
          simp [h.2]
        · simp only [next, if_neg c1, if_neg c2, if_neg c3, Option.some.injEq, Prod.mk.injEq] at h
          simp [h.2]

/-- a pattern's pieces -/
def pieces (l : List UInt8) : Option (List Piece) :=
  match l with
  | [] => some []
  | c :: p => match h : next (c :: p) with
    | none => none
    | some (x, r) => (pieces r).map (x :: ·)
termination_by l.length
decreasing_by
  obtain ⟨n, h1, h2, h3, rfl⟩ := next_shorter h
  simp only [List.length_drop, List.length_cons] at *
  omega

theorem pieces_nil : pieces [] = some [] := by simp [pieces]
theorem pieces_none {l : List UInt8} (hl : l ≠ []) (h : next l = none) : pieces l = none := by
  match l, hl, h with
  | c :: p, _, h => rw [pieces]; split <;> simp_all
theorem pieces_some {l r : List UInt8} {x : Piece} (h : next l = some (x, r)) : pieces l = (pieces r).map (x :: ·) := by
  match l, h with
  | c :: p, h => rw [pieces]; split <;> simp_all

/-- a text is like pieces -/
def m : List Piece → List UInt8 → Bool
  | [], s => s.isEmpty
  | .any :: ps, [] => m ps []
  | .any :: ps, c :: s => m ps (c :: s) || m (.any :: ps) s
  | .one :: _, [] => false
  | .one :: ps, _ :: s => m ps s
  | .ch _ :: _, [] => false
  | .ch d :: ps, c :: s => decide (c = d) && m ps s
termination_by ps s => (ps.length, s.length)

theorem m_any (ps : List Piece) (s : List UInt8) : m (.any :: ps) s = true ↔ ∃ i, i ≤ s.length ∧ m ps (s.drop i) = true := by
  induction s with
  | nil => simp [m]
  | cons c s ih =>
    rw [m, Bool.or_eq_true, ih]
    constructor
    · rintro (h | ⟨i, hi, h⟩)
      · exact ⟨0, by simp, h⟩
      · exact ⟨i + 1, by simp; omega, by simpa using h⟩
    · rintro ⟨i, hi, h⟩
      cases i with
      | zero => exact .inl h
      | succ i => exact .inr ⟨i, by simp at hi; omega, by simpa using h⟩

theorem m_any_mono {ps : List Piece} {s : List UInt8} {i j : Nat} (hij : i ≤ j) (h : m (.any :: ps) (s.drop j) = true) : m (.any :: ps) (s.drop i) = true := by
  rw [m_any] at *
  obtain ⟨a, ha, h⟩ := h
  by_cases hj : j ≤ s.length
  · refine ⟨(j - i) + a, by simp at *; omega, ?_⟩
    rw [List.drop_drop] at *
    rwa [show i + (j - i + a) = j + a by omega]
  · refine ⟨(s.drop i).length, Nat.le_refl _, ?_⟩
    rw [List.drop_of_length_le (Nat.le_refl _)]
    rwa [List.drop_of_length_le (by simp; omega)] at h

def Piece.lit : Piece → Prop
  | .any => False
  | _ => True

/-- pieces without any, ahead of others -/
theorem m_lits {ls ps : List Piece} (hl : ∀ x ∈ ls, x.lit) {s : List UInt8} (h : m (ls ++ ps) s = true) : ls.length ≤ s.length ∧ m ps (s.drop ls.length) = true := by
  induction ls generalizing s with
  | nil => simpa using h
  | cons x ls ih =>
    have ih := @ih (fun y hy => hl y (by simp [hy]))
    have hx := hl x (by simp)
    cases s with
    | nil => cases x <;> simp [m, Piece.lit] at *
    | cons c s =>
      cases x with
      | any => simp [Piece.lit] at hx
      | one =>
        simp only [List.cons_append, m] at h
        have := ih h
        simp; omega
      | ch d =>
        simp only [List.cons_append, m, Bool.and_eq_true] at h
        have := ih h.2
        simp; omega

/-- what the walk with a way back comes to -/
def goes (s : List UInt8) (ps back : List Piece) (fr : Int) (at_ : Nat) : Prop :=
  m ps (s.drop at_) = true ∨ ∃ j : Nat, fr < j ∧ 0 ≤ fr ∧ j ≤ s.length ∧ m back (s.drop j) = true

/-- the way back leads through what was passed since -/
def Inv (ps back : List Piece) (fr : Int) (at_ : Nat) : Prop :=
  0 ≤ fr → fr ≤ at_ ∧ ∃ ls, (∀ x ∈ ls, Piece.lit x) ∧ back = ls ++ ps ∧ (ls.length : Int) = at_ - fr

theorem goes_any {s : List UInt8} {ps back : List Piece} {fr : Int} {at_ : Nat} (hat : at_ ≤ s.length) (hinv : Inv (.any :: ps) back fr at_) :
    goes s (.any :: ps) back fr at_ ↔ goes s ps ps at_ at_ := by
  unfold goes
  constructor
  · intro h
    have key : m (.any :: ps) (s.drop at_) = true := by
      rcases h with h | ⟨j, h1, h2, h3, h4⟩
      · exact h
      · obtain ⟨h5, ls, hl, rfl, h6⟩ := hinv h2
        have := m_lits hl h4
        rw [List.drop_drop] at this
        exact m_any_mono (by omega) this.2
    rw [m_any] at key
    obtain ⟨i, hi, hk⟩ := key
    rw [List.drop_drop] at hk
    simp at hi
    cases i with
    | zero => exact .inl (by simpa using hk)
    | succ i => exact .inr ⟨at_ + (i + 1), by omega, by omega, by omega, hk⟩
  · rintro (h | ⟨j, h1, h2, h3, h4⟩)
    · exact .inl ((m_any _ _).2 ⟨0, by simp, by simpa using h⟩)
    · refine .inl ((m_any _ _).2 ⟨j - at_, by simp; omega, ?_⟩)
      rw [List.drop_drop]; rwa [show at_ + (j - at_) = j by omega]

/-- on a mismatch -/
theorem goes_back {s : List UInt8} {ps back : List Piece} {fr : Int} {at_ : Nat} (h : m ps (s.drop at_) = false) (h0 : 0 ≤ fr) (h1 : fr < s.length) :
    goes s ps back fr at_ ↔ goes s back back (fr + 1) (fr + 1).toNat := by
  unfold goes
  constructor
  · rintro (h' | ⟨j, a, b, c, d⟩)
    · rw [h] at h'; cases h'
    · by_cases e : (j : Int) = fr + 1
      · left; rw [show (fr + 1).toNat = j by omega]; exact d
      · right; exact ⟨j, by omega, by omega, c, d⟩
  · rintro (h' | ⟨j, a, b, c, d⟩)
    · right; exact ⟨(fr + 1).toNat, by omega, h0, by omega, h'⟩
    · right; exact ⟨j, by omega, h0, c, d⟩

/-- two lists of pieces, one behind the other: the text can be cut so that both have their part -/
theorem m_append (ps qs : List Piece) (s : List UInt8) : m (ps ++ qs) s = true ↔ ∃ i, i ≤ s.length ∧ m ps (s.take i) = true ∧ m qs (s.drop i) = true := by
  induction ps generalizing s with
  | nil =>
    simp only [List.nil_append]
    constructor
    · intro h; exact ⟨0, by simp, by simp [m], by simpa using h⟩
    · rintro ⟨i, hi, h1, h2⟩
      simp only [m, List.isEmpty_iff] at h1
      have : i = 0 := by
        have := congrArg List.length h1
        rw [List.length_take] at this
        simp only [List.length_nil] at this
        omega
      subst this
      simpa using h2
  | cons x ps ih =>
    cases x with
    | any =>
      rw [List.cons_append, m_any]
      constructor
      · rintro ⟨i, hi, h⟩
        rw [ih] at h
        obtain ⟨j, hj, h1, h2⟩ := h
        simp at hj
        refine ⟨i + j, by omega, ?_, by rw [List.drop_drop] at h2; exact h2⟩
        rw [m_any]
        refine ⟨i, by simp; omega, ?_⟩
        rw [List.drop_take, show i + j - i = j by omega]; exact h1
      · rintro ⟨i, hi, h1, h2⟩
        rw [m_any] at h1
        obtain ⟨j, hj, h1⟩ := h1
        simp at hj
        refine ⟨j, by omega, ?_⟩
        rw [ih]
        refine ⟨i - j, by simp; omega, ?_, ?_⟩
        · rw [List.drop_take] at h1; exact h1
        · rw [List.drop_drop, show j + (i - j) = i by omega]; exact h2
    | one =>
      cases s with
      | nil => simp [m]
      | cons c s =>
        simp only [List.cons_append, m, ih]
        constructor
        · rintro ⟨i, hi, h1, h2⟩; exact ⟨i + 1, by simp; omega, by simpa [m] using h1, by simpa using h2⟩
        · rintro ⟨i, hi, h1, h2⟩
          cases i with
          | zero => simp [m] at h1
          | succ i => exact ⟨i, by simp at hi; omega, by simpa [m] using h1, by simpa using h2⟩
    | ch d =>
      cases s with
      | nil => simp [m]
      | cons c s =>
        simp only [List.cons_append, m, Bool.and_eq_true, ih]
        constructor
        · rintro ⟨h0, i, hi, h1, h2⟩; exact ⟨i + 1, by simp; omega, by simpa [m] using ⟨by simpa using h0, h1⟩, by simpa using h2⟩
        · rintro ⟨i, hi, h1, h2⟩
          cases i with
          | zero => simp [m] at h1
          | succ i =>
            simp [m] at h1
            exact ⟨by simpa using h1.1, i, by simp at hi; omega, h1.2, by simpa using h2⟩
end Go.Proofs.Ytlmfaidocdlpeaa.Lk
