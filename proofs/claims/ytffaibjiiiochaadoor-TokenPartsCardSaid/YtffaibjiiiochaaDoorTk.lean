/- The tokens of layer 6 as plain words over what is left of a statement (a list of bytes): blanks, a token, all of them. -/
import Derived.Test.YtffaibjiiiochaaDoorProg
import Derived.Test.YtffaibjiiiochaaDoorWWords
set_option linter.unusedVariables false
set_option linter.unusedSimpArgs false
namespace Go.Proofs.YtffaibjiiiochaaDoor.Tk
open Go.RowKit Go.Proofs.YtffaibjiiiochaaDoorW.PrintWords
def isL (c : Int) : Bool := (97 ≤ c && c ≤ 122) || (65 ≤ c && c ≤ 90) || c == 95
def isD (c : Int) : Bool := 48 ≤ c && c ≤ 57
def isB (c : Int) : Bool := c == 32 || c == 9 || c == 10 || c == 13
/-- a letter made small -/
def low (c : Int) : Int := if 65 ≤ c ∧ c ≤ 90 then c + 32 else c
/-- a digit's number of a byte's -/
def hex (c : Int) : Int := if 48 ≤ c ∧ c ≤ 57 then c - 48 else if 97 ≤ c ∧ c ≤ 102 then c - 87 else if 65 ≤ c ∧ c ≤ 70 then c - 55 else -1
/-- behind blanks and remarks (true: within a remark) -/
def skipB : Bool → List Int → List Int
  | _, [] => []
  | true, c :: r => if c = 10 then skipB false r else skipB true r
  | false, c :: r => if isB c = true then skipB false r else if c = 45 ∧ r.head? = some 45 then skipB true r else c :: r
def numT : Int → List Int → Option (Int × List Int)
  | n, [] => some (n, [])
  | n, c :: r => if isD c = true then (if n > (9223372036854775808 - (c - 48)) / 10 then none else numT (n * 10 + (c - 48)) r) else if isL c = true then none else some (n, c :: r)
def textT : List Int → Option (List Int × List Int)
  | [] => none
  | [c] => if c = 39 then some ([], []) else none
  | c :: d :: r => if c = 39 then (if d = 39 then (textT r).map fun p => (39 :: p.1, p.2) else some ([], d :: r)) else (textT (d :: r)).map fun p => (c :: p.1, p.2)
def blobT : List Int → Option (List Int × List Int)
  | [] => none
  | [c] => if c = 39 then some ([], []) else none
  | c :: d :: r => if c = 39 then some ([], d :: r) else if 0 ≤ hex c ∧ 0 ≤ hex d then (blobT r).map fun p => ((16 * hex c + hex d) :: p.1, p.2) else none
def sign1 (c : Int) : Bool := c == 61 || c == 43 || c == 45 || c == 42 || c == 47 || c == 37 || c == 40 || c == 41 || c == 44 || c == 46 || c == 59
def signT : List Int → Option (List Int × List Int)
  | [] => none
  | c :: r =>
    if c = 33 then (if r.head? = some 61 then some ([60, 62], r.tail) else none)
    else if c = 124 then (if r.head? = some 124 then some ([124, 124], r.tail) else none)
    else if c = 60 then (if r.head? = some 62 then some ([60, 62], r.tail) else if r.head? = some 61 then some ([60, 61], r.tail) else some ([60], r))
    else if c = 62 then (if r.head? = some 61 then some ([62, 61], r.tail) else some ([62], r))
    else if sign1 c = true then some ([c], r) else none
/-- a token: its kind, S and I -/
abbrev Tok := Int × List Int × Int
def wordT (l : List Int) : Option (Tok × List Int) :=
  if (l.takeWhile fun c => isL c || isD c).length ≤ 32 then some ((1, (l.takeWhile fun c => isL c || isD c).map low, 0), l.dropWhile fun c => isL c || isD c) else none
def oneT : List Int → Option (Tok × List Int)
  | [] => none
  | c :: r =>
    if (c = 120 ∨ c = 88) ∧ r.head? = some 39 then (blobT r.tail).map fun p => ((4, p.1, 0), p.2)
    else if isL c = true then wordT (c :: r)
    else if isD c = true then (numT 0 (c :: r)).map fun p => ((2, [], wrap64 p.1), p.2)
    else if c = 39 then (textT r).map fun p => ((3, p.1, 0), p.2)
    else (signT (c :: r)).map fun p => ((5, p.1, 0), p.2)
/-- a token and how many bytes are left where it begins -/
abbrev TokAt := Tok × Nat
/-- all tokens of what is left; or how much is left where there is none -/
def cutT : Nat → List Int → List TokAt ⊕ Nat
  | 0, _ => .inr 0
  | f + 1, l => match skipB false l with
    | [] => .inl [((6, [], 0), 0)]
    | c :: r => match oneT (c :: r) with
      | none => .inr (r.length + 1)
      | some (t, rest) => match cutT f rest with
        | .inr k => .inr k
        | .inl ts => .inl ((t, r.length + 1) :: ts)
def cutS (l : List Int) : List TokAt ⊕ Nat := cutT (l.length + 1) l
/-! what is left gets shorter -/
theorem skipB_suffix : ∀ (b : Bool) (l : List Int), skipB b l <:+ l
  | b, [] => by cases b <;> exact List.suffix_refl _
  | true, c :: r => by
    rw [skipB]
    split
    · exact (skipB_suffix false r).trans (List.suffix_cons c r)
    · exact (skipB_suffix true r).trans (List.suffix_cons c r)
  | false, c :: r => by
    rw [skipB]
    split
    · exact (skipB_suffix false r).trans (List.suffix_cons c r)
    · split
      · exact (skipB_suffix true r).trans (List.suffix_cons c r)
      · exact List.suffix_refl _
theorem numT_suffix : ∀ (l : List Int) (n m : Int) (r : List Int), numT n l = some (m, r) → r <:+ l
  | [], n, m, r, h => by
    simp only [numT, Option.some.injEq, Prod.mk.injEq] at h
    rw [← h.2]; exact List.suffix_refl _
  | c :: l, n, m, r, h => by
    rw [numT] at h
    split at h
    · split at h
      · cases h
      · exact (numT_suffix l _ m r h).trans (List.suffix_cons c l)
    · split at h
      · cases h
      · simp only [Option.some.injEq, Prod.mk.injEq] at h
        rw [← h.2]; exact List.suffix_refl _
theorem textT_suffix : ∀ (l t r : List Int), textT l = some (t, r) → r <:+ l
  | [], t, r, h => by cases h
  | [c], t, r, h => by
    rw [textT] at h
    split at h
    · simp only [Option.some.injEq, Prod.mk.injEq] at h
      rw [← h.2]; exact List.nil_suffix
    · cases h
  | c :: d :: l, t, r, h => by
    rw [textT] at h
    split at h
    · split at h
      · obtain ⟨⟨t', r'⟩, e1, e2⟩ := Option.map_eq_some_iff.1 h
        simp only [Prod.mk.injEq] at e2
        rw [← e2.2]
        exact ((textT_suffix l t' r' e1).trans (List.suffix_cons d l)).trans (List.suffix_cons c _)
      · simp only [Option.some.injEq, Prod.mk.injEq] at h
        rw [← h.2]; exact List.suffix_cons c _
    · obtain ⟨⟨t', r'⟩, e1, e2⟩ := Option.map_eq_some_iff.1 h
      simp only [Prod.mk.injEq] at e2
      rw [← e2.2]
      exact (textT_suffix (d :: l) t' r' e1).trans (List.suffix_cons c _)
theorem blobT_suffix : ∀ (l t r : List Int), blobT l = some (t, r) → r <:+ l
  | [], t, r, h => by cases h
  | [c], t, r, h => by
    rw [blobT] at h
    split at h
    · simp only [Option.some.injEq, Prod.mk.injEq] at h
      rw [← h.2]; exact List.nil_suffix
    · cases h
  | c :: d :: l, t, r, h => by
    rw [blobT] at h
    split at h
    · simp only [Option.some.injEq, Prod.mk.injEq] at h
      rw [← h.2]; exact List.suffix_cons c _
    · split at h
      · obtain ⟨⟨t', r'⟩, e1, e2⟩ := Option.map_eq_some_iff.1 h
        simp only [Prod.mk.injEq] at e2
        rw [← e2.2]
        exact ((blobT_suffix l t' r' e1).trans (List.suffix_cons d l)).trans (List.suffix_cons c _)
      · cases h
theorem tail_suffix (r : List Int) : r.tail <:+ r := List.tail_suffix r
theorem signT_suffix (c : Int) (l t r : List Int) (h : signT (c :: l) = some (t, r)) : r <:+ l := by
  simp only [signT] at h
  have fin : ∀ {a b : List Int}, some (a, b) = some (t, r) → b <:+ l → r <:+ l := fun e hb => by
    simp only [Option.some.injEq, Prod.mk.injEq] at e
    rw [← e.2]; exact hb
  repeat' split at h
  all_goals first | (cases h; done) | exact fin h (tail_suffix l) | exact fin h (List.suffix_refl l)
theorem oneT_suffix (c : Int) (l : List Int) (t : Tok) (r : List Int) (h : oneT (c :: l) = some (t, r)) : r <:+ l := by
  simp only [oneT] at h
  split at h
  · obtain ⟨⟨t', r'⟩, e1, e2⟩ := Option.map_eq_some_iff.1 h
    simp only [Prod.mk.injEq] at e2
    rw [← e2.2]
    exact (blobT_suffix _ _ _ e1).trans (tail_suffix l)
  · split at h
    · rename_i hl
      unfold wordT at h
      split at h
      · simp only [Option.some.injEq, Prod.mk.injEq] at h
        rw [← h.2, List.dropWhile_cons, if_pos (by simp [hl])]
        exact List.dropWhile_suffix _
      · cases h
    · split at h
      · rename_i hd
        obtain ⟨⟨t', r'⟩, e1, e2⟩ := Option.map_eq_some_iff.1 h
        simp only [Prod.mk.injEq] at e2
        rw [← e2.2]
        rw [numT, if_pos hd] at e1
        split at e1
        · cases e1
        · exact numT_suffix _ _ _ _ e1
      · split at h
        · obtain ⟨⟨t', r'⟩, e1, e2⟩ := Option.map_eq_some_iff.1 h
          simp only [Prod.mk.injEq] at e2
          rw [← e2.2]
          exact textT_suffix _ _ _ e1
        · obtain ⟨⟨t', r'⟩, e1, e2⟩ := Option.map_eq_some_iff.1 h
          simp only [Prod.mk.injEq] at e2
          rw [← e2.2]
          exact signT_suffix _ _ _ _ e1
/-- more rounds than bytes make no difference -/
theorem cutT_more : ∀ (f g : Nat) (l : List Int), l.length < f → l.length < g → cutT f l = cutT g l
  | 0, g, l, h, _ => by omega
  | f + 1, 0, l, _, h => by omega
  | f + 1, g + 1, l, h1, h2 => by
    rw [cutT, cutT]
    have hs := (skipB_suffix false l).length_le
    cases hk : skipB false l with
    | nil => rfl
    | cons c r =>
      rw [hk, List.length_cons] at hs
      simp only
      cases ho : oneT (c :: r) with
      | none => rfl
      | some p =>
        obtain ⟨t, rest⟩ := p
        have hr := (oneT_suffix c r t rest ho).length_le
        simp only
        rw [cutT_more f g rest (by omega) (by omega)]
/-- one round: blanks, then a token and the rest -/
theorem cutS_eq (l : List Int) : cutS l = match skipB false l with
    | [] => .inl [((6, [], 0), 0)]
    | c :: r => match oneT (c :: r) with
      | none => .inr (r.length + 1)
      | some (t, rest) => match cutS rest with
        | .inr k => .inr k
        | .inl ts => .inl ((t, r.length + 1) :: ts) := by
  unfold cutS
  rw [cutT]
  have hs := (skipB_suffix false l).length_le
  cases hk : skipB false l with
  | nil => rfl
  | cons c r =>
    rw [hk, List.length_cons] at hs
    simp only
    cases ho : oneT (c :: r) with
    | none => rfl
    | some p =>
      obtain ⟨t, rest⟩ := p
      have hr := (oneT_suffix c r t rest ho).length_le
      simp only
      rw [cutT_more l.length (rest.length + 1) rest (by omega) (by omega)]
end Go.Proofs.YtffaibjiiiochaaDoor.Tk
