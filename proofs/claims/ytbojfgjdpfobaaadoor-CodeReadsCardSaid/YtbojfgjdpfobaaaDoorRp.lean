/- The reader of layer 5 in plain words: a value, a text, read off the bytes that are left. -/
import Derived.Test.YtbojfgjdpfobaaaDoorRv
set_option linter.unusedVariables false
set_option linter.unusedSimpArgs false
namespace Go.Proofs.YtbojfgjdpfobaaaDoor.Rd
open Go.RowKit Go.Proofs.YtbojfgjdpfobaaaDoorW.PrintWords
/-- what was read, and how far it leads; none: the reader is done for -/
def Good {β : Type} (xs : List Int) (at_ : Nat) (o : Option (β × Nat)) (res : β × (Nat × Bool)) : Prop :=
  match o with
  | some (b, n) => res = (b, (at_ + n, true)) ∧ at_ + n ≤ xs.length
  | none => res.2.2 = false
theorem drop_lt' {α : Type} {l : List α} {i : Nat} {c : α} {r : List α} (h : l.drop i = c :: r) : i < l.length := by
  rcases Nat.lt_or_ge i l.length with h' | h'
  · exact h'
  · rw [List.drop_of_length_le h'] at h; cases h
theorem drop_next' {α : Type} {l : List α} {i : Nat} {c : α} {r : List α} (h : l.drop i = c :: r) : l.drop (i + 1) = r := by
  rw [← List.drop_drop, h]; rfl
theorem getD_drop {l r : List Int} {i : Nat} {c : Int} (h : l.drop i = c :: r) : l.getD i 0 = c := by
  have hl := drop_lt' h
  rw [List.drop_eq_getElem_cons hl] at h
  injection h with h1 _
  rw [List.getD_eq_getElem?_getD, List.getElem?_eq_getElem hl, Option.getD_some, h1]
theorem byteS_cons {xs r : List Int} {m c : Int} {at_ : Nat} (h : xs.drop at_ = c :: r) : byteS xs m (at_, true) = if c > m then (0, (at_ + 1, false)) else (c, (at_ + 1, true)) := by
  have hl := drop_lt' h
  unfold byteS
  rw [if_pos ⟨rfl, hl⟩]
  simp only
  rw [getD_drop h]
theorem byteS_nil {xs : List Int} {m : Int} {at_ : Nat} (h : xs.drop at_ = []) : byteS xs m (at_, true) = (0, (at_, false)) := by
  have hl := List.drop_eq_nil_iff.1 h
  unfold byteS
  rw [if_neg (by rintro ⟨_, h'⟩; simp only at h'; omega)]
theorem byteS_off {xs : List Int} {m : Int} {at_ : Nat} : byteS xs m (at_, false) = (0, (at_, false)) := by
  unfold byteS
  rw [if_neg (by rintro ⟨h', _⟩; cases h')]
theorem takeS_yes {xs : List Int} {m at_ : Nat} (h : m ≤ (xs.drop at_).length) (ha : at_ ≤ xs.length) : takeS xs (m : Int) (at_, true) = ((xs.drop at_).take m, (at_ + m, true)) := by
  rw [List.length_drop] at h
  unfold takeS
  rw [if_pos ⟨rfl, by show (m : Int) ≤ (xs.length : Int) - (at_ : Int); omega⟩]
  simp
theorem takeS_no {xs : List Int} {m : Int} {at_ : Nat} (h : ((xs.drop at_).length : Int) < m) : takeS xs m (at_, true) = ([], (at_, false)) := by
  rw [List.length_drop] at h
  unfold takeS
  rw [if_neg (by rintro ⟨_, h'⟩; simp only at h'; omega)]
theorem takeS_off {xs : List Int} {m : Int} {at_ : Nat} : takeS xs m (at_, false) = ([], (at_, false)) := by
  unfold takeS
  rw [if_neg (by rintro ⟨h', _⟩; cases h')]
theorem mem_drop' {xs : List Int} {i : Nat} {x : Int} (h : x ∈ xs.drop i) : x ∈ xs := List.mem_of_mem_drop h
/-- a text behind its length -/
def countedP (r : List Int) : Option (List Int × Nat) :=
  if 4 ≤ r.length ∧ numS (r.take 4) ≤ 2147483647 ∧ numS (r.take 4) ≤ (r.length : Int) - 4 then some ((r.drop 4).take (numS (r.take 4)).toNat, 4 + (numS (r.take 4)).toNat) else none
theorem counted_good {xs : List Int} (hv : ∀ x ∈ xs, 0 ≤ x ∧ x ≤ 255) {at_ : Nat} (ha : at_ ≤ xs.length) : Good xs at_ (countedP (xs.drop at_)) (countedS xs (at_, true)) := by
  have hl : (xs.drop at_).length = xs.length - at_ := List.length_drop ..
  unfold countedS
  by_cases h4 : 4 ≤ (xs.drop at_).length
  · have e4 := takeS_yes (m := 4) h4 ha
    have e4' : takeS xs 4 (at_, true) = ((xs.drop at_).take 4, (at_ + 4, true)) := e4
    rw [e4']
    have hn := numS_lt ((xs.drop at_).take 4) (by have := List.length_take_le 4 (xs.drop at_); omega) (fun x hx => hv x (mem_drop' (List.mem_of_mem_take hx)))
    have hn0 := hn.1
    simp only
    unfold countedP
    generalize numS ((xs.drop at_).take 4) = N at *
    by_cases hq : N > 2147483647
    · rw [if_pos hq, takeS_off, if_neg (by omega)]
      rfl
    · rw [if_neg hq]
      obtain ⟨n, rfl⟩ : ∃ n : Nat, N = n := ⟨N.toNat, by omega⟩
      have hdl : (xs.drop (at_ + 4)).length = xs.length - (at_ + 4) := List.length_drop ..
      by_cases hr : (n : Int) ≤ ((xs.drop at_).length : Int) - 4
      · rw [takeS_yes (by rw [hdl]; omega) (by omega), if_pos ⟨h4, by omega, hr⟩]
        refine ⟨?_, by rw [Int.toNat_natCast]; omega⟩
        rw [Int.toNat_natCast, List.drop_drop, Nat.add_assoc]
      · rw [takeS_no (by rw [hdl]; omega), if_neg (by omega)]
        rfl
  · rw [takeS_no (by omega)]
    have e0 : numS [] = 0 := rfl
    simp only [e0]
    rw [if_neg (by decide), takeS_off]
    unfold countedP
    rw [if_neg (by omega)]
    rfl
/-- a text up to its end -/
def endedP : List Int → Option (List Int × Nat)
  | [] => none
  | [c] => none
  | c :: d :: r =>
    if c ≠ 0 then (endedP (d :: r)).map fun p => (c :: p.1, p.2 + 1)
    else if d = 0 then some ([], 2)
    else if d = 255 then (endedP r).map fun p => (0 :: p.1, p.2 + 2)
    else none
theorem endedS_off {xs acc : List Int} {at_ : Nat} : ∀ f, (endedS f xs acc (at_, false)).2.2 = false
  | 0 => rfl
  | f + 1 => by rw [endedS, if_neg (show ¬ (false = true) by decide)]
theorem good_map {β γ : Type} {xs : List Int} {at_ k : Nat} {o : Option (β × Nat)} {g : β → γ} {res : γ × (Nat × Bool)} (h : Good xs (at_ + k) (o.map fun p => (g p.1, p.2)) res) : Good xs at_ (o.map fun p => (g p.1, p.2 + k)) res := by
  cases o with
  | none => exact h
  | some p =>
    obtain ⟨h1, h2⟩ := h
    refine ⟨?_, ?_⟩
    · rw [h1, show at_ + k + p.2 = at_ + (p.2 + k) by omega]
    · show at_ + (p.2 + k) ≤ _
      have : at_ + k + p.2 ≤ xs.length := h2
      omega
theorem ended_good {xs : List Int} (hv : ∀ x ∈ xs, 0 ≤ x ∧ x ≤ 255) : ∀ (f : Nat) (acc : List Int) (at_ : Nat), at_ ≤ xs.length → xs.length < at_ + f →
    Good xs at_ ((endedP (xs.drop at_)).map fun p => (acc ++ p.1, p.2)) (endedS f xs acc (at_, true)) := by
  intro f
  induction f with
  | zero => intro acc at_ h1 h2; omega
  | succ f ih =>
    intro acc at_ h1 h2
    rw [endedS, if_pos rfl]
    cases hr : xs.drop at_ with
    | nil =>
      rw [byteS_nil hr, byteS_off]
      simp only [endedP]
      rw [if_neg (by decide), if_pos trivial]
      rfl
    | cons c r =>
      have hlt := drop_lt' hr
      have hc := hv c (mem_drop' (by rw [hr]; exact List.mem_cons_self))
      have hn := drop_next' hr
      have eb : byteS xs 255 (at_, true) = (c, (at_ + 1, true)) := by rw [byteS_cons hr, if_neg (by omega)]
      rw [eb]
      simp only
      by_cases h0 : c = 0
      · subst h0
        rw [if_neg (fun h => h rfl)]
        cases r with
        | nil =>
          rw [byteS_nil hn]
          simp only [endedP]
          rw [if_pos trivial]
          rfl
        | cons d r =>
          have hlt2 := drop_lt' hn
          have hd := hv d (mem_drop' (by rw [hn]; exact List.mem_cons_self))
          have hn2 := drop_next' hn
          have eb2 : byteS xs 255 (at_ + 1, true) = (d, (at_ + 1 + 1, true)) := by rw [byteS_cons hn, if_neg (by omega)]
          rw [eb2]
          simp only [endedP]
          rw [if_neg (fun h => h rfl)]
          by_cases hd0 : d = 0
          · rw [if_pos hd0, if_pos hd0]
            exact ⟨by simp, by show at_ + 2 ≤ _; omega⟩
          · rw [if_neg hd0, if_neg hd0]
            by_cases h5 : d = 255
            · rw [if_pos h5, if_pos h5]
              have := ih (acc ++ [0]) (at_ + 1 + 1) (by omega) (by omega)
              rw [hn2] at this
              have h3 := good_map (k := 2) (g := fun l => acc ++ [0] ++ l) (at_ := at_) (o := endedP r) this
              rw [Option.map_map]
              have e : ((fun p : List Int × Nat => (acc ++ p.1, p.2)) ∘ fun p : List Int × Nat => (0 :: p.1, p.2 + 2)) = fun p => (acc ++ [0] ++ p.1, p.2 + 2) := by funext p; simp
              rw [e]
              exact h3
            · rw [if_neg h5, if_neg h5]
              exact endedS_off f
      · rw [if_pos h0]
        have := ih (acc ++ [c]) (at_ + 1) (by omega) (by omega)
        rw [hn] at this
        have h3 := good_map (k := 1) (g := fun l => acc ++ [c] ++ l) (at_ := at_) (o := endedP r) this
        cases r with
        | nil => exact h3
        | cons d r =>
          rw [endedP, if_pos h0, Option.map_map]
          have e : ((fun p : List Int × Nat => (acc ++ p.1, p.2)) ∘ fun p : List Int × Nat => (c :: p.1, p.2 + 1)) = fun p => (acc ++ [c] ++ p.1, p.2 + 1) := by funext p; simp
          rw [e]
          exact h3
/-- a value -/
def val1 (turned : Int) (tp : List Int → Option (List Int × Nat)) : List Int → Option ((Int × Int × List Int) × Nat)
  | [] => none
  | c :: r =>
    if c = 0 then some ((0, 0, []), 1)
    else if c = 1 then (match r with | [] => none | d :: _ => if d ≤ 1 then some ((1, d, []), 2) else none)
    else if c = 2 then (if 8 ≤ r.length then some ((2, wrap64 (Go.bits .xor .u64 (numS (r.take 8)) turned), []), 9) else none)
    else if c = 3 ∨ c = 4 then (tp r).map fun p => ((c, 0, p.1), p.2 + 1)
    else none
theorem value_good {xs : List Int} {turned : Int} {tp : List Int → Option (List Int × Nat)} {tx : Nat × Bool → List Int × (Nat × Bool)} (hv : ∀ x ∈ xs, 0 ≤ x ∧ x ≤ 255) (ht : ∀ a, a ≤ xs.length → Good xs a (tp (xs.drop a)) (tx (a, true))) {at_ : Nat} (ha : at_ ≤ xs.length) :
    Good xs at_ (val1 turned tp (xs.drop at_)) (valueS xs turned tx (at_, true)) := by
  unfold valueS
  cases hr : xs.drop at_ with
  | nil =>
    rw [byteS_nil hr]
    simp only [val1]
    rw [if_neg (by decide), if_neg (by decide), if_neg (by decide)]
    rfl
  | cons c r =>
    have hlt := drop_lt' hr
    have hn := drop_next' hr
    rw [byteS_cons hr]
    by_cases h4 : c > 4
    · rw [if_pos h4]
      simp only [val1]
      rw [if_neg (show ¬ c = 0 by omega), if_neg (show ¬ c = 1 by omega), if_neg (show ¬ c = 2 by omega), if_neg (show ¬ (c = 3 ∨ c = 4) by omega), if_neg (by decide), if_neg (by decide), if_neg (by decide)]
      rfl
    · rw [if_neg h4]
      simp only [val1]
      by_cases h0 : c = 0
      · subst h0
        rw [if_pos rfl, if_neg (show ¬ (0 : Int) = 1 by decide), if_neg (show ¬ (0 : Int) = 2 by decide), if_neg (show ¬ ((0 : Int) = 3 ∨ (0 : Int) = 4) by decide)]
        exact ⟨rfl, hlt⟩
      · rw [if_neg h0]
        by_cases h1 : c = 1
        · subst h1
          rw [if_pos rfl, if_pos rfl]
          cases r with
          | nil =>
            rw [byteS_nil hn]
            rfl
          | cons d r =>
            have hlt2 := drop_lt' hn
            rw [byteS_cons hn]
            by_cases hd : d > 1
            · rw [if_pos hd]
              simp only
              rw [if_neg (by omega)]
              rfl
            · rw [if_neg hd]
              simp only
              rw [if_pos (by omega)]
              exact ⟨rfl, by show at_ + 2 ≤ _; omega⟩
        · rw [if_neg h1, if_neg h1]
          by_cases h2 : c = 2
          · subst h2
            rw [if_pos rfl, if_pos rfl]
            by_cases h8 : 8 ≤ r.length
            · have := takeS_yes (xs := xs) (m := 8) (at_ := at_ + 1) (by rw [hn]; exact h8) hlt
              have e8 : takeS xs 8 (at_ + 1, true) = ((xs.drop (at_ + 1)).take 8, (at_ + 1 + 8, true)) := this
              rw [e8, if_pos h8, hn]
              refine ⟨rfl, ?_⟩
              have : r.length = xs.length - (at_ + 1) := by rw [← hn, List.length_drop]
              show at_ + 9 ≤ _
              omega
            · rw [takeS_no (by rw [hn]; omega), if_neg h8]
              rfl
          · rw [if_neg h2, if_neg h2]
            by_cases h3 : c = 3 ∨ c = 4
            · rw [if_pos h3, if_pos h3]
              have hg := ht (at_ + 1) hlt
              rw [hn] at hg
              cases hp : tp r with
              | none =>
                rw [hp] at hg
                exact hg
              | some p =>
                rw [hp] at hg
                obtain ⟨g1, g2⟩ := hg
                simp only [Option.map_some]
                rw [g1]
                exact ⟨by rw [show at_ + 1 + p.2 = at_ + (p.2 + 1) by omega], by show at_ + (p.2 + 1) ≤ _; omega⟩
            · exfalso
              have := (hv c (mem_drop' (by rw [hr]; exact List.mem_cons_self))).1
              omega
end Go.Proofs.YtbojfgjdpfobaaaDoor.Rd
