/- What a statement's tokens are when a line's end and another statement stand behind it; tokens from one of them on (plain). -/
import Derived.Test.YtffaibjiiiochaaDoorTl
set_option linter.unusedVariables false
set_option linter.unusedSimpArgs false
namespace Go.Proofs.YtffaibjiiiochaaDoor.Tj
open Go.RowKit Go.Proofs.YtffaibjiiiochaaDoorW.PrintWords Go.Proofs.YtffaibjiiiochaaDoor.Tk Go.Proofs.YtffaibjiiiochaaDoor.Pu
theorem skipB_app (B : List Int) : ∀ (b : Bool) (l : List Int), skipB b (l ++ 10 :: B) = if skipB b l = [] then skipB false B else skipB b l ++ 10 :: B
  | true, [] => by
    show skipB true (10 :: B) = _
    rw [skipB, if_pos rfl]; rfl
  | false, [] => by
    show skipB false (10 :: B) = _
    rw [skipB, if_pos rfl]; rfl
  | true, c :: r => by
    rw [List.cons_append, skipB, skipB]
    split
    · exact skipB_app B false r
    · exact skipB_app B true r
  | false, c :: r => by
    rw [List.cons_append, skipB, skipB]
    split
    · exact skipB_app B false r
    · have hh : (c = 45 ∧ (r ++ 10 :: B).head? = some 45) ↔ (c = 45 ∧ r.head? = some 45) := by
        cases r <;> simp
      by_cases h : c = 45 ∧ r.head? = some 45
      · rw [if_pos h, if_pos (hh.2 h)]
        exact skipB_app B true r
      · rw [if_neg h, if_neg (fun x => h (hh.1 x)), if_neg (by simp)]; rfl
theorem num_app (B : List Int) : ∀ (l : List Int) (n : Int) (p : Int × List Int), numT n l = some p → numT n (l ++ 10 :: B) = some (p.1, p.2 ++ 10 :: B)
  | [], n, p, h => by
    rw [numT] at h
    injection h with h
    subst h
    show numT n (10 :: B) = _
    rw [numT, if_neg (by decide), if_neg (by decide)]; rfl
  | c :: r, n, p, h => by
    rw [List.cons_append, numT]
    rw [numT] at h
    split
    · rename_i hd
      rw [if_pos hd] at h
      split
      · rename_i ho
        rw [if_pos ho] at h; cases h
      · rename_i ho
        rw [if_neg ho] at h
        exact num_app B r _ p h
    · rename_i hd
      rw [if_neg hd] at h
      split
      · rename_i ho
        rw [if_pos ho] at h; cases h
      · rename_i ho
        rw [if_neg ho] at h
        injection h with h
        subst h; rfl
theorem text_app (B : List Int) : ∀ (l : List Int) (p : List Int × List Int), textT l = some p → textT (l ++ 10 :: B) = some (p.1, p.2 ++ 10 :: B)
  | [], p, h => by cases h
  | [c], p, h => by
    rw [textT] at h
    split at h
    · rename_i hc
      injection h with h
      subst h
      show textT (c :: 10 :: B) = _
      rw [textT, if_pos hc, if_neg (by decide)]; rfl
    · cases h
  | c :: d :: r, p, h => by
    show textT (c :: d :: (r ++ 10 :: B)) = _
    rw [textT]
    rw [textT] at h
    split
    · rename_i hc
      rw [if_pos hc] at h
      split
      · rename_i hd
        rw [if_pos hd] at h
        obtain ⟨q, hq, rfl⟩ := Option.map_eq_some_iff.1 h
        rw [text_app B r q hq]; rfl
      · rename_i hd
        rw [if_neg hd] at h
        injection h with h
        subst h; rfl
    · rename_i hc
      rw [if_neg hc] at h
      obtain ⟨q, hq, rfl⟩ := Option.map_eq_some_iff.1 h
      have := text_app B (d :: r) q hq
      rw [List.cons_append] at this
      rw [this]; rfl
theorem blob_app (B : List Int) : ∀ (l : List Int) (p : List Int × List Int), blobT l = some p → blobT (l ++ 10 :: B) = some (p.1, p.2 ++ 10 :: B)
  | [], p, h => by cases h
  | [c], p, h => by
    rw [blobT] at h
    split at h
    · rename_i hc
      injection h with h
      subst h
      show blobT (c :: 10 :: B) = _
      rw [blobT, if_pos hc]; rfl
    · cases h
  | c :: d :: r, p, h => by
    show blobT (c :: d :: (r ++ 10 :: B)) = _
    rw [blobT]
    rw [blobT] at h
    split
    · rename_i hc
      rw [if_pos hc] at h
      injection h with h
      subst h; rfl
    · rename_i hc
      rw [if_neg hc] at h
      split
      · rename_i hd
        rw [if_pos hd] at h
        obtain ⟨q, hq, rfl⟩ := Option.map_eq_some_iff.1 h
        rw [blob_app B r q hq]; rfl
      · rename_i hd
        rw [if_neg hd] at h; cases h
theorem head_app (r B : List Int) (x : Int) (hx : x ≠ 10) : (r ++ 10 :: B).head? = some x ↔ r.head? = some x := by
  cases r with
  | nil => simp; omega
  | cons d r => simp
theorem tail_app (r B : List Int) (x : Int) (h : r.head? = some x) : (r ++ 10 :: B).tail = r.tail ++ 10 :: B := by
  cases r with
  | nil => cases h
  | cons d r => rfl
theorem sign_app (B : List Int) (c : Int) (r : List Int) (p : List Int × List Int) (h : signT (c :: r) = some p) : signT (c :: (r ++ 10 :: B)) = some (p.1, p.2 ++ 10 :: B) := by
  have h61 := head_app r B 61 (by decide)
  have h62 := head_app r B 62 (by decide)
  have h124 := head_app r B 124 (by decide)
  rw [signT]
  rw [signT] at h
  simp only [h61, h62, h124]
  split
  · rename_i hc
    rw [if_pos hc] at h
    split
    · rename_i hd
      rw [if_pos hd] at h
      injection h with h
      rw [tail_app r B _ hd, ← h]
    · rename_i hd
      rw [if_neg hd] at h; cases h
  · rename_i hc
    rw [if_neg hc] at h
    split
    · rename_i hc2
      rw [if_pos hc2] at h
      split
      · rename_i hd
        rw [if_pos hd] at h
        injection h with h
        rw [tail_app r B _ hd, ← h]
      · rename_i hd
        rw [if_neg hd] at h; cases h
    · rename_i hc2
      rw [if_neg hc2] at h
      split
      · rename_i hc3
        rw [if_pos hc3] at h
        split
        · rename_i hd
          rw [if_pos hd] at h
          injection h with h
          rw [tail_app r B _ hd, ← h]
        · rename_i hd
          rw [if_neg hd] at h
          split
          · rename_i hd2
            rw [if_pos hd2] at h
            injection h with h
            rw [tail_app r B _ hd2, ← h]
          · rename_i hd2
            rw [if_neg hd2] at h
            injection h with h
            rw [← h]
      · rename_i hc3
        rw [if_neg hc3] at h
        split
        · rename_i hc4
          rw [if_pos hc4] at h
          split
          · rename_i hd
            rw [if_pos hd] at h
            injection h with h
            rw [tail_app r B _ hd, ← h]
          · rename_i hd
            rw [if_neg hd] at h
            injection h with h
            rw [← h]
        · rename_i hc4
          rw [if_neg hc4] at h
          split
          · rename_i hc5
            rw [if_pos hc5] at h
            injection h with h
            rw [← h]
          · rename_i hc5
            rw [if_neg hc5] at h; cases h
theorem take_app (B : List Int) (q : Int → Bool) (hq : q 10 = false) : ∀ l : List Int, (l ++ 10 :: B).takeWhile q = l.takeWhile q ∧ (l ++ 10 :: B).dropWhile q = l.dropWhile q ++ 10 :: B
  | [] => by
    show (10 :: B).takeWhile q = _ ∧ (10 :: B).dropWhile q = _
    rw [List.takeWhile_cons, List.dropWhile_cons, hq]; exact ⟨rfl, rfl⟩
  | c :: l => by
    rw [List.cons_append, List.takeWhile_cons, List.dropWhile_cons, List.takeWhile_cons, List.dropWhile_cons]
    split
    · exact ⟨by rw [(take_app B q hq l).1], (take_app B q hq l).2⟩
    · exact ⟨rfl, rfl⟩
theorem one_app (B : List Int) (c : Int) (r : List Int) (p : Tok × List Int) (h : oneT (c :: r) = some p) : oneT (c :: (r ++ 10 :: B)) = some (p.1, p.2 ++ 10 :: B) := by
  have h39 := head_app r B 39 (by decide)
  rw [oneT]
  rw [oneT] at h
  simp only [h39]
  split
  · rename_i hx
    rw [if_pos hx] at h
    obtain ⟨q, hq, rfl⟩ := Option.map_eq_some_iff.1 h
    rw [tail_app r B _ hx.2, blob_app B _ q hq]; rfl
  · rename_i hx
    rw [if_neg hx] at h
    split
    · rename_i hL
      rw [if_pos hL] at h
      unfold wordT at h ⊢
      have ha := take_app B (fun c => isL c || isD c) rfl (c :: r)
      rw [List.cons_append] at ha
      rw [ha.1, ha.2]
      split at h
      · rename_i h32
        rw [if_pos h32]
        injection h with h
        rw [← h]
      · cases h
    · rename_i hL
      rw [if_neg hL] at h
      split
      · rename_i hD
        rw [if_pos hD] at h
        obtain ⟨q, hq, rfl⟩ := Option.map_eq_some_iff.1 h
        have := num_app B _ 0 q hq
        rw [List.cons_append] at this
        rw [this]; rfl
      · rename_i hD
        rw [if_neg hD] at h
        split
        · rename_i hc
          rw [if_pos hc] at h
          obtain ⟨q, hq, rfl⟩ := Option.map_eq_some_iff.1 h
          rw [text_app B _ q hq]; rfl
        · rename_i hc
          rw [if_neg hc] at h
          obtain ⟨q, hq, rfl⟩ := Option.map_eq_some_iff.1 h
          rw [sign_app B c r q hq]; rfl
theorem cutS_ne {l : List Int} {ts : List TokAt} (h : cutS l = .inl ts) : ts ≠ [] := by
  rw [cutS_eq] at h
  cases hk : skipB false l with
  | nil => rw [hk] at h; injection h with h; rw [← h]; simp
  | cons c r =>
    rw [hk] at h
    simp only at h
    cases ho : oneT (c :: r) with
    | none => rw [ho] at h; cases h
    | some p =>
      obtain ⟨t, rest⟩ := p
      rw [ho] at h
      simp only at h
      cases hc : cutS rest with
      | inr k => rw [hc] at h; cases h
      | inl us => rw [hc] at h; simp only [Sum.inl.injEq] at h; rw [← h]; simp
theorem cut_join (B : List Int) : ∀ (n : Nat) (l : List Int) (xs : List TokAt), l.length ≤ n → cutS l = .inl xs →
    cutS (l ++ 10 :: B) = match cutS B with | .inr k => .inr k | .inl ys => .inl (xs.dropLast.map (fun p => (p.1, p.2 + 1 + B.length)) ++ ys) := by
  intro n
  induction n using Nat.strongRecOn with
  | _ n ih =>
    intro l xs hl h
    rw [← Ct.cutS_skip (l ++ 10 :: B), skipB_app]
    have hs := (skipB_suffix false l).length_le
    rw [cutS_eq] at h
    cases hk : skipB false l with
    | nil =>
      rw [hk] at h
      injection h with h
      rw [if_pos rfl, Ct.cutS_skip, ← h]
      cases cutS B <;> rfl
    | cons c r =>
      rw [hk] at h hs
      rw [if_neg (by simp)]
      simp only at h
      have hfix : skipB false (c :: (r ++ 10 :: B)) = c :: (r ++ 10 :: B) := by
        have := skipB_app B false (c :: r)
        have e : skipB false (c :: r) = c :: r := by rw [← hk, Ct.skipB_idem]
        rw [e, if_neg (by simp)] at this
        exact this
      cases ho : oneT (c :: r) with
      | none => rw [ho] at h; cases h
      | some p =>
        obtain ⟨t, rest⟩ := p
        rw [ho] at h
        simp only at h
        have hr := (oneT_suffix c r t rest ho).length_le
        rw [List.length_cons] at hs
        cases hc : cutS rest with
        | inr k => rw [hc] at h; cases h
        | inl us =>
          rw [hc] at h
          simp only [Sum.inl.injEq] at h
          have hi := ih rest.length (by omega) rest us (Nat.le_refl _) hc
          rw [List.cons_append, cutS_eq, hfix]
          simp only
          rw [one_app B c r _ ho]
          simp only
          rw [hi]
          cases hB : cutS B with
          | inr k => rfl
          | inl ys =>
            simp only [Sum.inl.injEq]
            have hne := cutS_ne hc
            rw [← h, List.dropLast_cons_of_ne_nil hne, List.map_cons, List.cons_append]
            congr 2
            simp
            omega
theorem cut_left : ∀ (n : Nat) (l : List Int) (ts : List TokAt), l.length ≤ n → cutS l = .inl ts → ∀ p ∈ ts, p.2 ≤ l.length := by
  intro n
  induction n using Nat.strongRecOn with
  | _ n ih =>
    intro l xs hl h
    have hs := (skipB_suffix false l).length_le
    rw [cutS_eq] at h
    cases hk : skipB false l with
    | nil =>
      rw [hk] at h
      injection h with h
      rw [← h]
      intro p hp
      rw [List.mem_singleton.1 hp]
      exact Nat.zero_le _
    | cons c r =>
      rw [hk] at h hs
      simp only at h
      cases ho : oneT (c :: r) with
      | none => rw [ho] at h; cases h
      | some p =>
        obtain ⟨t, rest⟩ := p
        rw [ho] at h
        simp only at h
        have hr := (oneT_suffix c r t rest ho).length_le
        rw [List.length_cons] at hs
        cases hc : cutS rest with
        | inr k => rw [hc] at h; cases h
        | inl us =>
          rw [hc] at h
          simp only [Sum.inl.injEq] at h
          have hi := ih rest.length (by omega) rest us (Nat.le_refl _) hc
          rw [← h]
          intro p hp
          rcases List.mem_cons.1 hp with rfl | hp
          · exact hs
          · have := hi p hp; omega
end Go.Proofs.YtffaibjiiiochaaDoor.Tj
