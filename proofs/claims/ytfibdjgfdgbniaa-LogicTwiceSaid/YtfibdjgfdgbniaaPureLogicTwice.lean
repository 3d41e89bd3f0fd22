/- What the calls of the law LogicTwice come to, in plain words. -/
import Derived.Test.YtfibdjgfdgbniaaLgBO
import Derived.Test.YtfibdjgfdgbniaaLgNotO
import Derived.Test.YtfibdjgfdgbniaaTwice
set_option linter.unusedVariables false
set_option linter.unusedSimpArgs false
namespace Go.Proofs.Ytfibdjgfdgbniaa.Lg
open Go.RowKit Go.Proofs.YtfibdjgfdgbniaaW.PrintWords Go.Proofs.Ytfibdjgfdgbniaa.Pu Go.Proofs.Ytfibdjgfdgbniaa.QLO Go.Proofs.Ytfibdjgfdgbniaa.Rw

theorem okv_er (n : Int) : OkV (valN (er n)) := ⟨show (Lit.int .i64 0).wf = true by decide +kernel, show (Lit.int .i64 0).wf = true by decide +kernel, by show (0 : Nat) ≤ _; omega⟩
theorem okv_not (c : S23) : OkV (valN (notV c)) := by
  unfold notV
  by_cases h : ok c = true
  · rw [if_pos h]
    by_cases hk : kind c = true
    · rw [if_pos hk]
      rcases kind_or hk with h0 | h1
      · rw [if_pos h0]; exact okv_er _
      · rw [if_neg (by omega)]
        rcases (ok_bool h h1).1 with f | f <;> rw [f]
        · exact ⟨show (Lit.int .i64 1).wf = true by decide +kernel, show (Lit.int .i64 (1 - 0)).wf = true by decide +kernel, show (0 : Nat) ≤ _ by omega⟩
        · exact ⟨show (Lit.int .i64 1).wf = true by decide +kernel, show (Lit.int .i64 (1 - 1)).wf = true by decide +kernel, show (0 : Nat) ≤ _ by omega⟩
    · rw [if_neg hk]; exact okv_er _
  · rw [if_neg h]; exact okv_er _
theorem ok_null {x : S23} (h : ok x = true) (h0 : x.f0 = 0) : x.f1 = 0 ∧ x.f2 = nil := by
  unfold ok at h
  rw [if_pos h0] at h
  simp at h
  exact ⟨h.1, bs_ext h.2⟩
abbrev nullV : S23 := ⟨0, 0, ⟨#[]⟩⟩
theorem okv_nullV : OkV nullV := ⟨show (Lit.int .i64 0).wf = true by decide +kernel, show (Lit.int .i64 0).wf = true by decide +kernel, show (0 : Nat) ≤ _ by omega⟩
theorem twice_a (v : S23) : ((notV v).2.2.2 == 0) = false ∨ (((notV v).2.2.2 == 0) = true ∧ ((notV (valN (notV v))).2.2.2 != 0) = false ∧ ((notV (valN (notV v))).1 == v.f0) = true ∧ ((notV (valN (notV v))).2.1 == v.f1) = true ∧ ((notV (valN (notV v))).2.2.1.toList == v.f2.toList) = true) := by
  by_cases h : ok v = true
  · by_cases hk : kind v = true
    · rcases kind_or hk with h0 | h1
      · have e : notV v = er 0 := by unfold notV; rw [if_pos h, if_pos hk, if_pos h0]
        obtain ⟨f1, f2⟩ := ok_null h h0
        rw [e, h0, f1, f2]
        exact .inr ⟨rfl, rfl, rfl, rfl, by rw [beq_iff_eq]; rfl⟩
      · have e : notV v = (1, 1 - v.f1, nil, 0) := by unfold notV; rw [if_pos h, if_pos hk, if_neg (by omega)]
        obtain ⟨f1, f2⟩ := ok_bool h h1
        rw [e, h1, f2]
        rcases f1 with f1 | f1 <;> rw [f1] <;> exact .inr ⟨rfl, rfl, rfl, rfl, by rw [beq_iff_eq]; rfl⟩
    · have e : notV v = er 20 := by unfold notV; rw [if_pos h, if_neg hk]
      rw [e]; exact .inl rfl
  · have e : notV v = er 1 := by unfold notV; rw [if_neg h]
    rw [e]; exact .inl rfl
theorem twice_x (op : List UInt8) (v : S23) : ((relV op v nullV).2.2.2 == 0) = false ∨ (((relV op v nullV).2.2.2 == 0) = true ∧ ((relV op v nullV).1 == 0) = true ∧ ((relV op v nullV).2.1 == 0) = true ∧ (relV op v nullV).2.2.1.toList = []) := by
  unfold relV
  by_cases h : (ok v && ok nullV) = true
  · rw [if_pos h]
    cases isOp op (cmpV v nullV) with
    | none => exact .inl rfl
    | some is =>
      have : finV is v nullV = er 0 := by unfold finV; rw [if_pos (.inr rfl)]
      dsimp only
      rw [this]
      exact .inr ⟨rfl, rfl, rfl, by rw [bs_toList]; rfl⟩
  · rw [if_neg h]; exact .inl rfl
theorem twice_c (v u : S23) : ((isV v u).2.2.2 != (relV [61] v u).2.2.2) = false := by
  unfold isV relV
  by_cases h : (ok v && ok u) = true
  · rw [if_pos h, if_pos h]
    have : isOp [61] (cmpV v u) = some (cmpV v u == 0) := rfl
    rw [this]
    dsimp only
    unfold finV
    by_cases h0 : v.f0 = 0 ∨ u.f0 = 0
    · rw [if_neg (by omega), if_pos h0]; rfl
    · rw [if_neg h0]
      by_cases h1 : v.f0 = u.f0
      · rw [if_neg (by omega), if_pos h1]; rfl
      · rw [if_pos (by omega), if_neg h1]; rfl
  · rw [if_neg h, if_neg h]; rfl
theorem holds_tr (b : Bool) : logic_Holds.f (tr b).1 (tr b).2.1 (tr b).2.2.1 = some b := by cases b <;> simp [logic_Holds.f, logic_truth.f, tr, nil]
theorem same_beq (v u : S23) : sameV v u = (v.f0 == u.f0 && (v.f1 == u.f1 && (v.f2.toList == u.f2.toList))) := by
  unfold sameV
  rw [bs_toList, bs_toList]
  by_cases h0 : v.f0 = u.f0 <;> by_cases h1 : v.f1 = u.f1 <;> by_cases h2 : bs v.f2 = bs u.f2 <;> simp [h0, h1, h2]
theorem compareBytes_zero : ∀ (x y : List UInt8), (Lib.compareBytes x y == 0) = decide (x = y) := by
  intro x y
  rw [bytes_cmp]
  by_cases h : Op.bytesLess x y = true
  · rw [if_pos h]
    have : x ≠ y := by rintro rfl; rw [less_irrefl] at h; cases h
    simp [this]
  · rw [if_neg h]
    by_cases e : x = y <;> simp [e]
theorem cmp_same {v u : S23} : (cmpV v u == 0) = sameV v u := by
  unfold cmpV sameV
  by_cases a : v.f0 < u.f0
  · have : ¬ v.f0 = u.f0 := by omega
    simp [a, this]
  · by_cases b : u.f0 < v.f0
    · have : ¬ v.f0 = u.f0 := by omega
      simp [a, b, this]
    · have e : v.f0 = u.f0 := by omega
      rw [if_neg a, if_neg b]
      by_cases c : v.f1 < u.f1
      · have : ¬ v.f1 = u.f1 := by omega
        simp [c, this]
      · by_cases d : u.f1 < v.f1
        · have : ¬ v.f1 = u.f1 := by omega
          simp [c, d, this]
        · have e' : v.f1 = u.f1 := by omega
          rw [if_neg c, if_neg d, compareBytes_zero]
          simp [e, e']
theorem twice_d (v u : S23) : ∃ hd : Bool, logic_Holds.f (isV v u).1 (isV v u).2.1 (isV v u).2.2.1 = some hd ∧
    ((((isV v u).2.2.2 != 0) = true ∧ ((relV [61] v u).2.2.2 != 0) = true) ∨ (((isV v u).2.2.2 != 0) = false ∧ ((relV [61] v u).2.2.2 != 0) = false ∧ (hd == (v.f0 == u.f0 && (v.f1 == u.f1 && (v.f2.toList == u.f2.toList)))) = true ∧ ((v.f0 == 0) = true ∨ ((v.f0 == 0) = false ∧ (u.f0 == 0) = true) ∨ ((v.f0 == 0) = false ∧ (u.f0 == 0) = false ∧ ((relV [61] v u).1 == (isV v u).1) = true ∧ ((relV [61] v u).2.1 == (isV v u).2.1) = true ∧ ((relV [61] v u).2.2.1.toList == (isV v u).2.2.1.toList) = true)))) := by
  have bad : ∀ n : Int, (n != 0) = true → ∃ hd : Bool, logic_Holds.f (er n).1 (er n).2.1 (er n).2.2.1 = some hd := fun n _ => ⟨false, rfl⟩
  by_cases h : (ok v && ok u) = true
  · have ho : isOp [61] (cmpV v u) = some (cmpV v u == 0) := rfl
    have hr : relV [61] v u = finV (cmpV v u == 0) v u := by unfold relV; rw [if_pos h, ho]
    by_cases hk : v.f0 ≠ 0 ∧ u.f0 ≠ 0 ∧ v.f0 ≠ u.f0
    · have hs : isV v u = er 20 := by unfold isV; rw [if_pos h, if_pos hk]
      have hf : relV [61] v u = er 20 := by rw [hr]; unfold finV; rw [if_neg (by omega), if_neg (by omega)]
      rw [hs, hf]
      exact ⟨false, rfl, .inl ⟨rfl, rfl⟩⟩
    · have hs : isV v u = tr (sameV v u) := by unfold isV; rw [if_pos h, if_neg hk]
      rw [hs, holds_tr]
      refine ⟨_, rfl, .inr ?_⟩
      rw [same_beq]
      by_cases h0 : v.f0 = 0 ∨ u.f0 = 0
      · have hf : relV [61] v u = er 0 := by rw [hr]; unfold finV; rw [if_pos h0]
        rw [hf]
        refine ⟨rfl, rfl, beq_self_eq_true _, ?_⟩
        by_cases h1 : v.f0 = 0
        · exact .inl (beq_iff_eq.2 h1)
        · exact .inr (.inl ⟨beq_eq_false_iff_ne.2 h1, beq_iff_eq.2 (by omega)⟩)
      · have hf : relV [61] v u = tr (sameV v u) := by rw [hr, cmp_same]; unfold finV; rw [if_neg h0, if_pos (by omega)]
        rw [hf]
        exact ⟨rfl, rfl, beq_self_eq_true _, .inr (.inr ⟨beq_eq_false_iff_ne.2 (by omega), beq_eq_false_iff_ne.2 (by omega), by rw [same_beq]; exact beq_self_eq_true _, by rw [same_beq]; exact beq_self_eq_true _, by rw [beq_iff_eq]; rfl⟩)⟩
  · have hs : isV v u = er 1 := by unfold isV; rw [if_neg h]
    have hf : relV [61] v u = er 1 := by unfold relV; rw [if_neg h]
    rw [hs, hf]
    exact ⟨false, rfl, .inl ⟨rfl, rfl⟩⟩
theorem logicTwice_pure (v u : S23) (op : ByteArray) (wv : OkV v) (wu : OkV u) : ∃ k, Twice.Facts k v.f0 v.f1 v.f2 u.f0 u.f1 u.f2 op := by
  obtain ⟨k1, e1⟩ := ref_Check_ev v
  obtain ⟨k2, e2⟩ := ref_Check_ev u
  obtain ⟨k3, e3⟩ := not_ev v wv
  obtain ⟨k4, e4⟩ := not_ev (valN (notV v)) (okv_not v)
  obtain ⟨k5, e5⟩ := rel_ev op v nullV wv okv_nullV
  obtain ⟨k6, e6⟩ := is_ev v u wv wu
  obtain ⟨k7, e7⟩ := rel_ev ⟨#[61]⟩ v u wv wu
  obtain ⟨hd, e8, d⟩ := twice_d v u
  refine ⟨k1 + k2 + k3 + k4 + k5 + k6 + k7, ?_⟩
  generalize hk : k1 + k2 + k3 + k4 + k5 + k6 + k7 = k
  exact ⟨_, _, e1 k (by omega), e2 k (by omega), _, _, _, _, e3 k (by omega), _, _, _, _, e4 k (by omega), _, _, _, _, e5 k (by omega), _, _, _, _, e6 k (by omega), _, _, _, _, e7 k (by omega), _, e8, twice_a v, twice_x (bs op) v, twice_c v u, d⟩
end Go.Proofs.Ytfibdjgfdgbniaa.Lg
