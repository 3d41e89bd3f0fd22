/- Layer 2 in plain words: Not. -/
import Derived.Test.YtfibdjgfdgbniaaLgAO
import Derived.Test.YtfibdjgfdgbniaaQLOx7
set_option linter.unusedVariables false
set_option linter.unusedSimpArgs false
namespace Go.Proofs.Ytfibdjgfdgbniaa.Lg
open Go.RowKit Go.Proofs.YtfibdjgfdgbniaaW.PrintWords Go.Proofs.Ytfibdjgfdgbniaa.Pu Go.Proofs.Ytfibdjgfdgbniaa.QLO Go.Proofs.Ytfibdjgfdgbniaa.Rw

def valN (x : Ans) : S23 := ⟨x.1, x.2.1, x.2.2.1⟩
def notV (c : S23) : Ans := if ok c = true then (if kind c = true then (if c.f0 = 0 then er 0 else (1, 1 - c.f1, nil, 0)) else er 20) else er 1
theorem kind_or {c : S23} (h : kind c = true) : c.f0 = 0 ∨ c.f0 = 1 := by simpa [kind] using h
theorem fold_one (c : S23) : foldV 0 [c] = if ok c = true then (if kind c = true then (if c.f0 = 0 then er 0 else (1, c.f1, nil, 0)) else er 20) else er 1 := by
  unfold foldV
  by_cases h : ok c = true
  · rw [if_pos (by simp [h]), if_pos h]
    unfold restV
    by_cases hk : kind c = true
    · rw [if_pos (by simp [hk]), if_pos hk]
      rcases kind_or hk with h0 | h1
      · simp [h0, hit, isNull, outV]
      · rcases (ok_bool h h1).1 with f | f <;> simp [h1, f, hit, isNull, outV, tr, nil]
    · rw [if_neg (by simp [hk]), if_neg hk]
  · rw [if_neg (by simp [h]), if_neg h]
theorem not_ev (c : S23) (wc : OkV c) : Ev (fun k => logic_Not.f k c.f0 c.f1 c.f2) (notV c) := by
  unfold logic_Not.f notV
  refine Ev.bind (and_ev (l := [c]) (by simp) (by simp [wc])) ?_
  rw [fold_one]
  by_cases h : ok c = true
  · rw [if_pos h, if_pos h]
    by_cases hk : kind c = true
    · rw [if_pos hk, if_pos hk]
      rcases kind_or hk with h0 | h1
      · rw [if_pos h0, if_pos h0]
        exact Ev.pos rfl (Ev.neg (by decide) (Ev.now _))
      · have e0 : ¬ c.f0 = 0 := by omega
        rw [if_neg e0, if_neg e0]
        refine Ev.pos rfl (Ev.pos rfl (Ev.done ?_))
        rcases (ok_bool h h1).1 with f | f
        · rw [f]; exact congrArg (fun z => ((1 : Int), z, nil, (0 : Int))) (wrap_id (by decide) (by decide))
        · rw [f]; exact congrArg (fun z => ((1 : Int), z, nil, (0 : Int))) (wrap_id (by decide) (by decide))
    · rw [if_neg hk, if_neg hk]
      exact Ev.neg (by decide) (Ev.now _)
  · rw [if_neg h, if_neg h]
    exact Ev.neg (by decide) (Ev.now _)
end Go.Proofs.Ytfibdjgfdgbniaa.Lg
