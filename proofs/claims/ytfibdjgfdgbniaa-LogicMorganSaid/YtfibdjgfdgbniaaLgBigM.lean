/- Layer 2 in plain words: how many values are played. -/
import Derived.Test.YtfibdjgfdgbniaaLgAM
import Derived.Test.YtfibdjgfdgbniaaQLMx6
import Derived.Test.YtfibdjgfdgbniaaQLMx7
set_option linter.unusedVariables false
set_option linter.unusedSimpArgs false
namespace Go.Proofs.Ytfibdjgfdgbniaa.Lg
open Go.RowKit Go.Proofs.YtfibdjgfdgbniaaW.PrintWords Go.Proofs.Ytfibdjgfdgbniaa.Pu Go.Proofs.Ytfibdjgfdgbniaa.QLM Go.Proofs.Ytfibdjgfdgbniaa.Rw


/-! how many are played -/
theorem few_row (l : List S23) (hl : l.length ≤ 1000) (wf : ∀ x ∈ l, OkV x) : ∀ (r : List S23) (i : Nat) (n : Int), l.drop i = r → 0 ≤ n → n ≤ 100000 →
    ∃ b, Ev (fun k => boscageref01_Few.l1 k 100000 n [l] 1 0 l (l.length : Int) (i : Int)) b := by
  intro r
  induction r with
  | nil =>
    intro i n h h0 h1
    have := List.drop_eq_nil_iff.1 h
    refine ⟨decide (n ≤ 100000), Ev.at1 ?_⟩
    simp only [boscageref01_Few.l1]
    refine Ev.neg (by omega) (Ev.at1 ?_)
    simp only [boscageref01_Few.l0]
    rw [show wrap64 (0 + 1) = 1 from wrap_id (by decide) (by decide)]
    exact Ev.neg (by decide) (Ev.now _)
  | cons c r ih =>
    intro i n h h0 h1
    have hlt := drop_lt h
    have hw := wrap_next h (by omega)
    have hs := (wf c (mem_drop h)).2.2
    have e1 : wrap64 (1 + (c.f2.size : Int)) = 1 + (c.f2.size : Int) := wrap_id (by omega) (by omega)
    have e2 : wrap64 (n + (1 + (c.f2.size : Int))) = n + (1 + (c.f2.size : Int)) := wrap_id (by omega) (by omega)
    by_cases hg : n + (1 + (c.f2.size : Int)) > 100000
    · refine ⟨false, Ev.at1 ?_⟩
      simp only [boscageref01_Few.l1]
      refine Ev.pos (by omega) (Ev.pos (by omega) (Ev.pos (by omega) ?_))
      rw [rd_drop h, e1, e2]
      exact Ev.pos hg (Ev.now _)
    · obtain ⟨b, hb⟩ := ih (i + 1) (n + (1 + (c.f2.size : Int))) (drop_next h) (by omega) (by omega)
      refine ⟨b, Ev.at1 ?_⟩
      simp only [boscageref01_Few.l1]
      refine Ev.pos (by omega) (Ev.pos (by omega) (Ev.pos (by omega) ?_))
      rw [rd_drop h, e1, e2, hw]
      exact Ev.neg hg hb
theorem big_ev (l : List S23) (wf : ∀ x ∈ l, OkV x) : ∃ b, Ev (fun k => boscagelaw02_big.f k l) b ∧ (b = false → l.length ≤ 1000) := by
  unfold boscagelaw02_big.f
  by_cases hg : (l.length : Int) > 1000
  · exact ⟨true, Ev.pos hg (Ev.now _), by simp⟩
  · obtain ⟨b, hb⟩ := few_row l (by omega) wf l 0 1 rfl (by omega) (by omega)
    refine ⟨!b, Ev.neg hg ?_, fun _ => by omega⟩
    refine Ev.bind (a := b) ?_ (Ev.now _)
    unfold boscageref01_Few.f
    refine Ev.at1 ?_
    simp only [boscageref01_Few.l0]
    rw [show wrap64 (0 + 1) = 1 from wrap_id (by decide) (by decide)]
    exact Ev.pos (show (0 : Int) < 1 by decide) (Ev.pos (by decide) (Ev.pos (show (0 : Int) < 1 by decide) hb))
end Go.Proofs.Ytfibdjgfdgbniaa.Lg
