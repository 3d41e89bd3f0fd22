import Derived.Test.YtfibdjgfdgbniaaLgRefIn
import Derived.Test.YtfibdjgfdgbniaaLgBig
set_option linter.unusedVariables false
set_option linter.unusedSimpArgs false
namespace Go.Proofs.Ytfibdjgfdgbniaa.Lg
open Go.RowKit Go.Proofs.YtfibdjgfdgbniaaW.PrintWords Go.Proofs.Ytfibdjgfdgbniaa.Pu Go.Proofs.Ytfibdjgfdgbniaa.QLG Go.Proofs.Ytfibdjgfdgbniaa.Rw
theorem logicRels_pure (op : ByteArray) (a b : S23) (l : List S23) (ha : OkV a) (hb : OkV b) (wf : ∀ x ∈ l, OkV x) :
    ∃ k, boscagelaw02_LogicRels.f k op a.f0 a.f1 a.f2 b.f0 b.f1 b.f2 l = some true := by
  refine Ev.rounds ?_
  have go : ∀ c : Bool, (c = false → l.length ≤ 1000) → Ev (fun k => boscagelaw02_LogicRels.j0 k op l true c a.f0 a.f1 a.f2 b.f0 b.f1 b.f2) true := by
    intro c hc
    refine Ev.at1 ?_
    simp only [boscagelaw02_LogicRels.j0]
    cases c
    · have hl := hc rfl
      refine Ev.neg (by decide) ?_
      refine Ev.bind (rel_ev op a b ha hb) (Ev.bind (ref_rel_ev op a b) (Ev.bind (is_ev a b ha hb) (Ev.bind (ref_is_ev a b) (Ev.bind (in_ev (by omega) wf ha) (Ev.bind (ref_in_ev (by omega)) ?_)))))
      exact Ev.same (by simp)
    · exact Ev.pos rfl (Ev.now _)
  obtain ⟨g, hg, hl⟩ := big_ev l wf
  unfold boscagelaw02_LogicRels.f
  refine Ev.bind (a := true) (Ev.now _) ?_
  refine Ev.bind hg ?_
  cases g
  · refine Ev.neg (by decide) ?_
    by_cases h1 : (a.f2.size : Int) > 10000
    · exact Ev.pos h1 (go true (by simp))
    · exact Ev.neg h1 (go _ fun _ => hl rfl)
  · exact Ev.pos rfl (go true (by simp))
end Go.Proofs.Ytfibdjgfdgbniaa.Lg
