/- LikeTells: whatever the text and the pattern, the program's Like, Prefix and Check answer as the document's do: the law returns true for every input. No condition. -/
import Derived.Test.YtlmfaidocdlpeaaLikeB
set_option linter.unusedVariables false
set_option linter.unusedSimpArgs false
namespace Go.Proofs.Ytlmfaidocdlpeaa.Pure
open Go.RowKit Go.Proofs.Ytlmfaidocdlpeaa.QLK Go.Proofs.YtlmfaidocdlpeaaW.PrintWords Go.Proofs.YtlmfaidocdlpeaaW.PrintLast Go.Proofs.Ytlmfaidocdlpeaa.Pu Go.Proofs.Ytlmfaidocdlpeaa.Lk

theorem live_ev : Ev (fun k => boscagelaw04_live.f k) true := Ev.of (fun k => boscagelaw04_live.mono k) (k := 80) (by decide +kernel)

theorem LikeTells : boscagelaw04_LikeTells.Pure := by
  intro s p _ _
  refine Ev.rounds ?_
  unfold boscagelaw04_LikeTells.f
  refine Ev.bind live_ev ?_
  by_cases h1 : (s.size : Int) > 300
  · refine Ev.pos h1 ?_
    refine Ev.at1 ?_
    simp only [boscagelaw04_LikeTells.j0]
    exact Ev.pos (by trivial) (Ev.now _)
  · refine Ev.neg h1 ?_
    refine Ev.at1 ?_
    simp only [boscagelaw04_LikeTells.j0]
    by_cases h2 : (p.size : Int) > 300
    · exact Ev.pos (by simp [h2]) (Ev.now _)
    · refine Ev.neg (by simp [h2]) ?_
      cases hp : pieces (bs p) with
      | none =>
        have hc := check_ev p
        have hd := ref_check p (by omega)
        rw [hp] at hc hd
        refine Ev.bind (like_no s p hp) ?_
        refine Ev.bind (ref_like_no s p hp (by omega)) ?_
        refine Ev.bind (prefix_no p hp) ?_
        refine Ev.bind (ref_prefix_no p hp (by omega)) ?_
        refine Ev.pos (by trivial) ?_
        refine Ev.pos (by decide) ?_
        refine Ev.pos (by decide) ?_
        refine Ev.pos rfl ?_
        refine Ev.pos (by decide) ?_
        refine Ev.bind hc ?_
        refine Ev.bind hd ?_
        exact Ev.done (by decide)
      | some ps =>
        have hc := check_ev p
        have hd := ref_check p (by omega)
        rw [hp] at hc hd
        refine Ev.bind (like_yes s p hp (by omega)) ?_
        refine Ev.bind (ref_like_yes s p hp (by omega) (by omega)) ?_
        refine Ev.bind (prefix_yes p hp (by omega)) ?_
        refine Ev.bind (ref_prefix_yes p hp (by omega)) ?_
        refine Ev.pos (by trivial) ?_
        refine Ev.pos (by simp) ?_
        refine Ev.pos (by rfl) ?_
        refine Ev.pos rfl ?_
        refine Ev.pos (by simp) ?_
        refine Ev.bind hc ?_
        refine Ev.bind hd ?_
        exact Ev.done (by simp)

end Go.Proofs.Ytlmfaidocdlpeaa.Pure
