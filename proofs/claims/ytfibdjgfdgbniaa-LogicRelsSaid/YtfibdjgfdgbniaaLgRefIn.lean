/- Layer 2 in plain words: the document's In. -/
import Derived.Test.YtfibdjgfdgbniaaLgIn
import Derived.Test.YtfibdjgfdgbniaaLgRef
import Derived.Test.YtfibdjgfdgbniaaQLGx10
set_option linter.unusedVariables false
set_option linter.unusedSimpArgs false
namespace Go.Proofs.Ytfibdjgfdgbniaa.Lg
open Go.RowKit Go.Proofs.YtfibdjgfdgbniaaW.PrintWords Go.Proofs.Ytfibdjgfdgbniaa.Pu Go.Proofs.Ytfibdjgfdgbniaa.QLG Go.Proofs.Ytfibdjgfdgbniaa.Rw
theorem ref_in_loop {l : List S23} {v : S23} (hl : l.length ≤ 4398046511103) : ∀ (r : List S23) (i : Nat) (acc : List S23), l.drop i = r → acc.length = i → i ≤ l.length →
    Ev (fun k => boscageref02_In.l0 k acc l (l.length : Int) (i : Int) v.f0 v.f1 v.f2) (goV v acc r) := by
  intro r
  induction r with
  | nil =>
    intro i acc h ha hi
    have := List.drop_eq_nil_iff.1 h
    refine Ev.at1 ?_
    simp only [boscageref02_In.l0]
    refine Ev.neg (by omega) ?_
    exact Ev.bind (ref_or_ev (by omega)) (Ev.now _)
  | cons c r ih =>
    intro i acc h ha hi
    have hlt := drop_lt h
    have hw := wrap_next h (by omega)
    refine Ev.at1 ?_
    simp only [boscageref02_In.l0]
    refine Ev.pos (by omega) (Ev.pos (by omega) (Ev.pos (by omega) ?_))
    rw [rd_drop h, hw]
    refine Ev.bind (ref_rel_ev _ v c) ?_
    rw [eq61]
    by_cases hz : (relV [61] v c).2.2.2 = 0
    · refine Ev.pos hz (Ev.pos (by omega) ?_)
      refine Ev.eq (ih (i + 1) (acc ++ [val (relV [61] v c)]) (drop_next h) (by simp [ha]) (by omega)) ?_
      rw [goV, if_pos hz]
    · refine Ev.neg hz (Ev.done ?_)
      rw [goV, if_neg hz]
      rfl
theorem ref_in_ev {l : List S23} {v : S23} (hl : l.length < 4398046511103) : Ev (fun k => boscageref02_In.f k v.f0 v.f1 v.f2 l) (inV v l) := by
  have tail : ∀ b : Bool, Ev (fun k => boscageref02_In.j0 k l b v.f0 v.f1 v.f2) (if b = true then er 1 else goV v [] l) := by
    intro b
    refine Ev.at1 ?_
    simp only [boscageref02_In.j0]
    cases b
    · exact Ev.neg (by decide) (ref_in_loop (by omega) l 0 [] rfl rfl (by omega))
    · exact Ev.pos rfl (Ev.now _)
  unfold boscageref02_In.f inV
  refine Ev.bind (may_ev (l := [v]) (by simp)) ?_
  have h1 : [v].all ok = ok v := by simp
  rw [h1]
  by_cases hv : ok v = true
  · refine Ev.pos hv ?_
    refine Ev.bind (may_ev (by omega)) ?_
    refine Ev.eq (tail _) ?_
    rw [hv]
    cases l.all ok <;> rfl
  · refine Ev.neg hv (Ev.eq (tail _) ?_)
    simp only [Bool.not_eq_true] at hv
    rw [hv]
    rfl
end Go.Proofs.Ytfibdjgfdgbniaa.Lg
