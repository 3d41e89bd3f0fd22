/- Layer 2 in plain words: the document's check. -/
import Derived.Test.YtfibdjgfdgbniaaLgA
import Derived.Test.YtfibdjgfdgbniaaQLGx7
set_option linter.unusedVariables false
set_option linter.unusedSimpArgs false
namespace Go.Proofs.Ytfibdjgfdgbniaa.Lg
open Go.RowKit Go.Proofs.YtfibdjgfdgbniaaW.PrintWords Go.Proofs.Ytfibdjgfdgbniaa.Pu Go.Proofs.Ytfibdjgfdgbniaa.QLG Go.Proofs.Ytfibdjgfdgbniaa.Rw

theorem ref_Check_ev (x : S23) : Ev (fun k => boscageref01_Check.f k x.f0 x.f1 x.f2) (chk x) := Ev.after 1 fun k => by
  by_cases a0 : x.f0 = 0
  · by_cases b0 : x.f1 = 0 <;> by_cases s : bs x.f2 = [] <;> simp [boscageref01_Check.f, boscageref01_Check.j0, chk, ok, bs_toList, a0, b0, s]
  by_cases a1 : x.f0 = 1
  · by_cases b0 : x.f1 = 0 <;> by_cases b1 : x.f1 = 1 <;> by_cases s : bs x.f2 = [] <;> simp [boscageref01_Check.f, boscageref01_Check.j0, chk, ok, bs_toList, a0, a1, b0, b1, s]
  by_cases a2 : x.f0 = 2
  · by_cases s : bs x.f2 = [] <;> simp [boscageref01_Check.f, boscageref01_Check.j0, chk, ok, bs_toList, a0, a1, a2, s]
  by_cases a3 : x.f0 = 3
  · by_cases b0 : x.f1 = 0 <;> simp [boscageref01_Check.f, boscageref01_Check.j0, chk, ok, bs_toList, a3, b0]
  by_cases a4 : x.f0 = 4
  · by_cases b0 : x.f1 = 0 <;> simp [boscageref01_Check.f, boscageref01_Check.j0, chk, ok, bs_toList, a4, b0]
  simp [boscageref01_Check.f, boscageref01_Check.j0, chk, ok, bs_toList, a0, a1, a2, a3, a4]
theorem may_loop {l : List S23} (hl : l.length ≤ 4398046511105) : ∀ (r : List S23) (i : Nat), l.drop i = r → Ev (fun k => boscageref02_may.l0 k l (l.length : Int) (i : Int)) (r.all ok) := by
  intro r
  induction r with
  | nil =>
    intro i h
    have := List.drop_eq_nil_iff.1 h
    refine Ev.at1 ?_
    simp only [boscageref02_may.l0]
    exact Ev.neg (by omega) (Ev.now _)
  | cons c r ih =>
    intro i h
    have hlt := drop_lt h
    have hw := wrap_next h hl
    refine Ev.at1 ?_
    simp only [boscageref02_may.l0]
    refine Ev.pos (by omega) (Ev.pos (by omega) (Ev.pos (by omega) ?_))
    rw [rd_drop h, hw]
    refine Ev.bind (ref_Check_ev c) ?_
    by_cases hc : ok c = true
    · refine Ev.pos (by simp [chk, hc]) ?_
      refine Ev.eq (ih (i + 1) (drop_next h)) ?_
      simp [hc]
    · refine Ev.neg (by simp [chk, hc]) ?_
      exact Ev.done (by simp [chk, hc])
theorem may_ev {l : List S23} (hl : l.length ≤ 4398046511105) : Ev (fun k => boscageref02_may.f k l) (l.all ok) := may_loop hl l 0 rfl
end Go.Proofs.Ytfibdjgfdgbniaa.Lg
