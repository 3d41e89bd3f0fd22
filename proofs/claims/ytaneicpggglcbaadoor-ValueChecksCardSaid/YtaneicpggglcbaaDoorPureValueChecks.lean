/- ValueChecks' plain law: whether values and rows may be, and how they compare, is as the document says. -/
import Derived.Test.YtaneicpggglcbaaDoorVa
import Derived.Test.YtaneicpggglcbaaDoorQVAx8
set_option linter.unusedVariables false
set_option linter.unusedSimpArgs false
namespace Go.Proofs.YtaneicpggglcbaaDoor.Va
open Go.RowKit Go.Proofs.YtaneicpggglcbaaDoorW.PrintWords Go.Proofs.YtaneicpggglcbaaDoor.Pu Go.Proofs.YtaneicpggglcbaaDoor.QVA Go.Proofs.YtaneicpggglcbaaDoor.Rw
theorem check_ev (x : S27) (h : OkV x) : Ev (fun k => value_Check.f k x.f0 x.f1 x.f2) (chk x) := Ev.after 5 fun k => value_Check_at x h.2.1 k
theorem ref_same_at (a b : S27) : boscageref01_Same.f a.f0 a.f1 a.f2 b.f0 b.f1 b.f2 = some (sameB a b) := by
  unfold boscageref01_Same.f sameB
  by_cases h0 : a.f0 = b.f0
  · by_cases h1 : a.f1 = b.f1 <;> simp [h0, h1, bs_toList]
  · simp [h0]
theorem checks_loop {a b : List S27} (ha : a.length * 32 ≤ 140737488351232) (wa : ∀ x ∈ a, OkV x) (hb : b.length * 32 ≤ 140737488351232) : ∀ (r : List S27) (i : Nat), a.drop i = r →
    Ev (fun k => boscagelaw01_ValueChecks.l0 k a b true (a.length : Int) (i : Int)) true := by
  intro r
  induction r with
  | nil =>
    intro i h
    have := List.drop_eq_nil_iff.1 h
    refine Ev.at1 ?_
    simp only [boscagelaw01_ValueChecks.l0]
    refine Ev.neg (by omega) (Ev.pos (by trivial) (Ev.bind (Ev.same (checkRow_ev ha wa)) (Ev.bind (refCheckRow_ev ha) (Ev.pos rfl (Ev.bind (Ev.same (mineRows_ev ha hb)) (Ev.bind (rows_ev ha hb) (Ev.done ?_)))))))
    simp
  | cons c r ih =>
    intro i h
    have hlt := drop_lt h
    have hw := wrap_next h (by omega)
    refine Ev.at1 ?_
    simp only [boscagelaw01_ValueChecks.l0]
    refine Ev.pos (by omega) (Ev.pos (by omega) (Ev.pos (by omega) ?_))
    rw [rd_drop h, hw]
    refine Ev.bind (check_ev c (wa c (mem_drop h))) (Ev.bind (ref_Check_ev c) (Ev.pos rfl ?_))
    have next := ih (i + 1) (drop_next h)
    by_cases hq : (i : Int) < (b.length : Int)
    · refine Ev.pos hq (Ev.bind (Ev.same (same_at _ _)) (Ev.bind (Ev.same (ref_same_at _ _)) (Ev.neg (by simp) (Ev.bind (mine_ev _ _) (Ev.bind (ref_Compare_ev _ _) (Ev.pos rfl next))))))
    · exact Ev.neg hq next
theorem valueChecks_pure (a b : List S27) (ha : a.length * 32 ≤ 140737488351232) (wa : ∀ x ∈ a, OkV x) (hb : b.length * 32 ≤ 140737488351232) (wb : ∀ x ∈ b, OkV x) :
    ∃ k, boscagelaw01_ValueChecks.f k a b = some true := by
  refine Ev.rounds ?_
  unfold boscagelaw01_ValueChecks.f
  refine Ev.bind live_ev ?_
  obtain ⟨v, hv, hp⟩ := big_ev [a, b] (by simp) (by
    intro r hr
    simp only [List.mem_cons, List.mem_nil_iff, or_false] at hr
    rcases hr with rfl | rfl
    · exact ⟨ha, wa⟩
    · exact ⟨hb, wb⟩)
  refine Ev.bind hv ?_
  cases v
  · exact Ev.neg (by decide) (checks_loop ha wa hb a 0 rfl)
  · exact Ev.pos rfl (Ev.now _)
end Go.Proofs.YtaneicpggglcbaaDoor.Va
