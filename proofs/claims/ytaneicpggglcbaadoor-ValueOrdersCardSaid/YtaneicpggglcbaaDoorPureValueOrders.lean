/- ValueOrders' plain law: the order of rows is one. -/
import Derived.Test.YtaneicpggglcbaaDoorVa
set_option linter.unusedVariables false
set_option linter.unusedSimpArgs false
namespace Go.Proofs.YtaneicpggglcbaaDoor.Va
open Go.RowKit Go.Proofs.YtaneicpggglcbaaDoorW.PrintWords Go.Proofs.YtaneicpggglcbaaDoor.Pu Go.Proofs.YtaneicpggglcbaaDoor.QVA Go.Proofs.YtaneicpggglcbaaDoor.Rw
theorem valueOrders_pure (a b c : List S27) (ha : a.length * 32 ≤ 140737488351232) (wa : ∀ x ∈ a, OkV x) (hb : b.length * 32 ≤ 140737488351232) (wb : ∀ x ∈ b, OkV x) (hc : c.length * 32 ≤ 140737488351232) (wc : ∀ x ∈ c, OkV x) :
    ∃ k, boscagelaw01_ValueOrders.f k a b c = some true := by
  refine Ev.rounds ?_
  unfold boscagelaw01_ValueOrders.f
  refine Ev.bind live_ev ?_
  obtain ⟨v, hv, hp⟩ := big_ev [a, b, c] (by simp) (by
    intro r hr
    simp only [List.mem_cons, List.mem_nil_iff, or_false] at hr
    rcases hr with rfl | rfl | rfl
    · exact ⟨ha, wa⟩
    · exact ⟨hb, wb⟩
    · exact ⟨hc, wc⟩)
  refine Ev.bind hv ?_
  cases v
  · refine Ev.neg (by decide) (Ev.bind (Ev.same (mineRows_ev ha hb)) (Ev.bind (Ev.same (mineRows_ev hb hc)) (Ev.bind (Ev.same (mineRows_ev ha hc)) (Ev.pos rfl (Ev.bind (Ev.same (mineRows_ev hb ha)) ?_)))))
    have h := ordR.tr a b c
    have h1 := ordR.anti a b
    have h2 := ordR.lo a b
    have h3 := ordR.hi a b
    have h4 := ordR.lo b a
    have h5 := ordR.hi b a
    refine Ev.pos (by rw [wrap_id (by omega) (by omega)]; exact h1) (Ev.pos (by omega) (Ev.pos h3 (Ev.bind (Ev.same (mineRows_ev ha ha)) (Ev.pos (ordR.self a) (Ev.same ?_)))))
    generalize rowC a b = x at *
    generalize rowC b c = y at *
    generalize rowC a c = z at *
    by_cases hx : x ≤ 0
    · by_cases hy : y ≤ 0
      · rw [if_pos hx, if_pos hy, if_neg (by have := (h hx hy).1; omega)]
        by_cases hz : x < 0
        · have := (h hx hy).2 (.inl hz)
          rw [if_pos hz, decide_eq_false (by omega)]; rfl
        · rw [if_neg hz]; rfl
      · rw [if_pos hx, if_neg hy]
        split <;> rfl
    · rw [if_neg hx, if_neg (by omega)]; rfl
  · exact Ev.pos rfl (Ev.now _)
end Go.Proofs.YtaneicpggglcbaaDoor.Va
