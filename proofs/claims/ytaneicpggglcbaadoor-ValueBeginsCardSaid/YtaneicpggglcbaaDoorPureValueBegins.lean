/- ValueBegins' plain law: what a row begins with stands ahead of it, or is it; a row with one value more stands behind. -/
import Derived.Test.YtaneicpggglcbaaDoorVa
set_option linter.unusedVariables false
set_option linter.unusedSimpArgs false
namespace Go.Proofs.YtaneicpggglcbaaDoor.Va
open Go.RowKit Go.Proofs.YtaneicpggglcbaaDoorW.PrintWords Go.Proofs.YtaneicpggglcbaaDoor.Pu Go.Proofs.YtaneicpggglcbaaDoor.QVA Go.Proofs.YtaneicpggglcbaaDoor.Rw
theorem rowC_take : ∀ (l : List S27) (n : Nat), n ≤ l.length → rowC (l.take n) l = if n = l.length then 0 else -1
  | [], n, h => by
    have : n = 0 := by simpa using h
    subst this; rfl
  | x :: l, 0, h => rfl
  | x :: l, n + 1, h => by
    rw [List.take_succ_cons, rowC, if_pos ((cmpV_zero x x).2 rfl), rowC_take l n (by simpa using h)]
    simp
theorem rowC_more (v : S27) : ∀ l : List S27, rowC l (l ++ [v]) = -1
  | [] => rfl
  | x :: l => by rw [List.cons_append, rowC, if_pos ((cmpV_zero x x).2 rfl), rowC_more v l]
theorem turn (k n : Int) (h0 : 0 ≤ n) (hn : n ≤ 9223372036854775) (hk : -9223372036854775808 ≤ k ∧ k ≤ 9223372036854775807) :
    wrap64 (n + 1) = n + 1 ∧ wrap64 (wrap64 (Int.tmod k (n + 1) + n) + 1) = Int.tmod k (n + 1) + n + 1 ∧ 0 ≤ Int.tmod (Int.tmod k (n + 1) + n + 1) (n + 1) ∧ Int.tmod (Int.tmod k (n + 1) + n + 1) (n + 1) ≤ n := by
  have h1 : Int.tmod k (n + 1) < n + 1 := Int.tmod_lt_of_pos _ (by omega)
  have h2 : -(n + 1) < Int.tmod k (n + 1) := by
    have := Int.lt_tmod_of_pos k (show 0 < n + 1 by omega)
    exact this
  have e1 : wrap64 (Int.tmod k (n + 1) + n) = Int.tmod k (n + 1) + n := wrap_id (by omega) (by omega)
  refine ⟨wrap_id (by omega) (by omega), by rw [e1, wrap_id (by omega) (by omega)], ?_, ?_⟩
  · exact Int.tmod_nonneg _ (by omega)
  · have := Int.tmod_lt_of_pos (Int.tmod k (n + 1) + n + 1) (show 0 < n + 1 by omega)
    omega
theorem valueBegins_pure (l : List S27) (k : Int) (v : S27) (hl : l.length * 32 ≤ 140737488351232) (wl : ∀ x ∈ l, OkV x) (hk : (Lit.int .i64 k).wf = true) (wv : OkV v) :
    ∃ n, boscagelaw01_ValueBegins.f n l k v.f0 v.f1 v.f2 = some true := by
  refine Ev.rounds ?_
  unfold boscagelaw01_ValueBegins.f
  refine Ev.bind live_ev ?_
  obtain ⟨b, hv, hp⟩ := big_ev [l] (by simp) (by
    intro r hr
    simp only [List.mem_cons, List.mem_nil_iff, or_false] at hr
    subst hr
    exact ⟨hl, wl⟩)
  refine Ev.bind hv ?_
  have main : ∀ q : Bool, Ev (fun n => boscagelaw01_ValueBegins.j0 n l k true q v.f0 v.f1 v.f2) true := by
    intro q
    refine Ev.at1 ?_
    simp only [boscagelaw01_ValueBegins.j0]
    cases q
    · refine Ev.neg (by decide) ?_
      obtain ⟨t1, t2, t3, t4⟩ := turn k (l.length : Int) (by omega) (by omega) (wf64 hk)
      rw [t1, t2]
      generalize Int.tmod (Int.tmod k ((l.length : Int) + 1) + (l.length : Int) + 1) ((l.length : Int) + 1) = m at t3 t4 ⊢
      obtain ⟨n, rfl⟩ : ∃ n : Nat, m = n := ⟨m.toNat, by omega⟩
      have ht : (l.take n).length * 32 ≤ 140737488351232 := by rw [List.length_take]; omega
      have hm : (l ++ [v]).length * 32 ≤ 140737488355328 := by simp; omega
      rw [Int.toNat_natCast]
      refine Ev.neg (by omega) (Ev.pos t3 (Ev.pos t4 (Ev.bind (Ev.same (mineRows_ev ht hl)) (Ev.pos (by simp; omega) (Ev.bind (Ev.now _) (Ev.bind (Ev.now _) ?_))))))
      have hmore : value_CompareRows.f l (([] : List S27) ++ l ++ [(⟨v.f0, v.f1, v.f2⟩ : S27)]) = some (-1) := by
        unfold value_CompareRows.f
        rw [if_pos (by simp; omega), cmpL_eq]
        exact congrArg some (rowC_more v l)
      rw [rowC_take l n (by omega)]
      refine Ev.pos (by simp; omega) (Ev.pos (by trivial) ?_)
      by_cases e : n = l.length
      · rw [if_pos e]
        exact Ev.pos (by simp [e]) (Ev.pos (by decide) (Ev.bind (Ev.same hmore) (Ev.done rfl)))
      · rw [if_neg e]
        exact Ev.pos (by
          have : ((n : Int) == (l.length : Int)) = false := by simpa using fun h : (n : Int) = l.length => e (by omega)
          rw [this]; rfl) (Ev.pos (by decide) (Ev.bind (Ev.same hmore) (Ev.done rfl)))
    · exact Ev.pos rfl (Ev.now _)
  cases b
  · exact Ev.neg (by decide) (main _)
  · exact Ev.pos (by trivial) (main _)
end Go.Proofs.YtaneicpggglcbaaDoor.Va
