import Derived.Test.YtfibdjgfdgbniaaLgAM
import Derived.Test.YtfibdjgfdgbniaaLgBigM
import Derived.Test.YtfibdjgfdgbniaaLgNotM
import Derived.Test.YtfibdjgfdgbniaaQLMx7
set_option linter.unusedVariables false
set_option linter.unusedSimpArgs false
namespace Go.Proofs.Ytfibdjgfdgbniaa.Lg
open Go.RowKit Go.Proofs.YtfibdjgfdgbniaaW.PrintWords Go.Proofs.Ytfibdjgfdgbniaa.Pu Go.Proofs.Ytfibdjgfdgbniaa.QLM Go.Proofs.Ytfibdjgfdgbniaa.Rw

/-- fit truths -/
def Tr (x : S23) : Prop := ok x = true ∧ kind x = true
theorem fold_all {l : List S23} (d : Int) (h : ∀ x ∈ l, Tr x) : foldV d l = outV d (l.any (hit d)) (l.any isNull) := by
  unfold foldV restV
  rw [if_pos (List.all_eq_true.2 fun x hx => (h x hx).1), if_pos (List.all_eq_true.2 fun x hx => (h x hx).2)]
  rfl
def neg (c : S23) : S23 := if c.f0 = 0 then ⟨0, 0, nil⟩ else ⟨1, 1 - c.f1, nil⟩
theorem neg_tr {c : S23} (h : Tr c) : Tr (neg c) := by
  unfold neg
  rcases kind_or h.2 with h0 | h1
  · rw [if_pos h0]; exact ⟨rfl, rfl⟩
  · rw [if_neg (by omega)]
    rcases (ok_bool h.1 h1).1 with f | f <;> rw [f] <;> exact ⟨rfl, rfl⟩
theorem neg_okv {c : S23} (h : Tr c) : OkV (neg c) := by
  unfold neg
  rcases kind_or h.2 with h0 | h1
  · rw [if_pos h0]; exact ⟨show (Lit.int .i64 0).wf = true by decide +kernel, show (Lit.int .i64 0).wf = true by decide +kernel, show (0 : Nat) ≤ _ by omega⟩
  · rw [if_neg (by omega)]
    rcases (ok_bool h.1 h1).1 with f | f <;> rw [f]
    · exact ⟨show (Lit.int .i64 1).wf = true by decide +kernel, show (Lit.int .i64 (1 - 0)).wf = true by decide +kernel, show (0 : Nat) ≤ _ by omega⟩
    · exact ⟨show (Lit.int .i64 1).wf = true by decide +kernel, show (Lit.int .i64 (1 - 1)).wf = true by decide +kernel, show (0 : Nat) ≤ _ by omega⟩
theorem neg_hit {c : S23} (h : Tr c) : hit 1 (neg c) = hit 0 c := by
  unfold neg hit
  rcases kind_or h.2 with h0 | h1
  · rw [if_pos h0]; simp [h0]
  · rw [if_neg (by omega)]
    rcases (ok_bool h.1 h1).1 with f | f <;> simp [h1, f]
theorem neg_null {c : S23} (h : Tr c) : isNull (neg c) = isNull c := by
  unfold neg isNull
  rcases kind_or h.2 with h0 | h1
  · rw [if_pos h0]; simp [h0]
  · rw [if_neg (by omega)]; simp [h1]
theorem any_map {l : List S23} {p q : S23 → Bool} (h : ∀ x ∈ l, p (neg x) = q x) : (l.map neg).any p = l.any q := by
  induction l with
  | nil => rfl
  | cons c l ih => rw [List.map_cons, List.any_cons, List.any_cons, h c List.mem_cons_self, ih fun x hx => h x (List.mem_cons_of_mem _ hx)]
theorem any_turned (l : List S23) (m : Nat) (p : S23 → Bool) : (l.drop m ++ l.take m).any p = l.any p := by
  rw [List.any_append, Bool.or_comm, ← List.any_append, List.take_append_drop]
theorem okv_out (d : Int) (hd : d = 0 ∨ d = 1) (a b : Bool) : OkV (valN (outV d a b)) := by
  rcases hd with rfl | rfl <;> cases a <;> cases b <;> exact ⟨by decide +kernel, by decide +kernel, show (0 : Nat) ≤ _ by omega⟩
theorem back (a b : Bool) : notV (valN (outV 1 a b)) = outV 0 a b := by cases a <;> cases b <;> rfl
theorem out_ok (d : Int) (a b : Bool) : (outV d a b).2.2.2 = 0 := by cases a <;> cases b <;> rfl
theorem turned_mem {l : List S23} {m : Nat} {P : S23 → Prop} (h : ∀ x ∈ l, P x) : ∀ x ∈ l.drop m ++ l.take m, P x := by
  intro x hx
  rcases List.mem_append.1 hx with h' | h'
  · exact h x (List.mem_of_mem_drop h')
  · exact h x (List.mem_of_mem_take h')
theorem morgan_loop {l : List S23} {m : Nat} (hl : l.length ≤ 1000) (wf : ∀ x ∈ l, OkV x) : ∀ (r : List S23) (i : Nat), l.drop i = r → i ≤ l.length → (∀ x ∈ l.take i, Tr x) →
    Ev (fun k => boscagelaw02_LogicMorgan.l0 k l true (l.drop m ++ l.take m) ((l.take i).map neg) l (l.length : Int) (i : Int)) true := by
  intro r
  induction r with
  | nil =>
    intro i h hi ht
    have hge := List.drop_eq_nil_iff.1 h
    rw [List.take_of_length_le hge] at ht
    rw [List.take_of_length_le hge]
    have htl : (l.drop m ++ l.take m).length ≤ 4398046511105 := by simp; omega
    have htn : (l.map neg).length ≤ 4398046511105 := by simp; omega
    have wn : ∀ x ∈ l.map neg, OkV x := by
      intro x hx
      obtain ⟨y, hy, rfl⟩ := List.mem_map.1 hx
      exact neg_okv (ht y hy)
    have tn : ∀ x ∈ l.map neg, Tr x := by
      intro x hx
      obtain ⟨y, hy, rfl⟩ := List.mem_map.1 hx
      exact neg_tr (ht y hy)
    refine Ev.at1 ?_
    simp only [boscagelaw02_LogicMorgan.l0]
    refine Ev.neg (by omega) ?_
    refine Ev.bind (and_ev (by omega) wf) ?_
    refine Ev.bind (or_ev htn wn) ?_
    rw [fold_all 0 ht, fold_all 1 tn, any_map (fun x hx => neg_hit (ht x hx)), any_map (fun x hx => neg_null (ht x hx))]
    refine Ev.bind (not_ev _ (okv_out 1 (.inr rfl) _ _)) ?_
    rw [back]
    refine Ev.bind (and_ev htl (turned_mem wf)) ?_
    refine Ev.bind (or_ev htl (turned_mem wf)) ?_
    refine Ev.bind (or_ev (by omega) wf) ?_
    rw [fold_all 0 (turned_mem ht), fold_all 1 (turned_mem ht), fold_all 1 ht, any_turned, any_turned, any_turned]
    simp only [out_ok]
    exact Ev.same (by simp)
  | cons c r ih =>
    intro i h hi ht
    have hlt := drop_lt h
    have hw := wrap_next h (by omega)
    have hc := wf c (mem_drop h)
    refine Ev.at1 ?_
    simp only [boscagelaw02_LogicMorgan.l0]
    refine Ev.pos (by omega) (Ev.pos (by omega) (Ev.pos (by omega) ?_))
    rw [rd_drop h, hw]
    refine Ev.bind (not_ev c hc) ?_
    unfold notV
    by_cases hk : ok c = true ∧ kind c = true
    · rw [if_pos hk.1, if_pos hk.2]
      have hs : (l.take (i + 1)).map neg = (l.take i).map neg ++ [neg c] := by rw [take_next h, List.map_append]; rfl
      have go : Ev (fun k => boscagelaw02_LogicMorgan.l0 k l true (l.drop m ++ l.take m) ((l.take i).map neg ++ [neg c]) l (l.length : Int) ((i + 1 : Nat) : Int)) true := by
        rw [← hs]
        refine ih (i + 1) (drop_next h) (by omega) ?_
        intro x hx
        rw [take_next h] at hx
        rcases List.mem_append.1 hx with h' | h'
        · exact ht x h'
        · rw [List.mem_singleton.1 h']; exact hk
      have hlm : ((l.take i).map neg).length < 4398046511104 := by simp; omega
      unfold neg at go ⊢
      by_cases h0 : c.f0 = 0
      · rw [if_pos h0]
        rw [if_pos h0] at go
        exact Ev.pos rfl (Ev.pos (by simpa [neg] using hlm) go)
      · rw [if_neg h0]
        rw [if_neg h0] at go
        exact Ev.pos rfl (Ev.pos (by simpa [neg] using hlm) go)
    · refine Ev.neg ?_ (Ev.now _)
      by_cases h1 : ok c = true
      · rw [if_pos h1, if_neg fun h2 => hk ⟨h1, h2⟩]; decide
      · rw [if_neg h1]; decide
theorem logicMorgan_pure (l : List S23) (a : Int) (wf : ∀ x ∈ l, OkV x) (wa : (Lit.int .i64 a).wf = true) : ∃ k, boscagelaw02_LogicMorgan.f k l a = some true := by
  refine Ev.rounds ?_
  have go : ∀ c : Bool, (c = false → l.length ≤ 1000 ∧ l.length ≠ 0) → Ev (fun k => boscagelaw02_LogicMorgan.j0 k l a true c) true := by
    intro c hc
    refine Ev.at1 ?_
    simp only [boscagelaw02_LogicMorgan.j0]
    cases c
    · obtain ⟨hl, h0⟩ := hc rfl
      refine Ev.neg (by decide) ?_
      have hp : (0 : Int) < l.length := by omega
      have b1 := Int.lt_tmod_of_pos a hp
      have b2 := Int.tmod_lt_of_pos a hp
      have e1 : wrap64 (Int.tmod a (l.length : Int) + (l.length : Int)) = Int.tmod a (l.length : Int) + (l.length : Int) := wrap_id (by omega) (by omega)
      rw [e1]
      have c1 : 0 ≤ Int.tmod (Int.tmod a (l.length : Int) + (l.length : Int)) (l.length : Int) := Int.tmod_nonneg _ (by omega)
      have c2 := Int.tmod_lt_of_pos (Int.tmod a (l.length : Int) + (l.length : Int)) hp
      generalize Int.tmod (Int.tmod a (l.length : Int) + (l.length : Int)) (l.length : Int) = m at c1 c2 ⊢
      refine Ev.neg (by omega) (Ev.pos c1 (Ev.pos (by omega) (Ev.given (Ev.pos (by simp; omega) (Ev.given (Ev.given (Ev.pos (by simp; omega) ?_)))))))
      rw [List.nil_append]
      exact morgan_loop (m := m.toNat) hl wf l 0 rfl (by omega) (by simp)
    · exact Ev.pos rfl (Ev.now _)
  obtain ⟨g, hg, hl⟩ := big_ev l wf
  unfold boscagelaw02_LogicMorgan.f
  refine Ev.bind (a := true) (Ev.now _) ?_
  refine Ev.bind hg ?_
  cases g
  · refine Ev.neg (by decide) (go _ fun h => ⟨hl rfl, ?_⟩)
    intro h0
    rw [h0] at h
    cases h
  · exact Ev.pos rfl (go true (by simp))
end Go.Proofs.Ytfibdjgfdgbniaa.Lg
