import Derived.Test.YtfibdjgfdgbniaaLgIn
import Derived.Test.YtfibdjgfdgbniaaLgB
import Derived.Test.YtfibdjgfdgbniaaLgBig
import Derived.Test.YtfibdjgfdgbniaaQLGx11
set_option linter.unusedVariables false
set_option linter.unusedSimpArgs false
namespace Go.Proofs.Ytfibdjgfdgbniaa.Lg
open Go.RowKit Go.Proofs.YtfibdjgfdgbniaaW.PrintWords Go.Proofs.Ytfibdjgfdgbniaa.Pu Go.Proofs.Ytfibdjgfdgbniaa.QLG Go.Proofs.Ytfibdjgfdgbniaa.Rw

theorem compare_self (l : List UInt8) : Lib.compareBytes l l = 0 := by rw [bytes_cmp, less_irrefl]; simp
theorem cmp_self (v : S23) : cmpV v v = 0 := by unfold cmpV; simp [compare_self]
/-- one of v's Kind or NULL, and fit -/
def Fit (v w : S23) : Prop := ok w = true ∧ (w.f0 = v.f0 ∨ w.f0 = 0)
theorem rel_fit {v w : S23} (hv : ok v = true) (h : Fit v w) : (relV [61] v w).2.2.2 = 0 ∧ ok (val (relV [61] v w)) = true ∧ kind (val (relV [61] v w)) = true := by
  unfold relV
  rw [hv, h.1]
  simp only [isOp, Bool.and_self, if_true]
  unfold finV
  by_cases hz : v.f0 = 0 ∨ w.f0 = 0
  · rw [if_pos hz]; exact ⟨rfl, rfl, rfl⟩
  · have he : v.f0 = w.f0 := by rcases h.2 with e | e <;> omega
    rw [if_neg hz, if_pos he]
    cases (cmpV v w == 0) <;> exact ⟨rfl, rfl, rfl⟩
theorem rel_self {v : S23} (hv : ok v = true) (h0 : v.f0 ≠ 0) : relV [61] v v = tr true := by
  unfold relV
  rw [hv]
  simp only [isOp, Bool.and_self, if_true, cmp_self]
  unfold finV
  rw [if_neg (by omega), if_pos rfl]
  rfl
theorem go_fit {v : S23} (hv : ok v = true) (h0 : v.f0 ≠ 0) : ∀ (r acc : List S23), (∀ w ∈ r, Fit v w) → (∀ x ∈ acc, ok x = true ∧ kind x = true) → goV v acc (r ++ [v]) = tr true := by
  intro r
  induction r with
  | nil =>
    intro acc hr ha
    rw [List.nil_append, goV, rel_self hv h0, if_pos (show (tr true).2.2.2 = 0 from rfl), goV, foldV]
    have h1 : (acc ++ [val (tr true)]).all ok = true := by
      rw [List.all_append, Bool.and_eq_true]
      exact ⟨List.all_eq_true.2 fun x hx => (ha x hx).1, rfl⟩
    have h2 : (acc ++ [val (tr true)]).all kind = true := by
      rw [List.all_append, Bool.and_eq_true]
      exact ⟨List.all_eq_true.2 fun x hx => (ha x hx).2, rfl⟩
    have h3 : (acc ++ [val (tr true)]).any (hit 1) = true := by
      rw [List.any_append, Bool.or_eq_true]
      exact .inr rfl
    rw [if_pos h1, restV, if_pos h2, h3]
    rfl
  | cons c r ih =>
    intro acc hr ha
    obtain ⟨e1, e2, e3⟩ := rel_fit hv (hr c List.mem_cons_self)
    rw [List.cons_append, goV, if_pos e1]
    refine ih _ (fun w hw => hr w (List.mem_cons_of_mem _ hw)) ?_
    intro x hx
    rcases List.mem_append.1 hx with h | h
    · exact ha x h
    · rw [List.mem_singleton.1 h]; exact ⟨e2, e3⟩
theorem in_none (v : S23) (hv : ok v = true) : inV v [] = tr false := by
  unfold inV
  rw [hv]
  rfl
theorem in_same {v : S23} (hv : ok v = true) (h0 : v.f0 ≠ 0) {acc : List S23} (h : ∀ w ∈ acc, Fit v w) : inV v (acc ++ [v]) = tr true := by
  unfold inV
  rw [if_pos, go_fit hv h0 acc [] h (by simp)]
  rw [hv, Bool.true_and, List.all_append, Bool.and_eq_true]
  exact ⟨List.all_eq_true.2 fun x hx => (h x hx).1, by simp [hv]⟩
theorem loop {l : List S23} {v : S23} (hl : l.length ≤ 1000) (wf : ∀ x ∈ l, OkV x) (wv : OkV v) (hv : ok v = true) (h0 : v.f0 ≠ 0) : ∀ (r : List S23) (i : Nat) (acc : List S23), l.drop i = r → acc.length ≤ i → i ≤ l.length → (∀ x ∈ acc, OkV x) → (∀ w ∈ acc, Fit v w) →
    Ev (fun k => boscagelaw02_LogicIn.l0 k true acc l (l.length : Int) (i : Int) v.f0 v.f1 v.f2) true := by
  intro r
  induction r with
  | nil =>
    intro i acc h ha hi hacc hf
    have := List.drop_eq_nil_iff.1 h
    refine Ev.at1 ?_
    simp only [boscagelaw02_LogicIn.l0]
    refine Ev.neg (by omega) (Ev.given (Ev.pos (by simp; omega) ?_))
    refine Ev.bind (in_ev (l := acc ++ [v]) (by simp; omega) (wf_snoc hacc wv) wv) ?_
    refine Ev.bind (in_ev (l := []) (by simp) (by simp) wv) ?_
    rw [in_same hv h0 hf, in_none v hv]
    refine Ev.same ?_
    decide +kernel
  | cons c r ih =>
    intro i acc h ha hi hacc hf
    have hlt := drop_lt h
    have hw := wrap_next h (by omega)
    have hc := wf c (mem_drop h)
    refine Ev.at1 ?_
    simp only [boscagelaw02_LogicIn.l0]
    refine Ev.pos (by omega) (Ev.pos (by omega) (Ev.pos (by omega) ?_))
    rw [rd_drop h, hw]
    refine Ev.bind (ref_Check_ev c) ?_
    have put : Fit v c → Ev (fun k => boscagelaw02_LogicIn.l0 k true (acc ++ [c]) l (l.length : Int) ((i + 1 : Nat) : Int) v.f0 v.f1 v.f2) true := fun f =>
      ih (i + 1) (acc ++ [c]) (drop_next h) (by simp; omega) (by omega) (wf_snoc hacc hc) (by
        intro x hx
        rcases List.mem_append.1 hx with h' | h'
        · exact hf x h'
        · rw [List.mem_singleton.1 h']; exact f)
    have skip : Ev (fun k => boscagelaw02_LogicIn.l0 k true acc l (l.length : Int) ((i + 1 : Nat) : Int) v.f0 v.f1 v.f2) true := ih (i + 1) acc (drop_next h) (by omega) (by omega) hacc hf
    by_cases hz : chk c = 0
    · refine Ev.pos hz ?_
      have hok := chk_zero hz
      by_cases e1 : c.f0 = v.f0
      · refine Ev.pos e1 (Ev.given (Ev.pos (by simp; omega) ?_))
        exact put ⟨hok, .inl e1⟩
      · refine Ev.neg e1 ?_
        by_cases e2 : c.f0 = 0
        · refine Ev.pos e2 (Ev.given (Ev.pos (by simp; omega) ?_))
          exact put ⟨hok, .inr e2⟩
        · exact Ev.neg e2 skip
    · exact Ev.neg hz skip
theorem logicIn_pure (v : S23) (l : List S23) (wv : OkV v) (wf : ∀ x ∈ l, OkV x) : ∃ k, boscagelaw02_LogicIn.f k v.f0 v.f1 v.f2 l = some true := by
  refine Ev.rounds ?_
  have go : ∀ c : Bool, (c = false → l.length ≤ 1000 ∧ ok v = true ∧ v.f0 ≠ 0) → Ev (fun k => boscagelaw02_LogicIn.j0 k l true c v.f0 v.f1 v.f2) true := by
    intro c hc
    refine Ev.at1 ?_
    simp only [boscagelaw02_LogicIn.j0]
    cases c
    · obtain ⟨hl, hv, h0⟩ := hc rfl
      refine Ev.neg (by decide) ?_
      exact loop hl wf wv hv h0 l 0 [] rfl (by simp) (by omega) (by simp) (by simp)
    · exact Ev.pos rfl (Ev.now _)
  obtain ⟨g, hg, hl⟩ := big_ev l wf
  unfold boscagelaw02_LogicIn.f
  refine Ev.bind (a := true) (Ev.now _) ?_
  refine Ev.bind hg ?_
  cases g
  · refine Ev.neg (by decide) ?_
    refine Ev.bind (ref_Check_ev v) ?_
    by_cases hz : chk v = 0
    · refine Ev.pos hz ?_
      by_cases h0 : v.f0 = 0
      · exact Ev.pos h0 (go true (by simp))
      · exact Ev.neg h0 (go _ fun _ => ⟨hl rfl, chk_zero hz, h0⟩)
    · exact Ev.neg hz (go true (by simp))
  · exact Ev.pos rfl (go true (by simp))
end Go.Proofs.Ytfibdjgfdgbniaa.Lg
