/- Layer 2 in plain words: In, and how many values are played. -/
import Derived.Test.YtfibdjgfdgbniaaLgA
set_option linter.unusedVariables false
set_option linter.unusedSimpArgs false
namespace Go.Proofs.Ytfibdjgfdgbniaa.Lg
open Go.RowKit Go.Proofs.YtfibdjgfdgbniaaW.PrintWords Go.Proofs.Ytfibdjgfdgbniaa.Pu Go.Proofs.Ytfibdjgfdgbniaa.QLG Go.Proofs.Ytfibdjgfdgbniaa.Rw

def val (x : Ans) : S23 := ⟨x.1, x.2.1, x.2.2.1⟩
def goV (v : S23) (acc : List S23) : List S23 → Ans
  | [] => foldV 1 acc
  | w :: r => if (relV [61] v w).2.2.2 = 0 then goV v (acc ++ [val (relV [61] v w)]) r else er (relV [61] v w).2.2.2
def inV (v : S23) (l : List S23) : Ans := if (ok v && l.all ok) = true then goV v [] l else er 1
theorem okv_er (n : Int) : OkV (val (er n)) := ⟨show (Lit.int .i64 0).wf = true by decide +kernel, show (Lit.int .i64 0).wf = true by decide +kernel, by show (0 : Nat) ≤ _; omega⟩
theorem okv_tr (b : Bool) : OkV (val (tr b)) := by
  cases b
  · exact ⟨by decide +kernel, by decide +kernel, by show (0 : Nat) ≤ _; omega⟩
  · exact ⟨by decide +kernel, by decide +kernel, by show (0 : Nat) ≤ _; omega⟩
theorem okv_fin (is : Bool) (a b : S23) : OkV (val (finV is a b)) := by
  unfold finV; split
  · exact okv_er _
  · split
    · exact okv_tr _
    · exact okv_er _
theorem okv_rel (op : List UInt8) (a b : S23) : OkV (val (relV op a b)) := by
  unfold relV; split
  · split
    · exact okv_er _
    · exact okv_fin _ _ _
  · exact okv_er _
theorem wf_snoc {acc : List S23} {x : S23} (h : ∀ y ∈ acc, OkV y) (hx : OkV x) : ∀ y ∈ acc ++ [x], OkV y := by
  intro y hy
  rcases List.mem_append.1 hy with h' | h'
  · exact h y h'
  · rw [List.mem_singleton.1 h']; exact hx
theorem eq61 : bs (⟨#[61]⟩ : ByteArray) = [61] := rfl
theorem in_loop {l : List S23} {v : S23} (hl : l.length ≤ 4398046511103) (wf : ∀ x ∈ l, OkV x) (hv : OkV v) : ∀ (r : List S23) (i : Nat) (acc : List S23), l.drop i = r → acc.length = i → (∀ y ∈ acc, OkV y) → i ≤ l.length →
    Ev (fun k => logic_In.l0 k (acc ++ List.replicate r.length z23) l (l.length : Int) (i : Int) v.f0 v.f1 v.f2) (goV v acc r) := by
  intro r
  induction r with
  | nil =>
    intro i acc h ha hacc hi
    have := List.drop_eq_nil_iff.1 h
    refine Ev.at1 ?_
    simp only [logic_In.l0]
    refine Ev.neg (by omega) ?_
    rw [List.length_nil, List.replicate_zero, List.append_nil]
    exact Ev.bind (or_ev (by omega) hacc) (Ev.now _)
  | cons c r ih =>
    intro i acc h ha hacc hi
    have hlt := drop_lt h
    have hw := wrap_next h (by omega)
    have hdl := drop_len h hi
    refine Ev.at1 ?_
    simp only [logic_In.l0]
    refine Ev.pos (by omega) (Ev.pos (by omega) (Ev.pos (by omega) ?_))
    rw [rd_drop h, hw]
    refine Ev.bind (rel_ev _ v c hv (wf c (mem_drop h))) ?_
    rw [eq61]
    by_cases hz : (relV [61] v c).2.2.2 = 0
    · refine Ev.pos hz ?_
      rw [List.length_cons] at hdl
      refine Ev.pos (by rw [List.length_append, List.length_replicate, List.length_cons]; omega) ?_
      have hs : (acc ++ List.replicate (c :: r).length z23).set (i : Int).toNat ⟨(relV [61] v c).1, (relV [61] v c).2.1, (relV [61] v c).2.2.1⟩ = (acc ++ [val (relV [61] v c)]) ++ List.replicate r.length z23 := by
        rw [Int.toNat_natCast, List.set_append_right _ _ (by omega), ha, Nat.sub_self, List.length_cons, List.replicate_succ, List.set_cons_zero, List.append_assoc]
        rfl
      rw [hs]
      refine Ev.eq (ih (i + 1) (acc ++ [val (relV [61] v c)]) (drop_next h) (by simp [ha]) (wf_snoc hacc (okv_rel _ _ _)) (by omega)) ?_
      rw [goV, if_pos hz]
    · refine Ev.neg hz (Ev.done ?_)
      rw [goV, if_neg hz]
      rfl
theorem all_cons' (v : S23) (l : List S23) : ([v] ++ l).all ok = (ok v && l.all ok) := by simp
theorem in_ev {l : List S23} {v : S23} (hl : l.length < 4398046511103) (wf : ∀ x ∈ l, OkV x) (hv : OkV v) : Ev (fun k => logic_In.f k v.f0 v.f1 v.f2 l) (inV v l) := by
  unfold logic_In.f inV
  refine Ev.given ?_
  refine Ev.pos (by simp; omega) ?_
  refine Ev.bind (check_ev (l := [v] ++ l) (by simp; omega) (by
    intro x hx
    rcases List.mem_append.1 hx with h | h
    · rw [List.mem_singleton.1 h]; exact hv
    · exact wf x h)) ?_
  unfold chkL
  rw [all_cons']
  by_cases hk : (ok v && l.all ok) = true
  · rw [if_pos hk, if_pos hk]
    refine Ev.pos rfl (Ev.pos (by omega) (Ev.pos (by rw [Int.toNat_natCast]; omega) ?_))
    rw [Int.toNat_natCast]
    have := in_loop (v := v) (by omega) wf hv l 0 [] rfl rfl (by simp) (by omega)
    rw [List.nil_append] at this
    exact this
  · rw [if_neg hk, if_neg hk]
    exact Ev.neg (by decide) (Ev.now _)
end Go.Proofs.Ytfibdjgfdgbniaa.Lg
