/- Layer 2 in plain words: the document's compare, Rel, Is, Or. -/
import Derived.Test.YtfibdjgfdgbniaaLgB
import Derived.Test.YtfibdjgfdgbniaaQLGx8
import Derived.Test.YtfibdjgfdgbniaaQLGx9
set_option linter.unusedVariables false
set_option linter.unusedSimpArgs false
namespace Go.Proofs.Ytfibdjgfdgbniaa.Lg
open Go.RowKit Go.Proofs.YtfibdjgfdgbniaaW.PrintWords Go.Proofs.Ytfibdjgfdgbniaa.Pu Go.Proofs.Ytfibdjgfdgbniaa.QLG Go.Proofs.Ytfibdjgfdgbniaa.Rw
theorem ref_Compare_ev (a b : S23) : Ev (fun k => boscageref01_Compare.f k a.f0 a.f1 a.f2 b.f0 b.f1 b.f2) (cmpV a b) := Ev.after 1 fun k => by
  unfold cmpV
  rw [bytes_cmp]
  have hc : a.f0 < b.f0 ∨ a.f0 = b.f0 ∨ b.f0 < a.f0 := by omega
  rcases hc with hc | hc | hc
  · simp [boscageref01_Compare.f, boscageref01_Compare.j0, hc]
  · have hd : a.f1 < b.f1 ∨ a.f1 = b.f1 ∨ b.f1 < a.f1 := by omega
    rcases hd with hd | hd | hd
    · simp [boscageref01_Compare.f, boscageref01_Compare.j0, hc, hd]
    · by_cases h1 : Op.bytesLess (bs a.f2) (bs b.f2) = true <;> by_cases h2 : bs a.f2 = bs b.f2 <;> simp_all [boscageref01_Compare.f, boscageref01_Compare.j0, boscageref01_Same.f, bs_toList, less_irrefl]
    · have : ¬ a.f1 < b.f1 := by omega
      have : ¬ a.f1 = b.f1 := by omega
      simp [boscageref01_Compare.f, boscageref01_Compare.j0, boscageref01_Same.f, hc, hd, *]
  · have : ¬ a.f0 < b.f0 := by omega
    have : ¬ a.f0 = b.f0 := by omega
    simp [boscageref01_Compare.f, boscageref01_Compare.j0, boscageref01_Same.f, hc, *]
theorem ref_j0 (is : Bool) (a b : S23) (k : Nat) : boscageref02_Rel.j0 (k + 2) is a.f0 a.f1 a.f2 b.f0 b.f1 b.f2 = some (finV is a b) := by
  by_cases h0 : a.f0 = 0 <;> by_cases h1 : b.f0 = 0 <;> by_cases h2 : a.f0 = b.f0 <;> cases is <;> simp_all [boscageref02_Rel.j0, boscageref02_Rel.j1, boscageref01_Bool1.f, finV, er, tr, nil]
theorem ref_rel_ev (op : ByteArray) (a b : S23) : Ev (fun k => boscageref02_Rel.f k op a.f0 a.f1 a.f2 b.f0 b.f1 b.f2) (relV (bs op) a b) := by
  unfold boscageref02_Rel.f relV
  refine Ev.bind (may_ev (l := [a, b]) (by simp)) ?_
  rw [all2]
  by_cases hk : (ok a && ok b) = true
  · rw [if_pos hk]
    refine Ev.pos hk ?_
    refine Ev.bind (ref_Compare_ev a b) ?_
    generalize cmpV a b = n
    refine Ev.after 2 fun k => ?_
    rw [bs_toList]
    generalize hop : bs op = o
    by_cases o1 : o = [61]
    · simp [o1, isOp, ref_j0]
    by_cases o2 : o = [60, 62]
    · simp [o2, isOp, ref_j0]
    by_cases o3 : o = [60]
    · simp [o3, isOp, ref_j0]
    by_cases o4 : o = [60, 61]
    · simp [o4, isOp, ref_j0]
    by_cases o5 : o = [62]
    · simp [o5, isOp, ref_j0]
    by_cases o6 : o = [62, 61]
    · simp [o6, isOp, ref_j0]
    simp [o1, o2, o3, o4, o5, o6, isOp, er, nil]
  · rw [if_neg hk]
    exact Ev.neg hk (Ev.now _)
theorem ref_is_ev (a b : S23) : Ev (fun k => boscageref02_Is.f k a.f0 a.f1 a.f2 b.f0 b.f1 b.f2) (isV a b) := by
  unfold boscageref02_Is.f isV
  refine Ev.bind (may_ev (l := [a, b]) (by simp)) ?_
  rw [all2]
  by_cases hk : (ok a && ok b) = true
  · rw [if_pos hk]
    refine Ev.pos hk ?_
    refine Ev.after 1 fun k => ?_
    by_cases h0 : a.f0 = 0 <;> by_cases h1 : b.f0 = 0 <;> by_cases h2 : a.f0 = b.f0 <;> by_cases h3 : a.f1 = b.f1 <;> by_cases h4 : bs a.f2 = bs b.f2 <;>
      simp_all [boscageref02_Is.j0, boscageref01_Same.f, boscageref01_Bool1.f, sameV, er, tr, nil, bs_toList]
  · rw [if_neg hk]
    exact Ev.neg hk (Ev.now _)

def trV (null no yes : Bool) (l : List S23) : Bool × Bool × Bool × Int := if l.all kind = true then (null || l.any isNull, no || l.any (hit 0), yes || l.any (hit 1), 0) else (false, false, false, 20)
theorem truths_loop {l : List S23} (hl : l.length ≤ 4398046511105) (hk : ∀ x ∈ l, ok x = true) : ∀ (r : List S23) (i : Nat) (null no yes : Bool), l.drop i = r →
    Ev (fun k => boscageref02_truths.l0 k null no yes l (l.length : Int) (i : Int)) (trV null no yes r) := by
  intro r
  induction r with
  | nil =>
    intro i null no yes h
    have := List.drop_eq_nil_iff.1 h
    refine Ev.at1 ?_
    simp only [boscageref02_truths.l0]
    exact Ev.neg (by omega) (Ev.done (by simp [trV]))
  | cons c r ih =>
    intro i null no yes h
    have hlt := drop_lt h
    have hw := wrap_next h hl
    have hc := hk c (mem_drop h)
    refine Ev.at1 ?_
    simp only [boscageref02_truths.l0]
    refine Ev.pos (by omega) (Ev.pos (by omega) (Ev.pos (by omega) ?_))
    rw [rd_drop h, hw]
    by_cases c0 : c.f0 = 0
    · refine Ev.pos c0 ?_
      refine Ev.eq (ih (i + 1) true no yes (drop_next h)) ?_
      simp [trV, kind, hit, isNull, c0]
    · refine Ev.neg c0 ?_
      by_cases c1 : c.f0 = 1
      · refine Ev.pos c1 ?_
        rcases (ok_bool hc c1).1 with f | f
        · refine Ev.pos f ?_
          refine Ev.eq (ih (i + 1) null true yes (drop_next h)) ?_
          simp [trV, kind, hit, isNull, c1, f]
        · refine Ev.neg (by omega) ?_
          refine Ev.eq (ih (i + 1) null no true (drop_next h)) ?_
          simp [trV, kind, hit, isNull, c1, f]
      · refine Ev.neg c1 (Ev.done ?_)
        simp [trV, kind, c0, c1]
theorem truths_ev {l : List S23} (hl : l.length ≤ 4398046511105) : Ev (fun k => boscageref02_truths.f k l) (if l.all ok = true then trV false false false l else (false, false, false, 1)) := by
  unfold boscageref02_truths.f
  refine Ev.bind (may_ev hl) ?_
  by_cases hk : l.all ok = true
  · rw [if_pos hk]
    refine Ev.pos hk ?_
    exact truths_loop hl (fun x hx => List.all_eq_true.1 hk x hx) l 0 false false false rfl
  · rw [if_neg hk]
    exact Ev.neg hk (Ev.now _)
theorem ref_or_ev {l : List S23} (hl : l.length ≤ 4398046511105) : Ev (fun k => boscageref02_Or.f k l) (foldV 1 l) := by
  unfold boscageref02_Or.f foldV
  refine Ev.bind (truths_ev hl) ?_
  by_cases hk : l.all ok = true
  · rw [if_pos hk, if_pos hk]
    unfold trV restV
    by_cases hd : l.all kind = true
    · rw [if_pos hd, if_pos hd]
      simp only [Bool.false_or]
      refine Ev.same ?_
      cases l.any isNull <;> cases l.any (hit 1) <;> simp [boscageref01_Bool1.f, outV, er, tr, nil]
    · rw [if_neg hd, if_neg hd]
      exact Ev.same (by simp [er, nil])
  · rw [if_neg hk, if_neg hk]
    exact Ev.same (by simp [er, nil])
end Go.Proofs.Ytfibdjgfdgbniaa.Lg
