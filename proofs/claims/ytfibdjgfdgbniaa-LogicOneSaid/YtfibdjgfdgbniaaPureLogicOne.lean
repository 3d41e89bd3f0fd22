import Derived.Test.YtfibdjgfdgbniaaLgBO
import Derived.Test.YtfibdjgfdgbniaaLgNotO
import Derived.Test.YtfibdjgfdgbniaaQLOx8
set_option linter.unusedVariables false
set_option linter.unusedSimpArgs false
namespace Go.Proofs.Ytfibdjgfdgbniaa.Lg
open Go.RowKit Go.Proofs.YtfibdjgfdgbniaaW.PrintWords Go.Proofs.Ytfibdjgfdgbniaa.Pu Go.Proofs.Ytfibdjgfdgbniaa.QLO Go.Proofs.Ytfibdjgfdgbniaa.Rw

theorem okv_er (n : Int) : OkV (valN (er n)) := ⟨show (Lit.int .i64 0).wf = true by decide +kernel, show (Lit.int .i64 0).wf = true by decide +kernel, by show (0 : Nat) ≤ _; omega⟩
theorem okv_tr (b : Bool) : OkV (valN (tr b)) := by
  cases b
  · exact ⟨by decide +kernel, by decide +kernel, by show (0 : Nat) ≤ _; omega⟩
  · exact ⟨by decide +kernel, by decide +kernel, by show (0 : Nat) ≤ _; omega⟩
theorem okv_fin (is : Bool) (a b : S23) : OkV (valN (finV is a b)) := by
  unfold finV; split
  · exact okv_er _
  · split
    · exact okv_tr _
    · exact okv_er _
/-- of one Kind, no NULL -/
def like (a b : S23) : Bool := decide (a.f0 = b.f0) && decide (a.f0 ≠ 0)
theorem fin_holds (is : Bool) (a b : S23) : logic_Holds.f (finV is a b).1 (finV is a b).2.1 (finV is a b).2.2.1 = some (like a b && is) := by
  unfold finV like
  by_cases h0 : a.f0 = 0
  · rw [if_pos (.inl h0)]; simp [logic_Holds.f, logic_truth.f, er, h0]
  · by_cases h1 : b.f0 = 0
    · rw [if_pos (.inr h1)]
      have : ¬ a.f0 = b.f0 := by omega
      simp [logic_Holds.f, logic_truth.f, er, this]
    · rw [if_neg (by omega)]
      by_cases h2 : a.f0 = b.f0
      · rw [if_pos h2]; cases is <;> simp [logic_Holds.f, logic_truth.f, tr, nil, h2, h1]
      · rw [if_neg h2]; simp [logic_Holds.f, logic_truth.f, er, h2]
theorem rel_is {a b : S23} (ha : ok a = true) (hb : ok b = true) {op : List UInt8} {is : Bool} (h : isOp op (cmpV a b) = some is) : relV op a b = finV is a b := by
  unfold relV
  rw [ha, hb, h]
  simp
theorem fin_not (i : Bool) (a b : S23) : (finV (!i) a b).1 = (notV (valN (finV i a b))).1 ∧ (finV (!i) a b).2.1 = (notV (valN (finV i a b))).2.1 ∧ (finV (!i) a b).2.2.1 = (notV (valN (finV i a b))).2.2.1 ∧ (finV (!i) a b).2.2.2 = (finV i a b).2.2.2 := by
  unfold finV
  by_cases h : a.f0 = 0 ∨ b.f0 = 0
  · rw [if_pos h, if_pos h]; exact ⟨rfl, rfl, rfl, rfl⟩
  · rw [if_neg h, if_neg h]
    by_cases h2 : a.f0 = b.f0
    · rw [if_pos h2, if_pos h2]; cases i <;> exact ⟨rfl, rfl, rfl, rfl⟩
    · rw [if_neg h2, if_neg h2]; exact ⟨rfl, rfl, rfl, rfl⟩
abbrev ops : List ByteArray := [(⟨#[60]⟩ : ByteArray), (⟨#[61]⟩ : ByteArray), (⟨#[62]⟩ : ByteArray)]
abbrev prs : List S41 := [(⟨(⟨#[60, 61]⟩ : ByteArray), (⟨#[62]⟩ : ByteArray)⟩ : S41), (⟨(⟨#[62, 61]⟩ : ByteArray), (⟨#[60]⟩ : ByteArray)⟩ : S41), (⟨(⟨#[60, 62]⟩ : ByteArray), (⟨#[61]⟩ : ByteArray)⟩ : S41)]
section
variable {a b : S23} (wa : OkV a) (wb : OkV b) (ha : ok a = true) (hb : ok b = true)
include wa wb ha hb
theorem step0 {i j c : Int} {o : ByteArray} {is : Bool} (h0 : 0 ≤ i) (h1 : i < 3) (hj : wrap64 (i + 1) = j) (ho : rdOf ByteArray.empty ops i = o) (hop : isOp (bs o) (cmpV a b) = some is)
    (next : Ev (fun k => boscagelaw02_LogicOne.l0 k true (if (like a b && is) = true then wrap64 (c + 1) else c) ops 3 j a.f0 a.f1 a.f2 b.f0 b.f1 b.f2) true) :
    Ev (fun k => boscagelaw02_LogicOne.l0 k true c ops 3 i a.f0 a.f1 a.f2 b.f0 b.f1 b.f2) true := by
  have tail : Ev (fun k => boscagelaw02_LogicOne.j2 k true c ops 3 i false a.f0 a.f1 a.f2 b.f0 b.f1 b.f2 (finV is a b).1 (finV is a b).2.1 (finV is a b).2.2.1) true := by
    refine Ev.at1 ?_
    simp only [boscagelaw02_LogicOne.j2]
    refine Ev.neg (by decide) ?_
    rw [fin_holds, hj]
    refine Ev.given ?_
    cases hh : (like a b && is)
    · rw [hh] at next
      exact Ev.neg (by decide) next
    · rw [hh] at next
      exact Ev.pos rfl next
  refine Ev.at1 ?_
  simp only [boscagelaw02_LogicOne.l0]
  refine Ev.pos h1 (Ev.pos h0 (Ev.pos (show i < 3 from h1) ?_))
  rw [ho]
  refine Ev.bind (rel_ev o a b wa wb) ?_
  rw [rel_is ha hb hop]
  by_cases h2 : a.f0 = b.f0
  · refine Ev.pos h2 ?_
    refine Ev.eq (Ev.congr (fun k => ?_) tail) rfl
    have : (finV is a b).2.2.2 = 0 := by
      unfold finV; split
      · rfl
      · cases is <;> rfl
    rw [this]; rfl
  · refine Ev.neg h2 ?_
    by_cases h3 : a.f0 = 0
    · refine Ev.pos h3 ?_
      refine Ev.eq (Ev.congr (fun k => ?_) tail) rfl
      have : (finV is a b).2.2.2 = 0 := by unfold finV; rw [if_pos (.inl h3)]; rfl
      rw [this]; rfl
    · refine Ev.neg h3 ?_
      refine Ev.eq (Ev.congr (fun k => ?_) tail) rfl
      by_cases h4 : b.f0 = 0
      · have : (finV is a b).2.2.2 = 0 := by unfold finV; rw [if_pos (.inr h4)]; rfl
        rw [this, h4]; rfl
      · have : (finV is a b).2.2.2 = 20 := by unfold finV; rw [if_neg (by omega), if_neg h2]; rfl
        have h5 : (b.f0 != 0) = true := by simp [h4]
        rw [this, h5]; rfl
theorem step1 {i j c : Int} {p : S41} {i1 i2 : Bool} (h0 : 0 ≤ i) (h1 : i < 3) (hj : wrap64 (i + 1) = j) (ho : rd_T41 prs i = p) (hop : isOp (bs p.f0) (cmpV a b) = some i1) (hop2 : isOp (bs p.f1) (cmpV a b) = some i2) (hn : i1 = !i2)
    (next : Ev (fun k => boscagelaw02_LogicOne.l1 k true c prs 3 j a.f0 a.f1 a.f2 b.f0 b.f1 b.f2) true) :
    Ev (fun k => boscagelaw02_LogicOne.l1 k true c prs 3 i a.f0 a.f1 a.f2 b.f0 b.f1 b.f2) true := by
  subst hn
  obtain ⟨e1, e2, e3, e4⟩ := fin_not i2 a b
  refine Ev.at1 ?_
  simp only [boscagelaw02_LogicOne.l1]
  refine Ev.pos h1 (Ev.pos h0 (Ev.pos (show i < 3 from h1) ?_))
  rw [ho, hj]
  refine Ev.bind (rel_ev p.f0 a b wa wb) ?_
  refine Ev.bind (rel_ev p.f1 a b wa wb) ?_
  rw [rel_is ha hb hop, rel_is ha hb hop2]
  refine Ev.bind (not_ev (valN (finV i2 a b)) (okv_fin _ _ _)) ?_
  rw [e1, e2, e3, e4]
  exact Ev.pos rfl (Ev.neg (by simp) next)
theorem pairs {c : Int} (c0 : a.f0 = 0 ∨ a.f0 ≠ b.f0 → c = 0) (c1 : a.f0 ≠ 0 → a.f0 = b.f0 → c = 1) : Ev (fun k => boscagelaw02_LogicOne.l1 k true c prs 3 0 a.f0 a.f1 a.f2 b.f0 b.f1 b.f2) true := by
  generalize hn : cmpV a b = n
  refine step1 wa wb ha hb (i := 0) (j := 1) (by decide) (by decide) (wrap_id (by decide) (by decide)) rfl (i1 := decide (n ≤ 0)) (i2 := decide (n > 0)) (by rw [hn]; rfl) (by rw [hn]; rfl) (by rw [← decide_not]; exact decide_eq_decide.2 (by omega)) ?_
  refine step1 wa wb ha hb (i := 1) (j := 2) (by decide) (by decide) (wrap_id (by decide) (by decide)) rfl (i1 := decide (n ≥ 0)) (i2 := decide (n < 0)) (by rw [hn]; rfl) (by rw [hn]; rfl) (by rw [← decide_not]; exact decide_eq_decide.2 (by omega)) ?_
  refine step1 wa wb ha hb (i := 2) (j := 3) (by decide) (by decide) (wrap_id (by decide) (by decide)) rfl (i1 := n != 0) (i2 := n == 0) (by rw [hn]; rfl) (by rw [hn]; rfl) rfl ?_
  refine Ev.at1 ?_
  simp only [boscagelaw02_LogicOne.l1]
  refine Ev.neg (by decide) ?_
  by_cases h0 : a.f0 = 0
  · refine Ev.pos h0 (Ev.pos (by trivial) (Ev.done ?_))
    rw [c0 (.inl h0)]; rfl
  · refine Ev.neg h0 ?_
    by_cases h2 : a.f0 = b.f0
    · refine Ev.pos h2 (Ev.pos (by trivial) (Ev.done ?_))
      rw [c1 h0 h2]; rfl
    · refine Ev.neg h2 (Ev.pos (by trivial) (Ev.done ?_))
      rw [c0 (.inr h2)]; rfl
theorem words : Ev (fun k => boscagelaw02_LogicOne.l0 k true 0 ops 3 0 a.f0 a.f1 a.f2 b.f0 b.f1 b.f2) true := by
  generalize hn : cmpV a b = n
  refine step0 wa wb ha hb (i := 0) (j := 1) (by decide) (by decide) (wrap_id (by decide) (by decide)) rfl (is := decide (n < 0)) (by rw [hn]; rfl) ?_
  refine step0 wa wb ha hb (i := 1) (j := 2) (by decide) (by decide) (wrap_id (by decide) (by decide)) rfl (is := n == 0) (by rw [hn]; rfl) ?_
  refine step0 wa wb ha hb (i := 2) (j := 3) (by decide) (by decide) (wrap_id (by decide) (by decide)) rfl (is := decide (n > 0)) (by rw [hn]; rfl) ?_
  refine Ev.at1 ?_
  simp only [boscagelaw02_LogicOne.l0]
  refine Ev.neg (by decide) (Ev.given ?_)
  have w1 : wrap64 (0 + 1) = 1 := wrap_id (by decide) (by decide)
  refine pairs wa wb ha hb ?_ ?_
  · intro h
    have : like a b = false := by
      unfold like
      rcases h with h | h <;> simp [h]
    rw [this]; simp
  · intro h0 h2
    have : like a b = true := by unfold like; simp [h2]; omega
    rw [this]
    have hc : n < 0 ∨ n = 0 ∨ n > 0 := by omega
    rcases hc with hc | hc | hc
    · have e1 : ¬ n = 0 := by omega
      have e2 : ¬ n > 0 := by omega
      simp only [hc, e1, e2, decide_true, decide_false, Bool.true_and, Bool.and_true, if_true, beq_iff_eq, Bool.false_eq_true, if_false]
      exact w1
    · subst hc
      simp only [Int.lt_irrefl, gt_iff_lt, decide_false, Bool.and_false, Bool.false_eq_true, if_false, beq_self_eq_true, Bool.and_self, if_true]
      exact w1
    · have e1 : ¬ n = 0 := by omega
      have e2 : ¬ n < 0 := by omega
      simp only [hc, e1, e2, decide_true, decide_false, Bool.true_and, Bool.and_true, if_true, beq_iff_eq, Bool.false_eq_true, if_false]
      exact w1
end
theorem logicOne_pure (a b : S23) (wa : OkV a) (wb : OkV b) : ∃ k, boscagelaw02_LogicOne.f k a.f0 a.f1 a.f2 b.f0 b.f1 b.f2 = some true := by
  refine Ev.rounds ?_
  have go : ∀ c : Bool, (c = false → ok a = true ∧ ok b = true) → Ev (fun k => boscagelaw02_LogicOne.j0 k true c a.f0 a.f1 a.f2 b.f0 b.f1 b.f2) true := by
    intro c hc
    refine Ev.at1 ?_
    simp only [boscagelaw02_LogicOne.j0]
    cases c
    · obtain ⟨ha, hb⟩ := hc rfl
      exact Ev.neg (by decide) (Ev.given (words wa wb ha hb))
    · exact Ev.pos rfl (Ev.now _)
  unfold boscagelaw02_LogicOne.f
  refine Ev.bind (a := true) (Ev.now _) ?_
  refine Ev.bind (ref_Check_ev a) ?_
  by_cases h1 : chk a = 0
  · refine Ev.pos h1 (Ev.bind (ref_Check_ev b) ?_)
    by_cases h2 : chk b = 0
    · refine Ev.pos h2 ?_
      by_cases h3 : (a.f2.size : Int) > 10000
      · exact Ev.pos h3 (go true (by simp))
      · exact Ev.neg h3 (go _ fun _ => ⟨chk_zero h1, chk_zero h2⟩)
    · exact Ev.neg h2 (go true (by simp))
  · exact Ev.neg h1 (go true (by simp))
end Go.Proofs.Ytfibdjgfdgbniaa.Lg
