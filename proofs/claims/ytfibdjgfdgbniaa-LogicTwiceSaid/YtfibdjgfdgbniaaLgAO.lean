/- Layer 2 in plain words: the program's and the document's check, compare, Rel, Is, Or come to the same. -/
import Derived.Test.YtfibdjgfdgbniaaPu
import Derived.Test.YtfibdjgfdgbniaaRwO
import Derived.Test.YtfibdjgfdgbniaaQLOx2
import Derived.Test.YtfibdjgfdgbniaaQLOx3
import Derived.Test.YtfibdjgfdgbniaaQLOx4
import Derived.Test.YtfibdjgfdgbniaaQLOx5
import Derived.Test.YtfibdjgfdgbniaaQLOx6
set_option linter.unusedVariables false
set_option linter.unusedSimpArgs false
namespace Go.Proofs.Ytfibdjgfdgbniaa.Lg
open Go.RowKit Go.Proofs.YtfibdjgfdgbniaaW.PrintWords Go.Proofs.Ytfibdjgfdgbniaa.Pu Go.Proofs.Ytfibdjgfdgbniaa.QLO Go.Proofs.Ytfibdjgfdgbniaa.Rw

def nil : ByteArray := ⟨#[]⟩
def ok (x : S23) : Bool :=
  if x.f0 = 0 then decide (x.f1 = 0) && decide (bs x.f2 = [])
  else if x.f0 = 1 then (decide (x.f1 = 0) || decide (x.f1 = 1)) && decide (bs x.f2 = [])
  else if x.f0 = 2 then decide (bs x.f2 = [])
  else if x.f0 = 3 ∨ x.f0 = 4 then decide (x.f1 = 0) else false
def chk (x : S23) : Int := if ok x = true then 0 else 1
theorem chk_zero {x : S23} (h : chk x = 0) : ok x = true := by
  unfold chk at h; split at h
  · assumption
  · cases h

theorem wf64 {x : Int} (h : (Lit.int .i64 x).wf = true) : -9223372036854775808 ≤ x ∧ x ≤ 9223372036854775807 := by
  simp [Lit.wf, IntKind.min, IntKind.max, IntKind.bits, IntKind.signed] at h
  exact h
theorem andNot1 {x : Int} (h : (Lit.int .i64 x).wf = true) : Go.bits .andNot .i64 x 1 = 0 ↔ x = 0 ∨ x = 1 := by
  obtain ⟨h0, h1⟩ := wf64 h
  constructor
  · intro hz
    have e : (BitVec.ofInt 64 x &&& ~~~(BitVec.ofInt 64 1)).toNat = 0 := by
      have hl := (BitVec.ofInt 64 x &&& ~~~(BitVec.ofInt 64 1)).isLt
      revert hz
      show IntKind.i64.wrap ((BitVec.ofInt 64 x &&& ~~~(BitVec.ofInt 64 1)).toNat : Int) = 0 → _
      generalize (BitVec.ofInt 64 x &&& ~~~(BitVec.ofInt 64 1)).toNat = n at hl ⊢
      intro hz
      simp [IntKind.wrap, IntKind.bits, IntKind.signed] at hz
      omega
    have e2 : (BitVec.ofInt 64 x &&& ~~~(BitVec.ofInt 64 1)) = 0#64 := BitVec.eq_of_toNat_eq (by rw [e]; rfl)
    have e3 : BitVec.ofInt 64 x = BitVec.ofInt 64 x &&& 1#64 := by
      apply BitVec.eq_of_getLsbD_eq
      intro i hi
      have := congrArg (fun b => b.getLsbD i) e2
      have o : BitVec.ofInt 64 1 = 1#64 := rfl
      rw [o] at this
      simp only [BitVec.getLsbD_and, BitVec.getLsbD_not, hi, decide_true, Bool.true_and, BitVec.getLsbD_zero] at this
      rw [BitVec.getLsbD_and]
      cases hb : (BitVec.ofInt 64 x).getLsbD i <;> cases hc : (1#64).getLsbD i <;> simp_all
    have e4 := congrArg BitVec.toNat e3
    rw [BitVec.toNat_and] at e4
    have e5 : (1#64).toNat = 1 := rfl
    rw [e5, Nat.and_one_is_mod, BitVec.toNat_ofInt] at e4
    omega
  · rintro (rfl | rfl) <;> decide +kernel

theorem value_Check_at (x : S23) (h : (Lit.int .i64 x.f1).wf = true) (k : Nat) : value_Check.f (k + 5) x.f0 x.f1 x.f2 = some (chk x) := by
  have hn := andNot1 h
  have z0 : Go.bits .andNot .i64 0 1 = 0 := by decide +kernel
  have z1 : Go.bits .andNot .i64 1 1 = 0 := by decide +kernel
  have hc : x.f0 < 0 ∨ x.f0 = 0 ∨ x.f0 = 1 ∨ x.f0 = 2 ∨ x.f0 = 3 ∨ x.f0 = 4 ∨ x.f0 > 4 := by omega
  rcases hc with hc | hc | hc | hc | hc | hc | hc
  · have a0 : x.f0 ≠ 0 := by omega
    have a1 : x.f0 ≠ 1 := by omega
    have a2 : x.f0 ≠ 2 := by omega
    have a3 : x.f0 ≠ 3 := by omega
    have a4 : x.f0 ≠ 4 := by omega
    simp [value_Check.f, value_Check.j0, value_Check.j1, chk, ok, hc, a0, a1, a2, a3, a4]
  · by_cases b0 : x.f1 = 0 <;> by_cases s : bs x.f2 = [] <;> simp [value_Check.f, value_Check.j0, value_Check.j1, value_Check.j2, value_Check.j3, value_Check.j4, chk, ok, bs_toList, hn, hc, b0, s]
  · by_cases b0 : x.f1 = 0 <;> by_cases b1 : x.f1 = 1 <;> by_cases s : bs x.f2 = [] <;> simp [value_Check.f, value_Check.j0, value_Check.j1, value_Check.j2, value_Check.j3, value_Check.j4, chk, ok, bs_toList, hn, z0, z1, hc, b0, b1, s]
  · by_cases s : bs x.f2 = [] <;> simp [value_Check.f, value_Check.j0, value_Check.j1, value_Check.j2, value_Check.j3, value_Check.j4, chk, ok, bs_toList, hn, hc, s]
  · by_cases b0 : x.f1 = 0 <;> simp [value_Check.f, value_Check.j0, value_Check.j1, value_Check.j2, value_Check.j3, value_Check.j4, chk, ok, bs_toList, hn, hc, b0]
  · by_cases b0 : x.f1 = 0 <;> simp [value_Check.f, value_Check.j0, value_Check.j1, value_Check.j2, value_Check.j3, value_Check.j4, chk, ok, bs_toList, hn, hc, b0]
  · have a0 : x.f0 ≠ 0 := by omega
    have a1 : x.f0 ≠ 1 := by omega
    have a2 : x.f0 ≠ 2 := by omega
    have a3 : x.f0 ≠ 3 := by omega
    have a4 : x.f0 ≠ 4 := by omega
    simp [value_Check.f, value_Check.j0, value_Check.j1, chk, ok, hc, a0, a1, a2, a3, a4]
theorem Ev.after {α : Type} {g : Nat → Option α} {r : α} (n : Nat) (h : ∀ k, g (k + n) = some r) : Ev g r := ⟨n, fun k hk => by
  have := h (k - n)
  rw [Nat.sub_add_cancel hk] at this
  exact this⟩
theorem value_Check_ev (x : S23) (h : OkV x) : Ev (fun k => value_Check.f k x.f0 x.f1 x.f2) (chk x) := Ev.after 5 (value_Check_at x h.2.1)

theorem rd_drop {l r : List S23} {i : Nat} {c : S23} (h : l.drop i = c :: r) : rd_T23 l (i : Int) = c := by
  have hl := drop_lt h
  rw [List.drop_eq_getElem_cons hl] at h
  injection h with h1 _
  unfold rd_T23
  rw [Int.toNat_natCast, List.getD_eq_getElem?_getD, List.getElem?_eq_getElem hl, Option.getD_some, h1]
theorem mem_drop {l r : List S23} {i : Nat} {c : S23} (h : l.drop i = c :: r) : c ∈ l := by
  have : c ∈ l.drop i := by rw [h]; exact List.mem_cons_self
  exact List.mem_of_mem_drop this
theorem wrap_next {l r : List S23} {i : Nat} {c : S23} (h : l.drop i = c :: r) (hl : l.length ≤ 4398046511105) : wrap64 ((i : Int) + 1) = ((i + 1 : Nat) : Int) := by
  have := drop_lt h
  rw [wrap_id (by omega) (by omega)]; rfl

theorem check_loop {l : List S23} (hl : l.length ≤ 4398046511105) (wf : ∀ x ∈ l, OkV x) : ∀ (r : List S23) (i : Nat), l.drop i = r → Ev (fun k => logic_check.l0 k l (l.length : Int) (i : Int)) (if r.all ok = true then 0 else 1) := by
  intro r
  induction r with
  | nil =>
    intro i h
    have := List.drop_eq_nil_iff.1 h
    refine Ev.at1 ?_
    simp only [logic_check.l0]
    exact Ev.neg (by omega) (Ev.now _)
  | cons c r ih =>
    intro i h
    have hlt := drop_lt h
    have hw := wrap_next h hl
    refine Ev.at1 ?_
    simp only [logic_check.l0]
    refine Ev.pos (by omega) (Ev.pos (by omega) (Ev.pos (by omega) ?_))
    rw [rd_drop h, hw]
    refine Ev.bind (value_Check_ev c (wf c (mem_drop h))) ?_
    by_cases hc : ok c = true
    · refine Ev.pos (by simp [chk, hc]) ?_
      refine Ev.eq (ih (i + 1) (drop_next h)) ?_
      simp [hc]
    · refine Ev.neg (by simp [chk, hc]) ?_
      exact Ev.done (by simp [chk, hc])
def chkL (l : List S23) : Int := if l.all ok = true then 0 else 1
theorem check_ev {l : List S23} (hl : l.length ≤ 4398046511105) (wf : ∀ x ∈ l, OkV x) : Ev (fun k => logic_check.f k l) (chkL l) := check_loop hl wf l 0 rfl

/-! compare -/
def cmpV (a b : S23) : Int := if a.f0 < b.f0 then -1 else if b.f0 < a.f0 then 1 else if a.f1 < b.f1 then -1 else if b.f1 < a.f1 then 1 else Lib.compareBytes (bs a.f2) (bs b.f2)
theorem cmp_Or_at (x y z : Int) (k : Nat) : cmp_Or_int.f (k + 4) [x, y, z] = some (if x = 0 then (if y = 0 then z else y) else x) := by
  have w0 : wrap64 1 = 1 := wrap_id (by decide) (by decide)
  have w1 : wrap64 2 = 2 := wrap_id (by decide) (by decide)
  have w2 : wrap64 3 = 3 := wrap_id (by decide) (by decide)
  by_cases hx : x = 0 <;> by_cases hy : y = 0 <;> by_cases hz : z = 0 <;> simp [cmp_Or_int.f, cmp_Or_int.l0, rd, w0, w1, w2, hx, hy, hz]
theorem cmp_int (a b : Int) : cmp_Compare_int.f a b = some (if a < b then -1 else if b < a then 1 else 0) := by
  simp only [cmp_Compare_int.f, cmp_isNaN_int.f, Option.bind_some, bne_self_eq_false, Bool.false_eq_true, if_false, gt_iff_lt]
  by_cases h : a < b <;> by_cases h' : b < a <;> simp [h, h']
theorem cmp_int64 (a b : Int) : cmp_Compare_int64.f a b = some (if a < b then -1 else if b < a then 1 else 0) := by
  simp only [cmp_Compare_int64.f, cmp_isNaN_int64.f, Option.bind_some, bne_self_eq_false, Bool.false_eq_true, if_false, gt_iff_lt]
  by_cases h : a < b <;> by_cases h' : b < a <;> simp [h, h']
theorem compare_ev (a b : S23) : Ev (fun k => value_Compare.f k a.f0 a.f1 a.f2 b.f0 b.f1 b.f2) (cmpV a b) := Ev.after 4 fun k => by
  simp only [value_Compare.f, cmp_int, cmp_int64, strings_Compare.f, Option.bind_some, cmp_Or_at]
  unfold cmpV bs
  by_cases h0 : a.f0 < b.f0 <;> by_cases h1 : b.f0 < a.f0 <;> by_cases h2 : a.f1 < b.f1 <;> by_cases h3 : b.f1 < a.f1 <;> simp [h0, h1, h2, h3]
theorem bytes_cmp : ∀ (x y : List UInt8), Lib.compareBytes x y = if Op.bytesLess x y = true then -1 else if x = y then 0 else 1
  | [], [] => rfl
  | [], _ :: _ => rfl
  | _ :: _, [] => by simp [Lib.compareBytes, Op.bytesLess]
  | a :: x, b :: y => by
    have ih := bytes_cmp x y
    rw [Lib.compareBytes, Op.bytesLess, ih]
    by_cases h1 : a < b
    · simp [h1]
    · by_cases h2 : a = b
      · subst h2
        simp [UInt8.lt_irrefl]
      · have h3 : b < a := UInt8.lt_of_le_of_ne (UInt8.not_lt.1 h1) (Ne.symm h2)
        simp [h1, h2, h3]
theorem less_irrefl : ∀ x : List UInt8, Op.bytesLess x x = false
  | [] => rfl
  | a :: x => by simp [Op.bytesLess, less_irrefl x, UInt8.lt_irrefl]

/-! Rel, Is -/
abbrev Ans := Int × Int × ByteArray × Int
def tr (b : Bool) : Ans := (1, if b = true then 1 else 0, nil, 0)
def er (n : Int) : Ans := (0, 0, nil, n)
def isOp (op : List UInt8) (n : Int) : Option Bool :=
  if op = [61] then some (n == 0) else if op = [60, 62] then some (n != 0) else if op = [60] then some (decide (n < 0)) else if op = [60, 61] then some (decide (n ≤ 0)) else if op = [62] then some (decide (n > 0)) else if op = [62, 61] then some (decide (n ≥ 0)) else none
def finV (is : Bool) (a b : S23) : Ans := if a.f0 = 0 ∨ b.f0 = 0 then er 0 else if a.f0 = b.f0 then tr is else er 20
def relV (op : List UInt8) (a b : S23) : Ans :=
  if (ok a && ok b) = true then (match isOp op (cmpV a b) with | none => er 1 | some is => finV is a b) else er 1
theorem rel_j2 (is : Bool) (a b : S23) (k : Nat) : logic_Rel.j2 (k + 2) is a.f0 a.f1 a.f2 b.f0 b.f1 b.f2 = some (finV is a b) := by
  by_cases h0 : a.f0 = 0 <;> by_cases h1 : b.f0 = 0 <;> by_cases h2 : a.f0 = b.f0 <;> cases is <;> simp_all [logic_Rel.j2, logic_Rel.j3, logic_truth.f, finV, er, tr, nil]
theorem all2 (a b : S23) : [a, b].all ok = (ok a && ok b) := by simp
theorem rel_ev (op : ByteArray) (a b : S23) (ha : OkV a) (hb : OkV b) : Ev (fun k => logic_Rel.f k op a.f0 a.f1 a.f2 b.f0 b.f1 b.f2) (relV (bs op) a b) := by
  unfold logic_Rel.f relV
  refine Ev.bind (check_ev (l := [a, b]) (by simp) (by simp [ha, hb])) ?_
  unfold chkL
  rw [all2]
  by_cases hk : (ok a && ok b) = true
  · rw [if_pos hk, if_pos hk]
    refine Ev.pos rfl ?_
    refine Ev.bind (compare_ev a b) ?_
    generalize cmpV a b = n
    refine Ev.after 4 fun k => ?_
    rw [bs_toList]
    generalize hop : bs op = o
    by_cases o1 : o = [61]
    · simp [o1, hop, isOp, logic_Rel.j0, rel_j2, bs_toList]
    by_cases o2 : o = [60, 62]
    · simp [o2, hop, isOp, logic_Rel.j0, rel_j2, bs_toList]; rfl
    by_cases o3 : o = [60]
    · simp [o3, hop, isOp, logic_Rel.j0, logic_Rel.j1, rel_j2, bs_toList]
    by_cases o4 : o = [60, 61]
    · simp [o4, hop, isOp, logic_Rel.j0, logic_Rel.j1, rel_j2, bs_toList]
      congr 1; rw [← decide_not]; exact decide_eq_decide.2 Int.not_lt
    by_cases o5 : o = [62]
    · simp [o5, hop, isOp, logic_Rel.j0, logic_Rel.j1, rel_j2, bs_toList]
    by_cases o6 : o = [62, 61]
    · simp [o6, hop, isOp, logic_Rel.j0, logic_Rel.j1, rel_j2, bs_toList]
      congr 1; rw [← decide_not]; exact decide_eq_decide.2 Int.not_lt
    simp [o1, o2, o3, o4, o5, o6, hop, isOp, logic_Rel.j0, logic_Rel.j1, rel_j2, bs_toList, er, nil]
  · rw [if_neg hk, if_neg hk]
    exact Ev.neg (by decide) (Ev.now _)

def sameV (a b : S23) : Bool := decide (a.f0 = b.f0) && (decide (a.f1 = b.f1) && decide (bs a.f2 = bs b.f2))
def isV (a b : S23) : Ans := if (ok a && ok b) = true then (if a.f0 ≠ 0 ∧ b.f0 ≠ 0 ∧ a.f0 ≠ b.f0 then er 20 else tr (sameV a b)) else er 1
theorem is_ev (a b : S23) (ha : OkV a) (hb : OkV b) : Ev (fun k => logic_Is.f k a.f0 a.f1 a.f2 b.f0 b.f1 b.f2) (isV a b) := by
  unfold logic_Is.f isV
  refine Ev.bind (check_ev (l := [a, b]) (by simp) (by simp [ha, hb])) ?_
  unfold chkL
  rw [all2]
  by_cases hk : (ok a && ok b) = true
  · rw [if_pos hk, if_pos hk]
    refine Ev.pos rfl ?_
    refine Ev.after 1 fun k => ?_
    by_cases h0 : a.f0 = 0 <;> by_cases h1 : b.f0 = 0 <;> by_cases h2 : a.f0 = b.f0 <;> by_cases h3 : a.f1 = b.f1 <;> by_cases h4 : bs a.f2 = bs b.f2 <;>
      simp_all [logic_Is.j0, value_Same.f, logic_truth.f, sameV, er, tr, nil, bs_toList]
  · rw [if_neg hk, if_neg hk]
    exact Ev.neg (by decide) (Ev.now _)

/-! And, Or -/
def kind (x : S23) : Bool := decide (x.f0 = 0) || decide (x.f0 = 1)
def hit (d : Int) (x : S23) : Bool := decide (x.f0 = 1) && decide (x.f1 = d)
def isNull (x : S23) : Bool := decide (x.f0 = 0)
def outV (d : Int) (dec null : Bool) : Ans := if dec = true then (1, d, nil, 0) else if null = true then er 0 else tr (d == 0)
def restV (d : Int) (dec null : Bool) (l : List S23) : Ans := if l.all kind = true then outV d (dec || l.any (hit d)) (null || l.any isNull) else er 20
def foldV (d : Int) (l : List S23) : Ans := if l.all ok = true then restV d false false l else er 1
theorem ok_bool {x : S23} (h : ok x = true) (h1 : x.f0 = 1) : (x.f1 = 0 ∨ x.f1 = 1) ∧ x.f2 = nil := by
  unfold ok at h
  rw [if_neg (by omega), if_pos h1] at h
  simp at h
  exact ⟨h.1, bs_ext h.2⟩
theorem fold_loop {l : List S23} (d : Int) (hl : l.length ≤ 4398046511105) (hk : ∀ x ∈ l, ok x = true) : ∀ (r : List S23) (i : Nat) (dec null : Bool), l.drop i = r →
    Ev (fun k => logic_fold.l0 k d dec l (l.length : Int) (i : Int) (outV d dec null).1 (outV d dec null).2.1 (outV d dec null).2.2.1) (restV d dec null r) := by
  intro r
  induction r with
  | nil =>
    intro i dec null h
    have := List.drop_eq_nil_iff.1 h
    refine Ev.at1 ?_
    simp only [logic_fold.l0]
    refine Ev.neg (by omega) (Ev.done ?_)
    simp only [restV, List.all_nil, if_true, List.any_nil, Bool.or_false]
    unfold outV er tr; cases dec <;> cases null <;> simp
  | cons c r ih =>
    intro i dec null h
    have hlt := drop_lt h
    have hw := wrap_next h hl
    have hc := hk c (mem_drop h)
    refine Ev.at1 ?_
    simp only [logic_fold.l0]
    refine Ev.pos (by omega) (Ev.pos (by omega) (Ev.pos (by omega) ?_))
    rw [rd_drop h]
    by_cases c0 : c.f0 = 0
    · refine Ev.pos c0 (Ev.at1 ?_)
      simp only [logic_fold.j1]
      refine Ev.neg (by decide) (Ev.pos c0 ?_)
      rw [hw]
      by_cases hd : dec = true
      · subst hd
        refine Ev.pos rfl ?_
        have := ih (i + 1) true true (drop_next h)
        refine Ev.eq (Ev.congr (fun k => ?_) this) ?_
        · simp [outV]
        · simp [restV, kind, hit, isNull, outV, c0]
      · simp only [Bool.not_eq_true] at hd
        subst hd
        refine Ev.neg (by decide) ?_
        have := ih (i + 1) false true (drop_next h)
        refine Ev.eq (Ev.congr (fun k => ?_) this) ?_
        · simp [outV, er, nil]
        · simp [restV, kind, hit, isNull, outV, c0]
    · refine Ev.neg c0 (Ev.at1 ?_)
      simp only [logic_fold.j1]
      by_cases c1 : c.f0 = 1
      · refine Ev.neg (by simp [c1]) (Ev.neg c0 ?_)
        rw [hw]
        by_cases hh : c.f1 = d
        · refine Ev.pos hh ?_
          have := ih (i + 1) true null (drop_next h)
          refine Ev.eq (Ev.congr (fun k => ?_) this) ?_
          · simp [outV, c1, hh, (ok_bool hc c1).2]
          · simp [restV, kind, hit, isNull, outV, c1, hh]
        · refine Ev.neg hh ?_
          refine Ev.eq (ih (i + 1) dec null (drop_next h)) ?_
          simp [restV, kind, hit, isNull, outV, c1, hh]
      · refine Ev.pos (by simp [c1]) (Ev.done ?_)
        simp [restV, kind, c0, c1, er, nil]
theorem fold_ev (d : Int) {l : List S23} (hl : l.length ≤ 4398046511105) (wf : ∀ x ∈ l, OkV x) : Ev (fun k => logic_fold.f k d l) (foldV d l) := by
  unfold logic_fold.f foldV
  refine Ev.bind (check_ev hl wf) ?_
  unfold chkL
  by_cases hk : l.all ok = true
  · rw [if_pos hk, if_pos hk]
    refine Ev.pos rfl ?_
    refine Ev.bind (a := ((tr (d == 0)).1, (tr (d == 0)).2.1, (tr (d == 0)).2.2.1)) (Ev.same ?_) ?_
    · cases h : d == 0 <;> simp [logic_truth.f, tr, nil]
    · exact fold_loop d hl (fun x hx => List.all_eq_true.1 hk x hx) l 0 false false rfl
  · rw [if_neg hk, if_neg hk]
    exact Ev.neg (by decide) (Ev.now _)
theorem and_ev {l : List S23} (hl : l.length ≤ 4398046511105) (wf : ∀ x ∈ l, OkV x) : Ev (fun k => logic_And.f k l) (foldV 0 l) := by
  unfold logic_And.f
  exact Ev.bind (fold_ev 0 hl wf) (Ev.now _)
theorem or_ev {l : List S23} (hl : l.length ≤ 4398046511105) (wf : ∀ x ∈ l, OkV x) : Ev (fun k => logic_Or.f k l) (foldV 1 l) := by
  unfold logic_Or.f
  exact Ev.bind (fold_ev 1 hl wf) (Ev.now _)
end Go.Proofs.Ytfibdjgfdgbniaa.Lg
