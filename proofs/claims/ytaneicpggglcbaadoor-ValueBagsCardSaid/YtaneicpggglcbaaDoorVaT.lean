/- Layer 1 in plain words: the check, the order of values and rows, how many are played. -/
import Derived.Test.YtaneicpggglcbaaDoorPu
import Derived.Test.YtaneicpggglcbaaDoorRwT
import Derived.Test.YtaneicpggglcbaaDoorQVTx0
import Derived.Test.YtaneicpggglcbaaDoorQVTx1
import Derived.Test.YtaneicpggglcbaaDoorQVTx2
import Derived.Test.YtaneicpggglcbaaDoorQVTx3
import Derived.Test.YtaneicpggglcbaaDoorQVTx4
import Derived.Test.YtaneicpggglcbaaDoorQVTx5
import Derived.Test.YtaneicpggglcbaaDoorQVTx6
set_option linter.unusedVariables false
set_option linter.unusedSimpArgs false
namespace Go.Proofs.YtaneicpggglcbaaDoor.Va
open Go.RowKit Go.Proofs.YtaneicpggglcbaaDoorW.PrintWords Go.Proofs.YtaneicpggglcbaaDoor.Pu Go.Proofs.YtaneicpggglcbaaDoor.QVT Go.Proofs.YtaneicpggglcbaaDoor.Rw
def nil : ByteArray := ⟨#[]⟩
def ok (x : S27) : Bool :=
  if x.f0 = 0 then decide (x.f1 = 0) && decide (bs x.f2 = [])
  else if x.f0 = 1 then (decide (x.f1 = 0) || decide (x.f1 = 1)) && decide (bs x.f2 = [])
  else if x.f0 = 2 then decide (bs x.f2 = [])
  else if x.f0 = 3 ∨ x.f0 = 4 then decide (x.f1 = 0) else false
def chk (x : S27) : Int := if ok x = true then 0 else 1
theorem chk_zero {x : S27} (h : chk x = 0) : ok x = true := by
  unfold chk at h; split at h
  · assumption
  · cases h

theorem wf64 {x : Int} (h : (Lit.int .i64 x).wf = true) : -9223372036854775808 ≤ x ∧ x ≤ 9223372036854775807 := by
  simp [Lit.wf, IntKind.min, IntKind.max, IntKind.bits, IntKind.signed] at h
  exact h
theorem andNot1 {x : Int} (h : (Lit.int .i64 x).wf = true) : Go.bits .andNot .i64 x 1 = 0 ↔ x = 0 ∨ x = 1 := by
  obtain ⟨h0, h1⟩ := wf64 h
  constructor
  · intro hz
    have e : (BitVec.ofInt 64 x &&& ~~~(BitVec.ofInt 64 1)).toNat = 0 := by
      have hl := (BitVec.ofInt 64 x &&& ~~~(BitVec.ofInt 64 1)).isLt
      revert hz
      show IntKind.i64.wrap ((BitVec.ofInt 64 x &&& ~~~(BitVec.ofInt 64 1)).toNat : Int) = 0 → _
      generalize (BitVec.ofInt 64 x &&& ~~~(BitVec.ofInt 64 1)).toNat = n at hl ⊢
      intro hz
      simp [IntKind.wrap, IntKind.bits, IntKind.signed] at hz
      omega
    have e2 : (BitVec.ofInt 64 x &&& ~~~(BitVec.ofInt 64 1)) = 0#64 := BitVec.eq_of_toNat_eq (by rw [e]; rfl)
    have e3 : BitVec.ofInt 64 x = BitVec.ofInt 64 x &&& 1#64 := by
      apply BitVec.eq_of_getLsbD_eq
      intro i hi
      have := congrArg (fun b => b.getLsbD i) e2
      have o : BitVec.ofInt 64 1 = 1#64 := rfl
      rw [o] at this
      simp only [BitVec.getLsbD_and, BitVec.getLsbD_not, hi, decide_true, Bool.true_and, BitVec.getLsbD_zero] at this
      rw [BitVec.getLsbD_and]
      cases hb : (BitVec.ofInt 64 x).getLsbD i <;> cases hc : (1#64).getLsbD i <;> simp_all
    have e4 := congrArg BitVec.toNat e3
    rw [BitVec.toNat_and] at e4
    have e5 : (1#64).toNat = 1 := rfl
    rw [e5, Nat.and_one_is_mod, BitVec.toNat_ofInt] at e4
    omega
  · rintro (rfl | rfl) <;> decide +kernel

theorem value_Check_at (x : S27) (h : (Lit.int .i64 x.f1).wf = true) (k : Nat) : value_Check.f (k + 5) x.f0 x.f1 x.f2 = some (chk x) := by
  have hn := andNot1 h
  have z0 : Go.bits .andNot .i64 0 1 = 0 := by decide +kernel
  have z1 : Go.bits .andNot .i64 1 1 = 0 := by decide +kernel
  have hc : x.f0 < 0 ∨ x.f0 = 0 ∨ x.f0 = 1 ∨ x.f0 = 2 ∨ x.f0 = 3 ∨ x.f0 = 4 ∨ x.f0 > 4 := by omega
  rcases hc with hc | hc | hc | hc | hc | hc | hc
  · have a0 : x.f0 ≠ 0 := by omega
    have a1 : x.f0 ≠ 1 := by omega
    have a2 : x.f0 ≠ 2 := by omega
    have a3 : x.f0 ≠ 3 := by omega
    have a4 : x.f0 ≠ 4 := by omega
    simp [value_Check.f, value_Check.j0, value_Check.j1, chk, ok, hc, a0, a1, a2, a3, a4]
  · by_cases b0 : x.f1 = 0 <;> by_cases s : bs x.f2 = [] <;> simp [value_Check.f, value_Check.j0, value_Check.j1, value_Check.j2, value_Check.j3, value_Check.j4, chk, ok, bs_toList, hn, hc, b0, s]
  · by_cases b0 : x.f1 = 0 <;> by_cases b1 : x.f1 = 1 <;> by_cases s : bs x.f2 = [] <;> simp [value_Check.f, value_Check.j0, value_Check.j1, value_Check.j2, value_Check.j3, value_Check.j4, chk, ok, bs_toList, hn, z0, z1, hc, b0, b1, s]
  · by_cases s : bs x.f2 = [] <;> simp [value_Check.f, value_Check.j0, value_Check.j1, value_Check.j2, value_Check.j3, value_Check.j4, chk, ok, bs_toList, hn, hc, s]
  · by_cases b0 : x.f1 = 0 <;> simp [value_Check.f, value_Check.j0, value_Check.j1, value_Check.j2, value_Check.j3, value_Check.j4, chk, ok, bs_toList, hn, hc, b0]
  · by_cases b0 : x.f1 = 0 <;> simp [value_Check.f, value_Check.j0, value_Check.j1, value_Check.j2, value_Check.j3, value_Check.j4, chk, ok, bs_toList, hn, hc, b0]
  · have a0 : x.f0 ≠ 0 := by omega
    have a1 : x.f0 ≠ 1 := by omega
    have a2 : x.f0 ≠ 2 := by omega
    have a3 : x.f0 ≠ 3 := by omega
    have a4 : x.f0 ≠ 4 := by omega
    simp [value_Check.f, value_Check.j0, value_Check.j1, chk, ok, hc, a0, a1, a2, a3, a4]
theorem Ev.after {α : Type} {g : Nat → Option α} {r : α} (n : Nat) (h : ∀ k, g (k + n) = some r) : Ev g r := ⟨n, fun k hk => by
  have := h (k - n)
  rw [Nat.sub_add_cancel hk] at this
  exact this⟩
theorem rd_drop {l r : List S27} {i : Nat} {c : S27} (h : l.drop i = c :: r) : rd_T27 l (i : Int) = c := by
  have hl := drop_lt h
  rw [List.drop_eq_getElem_cons hl] at h
  injection h with h1 _
  unfold rd_T27
  rw [Int.toNat_natCast, List.getD_eq_getElem?_getD, List.getElem?_eq_getElem hl, Option.getD_some, h1]
theorem mem_drop {l r : List S27} {i : Nat} {c : S27} (h : l.drop i = c :: r) : c ∈ l := by
  have : c ∈ l.drop i := by rw [h]; exact List.mem_cons_self
  exact List.mem_of_mem_drop this
theorem wrap_next {l r : List S27} {i : Nat} {c : S27} (h : l.drop i = c :: r) (hl : l.length ≤ 4398046511105) : wrap64 ((i : Int) + 1) = ((i + 1 : Nat) : Int) := by
  have := drop_lt h
  rw [wrap_id (by omega) (by omega)]; rfl

def cmpV (a b : S27) : Int := if a.f0 < b.f0 then -1 else if b.f0 < a.f0 then 1 else if a.f1 < b.f1 then -1 else if b.f1 < a.f1 then 1 else Lib.compareBytes (bs a.f2) (bs b.f2)
theorem bytes_cmp : ∀ (x y : List UInt8), Lib.compareBytes x y = if Op.bytesLess x y = true then -1 else if x = y then 0 else 1
  | [], [] => rfl
  | [], _ :: _ => rfl
  | _ :: _, [] => by simp [Lib.compareBytes, Op.bytesLess]
  | a :: x, b :: y => by
    have ih := bytes_cmp x y
    rw [Lib.compareBytes, Op.bytesLess, ih]
    by_cases h1 : a < b
    · simp [h1]
    · by_cases h2 : a = b
      · subst h2
        simp [UInt8.lt_irrefl]
      · have h3 : b < a := UInt8.lt_of_le_of_ne (UInt8.not_lt.1 h1) (Ne.symm h2)
        simp [h1, h2, h3]
theorem less_irrefl : ∀ x : List UInt8, Op.bytesLess x x = false
  | [] => rfl
  | a :: x => by simp [Op.bytesLess, less_irrefl x, UInt8.lt_irrefl]


theorem chkV_eq (x : S27) (h : OkV x) : chkV x = chk x := by
  have := value_Check_at x h.2.1 0
  unfold chkV
  rw [show (0 + 5 : Nat) = 5 from rfl] at this
  rw [this]; rfl
theorem badV_eq (x : S27) (h : OkV x) : badV x = !ok x := by
  unfold badV
  rw [chkV_eq x h]
  unfold chk
  cases ok x <;> rfl
/-- why a row may not be -/
def crV (l : List S27) : Int := if l.all ok = true then (if (l.length : Int) > 64 then 2 else 0) else 1
theorem any_bad : ∀ {l : List S27}, (∀ x ∈ l, OkV x) → l.any badV = !l.all ok
  | [], _ => rfl
  | x :: l, h => by
    rw [List.any_cons, List.all_cons, any_bad fun y hy => h y (List.mem_cons_of_mem _ hy), badV_eq x (h x List.mem_cons_self)]
    cases ok x <;> simp
theorem checkRow_ev {l : List S27} (hl : l.length * 32 ≤ 140737488351232) (wf : ∀ x ∈ l, OkV x) : value_CheckRow.f l = some (crV l) := by
  unfold value_CheckRow.f crV
  rw [if_pos (by omega), any_bad wf]
  cases h : l.all ok <;> simp
theorem crV_ok {l : List S27} (h : crV l = 0) : (∀ x ∈ l, ok x = true) ∧ l.length ≤ 64 := by
  unfold crV at h
  by_cases ha : l.all ok = true
  · rw [if_pos ha] at h
    refine ⟨fun x hx => List.all_eq_true.1 ha x hx, ?_⟩
    by_cases hb : (l.length : Int) > 64
    · rw [if_pos hb] at h; cases h
    · omega
  · rw [if_neg ha] at h; cases h
def wt : List S27 → Nat
  | [] => 0
  | x :: l => 1 + x.f2.size + wt l

/-! the document's order of rows -/
theorem ref_Compare_ev (a b : S27) : Ev (fun k => boscageref01_Compare.f k a.f0 a.f1 a.f2 b.f0 b.f1 b.f2) (cmpV a b) := Ev.after 1 fun k => by
  unfold cmpV
  rw [bytes_cmp]
  have hc : a.f0 < b.f0 ∨ a.f0 = b.f0 ∨ b.f0 < a.f0 := by omega
  rcases hc with hc | hc | hc
  · simp [boscageref01_Compare.f, boscageref01_Compare.j0, hc]
  · have hd : a.f1 < b.f1 ∨ a.f1 = b.f1 ∨ b.f1 < a.f1 := by omega
    rcases hd with hd | hd | hd
    · simp [boscageref01_Compare.f, boscageref01_Compare.j0, hc, hd]
    · by_cases h1 : Op.bytesLess (bs a.f2) (bs b.f2) = true <;> by_cases h2 : bs a.f2 = bs b.f2 <;> simp_all [boscageref01_Compare.f, boscageref01_Compare.j0, boscageref01_Same.f, bs_toList, less_irrefl]
    · have : ¬ a.f1 < b.f1 := by omega
      have : ¬ a.f1 = b.f1 := by omega
      simp [boscageref01_Compare.f, boscageref01_Compare.j0, boscageref01_Same.f, hc, hd, *]
  · have : ¬ a.f0 < b.f0 := by omega
    have : ¬ a.f0 = b.f0 := by omega
    simp [boscageref01_Compare.f, boscageref01_Compare.j0, boscageref01_Same.f, hc, *]

def rowC : List S27 → List S27 → Int
  | [], [] => 0
  | [], _ :: _ => -1
  | _ :: _, [] => 1
  | x :: l, y :: m => if cmpV x y = 0 then rowC l m else cmpV x y
theorem rows_loop {a b : List S27} (ha : a.length ≤ 9223372036854775807) (hb : b.length ≤ 9223372036854775807) : ∀ (r s : List S27) (i : Nat), a.drop i = r → b.drop i = s → i ≤ a.length → i ≤ b.length →
    Ev (fun k => boscageref01_CompareRows.l0 k a b (a.length : Int) (i : Int)) (rowC r s) := by
  intro r
  induction r with
  | nil =>
    intro s i h h' hi hi'
    have e := drop_len h hi
    have e' := drop_len h' hi'
    refine Ev.at1 ?_
    simp only [boscageref01_CompareRows.l0]
    refine Ev.neg (by simp at e; omega) ?_
    cases s with
    | nil => exact Ev.neg (by simp at e e'; omega) (Ev.now _)
    | cons d s => exact Ev.pos (by simp at e e'; omega) (Ev.now _)
  | cons c r ih =>
    intro s i h h' hi hi'
    have hlt := drop_lt h
    have hw : wrap64 ((i : Int) + 1) = ((i + 1 : Nat) : Int) := by have := hlt; unfold wrap64; omega
    refine Ev.at1 ?_
    simp only [boscageref01_CompareRows.l0]
    refine Ev.pos (by omega) ?_
    cases s with
    | nil =>
      have e' := drop_len h' hi'
      exact Ev.pos (by simp at e'; omega) (Ev.now _)
    | cons d s =>
      have hlt' := drop_lt h'
      refine Ev.neg (by omega) (Ev.pos (by omega) (Ev.pos (by omega) (Ev.pos (by omega) ?_)))
      rw [rd_drop h, rd_drop h', hw]
      refine Ev.bind (ref_Compare_ev c d) ?_
      rw [rowC]
      by_cases hz : cmpV c d = 0
      · rw [if_pos hz]
        exact Ev.pos hz (ih s (i + 1) (drop_next h) (drop_next h') (by omega) (by omega))
      · rw [if_neg hz]
        exact Ev.neg hz (Ev.now _)
theorem rows_ev {a b : List S27} (ha : a.length ≤ 9223372036854775807) (hb : b.length ≤ 9223372036854775807) : Ev (fun k => boscageref01_CompareRows.f k a b) (rowC a b) :=
  rows_loop ha hb a b 0 rfl rfl (Nat.zero_le _) (Nat.zero_le _)
/-! how many are played -/
theorem few_row (ls : List (List S27)) (L j : Int) (l : List S27) (hl : l.length * 32 ≤ 140737488351232) (wf : ∀ x ∈ l, OkV x) (P : Prop) : ∀ (r : List S27) (i : Nat) (n : Int), l.drop i = r → 0 ≤ n → n ≤ 1000000000000000000 →
    (∀ n' : Int, n' = n + (wt r : Nat) → (n' ≤ 20000 ∨ n' = n) → ∃ b, Ev (fun k => boscageref01_Few.l0 k 20000 n' ls L (wrap64 (j + 1))) b ∧ (b = true → P)) →
    ∃ b, Ev (fun k => boscageref01_Few.l1 k 20000 n ls L j l (l.length : Int) (i : Int)) b ∧ (b = true → P ∧ (wt r = 0 ∨ n + (wt r : Nat) ≤ 20000)) := by
  intro r
  induction r with
  | nil =>
    intro i n h h0 h1 next
    have := List.drop_eq_nil_iff.1 h
    obtain ⟨b, hb, hp⟩ := next n (by simp [wt]) (.inr rfl)
    refine ⟨b, Ev.at1 ?_, fun e => ⟨hp e, by simp [wt]⟩⟩
    simp only [boscageref01_Few.l1]
    exact Ev.neg (by omega) hb
  | cons c r ih =>
    intro i n h h0 h1 next
    have hlt := drop_lt h
    have hw := wrap_next h (by omega)
    have hs := (wf c (mem_drop h)).2.2
    have e1 : wrap64 (1 + (c.f2.size : Int)) = 1 + (c.f2.size : Int) := wrap_id (by omega) (by omega)
    have e2 : wrap64 (n + (1 + (c.f2.size : Int))) = n + (1 + (c.f2.size : Int)) := wrap_id (by omega) (by omega)
    by_cases hg : n + (1 + (c.f2.size : Int)) > 20000
    · refine ⟨false, Ev.at1 ?_, fun e => by cases e⟩
      simp only [boscageref01_Few.l1]
      refine Ev.pos (by omega) (Ev.pos (by omega) (Ev.pos (by omega) ?_))
      rw [rd_drop h, e1, e2]
      exact Ev.pos hg (Ev.now _)
    · obtain ⟨b, hb, hp⟩ := ih (i + 1) (n + (1 + (c.f2.size : Int))) (drop_next h) (by omega) (by omega) (fun n' hn' hl' => next n' (by rw [hn', wt]; omega) (by omega))
      refine ⟨b, Ev.at1 ?_, fun e => ⟨(hp e).1, by have := (hp e).2; rw [wt]; omega⟩⟩
      simp only [boscageref01_Few.l1]
      refine Ev.pos (by omega) (Ev.pos (by omega) (Ev.pos (by omega) ?_))
      rw [rd_drop h, e1, e2, hw]
      exact Ev.neg hg hb
theorem rdL_drop {ls rest : List (List S27)} {j : Nat} {r : List S27} (h : ls.drop j = r :: rest) : rd_L3 ls (j : Int) = r := by
  have hl := drop_lt h
  rw [List.drop_eq_getElem_cons hl] at h
  injection h with h1 _
  unfold rd_L3
  rw [Int.toNat_natCast, List.getD_eq_getElem?_getD, List.getElem?_eq_getElem hl, Option.getD_some, h1]
theorem few_rows (ls : List (List S27)) (hl : ls.length ≤ 6000000000000) (wl : ∀ r ∈ ls, r.length * 32 ≤ 140737488351232 ∧ ∀ x ∈ r, OkV x) : ∀ (rest : List (List S27)) (j : Nat) (n : Int), ls.drop j = rest → 0 ≤ n → n ≤ 20000 + j →
    ∃ b, Ev (fun k => boscageref01_Few.l0 k 20000 n ls (ls.length : Int) (j : Int)) b ∧ (b = true → ∀ r ∈ rest, wt r ≤ 20000) := by
  intro rest
  induction rest with
  | nil =>
    intro j n h h0 h1
    have := List.drop_eq_nil_iff.1 h
    refine ⟨decide (n ≤ 20000), Ev.at1 ?_, fun _ r hr => by cases hr⟩
    simp only [boscageref01_Few.l0]
    exact Ev.neg (by omega) (Ev.now _)
  | cons r rest ih =>
    intro j n h h0 h1
    have hlt := drop_lt h
    have hm : r ∈ ls := by
      have : r ∈ ls.drop j := by rw [h]; exact List.mem_cons_self
      exact List.mem_of_mem_drop this
    have hw : wrap64 ((j : Int) + 1) = ((j + 1 : Nat) : Int) := by rw [wrap_id (by omega) (by omega)]; rfl
    have en : wrap64 (n + 1) = n + 1 := wrap_id (by omega) (by omega)
    obtain ⟨b, hb, hp⟩ := few_row ls (ls.length : Int) (j : Int) r (wl r hm).1 (wl r hm).2 (∀ r ∈ rest, wt r ≤ 20000) r 0 (n + 1) rfl (by omega) (by omega) (fun n' hn' hl' => by
      rw [hw]
      exact ih (j + 1) n' (drop_next h) (by omega) (by omega))
    refine ⟨b, Ev.at1 ?_, fun e x hx => ?_⟩
    · simp only [boscageref01_Few.l0]
      refine Ev.pos (by omega) (Ev.pos (by omega) (Ev.pos (by omega) ?_))
      rw [rdL_drop h, en]
      exact hb
    · obtain ⟨h1', h2'⟩ := hp e
      rcases List.mem_cons.1 hx with rfl | hx
      · omega
      · exact h1' x hx
theorem few_ev (ls : List (List S27)) (hl : ls.length ≤ 6000000000000) (wl : ∀ r ∈ ls, r.length * 32 ≤ 140737488351232 ∧ ∀ x ∈ r, OkV x) : ∃ v, Ev (fun k => boscageref01_Few.f k ls 20000) v ∧ (v = true → ∀ r ∈ ls, wt r ≤ 20000) := by
  obtain ⟨b, hb, hp⟩ := few_rows ls hl wl ls 0 0 rfl (by omega) (by omega)
  exact ⟨b, hb, hp⟩
theorem big_ev (ls : List (List S27)) (hl : ls.length ≤ 6000000000000) (wl : ∀ r ∈ ls, r.length * 32 ≤ 140737488351232 ∧ ∀ x ∈ r, OkV x) : ∃ v, Ev (fun k => boscagelaw01_big.f k ls) v ∧ (v = false → ∀ r ∈ ls, wt r ≤ 20000) := by
  obtain ⟨v, hv, hp⟩ := few_ev ls hl wl
  exact ⟨!v, Ev.bind hv (Ev.now _), fun e => hp (by simpa using e)⟩
/-! orders -/
structure Ord {α : Type} (c : α → α → Int) : Prop where
  anti : ∀ a b, c a b = - c b a
  lo : ∀ a b, -1 ≤ c a b
  tr : ∀ a b d, c a b ≤ 0 → c b d ≤ 0 → c a d ≤ 0 ∧ (c a b < 0 ∨ c b d < 0 → c a d < 0)
theorem Ord.hi {α : Type} {c : α → α → Int} (h : Ord c) (a b : α) : c a b ≤ 1 := by
  have := h.lo b a
  rw [h.anti a b]; omega
theorem Ord.self {α : Type} {c : α → α → Int} (h : Ord c) (a : α) : c a a = 0 := by
  have := h.anti a a; omega
theorem Ord.zero {α : Type} {c : α → α → Int} (h : Ord c) {a b d : α} (h1 : c a b = 0) (h2 : c b d = 0) : c a d = 0 := by
  have a1 := (h.tr a b d (by omega) (by omega)).1
  have h3 := h.anti a b
  have h4 := h.anti b d
  have a2 := (h.tr d b a (by omega) (by omega)).1
  have := h.anti a d
  omega
theorem Ord.on {α β : Type} {c : α → α → Int} (h : Ord c) (f : β → α) : Ord fun a b => c (f a) (f b) :=
  ⟨fun a b => h.anti _ _, fun a b => h.lo _ _, fun a b d => h.tr _ _ _⟩
theorem Ord.andThen {α : Type} {c e : α → α → Int} (h : Ord c) (k : Ord e) : Ord fun a b => if c a b = 0 then e a b else c a b := by
  refine ⟨fun a b => ?_, fun a b => ?_, fun a b d h1 h2 => ?_⟩
  · have h1 := h.anti a b
    have h2 := k.anti a b
    show (if c a b = 0 then e a b else c a b) = - (if c b a = 0 then e b a else c b a)
    split <;> split <;> omega
  · have h1 := h.lo a b
    have h2 := k.lo a b
    show -1 ≤ (if c a b = 0 then e a b else c a b)
    split <;> assumption
  · show (if c a d = 0 then e a d else c a d) ≤ 0 ∧ _
    by_cases x1 : c a b = 0
    · rw [if_pos x1] at h1 ⊢
      by_cases x2 : c b d = 0
      · rw [if_pos x2] at h2 ⊢
        rw [if_pos (h.zero x1 x2)]
        exact k.tr a b d h1 h2
      · rw [if_neg x2] at h2 ⊢
        have := (h.tr a b d (by omega) (by omega)).2 (.inr (by omega))
        rw [if_neg (by omega)]
        exact ⟨by omega, fun _ => this⟩
    · rw [if_neg x1] at h1 ⊢
      by_cases x2 : c b d = 0
      · rw [if_pos x2] at h2 ⊢
        have := (h.tr a b d (by omega) (by omega)).2 (.inl (by omega))
        rw [if_neg (by omega)]
        exact ⟨by omega, fun _ => this⟩
      · rw [if_neg x2] at h2 ⊢
        have := (h.tr a b d (by omega) (by omega)).2 (.inl (by omega))
        rw [if_neg (by omega)]
        exact ⟨by omega, fun _ => this⟩
def lexC {α : Type} (c : α → α → Int) : List α → List α → Int
  | [], [] => 0
  | [], _ :: _ => -1
  | _ :: _, [] => 1
  | a :: x, b :: y => if c a b = 0 then lexC c x y else c a b
theorem lex_anti {α : Type} {c : α → α → Int} (h : Ord c) : ∀ x y : List α, lexC c x y = - lexC c y x
  | [], [] => rfl
  | [], _ :: _ => rfl
  | _ :: _, [] => rfl
  | a :: x, b :: y => by
    have ih := lex_anti h x y
    have h1 := h.anti a b
    simp only [lexC]
    split <;> split <;> omega
theorem lex_lo {α : Type} {c : α → α → Int} (h : Ord c) : ∀ x y : List α, -1 ≤ lexC c x y
  | [], [] => by simp [lexC]
  | [], _ :: _ => by simp [lexC]
  | _ :: _, [] => by simp [lexC]
  | a :: x, b :: y => by
    have ih := lex_lo h x y
    have h1 := h.lo a b
    simp only [lexC]
    split <;> assumption
theorem lex_tr {α : Type} {c : α → α → Int} (h : Ord c) : ∀ x y z : List α, lexC c x y ≤ 0 → lexC c y z ≤ 0 → lexC c x z ≤ 0 ∧ (lexC c x y < 0 ∨ lexC c y z < 0 → lexC c x z < 0)
  | [], [], [] => by simp [lexC]
  | [], [], _ :: _ => by simp [lexC]
  | [], _ :: _, [] => by simp [lexC]
  | [], _ :: _, _ :: _ => by simp [lexC]
  | _ :: _, [], _ => by simp [lexC]
  | _ :: _, _ :: _, [] => by simp [lexC]
  | a :: x, b :: y, d :: z => by
    have ih := lex_tr h x y z
    simp only [lexC]
    intro h1 h2
    by_cases x1 : c a b = 0
    · rw [if_pos x1] at h1 ⊢
      by_cases x2 : c b d = 0
      · rw [if_pos x2] at h2 ⊢
        rw [if_pos (h.zero x1 x2)]
        exact ih h1 h2
      · rw [if_neg x2] at h2 ⊢
        have := (h.tr a b d (by omega) (by omega)).2 (.inr (by omega))
        rw [if_neg (by omega)]
        exact ⟨by omega, fun _ => this⟩
    · rw [if_neg x1] at h1 ⊢
      by_cases x2 : c b d = 0
      · rw [if_pos x2] at h2 ⊢
        have := (h.tr a b d (by omega) (by omega)).2 (.inl (by omega))
        rw [if_neg (by omega)]
        exact ⟨by omega, fun _ => this⟩
      · rw [if_neg x2] at h2 ⊢
        have := (h.tr a b d (by omega) (by omega)).2 (.inl (by omega))
        rw [if_neg (by omega)]
        exact ⟨by omega, fun _ => this⟩
theorem Ord.lex {α : Type} {c : α → α → Int} (h : Ord c) : Ord (lexC c) := ⟨lex_anti h, lex_lo h, lex_tr h⟩
def c8 (a b : UInt8) : Int := if a < b then -1 else if b < a then 1 else 0
theorem ord8 : Ord c8 := by
  refine ⟨fun a b => ?_, fun a b => ?_, fun a b d => ?_⟩
  · unfold c8
    simp only [UInt8.lt_iff_toNat_lt]
    split <;> split <;> omega
  · unfold c8
    split
    · decide
    · split <;> decide
  · unfold c8
    simp only [UInt8.lt_iff_toNat_lt]
    repeat' split
    all_goals (intro h1 h2; exact ⟨by omega, fun h => by omega⟩)
theorem cmp_lex : ∀ x y : List UInt8, Lib.compareBytes x y = lexC c8 x y
  | [], [] => rfl
  | [], _ :: _ => rfl
  | _ :: _, [] => rfl
  | a :: x, b :: y => by
    rw [Lib.compareBytes, lexC, cmp_lex x y]
    unfold c8
    split
    · rw [if_neg (by decide)]
    · split
      · rw [if_neg (by decide)]
      · rw [if_pos rfl]
theorem ordB : Ord Lib.compareBytes := by
  have h := ord8.lex
  have e : Lib.compareBytes = lexC c8 := by funext x y; exact cmp_lex x y
  rw [e]; exact h
def ci (a b : Int) : Int := if a < b then -1 else if b < a then 1 else 0
theorem ordI : Ord ci := by
  refine ⟨fun a b => ?_, fun a b => ?_, fun a b d => ?_⟩
  · unfold ci
    split <;> split <;> omega
  · unfold ci
    split
    · decide
    · split <;> decide
  · unfold ci
    repeat' split
    all_goals (intro h1 h2; exact ⟨by omega, fun h => by omega⟩)
theorem cmpV_eq (a b : S27) : cmpV a b = if ci a.f0 b.f0 = 0 then (if ci a.f1 b.f1 = 0 then Lib.compareBytes (bs a.f2) (bs b.f2) else ci a.f1 b.f1) else ci a.f0 b.f0 := by
  unfold cmpV ci
  repeat' split
  all_goals first | rfl | omega
theorem ordV : Ord cmpV := by
  have h : Ord fun a b : S27 => if ci a.f0 b.f0 = 0 then (if ci a.f1 b.f1 = 0 then Lib.compareBytes (bs a.f2) (bs b.f2) else ci a.f1 b.f1) else ci a.f0 b.f0 :=
    (ordI.on fun x : S27 => x.f0).andThen ((ordI.on fun x : S27 => x.f1).andThen (ordB.on fun x : S27 => bs x.f2))
  have e : cmpV = fun a b : S27 => if ci a.f0 b.f0 = 0 then (if ci a.f1 b.f1 = 0 then Lib.compareBytes (bs a.f2) (bs b.f2) else ci a.f1 b.f1) else ci a.f0 b.f0 := by funext a b; exact cmpV_eq a b
  rw [e]; exact h
theorem rowC_lex : ∀ x y : List S27, rowC x y = lexC cmpV x y
  | [], [] => rfl
  | [], _ :: _ => rfl
  | _ :: _, [] => rfl
  | a :: x, b :: y => by rw [rowC, lexC, rowC_lex x y]
theorem ordR : Ord rowC := by
  have h := ordV.lex
  have e : rowC = lexC cmpV := by funext x y; exact rowC_lex x y
  rw [e]; exact h
/-! the program's order -/
theorem cmpI_at (a b : Int) : cmp_Compare_int.f a b = some (ci a b) := by
  simp only [cmp_Compare_int.f, cmp_isNaN_int.f, Option.bind_some, ci]
  by_cases h1 : a < b
  · simp [h1]
  · by_cases h2 : b < a <;> simp [h1, h2]
theorem cmpI64_at (a b : Int) : cmp_Compare_int64.f a b = some (ci a b) := by
  simp only [cmp_Compare_int64.f, cmp_isNaN_int64.f, Option.bind_some, ci]
  by_cases h1 : a < b
  · simp [h1]
  · by_cases h2 : b < a <;> simp [h1, h2]
theorem cmpF_eq (a b : S27) : cmpF a b = cmpV a b := by
  have h := cmpF_at a b
  unfold value_Compare.f at h
  rw [cmpI_at, cmpI64_at] at h
  simp only [Option.bind_some, strings_Compare.f, or3, Option.some.injEq] at h
  rw [← h, cmpV_eq]; rfl
theorem cmpL_eq : ∀ x y : List S27, cmpL x y = rowC x y
  | [], [] => rfl
  | [], _ :: _ => rfl
  | _ :: _, [] => rfl
  | a :: x, b :: y => by rw [cmpL, rowC, cmpL_eq x y, cmpF_eq]
theorem mineRows_ev {a b : List S27} (ha : a.length ≤ 9223372036854775807) (hb : b.length ≤ 9223372036854775807) : value_CompareRows.f a b = some (rowC a b) := by
  unfold value_CompareRows.f
  rw [if_pos (by omega), cmpL_eq]
theorem mine_ev (a b : S27) : Ev (fun k => value_Compare.f k a.f0 a.f1 a.f2 b.f0 b.f1 b.f2) (cmpV a b) := by
  refine Ev.of (fun k => value_Compare.mono _ _ _ _ _ _ k) (k := 4) ?_
  rw [cmpF_at, cmpF_eq]
theorem live_ev : Ev (fun k => boscagelaw01_live.f k) true := ⟨80, fun k hk => at_rounds (fun k => boscagelaw01_live.mono k) hk (by decide +kernel)⟩
/-! when two are the same -/
theorem ci_zero {a b : Int} : ci a b = 0 ↔ a = b := by
  unfold ci
  constructor
  · intro h
    split at h
    · cases h
    · split at h
      · cases h
      · omega
  · rintro rfl; simp
theorem bytes_zero (x y : List UInt8) : Lib.compareBytes x y = 0 ↔ x = y := by
  rw [bytes_cmp]
  constructor
  · intro h
    split at h
    · cases h
    · split at h
      · assumption
      · cases h
  · rintro rfl; simp [less_irrefl]
theorem cmpV_zero (a b : S27) : cmpV a b = 0 ↔ a = b := by
  rw [cmpV_eq]
  constructor
  · intro h
    by_cases h1 : ci a.f0 b.f0 = 0
    · rw [if_pos h1] at h
      by_cases h2 : ci a.f1 b.f1 = 0
      · rw [if_pos h2] at h
        have e1 := ci_zero.1 h1
        have e2 := ci_zero.1 h2
        have e3 := bs_ext ((bytes_zero _ _).1 h)
        cases a; cases b
        simp at e1 e2 e3
        simp [e1, e2, e3]
      · rw [if_neg h2] at h; exact absurd h h2
    · rw [if_neg h1] at h; exact absurd h h1
  · rintro rfl
    rw [if_pos (ci_zero.2 rfl), if_pos (ci_zero.2 rfl)]
    exact (bytes_zero _ _).2 rfl
theorem rowC_zero : ∀ x y : List S27, rowC x y = 0 ↔ x = y
  | [], [] => by simp [rowC]
  | [], _ :: _ => by simp [rowC]
  | _ :: _, [] => by simp [rowC]
  | a :: x, b :: y => by
    have ih := rowC_zero x y
    rw [rowC]
    constructor
    · intro h
      split at h
      · rename_i h1
        rw [(cmpV_zero a b).1 h1, ih.1 h]
      · rename_i h1
        exact absurd h h1
    · intro h
      injection h with h1 h2
      rw [if_pos ((cmpV_zero a b).2 h1)]
      exact ih.2 h2
end Go.Proofs.YtaneicpggglcbaaDoor.Va
