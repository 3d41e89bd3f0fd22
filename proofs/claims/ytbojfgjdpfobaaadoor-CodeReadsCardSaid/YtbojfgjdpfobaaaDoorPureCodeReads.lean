/- Layer 5 in plain words: the check, the key of a row, its order. -/
import Derived.Test.YtbojfgjdpfobaaaDoorPu
import Derived.Test.YtbojfgjdpfobaaaDoorRwR
import Derived.Test.YtbojfgjdpfobaaaDoorQCRx0
import Derived.Test.YtbojfgjdpfobaaaDoorQCRx1
import Derived.Test.YtbojfgjdpfobaaaDoorQCRx2
import Derived.Test.YtbojfgjdpfobaaaDoorQCRx3
import Derived.Test.YtbojfgjdpfobaaaDoorQCRx4
import Derived.Test.YtbojfgjdpfobaaaDoorQCRx5
import Derived.Test.YtbojfgjdpfobaaaDoorQCRx6
import Derived.Test.YtbojfgjdpfobaaaDoorQCRx7
import Derived.Test.YtbojfgjdpfobaaaDoorQCRx8
import Derived.Test.YtbojfgjdpfobaaaDoorQCRx9
import Derived.Test.YtbojfgjdpfobaaaDoorQCRx10
import Derived.Test.YtbojfgjdpfobaaaDoorRp
set_option linter.unusedVariables false
set_option linter.unusedSimpArgs false
namespace Go.Proofs.YtbojfgjdpfobaaaDoor.Cd
open Go.RowKit Go.Proofs.YtbojfgjdpfobaaaDoorW.PrintWords Go.Proofs.YtbojfgjdpfobaaaDoor.Pu Go.Proofs.YtbojfgjdpfobaaaDoor.QCR Go.Proofs.YtbojfgjdpfobaaaDoor.Rw

def nil : ByteArray := ⟨#[]⟩
def ok (x : S43) : Bool :=
  if x.f0 = 0 then decide (x.f1 = 0) && decide (bs x.f2 = [])
  else if x.f0 = 1 then (decide (x.f1 = 0) || decide (x.f1 = 1)) && decide (bs x.f2 = [])
  else if x.f0 = 2 then decide (bs x.f2 = [])
  else if x.f0 = 3 ∨ x.f0 = 4 then decide (x.f1 = 0) else false
theorem wf64 {x : Int} (h : (Lit.int .i64 x).wf = true) : -9223372036854775808 ≤ x ∧ x ≤ 9223372036854775807 := by
  simp [Lit.wf, IntKind.min, IntKind.max, IntKind.bits, IntKind.signed] at h
  exact h
theorem Ev.after {α : Type} {g : Nat → Option α} {r : α} (n : Nat) (h : ∀ k, g (k + n) = some r) : Ev g r := ⟨n, fun k hk => by
  have := h (k - n)
  rw [Nat.sub_add_cancel hk] at this
  exact this⟩
theorem rd_drop {l r : List S43} {i : Nat} {c : S43} (h : l.drop i = c :: r) : rd_T43 l (i : Int) = c := by
  have hl := drop_lt h
  rw [List.drop_eq_getElem_cons hl] at h
  injection h with h1 _
  unfold rd_T43
  rw [Int.toNat_natCast, List.getD_eq_getElem?_getD, List.getElem?_eq_getElem hl, Option.getD_some, h1]
theorem wrap_next {l r : List S43} {i : Nat} {c : S43} (h : l.drop i = c :: r) (hl : l.length ≤ 4398046511105) : wrap64 ((i : Int) + 1) = ((i + 1 : Nat) : Int) := by
  have := drop_lt h
  rw [wrap_id (by omega) (by omega)]; rfl

def cmpV (a b : S43) : Int := if a.f0 < b.f0 then -1 else if b.f0 < a.f0 then 1 else if a.f1 < b.f1 then -1 else if b.f1 < a.f1 then 1 else Lib.compareBytes (bs a.f2) (bs b.f2)
theorem bytes_cmp : ∀ (x y : List UInt8), Lib.compareBytes x y = if Op.bytesLess x y = true then -1 else if x = y then 0 else 1
  | [], [] => rfl
  | [], _ :: _ => rfl
  | _ :: _, [] => by simp [Lib.compareBytes, Op.bytesLess]
  | a :: x, b :: y => by
    have ih := bytes_cmp x y
    rw [Lib.compareBytes, Op.bytesLess, ih]
    by_cases h1 : a < b
    · simp [h1]
    · by_cases h2 : a = b
      · subst h2
        simp [UInt8.lt_irrefl]
      · have h3 : b < a := UInt8.lt_of_le_of_ne (UInt8.not_lt.1 h1) (Ne.symm h2)
        simp [h1, h2, h3]
theorem less_irrefl : ∀ x : List UInt8, Op.bytesLess x x = false
  | [] => rfl
  | a :: x => by simp [Op.bytesLess, less_irrefl x, UInt8.lt_irrefl]


/-! a row's key -/
def xorTop (n : Int) : Int := Go.bits .xor .u64 (IntKind.u64.wrap n) 9223372036854775808
def payV (x : S43) : List Int :=
  if x.f0 = 1 then [x.f1 % 256] else if x.f0 = 2 then laidL (xorTop x.f1) else if x.f0 = 3 ∨ x.f0 = 4 then repL (numsOf x.f2) ++ [0, 0] else []
def keyV (x : S43) : List Int := (x.f0 % 256) :: payV x
/-! how great rows are -/
/-- a number's bytes in the base 256 -/
def be : Nat → Int → List Int
  | 0, _ => []
  | j + 1, n => n / 256 ^ j :: be j (n % 256 ^ j)
theorem laid_be {n : Int} (h0 : 0 ≤ n) (h1 : n < 18446744073709551616) : laidL n = be 8 n := by
  have p0 : (2 : Int) ^ (56 - 8 * (0 : Int)).toNat = 72057594037927936 := by decide
  have p1 : (2 : Int) ^ (56 - 8 * (1 : Int)).toNat = 281474976710656 := by decide
  have p2 : (2 : Int) ^ (56 - 8 * (2 : Int)).toNat = 1099511627776 := by decide
  have p3 : (2 : Int) ^ (56 - 8 * (3 : Int)).toNat = 4294967296 := by decide
  have p4 : (2 : Int) ^ (56 - 8 * (4 : Int)).toNat = 16777216 := by decide
  have p5 : (2 : Int) ^ (56 - 8 * (5 : Int)).toNat = 65536 := by decide
  have p6 : (2 : Int) ^ (56 - 8 * (6 : Int)).toNat = 256 := by decide
  have p7 : (2 : Int) ^ (56 - 8 * (7 : Int)).toNat = 1 := by decide
  have q0 : (256 : Int) ^ 0 = 1 := by decide
  have q1 : (256 : Int) ^ 1 = 256 := by decide
  have q2 : (256 : Int) ^ 2 = 65536 := by decide
  have q3 : (256 : Int) ^ 3 = 16777216 := by decide
  have q4 : (256 : Int) ^ 4 = 4294967296 := by decide
  have q5 : (256 : Int) ^ 5 = 1099511627776 := by decide
  have q6 : (256 : Int) ^ 6 = 281474976710656 := by decide
  have q7 : (256 : Int) ^ 7 = 72057594037927936 := by decide
  simp only [laidL, byteL, be, p0, p1, p2, p3, p4, p5, p6, p7, q0, q1, q2, q3, q4, q5, q6, q7]
  clear p0 p1 p2 p3 p4 p5 p6 p7 q0 q1 q2 q3 q4 q5 q6 q7
  simp only [List.cons.injEq]
  refine ⟨by omega, by omega, by omega, by omega, by omega, by omega, by omega, by omega, trivial⟩
theorem xor_top {n : Nat} (h : n < 18446744073709551616) : n ^^^ 9223372036854775808 = (n + 9223372036854775808) % 18446744073709551616 := by
  have low : ∀ m : Nat, m < 9223372036854775808 → m ^^^ 9223372036854775808 = 9223372036854775808 + m := by
    intro m hm
    have e63 : (9223372036854775808 : Nat) = 2 ^ 63 := by decide
    apply Nat.eq_of_testBit_eq
    intro i
    rw [Nat.testBit_xor, e63, Nat.testBit_two_pow]
    rcases Nat.lt_trichotomy i 63 with h' | h' | h'
    · rw [Nat.testBit_two_pow_add_gt h', decide_eq_false (by omega)]; simp
    · subst h'
      rw [Nat.testBit_two_pow_add_eq, Nat.testBit_lt_two_pow (by omega)]; simp
    · rw [decide_eq_false (by omega), Nat.testBit_lt_two_pow (x := m) (Nat.lt_of_lt_of_le hm (by rw [e63]; exact Nat.pow_le_pow_right (by decide) (by omega))), Nat.testBit_lt_two_pow (x := 2 ^ 63 + m) (Nat.lt_of_lt_of_le (show 2 ^ 63 + m < 2 ^ 64 by omega) (Nat.pow_le_pow_right (by decide) (by omega)))]; rfl
  rcases Nat.lt_or_ge n 9223372036854775808 with h' | h'
  · rw [low n h']; omega
  · have e : n = 9223372036854775808 + (n - 9223372036854775808) := by omega
    have l := low (n - 9223372036854775808) (by omega)
    rw [e, ← l, Nat.xor_assoc, Nat.xor_self, Nat.xor_zero, l]
    omega
theorem xorTop_eq {n : Int} (h : (Lit.int .i64 n).wf = true) : xorTop n = n + 9223372036854775808 := by
  obtain ⟨h0, h1⟩ := wf64 h
  have hw : IntKind.u64.wrap n = n % 18446744073709551616 := by simp [IntKind.wrap, IntKind.bits, IntKind.signed]
  unfold xorTop
  rw [hw]
  show IntKind.u64.wrap ((BitVec.ofInt 64 (n % 18446744073709551616) ^^^ BitVec.ofInt 64 9223372036854775808).toNat : Int) = _
  have t2 : (BitVec.ofInt 64 9223372036854775808).toNat = 9223372036854775808 := by decide
  have t1 : (BitVec.ofInt 64 (n % 18446744073709551616)).toNat = (n % 18446744073709551616).toNat := by
    rw [BitVec.toNat_ofInt]; omega
  rw [BitVec.toNat_xor, t1, t2, xor_top (by omega)]
  simp [IntKind.wrap, IntKind.bits, IntKind.signed]
  omega
/-! a row's bytes -/
section
variable {l : List S43} (hl : l.length * 32 ≤ 140737488351232)
include hl
end
section
variable {l : List S43} (hl : l.length * 32 ≤ 140737488351232) (wf : ∀ x ∈ l, OkV x)
include hl wf
end
theorem live_ev : Ev (fun k => boscagelaw05_live.f k) true := ⟨80, fun k hk => at_rounds (fun k => boscagelaw05_live.mono k) hk (by decide +kernel)⟩
/-! the document's order of rows -/
theorem ref_Compare_ev (a b : S43) : Ev (fun k => boscageref01_Compare.f k a.f0 a.f1 a.f2 b.f0 b.f1 b.f2) (cmpV a b) := Ev.after 1 fun k => by
  unfold cmpV
  rw [bytes_cmp]
  have hc : a.f0 < b.f0 ∨ a.f0 = b.f0 ∨ b.f0 < a.f0 := by omega
  rcases hc with hc | hc | hc
  · simp [boscageref01_Compare.f, boscageref01_Compare.j0, hc]
  · have hd : a.f1 < b.f1 ∨ a.f1 = b.f1 ∨ b.f1 < a.f1 := by omega
    rcases hd with hd | hd | hd
    · simp [boscageref01_Compare.f, boscageref01_Compare.j0, hc, hd]
    · by_cases h1 : Op.bytesLess (bs a.f2) (bs b.f2) = true <;> by_cases h2 : bs a.f2 = bs b.f2 <;> simp_all [boscageref01_Compare.f, boscageref01_Compare.j0, boscageref01_Same.f, bs_toList, less_irrefl]
    · have : ¬ a.f1 < b.f1 := by omega
      have : ¬ a.f1 = b.f1 := by omega
      simp [boscageref01_Compare.f, boscageref01_Compare.j0, boscageref01_Same.f, hc, hd, *]
  · have : ¬ a.f0 < b.f0 := by omega
    have : ¬ a.f0 = b.f0 := by omega
    simp [boscageref01_Compare.f, boscageref01_Compare.j0, boscageref01_Same.f, hc, *]

def cmpL : List S43 → List S43 → Int
  | [], [] => 0
  | [], _ :: _ => -1
  | _ :: _, [] => 1
  | x :: l, y :: m => if cmpV x y = 0 then cmpL l m else cmpV x y
theorem rows_loop {a b : List S43} (ha : a.length * 32 ≤ 140737488351232) (hb : b.length * 32 ≤ 140737488351232) : ∀ (r s : List S43) (i : Nat), a.drop i = r → b.drop i = s → i ≤ a.length → i ≤ b.length →
    Ev (fun k => boscageref01_CompareRows.l0 k a b (a.length : Int) (i : Int)) (cmpL r s) := by
  intro r
  induction r with
  | nil =>
    intro s i h h' hi hi'
    have e := drop_len h hi
    have e' := drop_len h' hi'
    refine Ev.at1 ?_
    simp only [boscageref01_CompareRows.l0]
    refine Ev.neg (by simp at e; omega) ?_
    cases s with
    | nil => exact Ev.neg (by simp at e e'; omega) (Ev.now _)
    | cons d s => exact Ev.pos (by simp at e e'; omega) (Ev.now _)
  | cons c r ih =>
    intro s i h h' hi hi'
    have hlt := drop_lt h
    have hw := wrap_next h (by omega)
    refine Ev.at1 ?_
    simp only [boscageref01_CompareRows.l0]
    refine Ev.pos (by omega) ?_
    cases s with
    | nil =>
      have e' := drop_len h' hi'
      exact Ev.pos (by simp at e'; omega) (Ev.now _)
    | cons d s =>
      have hlt' := drop_lt h'
      refine Ev.neg (by omega) (Ev.pos (by omega) (Ev.pos (by omega) (Ev.pos (by omega) ?_)))
      rw [rd_drop h, rd_drop h', hw]
      refine Ev.bind (ref_Compare_ev c d) ?_
      rw [cmpL]
      by_cases hz : cmpV c d = 0
      · rw [if_pos hz]
        exact Ev.pos hz (ih s (i + 1) (drop_next h) (drop_next h') (by omega) (by omega))
      · rw [if_neg hz]
        exact Ev.neg hz (Ev.now _)
theorem rows_ev {a b : List S43} (ha : a.length * 32 ≤ 140737488351232) (hb : b.length * 32 ≤ 140737488351232) : Ev (fun k => boscageref01_CompareRows.f k a b) (cmpL a b) :=
  rows_loop ha hb a b 0 rfl rfl (Nat.zero_le _) (Nat.zero_le _)
/-! numbers of bytes -/
def valN : List Int → Int
  | [] => 0
  | c :: r => c * 256 ^ r.length + valN r
def inQ (l : List Int) : Prop := ∀ x ∈ l, 0 ≤ x ∧ x ≤ 255
theorem inQ_tail {c : Int} {r : List Int} (h : inQ (c :: r)) : inQ r := fun x hx => h x (List.mem_cons_of_mem _ hx)
theorem valN_lt : ∀ {l : List Int}, inQ l → 0 ≤ valN l ∧ valN l < 256 ^ l.length
  | [], _ => ⟨Int.le_refl 0, by decide⟩
  | c :: r, h => by
    obtain ⟨h0, h1⟩ := valN_lt (inQ_tail h)
    have hc := h c List.mem_cons_self
    have hp : (0 : Int) < 256 ^ r.length := Int.pow_pos (by decide)
    rw [valN, List.length_cons, Int.pow_succ]
    generalize (256 : Int) ^ r.length = p at *
    have m1 : 0 ≤ c * p := Int.mul_nonneg hc.1 (by omega)
    have m2 : c * p ≤ 255 * p := Int.mul_le_mul_of_nonneg_right hc.2 (by omega)
    exact ⟨by omega, by omega⟩
theorem fold_val : ∀ (l : List Int) (a : Int) (j : Nat), j + l.length ≤ 8 → 0 ≤ a → a < 256 ^ j → inQ l → l.foldl Rd.numStep a = a * 256 ^ l.length + valN l
  | [], a, j, _, _, _, _ => by simp [valN]
  | c :: r, a, j, h, h0, h1, hv => by
    rw [List.length_cons] at h
    have hc := hv c List.mem_cons_self
    obtain ⟨e, h2, h3⟩ := Rd.numStep_lt a c j (by omega) h0 h1 hc.1 hc.2
    rw [List.foldl_cons, fold_val r _ (j + 1) (by omega) h2 h3 (inQ_tail hv), e, valN, List.length_cons, Int.pow_succ, Int.add_mul, Int.mul_assoc, Int.mul_comm 256, Int.add_assoc]
theorem numS_val {l : List Int} (h : l.length ≤ 8) (hv : inQ l) : Rd.numS l = valN l := by
  have := fold_val l 0 0 (by omega) (by decide) (by decide) hv
  rw [Int.zero_mul, Int.zero_add] at this
  exact this
theorem be_val : ∀ {l : List Int}, inQ l → be l.length (valN l) = l
  | [], _ => rfl
  | c :: r, h => by
    have hc := h c List.mem_cons_self
    obtain ⟨h0, h1⟩ := valN_lt (inQ_tail h)
    have ih := be_val (inQ_tail h)
    have hp : (0 : Int) < 256 ^ r.length := Int.pow_pos (by decide)
    rw [List.length_cons, be, valN]
    have e1 : (c * 256 ^ r.length + valN r) / 256 ^ r.length = c := by
      rw [Int.add_comm, Int.add_mul_ediv_right _ _ (by omega), Int.ediv_eq_zero_of_lt h0 h1, Int.zero_add]
    have e2 : (c * 256 ^ r.length + valN r) % 256 ^ r.length = valN r := by
      rw [Int.add_comm, Int.add_mul_emod_self_right, Int.emod_eq_of_lt h0 h1]
    rw [e1, e2, ih]
theorem p8 : (256 : Int) ^ 8 = 18446744073709551616 := by decide
theorem p4 : (256 : Int) ^ 4 = 4294967296 := by decide
theorem u64_id {n : Int} (h0 : 0 ≤ n) (h1 : n < 18446744073709551616) : IntKind.u64.wrap n = n := by rw [IntKind.wrap_u64]; omega
theorem u64_of_i64 {n : Int} (h0 : 0 ≤ n) (h1 : n < 18446744073709551616) : IntKind.u64.wrap (wrap64 n) = n := by rw [IntKind.wrap_u64]; unfold wrap64; omega
theorem wrap64_in (n : Int) : (Lit.int .i64 (wrap64 n)).wf = true := by
  have : -9223372036854775808 ≤ wrap64 n ∧ wrap64 n ≤ 9223372036854775807 := by unfold wrap64; omega
  simp [Lit.wf, IntKind.min, IntKind.max, IntKind.bits, IntKind.signed]
  exact this
theorem wf_of {n : Int} (h0 : -9223372036854775808 ≤ n) (h1 : n ≤ 9223372036854775807) : (Lit.int .i64 n).wf = true := by
  simp [Lit.wf, IntKind.min, IntKind.max, IntKind.bits, IntKind.signed]
  exact ⟨h0, h1⟩
theorem xor_zero {n : Int} (h0 : 0 ≤ n) (h1 : n < 18446744073709551616) : Go.bits .xor .u64 n 0 = n := by
  show IntKind.u64.wrap ((BitVec.ofInt 64 n ^^^ BitVec.ofInt 64 0).toNat : Int) = _
  have t0 : (BitVec.ofInt 64 0).toNat = 0 := by decide
  have t1 : (BitVec.ofInt 64 n).toNat = n.toNat := by rw [BitVec.toNat_ofInt]; omega
  rw [BitVec.toNat_xor, t1, t0, Nat.xor_zero, IntKind.wrap_u64]
  omega
theorem xor_top' {n : Int} (h0 : 0 ≤ n) (h1 : n < 18446744073709551616) : Go.bits .xor .u64 n 9223372036854775808 = (n + 9223372036854775808) % 18446744073709551616 := by
  show IntKind.u64.wrap ((BitVec.ofInt 64 n ^^^ BitVec.ofInt 64 9223372036854775808).toNat : Int) = _
  have t2 : (BitVec.ofInt 64 9223372036854775808).toNat = 9223372036854775808 := by decide
  have t1 : (BitVec.ofInt 64 n).toNat = n.toNat := by rw [BitVec.toNat_ofInt]; omega
  rw [BitVec.toNat_xor, t1, t2, xor_top (by omega), IntKind.wrap_u64]
  omega
/-! bytes and texts -/
theorem nums_str {l : List Int} (h : inQ l) : numsOf (strOfNums l) = l := by
  unfold numsOf strOfNums
  simp only [List.map_map]
  conv => rhs; rw [← List.map_id l]
  apply List.map_congr_left
  intro x hx
  have := h x hx
  show (((UInt8.ofNat x.toNat).toNat : Nat) : Int) = x
  rw [UInt8.toNat_ofNat']
  omega
theorem str_size (l : List Int) : (strOfNums l).size = l.length := by
  unfold strOfNums
  simp [ByteArray.size]
/-! a value's bytes -/
theorem take_cons {α : Type} (c : α) (r : List α) (n : Nat) : (c :: r).take (n + 1) = c :: r.take n := rfl
theorem chk_v {v : Int × Int × List Int} (h : v.1 = 0 ∧ v.2.1 = 0 ∧ v.2.2 = [] ∨ v.1 = 1 ∧ (v.2.1 = 0 ∨ v.2.1 = 1) ∧ v.2.2 = [] ∨ v.1 = 2 ∧ v.2.2 = [] ∨ (v.1 = 3 ∨ v.1 = 4) ∧ v.2.1 = 0) : ok (vX v) = true := by
  have hn : bs (strOfNums []) = [] := rfl
  unfold ok vX
  rcases h with ⟨h1, h2, h3⟩ | ⟨h1, h2, h3⟩ | ⟨h1, h3⟩ | ⟨h1, h2⟩
  · simp [h1, h2, h3, hn]
  · rcases h2 with h2 | h2 <;> simp [h1, h2, h3, hn]
  · simp [h1, h3, hn]
  · rcases h1 with h1 | h1 <;> simp [h1, h2]
theorem rep_cons {c : Int} (h : c ≠ 0) (t : List Int) : repL (c :: t) = c :: repL t := by rw [repL, if_neg h]
theorem ended_inv : ∀ {r : List Int}, inQ r → ∀ {t : List Int} {n : Nat}, Rd.endedP r = some (t, n) → repL t ++ [0, 0] = r.take n ∧ n ≤ r.length ∧ inQ t ∧ t.length ≤ r.length
  | [], _, t, n, h => by simp [Rd.endedP] at h
  | [c], _, t, n, h => by simp [Rd.endedP] at h
  | c :: d :: r, hq, t, n, h => by
    rw [Rd.endedP] at h
    by_cases hc : c = 0
    · subst hc
      rw [if_neg (fun e => e rfl)] at h
      by_cases hd : d = 0
      · subst hd
        rw [if_pos rfl] at h
        simp only [Option.some.injEq, Prod.mk.injEq] at h
        obtain ⟨rfl, rfl⟩ := h
        exact ⟨rfl, by simp, (fun x hx => by cases hx), by simp⟩
      · rw [if_neg hd] at h
        by_cases h5 : d = 255
        · subst h5
          rw [if_pos rfl] at h
          obtain ⟨⟨t', n'⟩, h1, h2⟩ := Option.map_eq_some_iff.1 h
          simp only [Prod.mk.injEq] at h2
          obtain ⟨rfl, rfl⟩ := h2
          obtain ⟨i1, i2, i3, i4⟩ := ended_inv (inQ_tail (inQ_tail hq)) h1
          refine ⟨?_, by simp; omega, ?_, by simp; omega⟩
          · rw [repL, if_pos rfl]
            show 0 :: 255 :: (repL t' ++ [0, 0]) = _
            rw [i1]; rfl
          · intro x hx
            rcases List.mem_cons.1 hx with rfl | hx
            · exact ⟨by decide, by decide⟩
            · exact i3 x hx
        · rw [if_neg h5] at h; cases h
    · rw [if_pos hc] at h
      obtain ⟨⟨t', n'⟩, h1, h2⟩ := Option.map_eq_some_iff.1 h
      simp only [Prod.mk.injEq] at h2
      obtain ⟨rfl, rfl⟩ := h2
      obtain ⟨i1, i2, i3, i4⟩ := ended_inv (inQ_tail hq) h1
      refine ⟨?_, by simp at i2 ⊢; omega, ?_, by simp at i4 ⊢; omega⟩
      · rw [rep_cons hc]
        show c :: (repL t' ++ [0, 0]) = _
        rw [i1]; rfl
      · intro x hx
        rcases List.mem_cons.1 hx with rfl | hx
        · exact hq _ List.mem_cons_self
        · exact i3 x hx
/-- what is read as a value is that value's bytes -/
theorem val_inv {turned : Int} {tp : List Int → Option (List Int × Nat)} {pay : S43 → List Int} {r : List Int} (hq : inQ r) (hl : r.length ≤ 1000000000)
    (h1p : ∀ x : S43, x.f0 = 1 → pay x = [x.f1 % 256]) (h2p : ∀ l : List Int, inQ l → l.length = 8 → ∀ x : S43, x.f0 = 2 → x.f1 = wrap64 (Go.bits .xor .u64 (Rd.numS l) turned) → pay x = l)
    (h0p : ∀ x : S43, x.f0 = 0 → pay x = []) (h3p : ∀ (l t : List Int) (n : Nat), inQ l → l.length ≤ 1000000000 → tp l = some (t, n) → n ≤ l.length ∧ inQ t ∧ t.length ≤ l.length ∧ ∀ x : S43, (x.f0 = 3 ∨ x.f0 = 4) → x.f2 = strOfNums t → pay x = l.take n)
    {v : Int × Int × List Int} {n : Nat} (h : Rd.val1 turned tp r = some (v, n)) : ((vX v).f0 % 256) :: pay (vX v) = r.take n ∧ 1 ≤ n ∧ n ≤ r.length ∧ ok (vX v) = true ∧ OkV (vX v) := by
  cases r with
  | nil => cases h
  | cons c r =>
    have hq' := inQ_tail hq
    simp only [Rd.val1] at h
    have hl' : r.length ≤ 1000000000 := by simp at hl; omega
    by_cases c0 : c = 0
    · rw [if_pos c0] at h
      simp only [Option.some.injEq, Prod.mk.injEq] at h
      obtain ⟨rfl, rfl⟩ := h
      refine ⟨?_, Nat.le_refl _, by simp, chk_v (.inl ⟨rfl, rfl, rfl⟩), wf_of (by decide) (by decide), wf_of (by decide) (by decide), by show 0 ≤ _; omega⟩
      rw [h0p _ rfl, c0]; rfl
    · rw [if_neg c0] at h
      by_cases c1 : c = 1
      · rw [if_pos c1] at h
        cases r with
        | nil => cases h
        | cons d r =>
          have hd := hq' d List.mem_cons_self
          simp only at h
          split at h
          · rename_i hd1
            simp only [Option.some.injEq, Prod.mk.injEq] at h
            obtain ⟨rfl, rfl⟩ := h
            refine ⟨?_, by decide, by simp, chk_v (.inr (.inl ⟨rfl, by show d = 0 ∨ d = 1; omega, rfl⟩)), (show (Lit.int .i64 1).wf = true from wf_of (by decide) (by decide)), wf_of (by show _ ≤ d; omega) (by show d ≤ _; omega), by show 0 ≤ _; omega⟩
            rw [h1p _ rfl, c1]
            show 1 % 256 :: [d % 256] = [1, d]
            rw [show (1 : Int) % 256 = 1 from rfl, Int.emod_eq_of_lt hd.1 (by omega)]
          · cases h
      · rw [if_neg c1] at h
        by_cases c2 : c = 2
        · rw [if_pos c2] at h
          split at h
          · rename_i h8
            simp only [Option.some.injEq, Prod.mk.injEq] at h
            obtain ⟨rfl, rfl⟩ := h
            have q8 : inQ (r.take 8) := fun x hx => hq' x (List.mem_of_mem_take hx)
            refine ⟨?_, by decide, by simp; omega, chk_v (.inr (.inr (.inl ⟨rfl, rfl⟩))), (show (Lit.int .i64 2).wf = true from wf_of (by decide) (by decide)), wrap64_in _, by show 0 ≤ _; omega⟩
            rw [h2p (r.take 8) q8 (by rw [List.length_take]; omega) _ rfl rfl, c2]; rfl
          · cases h
        · rw [if_neg c2] at h
          by_cases c3 : c = 3 ∨ c = 4
          · rw [if_pos c3] at h
            obtain ⟨⟨t, m⟩, e1, e2⟩ := Option.map_eq_some_iff.1 h
            simp only [Prod.mk.injEq] at e2
            obtain ⟨rfl, rfl⟩ := e2
            obtain ⟨i1, i2, i3, i4⟩ := h3p r t m hq' hl' e1
            refine ⟨?_, by omega, by simp; omega, chk_v (.inr (.inr (.inr ⟨c3, rfl⟩))), wf_of (by show _ ≤ c; omega) (by show c ≤ _; omega), (show (Lit.int .i64 0).wf = true from wf_of (by decide) (by decide)), ?_⟩
            · rw [i4 _ c3 rfl, take_cons]
              show c % 256 :: _ = _
              rw [Int.emod_eq_of_lt (by omega) (by omega)]
            · show (strOfNums t).size ≤ _
              rw [str_size]; omega
          · rw [if_neg c3] at h; cases h
theorem key_inv {r : List Int} (hq : inQ r) (hl : r.length ≤ 1000000000) {v : Int × Int × List Int} {n : Nat} (h : Rd.val1 9223372036854775808 Rd.endedP r = some (v, n)) : keyV (vX v) = r.take n ∧ 1 ≤ n ∧ n ≤ r.length ∧ ok (vX v) = true ∧ OkV (vX v) := by
  refine val_inv (pay := payV) hq hl ?_ ?_ ?_ ?_ h
  · intro x h1; unfold payV; rw [if_pos h1]
  · intro l q8 l8 x h2 h3
    have hv := valN_lt q8
    rw [l8, p8] at hv
    unfold payV
    rw [if_neg (by omega), if_pos h2, h3, numS_val (by omega) q8, xor_top' hv.1 hv.2]
    have hx : xorTop (wrap64 ((valN l + 9223372036854775808) % 18446744073709551616)) = valN l := by
      rw [xorTop_eq (wrap64_in _)]
      unfold wrap64; omega
    rw [hx, laid_be hv.1 hv.2]
    have := be_val q8
    rwa [l8] at this
  · intro x h0; unfold payV; rw [if_neg (by omega), if_neg (by omega), if_neg (by omega)]
  · intro l t n hq hl h
    obtain ⟨i1, i2, i3, i4⟩ := ended_inv hq h
    refine ⟨i2, i3, i4, fun x h3 h4 => ?_⟩
    unfold payV
    rw [if_neg (by omega), if_neg (by omega), if_pos h3, h4, nums_str i3]
    exact i1
/-! rows -/
def decP : Nat → List Int → Option (List S43 × Nat)
  | 0, _ => some ([], 0)
  | n + 1, r => (Rd.val1 0 Rd.countedP r).bind fun p => (decP n (r.drop p.2)).map fun q => (vX p.1 :: q.1, p.2 + q.2)
def unkP : Nat → List Int → Option (List S43)
  | 0, _ => none
  | f + 1, r => if r = [] then some [] else (Rd.val1 9223372036854775808 Rd.endedP r).bind fun p => (unkP f (r.drop p.2)).map fun q => vX p.1 :: q
theorem inQ_drop {r : List Int} (h : inQ r) (n : Nat) : inQ (r.drop n) := fun x hx => h x (List.mem_of_mem_drop hx)
theorem decS_off {xs : List Int} {row : List S43} {at_ : Nat} : ∀ n, (decS xs n row (at_, false)).2.2 = false
  | 0 => rfl
  | n + 1 => by rw [decS, if_neg (show ¬ (false = true) by decide)]
theorem decS_bad {xs : List Int} {row : List S43} {s : Nat × Bool} (h : s.2 = false) (n : Nat) : (decS xs n row s).2.2 = false := by
  obtain ⟨a, b⟩ := s
  simp only at h
  subst h
  exact decS_off n
theorem dec_good {xs : List Int} (hv : inQ xs) : ∀ (n : Nat) (row : List S43) (at_ : Nat), at_ ≤ xs.length →
    Rd.Good xs at_ ((decP n (xs.drop at_)).map fun p => (row ++ p.1, p.2)) (decS xs n row (at_, true)) := by
  intro n
  induction n with
  | zero => intro row at_ h; exact ⟨by simp [decS], by simpa using h⟩
  | succ n ih =>
    intro row at_ h
    rw [decS, if_pos rfl, decP]
    have hg := Rd.value_good (turned := 0) hv (fun a ha => Rd.counted_good hv ha) h
    cases hp : Rd.val1 0 Rd.countedP (xs.drop at_) with
    | none =>
      rw [hp] at hg
      exact decS_bad hg n
    | some p =>
      obtain ⟨v, k⟩ := p
      rw [hp] at hg
      obtain ⟨g1, g2⟩ := hg
      rw [g1]
      have := ih (row ++ [vX v]) (at_ + k) g2
      simp only [Option.bind_some, Option.map_map, List.drop_drop]
      have h3 := Rd.good_map (k := k) (g := fun l => row ++ [vX v] ++ l) (at_ := at_) (o := decP n (xs.drop (at_ + k))) this
      have e : ((fun p : List S43 × Nat => (row ++ p.1, p.2)) ∘ fun q : List S43 × Nat => (vX v :: q.1, k + q.2)) = fun p => (row ++ [vX v] ++ p.1, p.2 + k) := by funext p; simp [Nat.add_comm]
      rw [e]
      exact h3
theorem unkS_off {xs : List Int} {row : List S43} {at_ : Nat} : ∀ n, (unkS xs n row (at_, false)).2.2 = false
  | 0 => rfl
  | n + 1 => by rw [unkS, if_neg (by rintro ⟨h, _⟩; cases h)]
theorem unkS_bad {xs : List Int} {row : List S43} {s : Nat × Bool} (h : s.2 = false) (n : Nat) : (unkS xs n row s).2.2 = false := by
  obtain ⟨a, b⟩ := s
  simp only at h
  subst h
  exact unkS_off n
theorem unk_good {xs : List Int} (hv : inQ xs) : ∀ (f : Nat) (row : List S43) (at_ : Nat), at_ ≤ xs.length → xs.length < at_ + f → xs.length ≤ 1000000000 →
    (match unkP f (xs.drop at_) with | some l => unkS xs f row (at_, true) = (row ++ l, (xs.length, true)) | none => (unkS xs f row (at_, true)).2.2 = false) := by
  intro f
  induction f with
  | zero => intro row at_ h h2; omega
  | succ f ih =>
    intro row at_ h h2 hl
    rw [unkS, unkP]
    by_cases hlt : at_ < xs.length
    · have hne : ¬ xs.drop at_ = [] := by
        intro e
        have := List.drop_eq_nil_iff.1 e
        omega
      rw [if_neg hne, if_pos ⟨rfl, hlt⟩]
      have hg := Rd.value_good (turned := 9223372036854775808) hv (fun a ha => by
        have := Rd.ended_good hv (xs.length + 2) [] a ha (by omega)
        simpa using this) h
      cases hp : Rd.val1 9223372036854775808 Rd.endedP (xs.drop at_) with
      | none =>
        rw [hp] at hg
        exact unkS_bad hg f
      | some p =>
        obtain ⟨v, k⟩ := p
        rw [hp] at hg
        obtain ⟨g1, g2⟩ := hg
        rw [g1]
        have hk := (key_inv (inQ_drop hv at_) (by rw [List.length_drop]; omega) hp).2.1
        have := ih (row ++ [vX v]) (at_ + k) g2 (by omega) hl
        simp only [Option.bind_some, List.drop_drop]
        cases hu : unkP f (xs.drop (at_ + k)) with
        | none => rw [hu] at this; exact this
        | some l =>
          rw [hu] at this
          simp only at this
          simp [this]
    · have he : xs.drop at_ = [] := List.drop_eq_nil_iff.2 (by omega)
      rw [if_pos he, if_neg (fun h => hlt h.2)]
      have : at_ = xs.length := by omega
      simp [this]
/-! what they are, off the bytes -/
/-! their bytes -/
/-! decoding, exactly -/
def dcd : List Int → List S43 × Int × Int
  | [] => ([], 0, 50)
  | c :: r => if c > 64 then ([], 0, 50) else match decP c.toNat r with | none => ([], 0, 50) | some (l, k) => (l, ((1 + k : Nat) : Int), 0)
theorem decR_eq {xs : List Int} (hv : inQ xs) : decR xs = dcd xs := by
  unfold decR
  cases xs with
  | nil =>
    rw [Rd.byteS_nil (xs := []) (at_ := 0) rfl]
    rfl
  | cons c r =>
    rw [Rd.byteS_cons (xs := c :: r) (at_ := 0) rfl, dcd]
    by_cases h : c > 64
    · rw [if_pos h, if_pos h]
      rfl
    · rw [if_neg h, if_neg h]
      have hg := dec_good hv c.toNat [] 1 (by simp)
      rw [show (c :: r).drop 1 = r from rfl] at hg
      cases hp : decP c.toNat r with
      | none =>
        rw [hp] at hg
        have hb : (decS (c :: r) c.toNat [] (1, true)).2.2 = false := hg
        simp only
        rw [show (0 + 1 : Nat) = 1 from rfl, hb, if_neg (by decide)]
      | some q =>
        obtain ⟨l, k⟩ := q
        rw [hp] at hg
        obtain ⟨g1, g2⟩ := hg
        simp only
        rw [show (0 + 1 : Nat) = 1 from rfl, g1]
        simp
def ukd (xs : List Int) : List S43 × Int := match unkP (xs.length + 1) xs with | none => ([], 50) | some l => if l.length ≤ 64 then (l, 0) else ([], 50)
theorem unkR_eq {xs : List Int} (hv : inQ xs) (hl : xs.length ≤ 1000000000) : unkR xs = ukd xs := by
  unfold unkR ukd
  have hg := unk_good hv (xs.length + 1) [] 0 (Nat.zero_le _) (by omega) hl
  rw [List.drop_zero] at hg
  cases hp : unkP (xs.length + 1) xs with
  | none =>
    rw [hp] at hg
    have hb : (unkS xs (xs.length + 1) [] (0, true)).2.2 = false := hg
    simp only
    rw [hb, if_neg (by simp)]
  | some l =>
    rw [hp] at hg
    have hb : unkS xs (xs.length + 1) [] (0, true) = ([] ++ l, (xs.length, true)) := hg
    rw [hb]
    simp
theorem cmpV_self (x : S43) : cmpV x x = 0 := by
  unfold cmpV
  rw [if_neg (by omega), if_neg (by omega), if_neg (by omega), if_neg (by omega), bytes_cmp, less_irrefl]
  simp
theorem cmpL_self : ∀ l : List S43, cmpL l l = 0
  | [] => rfl
  | x :: l => by rw [cmpL, if_pos (cmpV_self x), cmpL_self l]
theorem sameRow_ev {l : List S43} (h : l.length * 32 ≤ 140737488351232) : Ev (fun k => boscageref01_SameRow.f k l l) true := by
  unfold boscageref01_SameRow.f
  refine Ev.bind (rows_ev h h) (Ev.done ?_)
  rw [cmpL_self]; rfl
/-! the document's reader -/
theorem rd_cons {c : Int} {r l : List Int} {i : Nat} (h : l.drop i = c :: r) : rd l (i : Int) = c := by
  unfold rd
  rw [Int.toNat_natCast]
  exact Rd.getD_drop h
theorem or_low {a c : Int} (h0 : 0 ≤ a) (h1 : a < 72057594037927936) (hc0 : 0 ≤ c) (hc1 : c ≤ 255) : Go.bits .or .u64 (IntKind.u64.wrap (a * 256)) (IntKind.u64.wrap c) = a * 256 + c := by
  rw [u64_id (by omega) (by omega), u64_id hc0 (by omega)]
  show IntKind.u64.wrap ((BitVec.ofInt 64 (a * 256) ||| BitVec.ofInt 64 c).toNat : Int) = _
  have t1 : (BitVec.ofInt 64 (a * 256)).toNat = 2 ^ 8 * a.toNat := by rw [BitVec.toNat_ofInt]; omega
  have t2 : (BitVec.ofInt 64 c).toNat = c.toNat := by rw [BitVec.toNat_ofInt]; omega
  rw [BitVec.toNat_or, t1, t2, ← Nat.two_pow_add_eq_or_of_lt (by omega), IntKind.wrap_u64]
  omega
theorem back_loop {l : List Int} (hq : inQ l) (h8 : l.length ≤ 8) : ∀ (r : List Int) (i : Nat) (a : Int), l.drop i = r → i ≤ l.length → 0 ≤ a → a < 256 ^ i → Ev (fun k => boscageref05_back.l0 k a l (l.length : Int) (i : Int)) (r.foldl Rd.numStep a) := by
  intro r
  induction r with
  | nil =>
    intro i a h hi h0 h1
    have := List.drop_eq_nil_iff.1 h
    refine Ev.at1 ?_
    simp only [boscageref05_back.l0]
    exact Ev.neg (by omega) (Ev.now _)
  | cons c r ih =>
    intro i a h hi h0 h1
    have hlt := drop_lt h
    have hc := hq c (by have : c ∈ l.drop i := by rw [h]; exact List.mem_cons_self
                        exact List.mem_of_mem_drop this)
    obtain ⟨e, e1, e2⟩ := Rd.numStep_lt a c i (by omega) h0 h1 hc.1 hc.2
    have hp : (256 : Nat) ^ i ≤ 256 ^ 7 := Nat.pow_le_pow_right (by decide) (by omega)
    have h7 : (256 : Nat) ^ 7 = 72057594037927936 := by decide
    have hlt2 : a < 72057594037927936 := by
      rw [Rd.pow256] at h1
      omega
    refine Ev.at1 ?_
    simp only [boscageref05_back.l0]
    refine Ev.pos (by omega) (Ev.pos (by omega) (Ev.pos (by omega) ?_))
    rw [rd_cons h, or_low h0 hlt2 hc.1 hc.2, ← e, wrap_id (by omega) (by omega), List.foldl_cons]
    exact ih (i + 1) _ (drop_next h) (by omega) e1 e2
theorem back_ev {l : List Int} (hq : inQ l) (h8 : l.length ≤ 8) : Ev (fun k => boscageref05_back.f k l) (Rd.numS l) := back_loop hq h8 l 0 0 rfl (Nat.zero_le _) (by decide) (by decide)
def one1 (r : List Int) : Int × Int × ByteArray × Int := match Rd.val1 0 Rd.countedP r with | some (v, n) => (v.1, v.2.1, strOfNums v.2.2, (n : Int)) | none => (0, 0, ⟨#[]⟩, 0)
theorem one_text {r : List Int} (hq : inQ r) (hl : r.length ≤ 1000000000) {c : Int} {t : List Int} (hr : r = c :: t) (hc : c = 3 ∨ c = 4) : Ev (fun k => boscageref05_one.j0 k r true) (one1 r) := by
  subst hr
  have hq' := inQ_tail hq
  rw [List.length_cons] at hl
  refine Ev.at1 ?_
  simp only [boscageref05_one.j0]
  refine Ev.pos (by trivial) ?_
  have e1 : Rd.val1 0 Rd.countedP (c :: t) = (Rd.countedP t).map fun p => ((c, 0, p.1), p.2 + 1) := by
    simp only [Rd.val1]
    rw [if_neg (show ¬ c = 0 by omega), if_neg (show ¬ c = 1 by omega), if_neg (show ¬ c = 2 by omega), if_pos hc]
  by_cases h5 : ((c :: t).length : Int) < 5
  · refine Ev.pos h5 (Ev.done ?_)
    unfold one1 Rd.countedP at *
    rw [e1, if_neg (by rw [List.length_cons] at h5; omega)]; rfl
  · have h4 : 4 ≤ t.length := by rw [List.length_cons] at h5; omega
    have e4 : ((c :: t).take 5).drop 1 = t.take 4 := rfl
    have q4 : inQ (t.take 4) := fun x hx => hq' x (List.mem_of_mem_take hx)
    have l4 : (t.take 4).length = 4 := by rw [List.length_take]; omega
    have hn := Rd.numS_lt (t.take 4) (by omega) q4
    refine Ev.neg h5 (Ev.pos (by decide) (Ev.pos (by omega) ?_))
    rw [e4]
    refine Ev.bind (back_ev q4 (by omega)) ?_
    have hN : Rd.numS (t.take 4) < 4294967296 := by have := hn.2; rw [l4, p4] at this; exact this
    have hN0 := hn.1
    unfold one1 Rd.countedP at *
    rw [e1]
    generalize Rd.numS (t.take 4) = N at *
    obtain ⟨n, rfl⟩ : ∃ n : Nat, N = n := ⟨N.toNat, by omega⟩
    have w1 : wrap64 (((c :: t).length : Int) - 5) = (t.length : Int) - 4 := by rw [List.length_cons, wrap_id (by omega) (by omega)]; omega
    have w2 : IntKind.u64.wrap ((t.length : Int) - 4) = (t.length : Int) - 4 := u64_id (by omega) (by omega)
    have w3 : IntKind.u64.wrap (5 + (n : Int)) = 5 + (n : Int) := u64_id (by omega) (by omega)
    rw [w1, w2, w3]
    by_cases g1 : (n : Int) ≤ 2147483647
    · refine Ev.pos g1 ?_
      by_cases g2 : (n : Int) ≤ (t.length : Int) - 4
      · rw [if_pos (show 4 ≤ t.length ∧ (n : Int) ≤ 2147483647 ∧ (n : Int) ≤ (t.length : Int) - 4 from ⟨h4, g1, g2⟩)]
        refine Ev.pos g2 (Ev.pos (by simp) (Ev.pos (by omega) (Ev.pos (by rw [List.length_cons]; omega) (Ev.done ?_))))
        have hc0 : wrap64 (rd (c :: t) 0) = c := by
          show wrap64 c = c
          exact wrap_id (by omega) (by omega)
        have hcut : ((c :: t).take (5 + (n : Int)).toNat).drop 5 = (t.drop 4).take n := by
          have : (5 + (n : Int)).toNat = (4 + n) + 1 := by omega
          rw [this, List.take_succ_cons]
          show (t.take (4 + n)).drop 4 = _
          rw [List.drop_take]; congr 1; omega
        rw [hc0, hcut, Int.toNat_natCast, wrap_id (n := (n : Int)) (by omega) (by omega), wrap_id (n := 5 + (n : Int)) (by omega) (by omega)]
        simp only [Option.map_some, Prod.mk.injEq, true_and]
        omega
      · rw [if_neg (show ¬ (4 ≤ t.length ∧ (n : Int) ≤ 2147483647 ∧ (n : Int) ≤ (t.length : Int) - 4) from fun h => g2 h.2.2)]
        exact Ev.neg g2 (Ev.done rfl)
    · rw [if_neg (show ¬ (4 ≤ t.length ∧ (n : Int) ≤ 2147483647 ∧ (n : Int) ≤ (t.length : Int) - 4) from fun h => g1 h.2.1)]
      exact Ev.neg g1 (Ev.done rfl)
theorem one_ev {r : List Int} (hq : inQ r) (hl : r.length ≤ 1000000000) : Ev (fun k => boscageref05_one.f k r) (one1 r) := by
  unfold boscageref05_one.f
  cases r with
  | nil => exact Ev.pos rfl (Ev.done rfl)
  | cons c t =>
    have hq' := inQ_tail hq
    have hc := hq c List.mem_cons_self
    have hl' : t.length + 1 ≤ 1000000000 := by simpa using hl
    have hw : wrap64 (rd (c :: t) 0) = c := by
      show wrap64 c = c
      exact wrap_id (by omega) (by omega)
    refine Ev.neg (by simp; omega) (Ev.pos (by simp) ?_)
    rw [hw]
    by_cases c0 : c = 0
    · refine Ev.pos c0 (Ev.done ?_)
      unfold one1
      simp only [Rd.val1]
      rw [if_pos c0]; rfl
    · refine Ev.neg c0 ?_
      by_cases c1 : c = 1
      · refine Ev.pos c1 ?_
        have e1 : Rd.val1 0 Rd.countedP (c :: t) = (match (generalizing := false) t with | [] => none | d :: _ => if d ≤ 1 then some ((1, d, []), 2) else none) := by
          simp only [Rd.val1]
          rw [if_neg c0, if_pos c1]
          cases t <;> rfl
        unfold one1
        rw [e1]
        cases t with
        | nil => exact Ev.neg (by simp) (Ev.done rfl)
        | cons d t =>
          have hd := hq' d List.mem_cons_self
          refine Ev.pos (by simp; omega) (Ev.pos (by simp; omega) ?_)
          have hr : rd (c :: d :: t) 1 = d := rfl
          rw [hr]
          by_cases hd2 : d < 2
          · refine Ev.pos hd2 ?_
            simp only
            rw [if_pos (by omega)]
            by_cases hd1 : d = 1
            · subst hd1; exact Ev.done rfl
            · have : d = 0 := by omega
              subst this; exact Ev.done rfl
          · refine Ev.neg hd2 (Ev.done ?_)
            simp only
            rw [if_neg (by omega)]
      · refine Ev.neg c1 ?_
        by_cases c2 : c = 2
        · refine Ev.pos c2 ?_
          have e1 : Rd.val1 0 Rd.countedP (c :: t) = if 8 ≤ t.length then some ((2, wrap64 (Go.bits .xor .u64 (Rd.numS (t.take 8)) 0), []), 9) else none := by
            simp only [Rd.val1]
            rw [if_neg c0, if_neg c1, if_pos c2]
          unfold one1
          rw [e1]
          by_cases h8 : 8 ≤ t.length
          · have e8 : ((c :: t).take 9).drop 1 = t.take 8 := rfl
            have q8 : inQ (t.take 8) := fun x hx => hq' x (List.mem_of_mem_take hx)
            have l8 : (t.take 8).length = 8 := by rw [List.length_take]; omega
            have hn := Rd.numS_lt (t.take 8) (by omega) q8
            rw [l8, p8] at hn
            refine Ev.pos (by rw [List.length_cons]; omega) (Ev.pos (by decide) (Ev.pos (by rw [List.length_cons]; omega) ?_))
            rw [e8, if_pos h8, xor_zero hn.1 hn.2]
            exact Ev.bind (back_ev q8 (by omega)) (Ev.done rfl)
          · rw [if_neg h8]
            exact Ev.neg (by rw [List.length_cons]; omega) (Ev.done rfl)
        · refine Ev.neg c2 ?_
          by_cases c3 : c = 3
          · refine Ev.pos c3 ?_
            have : (c == 3) = true := by simpa using c3
            rw [this]
            exact one_text hq hl rfl (.inl c3)
          · refine Ev.neg c3 ?_
            by_cases c4 : c = 4
            · have : (c == 4) = true := by simpa using c4
              rw [this]
              exact one_text hq hl rfl (.inr c4)
            · have : (c == 4) = false := by simpa using c4
              rw [this]
              refine Ev.at1 ?_
              simp only [boscageref05_one.j0]
              refine Ev.neg (by decide) (Ev.done ?_)
              unfold one1
              simp only [Rd.val1]
              rw [if_neg c0, if_neg c1, if_neg c2, if_neg (by omega)]
theorem val1_le {turned : Int} {tp : List Int → Option (List Int × Nat)} (htp : ∀ l t n, tp l = some (t, n) → n ≤ l.length) {r : List Int} {v : Int × Int × List Int} {n : Nat} (h : Rd.val1 turned tp r = some (v, n)) : 1 ≤ n ∧ n ≤ r.length := by
  cases r with
  | nil => cases h
  | cons c r =>
    simp only [Rd.val1] at h
    split at h
    · injection h with h; injection h with _ h; subst h; simp
    · split at h
      · cases r with
        | nil => cases h
        | cons d r =>
          simp only at h
          split at h
          · injection h with h; injection h with _ h; subst h; simp
          · cases h
      · split at h
        · split at h
          · injection h with h; injection h with _ h; subst h; simp; omega
          · cases h
        · split at h
          · obtain ⟨⟨t, m⟩, e1, e2⟩ := Option.map_eq_some_iff.1 h
            simp only [Prod.mk.injEq] at e2
            obtain ⟨_, rfl⟩ := e2
            have := htp _ _ _ e1
            simp; omega
          · cases h
theorem counted_le (l t : List Int) (n : Nat) (h : Rd.countedP l = some (t, n)) : n ≤ l.length := by
  unfold Rd.countedP at h
  split at h
  · rename_i hc
    injection h with h; injection h with _ h; subst h
    omega
  · cases h
theorem dec_loop {xs : List Int} (hq : inQ xs) (hl : xs.length ≤ 1000000) (c : Nat) (hc : c ≤ 64) : ∀ (m i at_ : Nat) (row : List S43), i + m = c → at_ ≤ xs.length → row.length ≤ i →
    Ev (fun k => boscageref05_Decode.l0 k xs row (at_ : Int) (c : Int) (i : Int)) (match decP m (xs.drop at_) with | none => ([], 0, 50) | some (l, k) => (row ++ l, ((at_ + k : Nat) : Int), 0)) := by
  intro m
  induction m with
  | zero =>
    intro i at_ row hi ha hr
    refine Ev.at1 ?_
    simp only [boscageref05_Decode.l0]
    refine Ev.neg (by omega) (Ev.done ?_)
    simp [decP]
  | succ m ih =>
    intro i at_ row hi ha hr
    have hdl : (xs.drop at_).length = xs.length - at_ := List.length_drop ..
    refine Ev.at1 ?_
    simp only [boscageref05_Decode.l0]
    refine Ev.pos (by omega) (Ev.pos (by omega) (Ev.pos (by omega) ?_))
    rw [Int.toNat_natCast]
    refine Ev.bind (one_ev (inQ_drop hq at_) (by omega)) ?_
    rw [decP]
    cases hv : Rd.val1 0 Rd.countedP (xs.drop at_) with
    | none =>
      have e : one1 (xs.drop at_) = (0, 0, ⟨#[]⟩, 0) := by unfold one1; rw [hv]
      rw [e]
      exact Ev.pos rfl (Ev.done rfl)
    | some p =>
      obtain ⟨v, n⟩ := p
      obtain ⟨n1, n2⟩ := val1_le counted_le hv
      have e : one1 (xs.drop at_) = (v.1, v.2.1, strOfNums v.2.2, (n : Int)) := by unfold one1; rw [hv]
      rw [e]
      refine Ev.neg (by show ¬ ((n : Int) = 0); omega) (Ev.pos (by omega) ?_)
      have w1 : wrap64 ((at_ : Int) + (n : Int)) = ((at_ + n : Nat) : Int) := by rw [wrap_id (by omega) (by omega)]; rfl
      have w2 : wrap64 ((i : Int) + 1) = ((i + 1 : Nat) : Int) := by rw [wrap_id (by omega) (by omega)]; rfl
      rw [w1, w2]
      refine Ev.eq (ih (i + 1) (at_ + n) _ (by omega) (by omega) (by simp; omega)) ?_
      simp only [Option.bind_some, List.drop_drop]
      cases decP m (xs.drop (at_ + n)) with
      | none => rfl
      | some q =>
        simp only [Option.map_some]
        rw [show at_ + n + q.2 = at_ + (n + q.2) by omega]
        simp [vX]
theorem refDecode_ev {xs : List Int} (hq : inQ xs) (hl : xs.length ≤ 1000000) : Ev (fun k => boscageref05_Decode.f k xs) (dcd xs) := by
  unfold boscageref05_Decode.f
  cases xs with
  | nil =>
    refine Ev.pos rfl (Ev.at1 ?_)
    simp only [boscageref05_Decode.j0]
    exact Ev.pos (by trivial) (Ev.done rfl)
  | cons c r =>
    have hc := hq c List.mem_cons_self
    have hr : rd (c :: r) 0 = c := rfl
    refine Ev.neg (by simp; omega) (Ev.pos (by simp) ?_)
    rw [hr, dcd]
    by_cases h : c > 64
    · rw [if_pos h, decide_eq_true h]
      refine Ev.at1 ?_
      simp only [boscageref05_Decode.j0]
      exact Ev.pos (by trivial) (Ev.now _)
    · rw [if_neg h, decide_eq_false h]
      refine Ev.at1 ?_
      simp only [boscageref05_Decode.j0]
      refine Ev.neg (by decide) (Ev.pos (by simp) ?_)
      rw [hr]
      obtain ⟨n, rfl⟩ : ∃ n : Nat, c = n := ⟨c.toNat, by omega⟩
      rw [wrap_id (by omega) (by omega), Int.toNat_natCast]
      refine Ev.eq (dec_loop hq hl n (by omega) n 0 1 [] (by omega) (by simp) (Nat.le_refl _)) ?_
      show (match decP n r with | none => _ | some (l, k) => _) = _
      cases decP n r with
      | none => rfl
      | some q => simp
theorem ended_le : ∀ (l t : List Int) (n : Nat), Rd.endedP l = some (t, n) → n ≤ l.length
  | [], t, n, h => by cases h
  | [c], t, n, h => by cases h
  | c :: d :: r, t, n, h => by
    rw [Rd.endedP] at h
    split at h
    · obtain ⟨⟨t', m⟩, e1, e2⟩ := Option.map_eq_some_iff.1 h
      simp only [Prod.mk.injEq] at e2
      obtain ⟨_, rfl⟩ := e2
      have := ended_le (d :: r) t' m e1
      simp at this ⊢; omega
    · split at h
      · injection h with h; injection h with _ h; subst h; simp
      · split at h
        · obtain ⟨⟨t', m⟩, e1, e2⟩ := Option.map_eq_some_iff.1 h
          simp only [Prod.mk.injEq] at e2
          obtain ⟨_, rfl⟩ := e2
          have := ended_le r t' m e1
          simp; omega
        · cases h
theorem text_loop {xs : List Int} (hl : xs.length ≤ 1000000) : ∀ (d i : Nat) (acc : List Int), xs.length ≤ i + d → acc.length ≤ i → i ≤ xs.length + 1 →
    Ev (fun k => boscageref05_text.l0 k xs acc (i : Int)) (match Rd.endedP (xs.drop i) with | none => (⟨#[]⟩, 0) | some (t, n) => (strOfNums (acc ++ t), ((i + n : Nat) : Int))) := by
  intro d
  induction d using Nat.strongRecOn with
  | ind d ih =>
    intro i acc hi ha hi2
    refine Ev.at1 ?_
    simp only [boscageref05_text.l0]
    cases hr : xs.drop i with
    | nil =>
      have := List.drop_eq_nil_iff.1 hr
      refine Ev.neg ?_ (Ev.done rfl)
      intro h
      rw [wrap_id (by omega) (by omega)] at h; omega
    | cons c r =>
      have hlt := drop_lt hr
      have w1 : wrap64 ((i : Int) + 1) = ((i + 1 : Nat) : Int) := by rw [wrap_id (by omega) (by omega)]; rfl
      have w2 : wrap64 ((i : Int) + 2) = ((i + 2 : Nat) : Int) := by rw [wrap_id (by omega) (by omega)]; rfl
      have w3 : wrap64 (((i + 1 : Nat) : Int) + 1) = ((i + 2 : Nat) : Int) := by rw [wrap_id (by omega) (by omega)]; omega
      have hn := drop_next hr
      rw [w1, w2, w3, rd_cons hr]
      cases r with
      | nil =>
        have hl1 : xs.length = i + 1 := by have := drop_len hr (by omega); simpa using this
        refine Ev.neg (by omega) (Ev.done rfl)
      | cons e r =>
        have hlt2 := drop_lt hn
        rw [rd_cons hn]
        refine Ev.pos (by omega) (Ev.pos (by omega) (Ev.pos (by omega) ?_))
        rw [Rd.endedP]
        by_cases c0 : c = 0
        · rw [if_neg (fun h => h c0)]
          refine Ev.pos c0 (Ev.pos (by omega) ?_)
          by_cases e0 : e = 0
          · rw [if_pos e0]
            exact Ev.pos e0 (Ev.done (by simp))
          · rw [if_neg e0]
            refine Ev.neg e0 ?_
            by_cases e5 : e = 255
            · rw [if_pos e5]
              refine Ev.pos e5 (Ev.pos (by omega) (Ev.eq (ih (d - 2) (by omega) (i + 2) _ (by omega) (by simp; omega) (by omega)) ?_))
              have hn2 := drop_next hn
              rw [hn2]
              cases Rd.endedP r with
              | none => rfl
              | some q =>
                simp only [Option.map_some]
                rw [show i + 2 + q.2 = i + (q.2 + 2) by omega]
                simp
            · rw [if_neg e5]
              exact Ev.neg e5 (Ev.done rfl)
        · rw [if_pos c0]
          refine Ev.neg c0 (Ev.pos (by omega) (Ev.eq (ih (d - 1) (by omega) (i + 1) _ (by omega) (by simp; omega) (by omega)) ?_))
          rw [hn]
          cases Rd.endedP (e :: r) with
          | none => rfl
          | some q =>
            simp only [Option.map_some]
            rw [show i + 1 + q.2 = i + (q.2 + 1) by omega]
            simp
theorem text_ev {xs : List Int} (hl : xs.length ≤ 1000000) : Ev (fun k => boscageref05_text.f k xs) (match Rd.endedP xs with | none => (⟨#[]⟩, 0) | some (t, n) => (strOfNums t, (n : Int))) := by
  refine Ev.eq (text_loop hl xs.length 0 [] (by omega) (Nat.le_refl _) (by omega)) ?_
  rw [List.drop_zero]
  cases Rd.endedP xs with
  | none => rfl
  | some q => simp
/-- what the document answers behind a value -/
def nextU (r : List Int) (row : List S43) : List S43 × Int := match unkP (r.length + 1) r with | none => ([], 50) | some l => if row.length + l.length ≤ 64 then (row ++ l, 0) else ([], 50)
theorem unkP_more : ∀ (f g : Nat) (r : List Int), r.length < f → r.length < g → unkP f r = unkP g r
  | 0, g, r, h, _ => by omega
  | f + 1, 0, r, _, h => by omega
  | f + 1, g + 1, r, h1, h2 => by
    rw [unkP, unkP]
    by_cases hr : r = []
    · rw [if_pos hr, if_pos hr]
    · rw [if_neg hr, if_neg hr]
      cases hv : Rd.val1 9223372036854775808 Rd.endedP r with
      | none => rfl
      | some p =>
        obtain ⟨v, n⟩ := p
        obtain ⟨n1, n2⟩ := val1_le ended_le hv
        simp only [Option.bind_some]
        rw [unkP_more f g (r.drop n) (by rw [List.length_drop]; omega) (by rw [List.length_drop]; omega)]
theorem next_step {r : List Int} (hr : r ≠ []) (row : List S43) : nextU r row = match Rd.val1 9223372036854775808 Rd.endedP r with | none => ([], 50) | some (v, n) => nextU (r.drop n) (row ++ [vX v]) := by
  unfold nextU
  rw [unkP, if_neg hr]
  cases hv : Rd.val1 9223372036854775808 Rd.endedP r with
  | none => rfl
  | some p =>
    obtain ⟨v, n⟩ := p
    obtain ⟨n1, n2⟩ := val1_le ended_le hv
    simp only [Option.bind_some]
    rw [unkP_more r.length ((r.drop n).length + 1) (r.drop n) (by rw [List.length_drop]; omega) (by omega)]
    cases unkP ((r.drop n).length + 1) (r.drop n) with
    | none => rfl
    | some l => simp [Nat.add_comm, Nat.add_left_comm]
theorem unkey_loop : ∀ (d : Nat) (r : List Int) (row : List S43), r.length ≤ d → inQ r → row.length + r.length ≤ 1000000 → Ev (fun k => boscageref05_Unkey.l0 k r row) (nextU r row) := by
  intro d
  induction d using Nat.strongRecOn with
  | ind d ih =>
    intro r row hd hq hl
    refine Ev.at1 ?_
    simp only [boscageref05_Unkey.l0]
    cases r with
    | nil =>
      refine Ev.neg (by simp) ?_
      unfold nextU
      rw [unkP, if_pos rfl]
      by_cases h : (row.length : Int) > 64
      · refine Ev.pos h (Ev.done ?_)
        simp only [List.length_nil, Nat.add_zero]
        rw [if_neg (by omega)]
      · refine Ev.neg h (Ev.done ?_)
        simp only [List.length_nil, Nat.add_zero]
        rw [if_pos (by omega)]; simp
    | cons c t =>
      have hc := hq c List.mem_cons_self
      have hq' := inQ_tail hq
      have hlt : t.length + 1 ≤ d := by simpa using hd
      have hl' : row.length + (t.length + 1) ≤ 1000000 := by simpa using hl
      have hw : wrap64 (rd (c :: t) 0) = c := by
        show wrap64 c = c
        exact wrap_id (by omega) (by omega)
      refine Ev.pos (by simp) (Ev.pos (by simp) ?_)
      rw [hw, next_step (by simp)]
      -- a value that 'one' reads
      have step : ∀ (v : Int × Int × List Int) (n : Nat) (x : S43), Rd.val1 9223372036854775808 Rd.endedP (c :: t) = some (v, n) → x = vX v → Ev (fun k => if row.length < 4398046511104 then (if 0 ≤ (n : Int) then (if (n : Int) ≤ ((c :: t).length : Int) then (boscageref05_Unkey.l0 k ((c :: t).drop ((n : Int)).toNat) (row ++ [x])) else none) else none) else none) (nextU ((c :: t).drop n) (row ++ [vX v])) := by
        intro v n x hv hx
        obtain ⟨n1, n2⟩ := val1_le ended_le hv
        have hdl : ((c :: t).drop n).length = (c :: t).length - n := List.length_drop ..
        rw [List.length_cons] at n2 hdl
        refine Ev.pos (by omega) (Ev.pos (by omega) (Ev.pos (by rw [List.length_cons]; omega) ?_))
        rw [Int.toNat_natCast, hx]
        exact ih (d - n) (by omega) _ _ (by omega) (inQ_drop hq n) (by simp only [List.length_append, List.length_cons, List.length_nil]; omega)
      have hone := one_ev hq (by rw [List.length_cons]; omega)
      by_cases c01 : c = 0 ∨ c = 1
      · -- null, bool
        have same : Rd.val1 9223372036854775808 Rd.endedP (c :: t) = Rd.val1 0 Rd.countedP (c :: t) := by
          simp only [Rd.val1]
          rcases c01 with rfl | rfl <;> simp
        have main : Ev (fun k => boscageref05_Unkey.j1 k (c :: t) row 0 c true 0 0 ⟨#[]⟩) (match Rd.val1 9223372036854775808 Rd.endedP (c :: t) with | none => ([], 50) | some (v, n) => nextU ((c :: t).drop n) (row ++ [vX v])) := by
          refine Ev.at1 ?_
          simp only [boscageref05_Unkey.j1]
          refine Ev.pos (by trivial) (Ev.bind hone ?_)
          rw [same]
          cases hv : Rd.val1 0 Rd.countedP (c :: t) with
          | none =>
            have e : one1 (c :: t) = (0, 0, ⟨#[]⟩, 0) := by unfold one1; rw [hv]
            rw [e]
            exact Ev.pos rfl (Ev.done rfl)
          | some p =>
            obtain ⟨v, n⟩ := p
            have e : one1 (c :: t) = (v.1, v.2.1, strOfNums v.2.2, (n : Int)) := by unfold one1; rw [hv]
            have n1 := (val1_le counted_le hv).1
            rw [e]
            refine Ev.neg (by show ¬ ((n : Int) = 0); omega) ?_
            exact step v n _ (by rw [same, hv]) rfl
        rcases c01 with c0 | c1
        · have : (c == 0) = true := by simpa using c0
          rw [this]
          exact Ev.pos c0 main
        · have : (c == 1) = true := by simpa using c1
          rw [this]
          exact Ev.neg (by omega) main
      · have b1 : (c == 1) = false := by simpa using fun h => c01 (.inr h)
        refine Ev.neg (fun h => c01 (.inl h)) ?_
        rw [b1]
        refine Ev.at1 ?_
        simp only [boscageref05_Unkey.j1]
        refine Ev.neg (by decide) ?_
        by_cases c2 : c = 2
        · refine Ev.pos c2 (Ev.bind hone ?_)
          have e1 : Rd.val1 0 Rd.countedP (c :: t) = if 8 ≤ t.length then some ((2, wrap64 (Go.bits .xor .u64 (Rd.numS (t.take 8)) 0), []), 9) else none := by
            simp only [Rd.val1]
            rw [if_neg (by omega), if_neg (by omega), if_pos c2]
          have e2 : Rd.val1 9223372036854775808 Rd.endedP (c :: t) = if 8 ≤ t.length then some ((2, wrap64 (Go.bits .xor .u64 (Rd.numS (t.take 8)) 9223372036854775808), []), 9) else none := by
            simp only [Rd.val1]
            rw [if_neg (by omega), if_neg (by omega), if_pos c2]
          by_cases h8 : 8 ≤ t.length
          · have q8 : inQ (t.take 8) := fun x hx => hq' x (List.mem_of_mem_take hx)
            have l8 : (t.take 8).length = 8 := by rw [List.length_take]; omega
            have hn := Rd.numS_lt (t.take 8) (by omega) q8
            rw [l8, p8] at hn
            have st := step (2, wrap64 (Go.bits .xor .u64 (Rd.numS (t.take 8)) 9223372036854775808), []) 9
            rw [e2, if_pos h8]
            have e : one1 (c :: t) = (2, wrap64 (Rd.numS (t.take 8)), strOfNums [], 9) := by unfold one1; rw [e1, if_pos h8, xor_zero hn.1 hn.2]; rfl
            rw [e]
            refine Ev.neg (show ¬ ((9 : Int) = 0) by decide) ?_
            simp only
            rw [u64_of_i64 hn.1 hn.2]
            exact st _ (by rw [e2, if_pos h8]) rfl
          · rw [e2, if_neg h8]
            have e : one1 (c :: t) = (0, 0, ⟨#[]⟩, 0) := by unfold one1; rw [e1, if_neg h8]
            rw [e]
            exact Ev.pos rfl (Ev.done rfl)
        · refine Ev.neg c2 ?_
          have text : c = 3 ∨ c = 4 → Ev (fun k => boscageref05_Unkey.j2 k (c :: t) row 0 true 0 0 ⟨#[]⟩) (match Rd.val1 9223372036854775808 Rd.endedP (c :: t) with | none => ([], 50) | some (v, n) => nextU ((c :: t).drop n) (row ++ [vX v])) := by
            intro c34
            have e2 : Rd.val1 9223372036854775808 Rd.endedP (c :: t) = (Rd.endedP t).map fun p => ((c, 0, p.1), p.2 + 1) := by
              simp only [Rd.val1]
              rw [if_neg (by omega), if_neg (by omega), if_neg c2, if_pos c34]
            refine Ev.at1 ?_
            simp only [boscageref05_Unkey.j2]
            refine Ev.pos (by trivial) (Ev.pos (by simp; omega) ?_)
            show Ev (fun k => (boscageref05_text.f k t).bind _) _
            refine Ev.bind (text_ev (by omega)) ?_
            cases hp : Rd.endedP t with
            | none =>
              rw [e2, hp]
              exact Ev.neg (by simp) (Ev.pos (by trivial) (Ev.done rfl))
            | some p =>
              obtain ⟨s, m⟩ := p
              have hm := ended_le t s m hp
              have hm2 : 1 ≤ m := by
                cases t with
                | nil => cases hp
                | cons d t =>
                  cases t with
                  | nil => cases hp
                  | cons e t =>
                    rw [Rd.endedP] at hp
                    split at hp
                    · obtain ⟨⟨t', m'⟩, _, e2'⟩ := Option.map_eq_some_iff.1 hp
                      simp only [Prod.mk.injEq] at e2'
                      omega
                    · split at hp
                      · injection hp with hp; injection hp with _ hp; omega
                      · split at hp
                        · obtain ⟨⟨t', m'⟩, _, e2'⟩ := Option.map_eq_some_iff.1 hp
                          simp only [Prod.mk.injEq] at e2'
                          omega
                        · cases hp
              have st := step (c, 0, s) (m + 1)
              have hv2 : Rd.val1 9223372036854775808 Rd.endedP (c :: t) = some ((c, 0, s), m + 1) := by rw [e2, hp]; rfl
              rw [hv2]
              have w1 : wrap64 ((m : Int) + 1) = ((m + 1 : Nat) : Int) := by rw [wrap_id (by omega) (by omega)]; rfl
              refine Ev.pos (by show (m : Int) > 0; omega) (Ev.pos (by simp) ?_)
              simp only
              rw [w1]
              refine Ev.neg (by omega) ?_
              exact st _ hv2 (by rw [hw]; rfl)
          by_cases c3 : c = 3
          · have : (c == 3) = true := by simpa using c3
            rw [this]
            exact Ev.pos c3 (text (.inl c3))
          · refine Ev.neg c3 ?_
            by_cases c4 : c = 4
            · have : (c == 4) = true := by simpa using c4
              rw [this]
              exact text (.inr c4)
            · have : (c == 4) = false := by simpa using c4
              rw [this]
              refine Ev.at1 ?_
              simp only [boscageref05_Unkey.j2]
              refine Ev.neg (by decide) (Ev.pos (by trivial) (Ev.done ?_))
              simp only [Rd.val1]
              rw [if_neg (by omega), if_neg (by omega), if_neg c2, if_neg (by omega)]
theorem refUnkey_ev {xs : List Int} (hq : inQ xs) (hl : xs.length ≤ 1000000) : Ev (fun k => boscageref05_Unkey.f k xs) (ukd xs) := by
  refine Ev.eq (unkey_loop xs.length xs [] (Nat.le_refl _) hq (by simpa using hl)) ?_
  unfold nextU ukd
  cases unkP (xs.length + 1) xs with
  | none => rfl
  | some l => simp
/-! hashes -/
def hstep (h c : Int) : Int := IntKind.u64.wrap ((Go.bits .xor .u64 h (IntKind.u64.wrap c)) * 1099511628211)
theorem hash_loop {xs : List Int} (hx : xs.length ≤ 140737488355328) : ∀ (r : List Int) (i : Nat) (h : Int), xs.drop i = r → Ev (fun k => code_Hash.l0 k h xs (xs.length : Int) (i : Int)) (r.foldl hstep h) := by
  intro r
  induction r with
  | nil =>
    intro i h e
    have := List.drop_eq_nil_iff.1 e
    refine Ev.at1 ?_
    simp only [code_Hash.l0]
    exact Ev.neg (by omega) (Ev.now _)
  | cons c r ih =>
    intro i h e
    have hlt := drop_lt e
    refine Ev.at1 ?_
    simp only [code_Hash.l0]
    refine Ev.pos (by omega) (Ev.pos (by omega) (Ev.pos (by omega) ?_))
    rw [rd_cons e, wrap_id (by omega) (by omega), List.foldl_cons]
    exact ih (i + 1) _ (drop_next e)
theorem refHash_loop {xs : List Int} (hx : xs.length ≤ 140737488355328) : ∀ (r : List Int) (i : Nat) (h : Int), xs.drop i = r → Ev (fun k => boscageref05_Hash.l0 k h xs (xs.length : Int) (i : Int)) (r.foldl hstep h) := by
  intro r
  induction r with
  | nil =>
    intro i h e
    have := List.drop_eq_nil_iff.1 e
    refine Ev.at1 ?_
    simp only [boscageref05_Hash.l0]
    exact Ev.neg (by omega) (Ev.now _)
  | cons c r ih =>
    intro i h e
    have hlt := drop_lt e
    refine Ev.at1 ?_
    simp only [boscageref05_Hash.l0]
    refine Ev.pos (by omega) (Ev.pos (by omega) (Ev.pos (by omega) ?_))
    rw [rd_cons e, wrap_id (by omega) (by omega), List.foldl_cons]
    exact ih (i + 1) _ (drop_next e)
theorem decP_len : ∀ (n : Nat) (r : List Int) (l : List S43) (k : Nat), decP n r = some (l, k) → l.length = n
  | 0, r, l, k, h => by
    simp only [decP, Option.some.injEq, Prod.mk.injEq] at h
    rw [← h.1]; rfl
  | n + 1, r, l, k, h => by
    rw [decP] at h
    obtain ⟨⟨v, m⟩, e1, h⟩ := Option.bind_eq_some_iff.1 h
    obtain ⟨⟨l', k'⟩, e2, h⟩ := Option.map_eq_some_iff.1 h
    simp only [Prod.mk.injEq] at h
    rw [← h.1, List.length_cons, decP_len n _ _ _ e2]
theorem dcd_len (xs : List Int) : (dcd xs).1.length ≤ 64 := by
  cases xs with
  | nil => simp [dcd]
  | cons c r =>
    rw [dcd]
    split
    · simp
    · cases h : decP c.toNat r with
      | none => simp
      | some q =>
        obtain ⟨l, k⟩ := q
        have := decP_len _ _ _ _ h
        simp only
        omega
theorem ukd_len (xs : List Int) : (ukd xs).1.length ≤ 64 := by
  unfold ukd
  cases unkP (xs.length + 1) xs with
  | none => simp
  | some l =>
    simp only
    split
    · assumption
    · simp
theorem codeReads_pure (b : List Int) (hb : b.length ≤ 140737488351232) (wb : ∀ x ∈ b, (Lit.int .u8 x).wf = true) : ∃ k, boscagelaw05_CodeReads.f k b = some true := by
  have hv : inQ b := fun x hx => by
    have := wb x hx
    simp [Lit.wf, IntKind.min, IntKind.max, IntKind.bits, IntKind.signed] at this
    exact this
  refine Ev.rounds ?_
  unfold boscagelaw05_CodeReads.f
  refine Ev.bind live_ev ?_
  by_cases hg : (b.length : Int) > 100000
  · exact Ev.pos hg (Ev.now _)
  · have hl : b.length ≤ 100000 := by omega
    have hok : okB b := ⟨by omega, hv⟩
    have hd : code_Decode.f (([] : List Int) ++ b) = some (dcd b) := by
      rw [List.nil_append]
      unfold code_Decode.f
      rw [if_pos hok, decR_eq hv]
    have hu : code_Unkey.f (([] : List Int) ++ b) = some (ukd b) := by
      rw [List.nil_append]
      unfold code_Unkey.f
      rw [if_pos hok, unkR_eq hv (by omega)]
    have d1 := dcd_len b
    have d2 := ukd_len b
    refine Ev.neg hg (Ev.pos (by simp; omega) (Ev.bind (Ev.now _) (Ev.bind (Ev.same hd) (Ev.bind (refDecode_ev hv (by omega)) (Ev.bind (Ev.same hu) (Ev.bind (refUnkey_ev hv (by omega)) (Ev.pos (by trivial) (Ev.bind (sameRow_ev (by omega)) (Ev.pos rfl (Ev.pos rfl (Ev.pos rfl (Ev.bind (sameRow_ev (by omega)) (Ev.pos rfl (Ev.pos rfl ?_))))))))))))))
    rw [List.nil_append]
    refine Ev.bind (hash_loop (by omega) b 0 _ rfl) (Ev.bind (refHash_loop (by omega) b 0 _ rfl) (Ev.pos rfl (Ev.done ?_)))
    simp
end Go.Proofs.YtbojfgjdpfobaaaDoor.Cd
