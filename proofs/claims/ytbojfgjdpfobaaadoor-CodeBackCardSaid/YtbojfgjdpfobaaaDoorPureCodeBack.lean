/- Layer 5 in plain words: the check, the key of a row, its order. -/
import Derived.Test.YtbojfgjdpfobaaaDoorPu
import Derived.Test.YtbojfgjdpfobaaaDoorRwB
import Derived.Test.YtbojfgjdpfobaaaDoorQCBx0
import Derived.Test.YtbojfgjdpfobaaaDoorQCBx1
import Derived.Test.YtbojfgjdpfobaaaDoorQCBx2
import Derived.Test.YtbojfgjdpfobaaaDoorQCBx3
import Derived.Test.YtbojfgjdpfobaaaDoorQCBx4
import Derived.Test.YtbojfgjdpfobaaaDoorQCBx5
import Derived.Test.YtbojfgjdpfobaaaDoorQCBx6
import Derived.Test.YtbojfgjdpfobaaaDoorQCBx7
import Derived.Test.YtbojfgjdpfobaaaDoorRp
set_option linter.unusedVariables false
set_option linter.unusedSimpArgs false
namespace Go.Proofs.YtbojfgjdpfobaaaDoor.Cd
open Go.RowKit Go.Proofs.YtbojfgjdpfobaaaDoorW.PrintWords Go.Proofs.YtbojfgjdpfobaaaDoor.Pu Go.Proofs.YtbojfgjdpfobaaaDoor.QCB Go.Proofs.YtbojfgjdpfobaaaDoor.Rw

def nil : ByteArray := ⟨#[]⟩
def ok (x : S43) : Bool :=
  if x.f0 = 0 then decide (x.f1 = 0) && decide (bs x.f2 = [])
  else if x.f0 = 1 then (decide (x.f1 = 0) || decide (x.f1 = 1)) && decide (bs x.f2 = [])
  else if x.f0 = 2 then decide (bs x.f2 = [])
  else if x.f0 = 3 ∨ x.f0 = 4 then decide (x.f1 = 0) else false
def chk (x : S43) : Int := if ok x = true then 0 else 1
theorem chk_zero {x : S43} (h : chk x = 0) : ok x = true := by
  unfold chk at h; split at h
  · assumption
  · cases h

theorem wf64 {x : Int} (h : (Lit.int .i64 x).wf = true) : -9223372036854775808 ≤ x ∧ x ≤ 9223372036854775807 := by
  simp [Lit.wf, IntKind.min, IntKind.max, IntKind.bits, IntKind.signed] at h
  exact h
theorem andNot1 {x : Int} (h : (Lit.int .i64 x).wf = true) : Go.bits .andNot .i64 x 1 = 0 ↔ x = 0 ∨ x = 1 := by
  obtain ⟨h0, h1⟩ := wf64 h
  constructor
  · intro hz
    have e : (BitVec.ofInt 64 x &&& ~~~(BitVec.ofInt 64 1)).toNat = 0 := by
      have hl := (BitVec.ofInt 64 x &&& ~~~(BitVec.ofInt 64 1)).isLt
      revert hz
      show IntKind.i64.wrap ((BitVec.ofInt 64 x &&& ~~~(BitVec.ofInt 64 1)).toNat : Int) = 0 → _
      generalize (BitVec.ofInt 64 x &&& ~~~(BitVec.ofInt 64 1)).toNat = n at hl ⊢
      intro hz
      simp [IntKind.wrap, IntKind.bits, IntKind.signed] at hz
      omega
    have e2 : (BitVec.ofInt 64 x &&& ~~~(BitVec.ofInt 64 1)) = 0#64 := BitVec.eq_of_toNat_eq (by rw [e]; rfl)
    have e3 : BitVec.ofInt 64 x = BitVec.ofInt 64 x &&& 1#64 := by
      apply BitVec.eq_of_getLsbD_eq
      intro i hi
      have := congrArg (fun b => b.getLsbD i) e2
      have o : BitVec.ofInt 64 1 = 1#64 := rfl
      rw [o] at this
      simp only [BitVec.getLsbD_and, BitVec.getLsbD_not, hi, decide_true, Bool.true_and, BitVec.getLsbD_zero] at this
      rw [BitVec.getLsbD_and]
      cases hb : (BitVec.ofInt 64 x).getLsbD i <;> cases hc : (1#64).getLsbD i <;> simp_all
    have e4 := congrArg BitVec.toNat e3
    rw [BitVec.toNat_and] at e4
    have e5 : (1#64).toNat = 1 := rfl
    rw [e5, Nat.and_one_is_mod, BitVec.toNat_ofInt] at e4
    omega
  · rintro (rfl | rfl) <;> decide +kernel

theorem value_Check_at (x : S43) (h : (Lit.int .i64 x.f1).wf = true) (k : Nat) : value_Check.f (k + 5) x.f0 x.f1 x.f2 = some (chk x) := by
  have hn := andNot1 h
  have z0 : Go.bits .andNot .i64 0 1 = 0 := by decide +kernel
  have z1 : Go.bits .andNot .i64 1 1 = 0 := by decide +kernel
  have hc : x.f0 < 0 ∨ x.f0 = 0 ∨ x.f0 = 1 ∨ x.f0 = 2 ∨ x.f0 = 3 ∨ x.f0 = 4 ∨ x.f0 > 4 := by omega
  rcases hc with hc | hc | hc | hc | hc | hc | hc
  · have a0 : x.f0 ≠ 0 := by omega
    have a1 : x.f0 ≠ 1 := by omega
    have a2 : x.f0 ≠ 2 := by omega
    have a3 : x.f0 ≠ 3 := by omega
    have a4 : x.f0 ≠ 4 := by omega
    simp [value_Check.f, value_Check.j0, value_Check.j1, chk, ok, hc, a0, a1, a2, a3, a4]
  · by_cases b0 : x.f1 = 0 <;> by_cases s : bs x.f2 = [] <;> simp [value_Check.f, value_Check.j0, value_Check.j1, value_Check.j2, value_Check.j3, value_Check.j4, chk, ok, bs_toList, hn, hc, b0, s]
  · by_cases b0 : x.f1 = 0 <;> by_cases b1 : x.f1 = 1 <;> by_cases s : bs x.f2 = [] <;> simp [value_Check.f, value_Check.j0, value_Check.j1, value_Check.j2, value_Check.j3, value_Check.j4, chk, ok, bs_toList, hn, z0, z1, hc, b0, b1, s]
  · by_cases s : bs x.f2 = [] <;> simp [value_Check.f, value_Check.j0, value_Check.j1, value_Check.j2, value_Check.j3, value_Check.j4, chk, ok, bs_toList, hn, hc, s]
  · by_cases b0 : x.f1 = 0 <;> simp [value_Check.f, value_Check.j0, value_Check.j1, value_Check.j2, value_Check.j3, value_Check.j4, chk, ok, bs_toList, hn, hc, b0]
  · by_cases b0 : x.f1 = 0 <;> simp [value_Check.f, value_Check.j0, value_Check.j1, value_Check.j2, value_Check.j3, value_Check.j4, chk, ok, bs_toList, hn, hc, b0]
  · have a0 : x.f0 ≠ 0 := by omega
    have a1 : x.f0 ≠ 1 := by omega
    have a2 : x.f0 ≠ 2 := by omega
    have a3 : x.f0 ≠ 3 := by omega
    have a4 : x.f0 ≠ 4 := by omega
    simp [value_Check.f, value_Check.j0, value_Check.j1, chk, ok, hc, a0, a1, a2, a3, a4]
theorem Ev.after {α : Type} {g : Nat → Option α} {r : α} (n : Nat) (h : ∀ k, g (k + n) = some r) : Ev g r := ⟨n, fun k hk => by
  have := h (k - n)
  rw [Nat.sub_add_cancel hk] at this
  exact this⟩
theorem rd_drop {l r : List S43} {i : Nat} {c : S43} (h : l.drop i = c :: r) : rd_T43 l (i : Int) = c := by
  have hl := drop_lt h
  rw [List.drop_eq_getElem_cons hl] at h
  injection h with h1 _
  unfold rd_T43
  rw [Int.toNat_natCast, List.getD_eq_getElem?_getD, List.getElem?_eq_getElem hl, Option.getD_some, h1]
theorem mem_drop {l r : List S43} {i : Nat} {c : S43} (h : l.drop i = c :: r) : c ∈ l := by
  have : c ∈ l.drop i := by rw [h]; exact List.mem_cons_self
  exact List.mem_of_mem_drop this
theorem wrap_next {l r : List S43} {i : Nat} {c : S43} (h : l.drop i = c :: r) (hl : l.length ≤ 4398046511105) : wrap64 ((i : Int) + 1) = ((i + 1 : Nat) : Int) := by
  have := drop_lt h
  rw [wrap_id (by omega) (by omega)]; rfl

def cmpV (a b : S43) : Int := if a.f0 < b.f0 then -1 else if b.f0 < a.f0 then 1 else if a.f1 < b.f1 then -1 else if b.f1 < a.f1 then 1 else Lib.compareBytes (bs a.f2) (bs b.f2)
theorem bytes_cmp : ∀ (x y : List UInt8), Lib.compareBytes x y = if Op.bytesLess x y = true then -1 else if x = y then 0 else 1
  | [], [] => rfl
  | [], _ :: _ => rfl
  | _ :: _, [] => by simp [Lib.compareBytes, Op.bytesLess]
  | a :: x, b :: y => by
    have ih := bytes_cmp x y
    rw [Lib.compareBytes, Op.bytesLess, ih]
    by_cases h1 : a < b
    · simp [h1]
    · by_cases h2 : a = b
      · subst h2
        simp [UInt8.lt_irrefl]
      · have h3 : b < a := UInt8.lt_of_le_of_ne (UInt8.not_lt.1 h1) (Ne.symm h2)
        simp [h1, h2, h3]
theorem less_irrefl : ∀ x : List UInt8, Op.bytesLess x x = false
  | [] => rfl
  | a :: x => by simp [Op.bytesLess, less_irrefl x, UInt8.lt_irrefl]


theorem chkV_eq (x : S43) (h : OkV x) : chkV x = chk x := by
  have := value_Check_at x h.2.1 0
  unfold chkV
  rw [show (0 + 5 : Nat) = 5 from rfl] at this
  rw [this]; rfl
theorem badV_eq (x : S43) (h : OkV x) : badV x = !ok x := by
  unfold badV
  rw [chkV_eq x h]
  unfold chk
  cases ok x <;> rfl
/-- why a row may not be -/
def crV (l : List S43) : Int := if l.all ok = true then (if (l.length : Int) > 64 then 2 else 0) else 1
theorem any_bad : ∀ {l : List S43}, (∀ x ∈ l, OkV x) → l.any badV = !l.all ok
  | [], _ => rfl
  | x :: l, h => by
    rw [List.any_cons, List.all_cons, any_bad fun y hy => h y (List.mem_cons_of_mem _ hy), badV_eq x (h x List.mem_cons_self)]
    cases ok x <;> simp
theorem checkRow_ev {l : List S43} (hl : l.length * 32 ≤ 140737488351232) (wf : ∀ x ∈ l, OkV x) : value_CheckRow.f l = some (crV l) := by
  unfold value_CheckRow.f crV
  rw [if_pos (by omega), any_bad wf]
  cases h : l.all ok <;> simp
theorem crV_ok {l : List S43} (h : crV l = 0) : (∀ x ∈ l, ok x = true) ∧ l.length ≤ 64 := by
  unfold crV at h
  by_cases ha : l.all ok = true
  · rw [if_pos ha] at h
    refine ⟨fun x hx => List.all_eq_true.1 ha x hx, ?_⟩
    by_cases hb : (l.length : Int) > 64
    · rw [if_pos hb] at h; cases h
    · omega
  · rw [if_neg ha] at h; cases h

/-! a row's key -/
def xorTop (n : Int) : Int := Go.bits .xor .u64 (IntKind.u64.wrap n) 9223372036854775808
def payV (x : S43) : List Int :=
  if x.f0 = 1 then [x.f1 % 256] else if x.f0 = 2 then laidL (xorTop x.f1) else if x.f0 = 3 ∨ x.f0 = 4 then repL (numsOf x.f2) ++ [0, 0] else []
def keyV (x : S43) : List Int := (x.f0 % 256) :: payV x
def keyL : List S43 → List Int
  | [] => []
  | x :: l => keyV x ++ keyL l
theorem keyL_append : ∀ a b, keyL (a ++ b) = keyL a ++ keyL b
  | [], _ => rfl
  | x :: a, b => by rw [List.cons_append, keyL, keyL, keyL_append a b, List.append_assoc]
theorem key_loop {l : List S43} (hl : l.length * 32 ≤ 140737488351232) : ∀ (r : List S43) (i : Nat) (acc : List Int), l.drop i = r → acc.length + (keyL r).length < 140737488355328 →
    Ev (fun k => code_Key.l0 k acc l (l.length : Int) (i : Int)) (acc ++ keyL r, 0) := by
  intro r
  induction r with
  | nil =>
    intro i acc h hs
    have := List.drop_eq_nil_iff.1 h
    refine Ev.at1 ?_
    simp only [code_Key.l0]
    exact Ev.neg (by omega) (Ev.done (by simp [keyL]))
  | cons c r ih =>
    intro i acc h hs
    have hlt := drop_lt h
    have hw := wrap_next h (by omega)
    have hk : (keyL (c :: r)).length = 1 + (payV c).length + (keyL r).length := by simp [keyL, keyV]; omega
    refine Ev.at1 ?_
    simp only [code_Key.l0]
    refine Ev.pos (by omega) (Ev.pos (by omega) (Ev.pos (by omega) (Ev.pos (by omega) ?_)))
    rw [rd_drop h, hw]
    refine Ev.given ?_
    by_cases k1 : c.f0 = 1
    · have hp : payV c = [c.f1 % 256] := by unfold payV; rw [if_pos k1]
      have hpl : (payV c).length = 1 := by rw [hp]; rfl
      refine Ev.pos k1 (Ev.pos (by simp; omega) ?_)
      refine Ev.eq (ih (i + 1) _ (drop_next h) (by simp; omega)) ?_
      simp [keyL, keyV, hp]
    · refine Ev.neg k1 ?_
      by_cases k2 : c.f0 = 2
      · have hp : payV c = laidL (xorTop c.f1) := by unfold payV; rw [if_neg k1, if_pos k2]
        have hpl : (payV c).length = 8 := by rw [hp]; rfl
        have h8 : (laidL (xorTop c.f1)).length = 8 := rfl
        refine Ev.pos k2 (Ev.bind (a := laidL (xorTop c.f1)) (Ev.same rfl) (Ev.pos (by rw [h8]; simp; omega) ?_))
        refine Ev.eq (ih (i + 1) _ (drop_next h) (by rw [List.length_append, h8]; simp; omega)) ?_
        simp [keyL, keyV, hp]
      · refine Ev.neg k2 ?_
        have text : (c.f0 = 3 ∨ c.f0 = 4) → Ev (fun k => (bytes_ReplaceAll.f (c.f2)).bind fun t162 => (if (acc ++ [c.f0 % 256]).length + t162.length < 140737488355328 then ((some (acc ++ [c.f0 % 256] ++ t162 : List Int)).bind fun y165 => ((some (([0, 0] : List Int) : List Int)).bind fun y168 => (if y165.length + y168.length < 140737488355328 then (code_Key.l0 k (y165 ++ y168) l (l.length : Int) ((i + 1 : Nat) : Int)) else (none)))) else (none))) (acc ++ keyL (c :: r), 0) := by
          intro k34
          have hp : payV c = repL (numsOf c.f2) ++ [0, 0] := by unfold payV; rw [if_neg k1, if_neg k2, if_pos k34]
          have hpl : (payV c).length = (repL (numsOf c.f2)).length + 2 := by rw [hp]; simp
          refine Ev.bind (a := repL (numsOf c.f2)) (Ev.same (by unfold bytes_ReplaceAll.f; rw [if_pos (by omega)])) (Ev.pos (by simp; omega) (Ev.given (Ev.given (Ev.pos (by simp; omega) ?_))))
          refine Ev.eq (ih (i + 1) _ (drop_next h) (by simp; omega)) ?_
          simp [keyL, keyV, hp]
        by_cases k3 : c.f0 = 3
        · exact Ev.pos k3 (text (.inl k3))
        · refine Ev.neg k3 ?_
          by_cases k4 : c.f0 = 4
          · exact Ev.pos k4 (text (.inr k4))
          · refine Ev.neg k4 ?_
            have hp : payV c = [] := by unfold payV; rw [if_neg k1, if_neg k2, if_neg (by omega)]
            refine Ev.eq (ih (i + 1) _ (drop_next h) (by simp; omega)) ?_
            simp [keyL, keyV, hp]
def keyR (l : List S43) : List Int × Int := if crV l = 0 then (keyL l, 0) else ([], crV l)
theorem key_ev {l : List S43} (hl : l.length * 32 ≤ 140737488351232) (wf : ∀ x ∈ l, OkV x) (hs : (keyL l).length < 140737488355328) : Ev (fun k => code_Key.f k l) (keyR l) := by
  unfold code_Key.f keyR
  rw [checkRow_ev hl wf]
  refine Ev.given ?_
  by_cases h : crV l = 0
  · rw [if_pos h]
    exact Ev.pos h (Ev.eq (key_loop hl l 0 [] rfl (by simpa using hs)) (by simp))
  · rw [if_neg h]
    exact Ev.neg h (Ev.now _)
/-! how great rows are -/
def wt : List S43 → Nat
  | [] => 0
  | x :: l => 1 + x.f2.size + wt l
theorem nums_len (s : ByteArray) : (numsOf s).length = s.size := by unfold numsOf; rw [List.length_map, Array.length_toList]; rfl
theorem keyL_len : ∀ l, (keyL l).length ≤ 11 * wt l
  | [] => Nat.le_refl _
  | x :: l => by
    have ih := keyL_len l
    have h1 : (payV x).length ≤ 10 + 2 * x.f2.size := by
      unfold payV
      by_cases k1 : x.f0 = 1
      · rw [if_pos k1]; simp; omega
      · rw [if_neg k1]
        by_cases k2 : x.f0 = 2
        · rw [if_pos k2]; show 8 ≤ _; omega
        · rw [if_neg k2]
          by_cases k3 : x.f0 = 3 ∨ x.f0 = 4
          · rw [if_pos k3, List.length_append, repL_length]
            have h2 : (numsOf x.f2).count 0 ≤ (numsOf x.f2).length := List.count_le_length
            rw [nums_len] at h2 ⊢
            simp; omega
          · rw [if_neg k3]; simp
    simp only [keyL, keyV, wt, List.length_append, List.length_cons]
    omega
/-- a number's bytes in the base 256 -/
def be : Nat → Int → List Int
  | 0, _ => []
  | j + 1, n => n / 256 ^ j :: be j (n % 256 ^ j)
theorem laid_be {n : Int} (h0 : 0 ≤ n) (h1 : n < 18446744073709551616) : laidL n = be 8 n := by
  have p0 : (2 : Int) ^ (56 - 8 * (0 : Int)).toNat = 72057594037927936 := by decide
  have p1 : (2 : Int) ^ (56 - 8 * (1 : Int)).toNat = 281474976710656 := by decide
  have p2 : (2 : Int) ^ (56 - 8 * (2 : Int)).toNat = 1099511627776 := by decide
  have p3 : (2 : Int) ^ (56 - 8 * (3 : Int)).toNat = 4294967296 := by decide
  have p4 : (2 : Int) ^ (56 - 8 * (4 : Int)).toNat = 16777216 := by decide
  have p5 : (2 : Int) ^ (56 - 8 * (5 : Int)).toNat = 65536 := by decide
  have p6 : (2 : Int) ^ (56 - 8 * (6 : Int)).toNat = 256 := by decide
  have p7 : (2 : Int) ^ (56 - 8 * (7 : Int)).toNat = 1 := by decide
  have q0 : (256 : Int) ^ 0 = 1 := by decide
  have q1 : (256 : Int) ^ 1 = 256 := by decide
  have q2 : (256 : Int) ^ 2 = 65536 := by decide
  have q3 : (256 : Int) ^ 3 = 16777216 := by decide
  have q4 : (256 : Int) ^ 4 = 4294967296 := by decide
  have q5 : (256 : Int) ^ 5 = 1099511627776 := by decide
  have q6 : (256 : Int) ^ 6 = 281474976710656 := by decide
  have q7 : (256 : Int) ^ 7 = 72057594037927936 := by decide
  simp only [laidL, byteL, be, p0, p1, p2, p3, p4, p5, p6, p7, q0, q1, q2, q3, q4, q5, q6, q7]
  clear p0 p1 p2 p3 p4 p5 p6 p7 q0 q1 q2 q3 q4 q5 q6 q7
  simp only [List.cons.injEq]
  refine ⟨by omega, by omega, by omega, by omega, by omega, by omega, by omega, by omega, trivial⟩
theorem xor_top {n : Nat} (h : n < 18446744073709551616) : n ^^^ 9223372036854775808 = (n + 9223372036854775808) % 18446744073709551616 := by
  have low : ∀ m : Nat, m < 9223372036854775808 → m ^^^ 9223372036854775808 = 9223372036854775808 + m := by
    intro m hm
    have e63 : (9223372036854775808 : Nat) = 2 ^ 63 := by decide
    apply Nat.eq_of_testBit_eq
    intro i
    rw [Nat.testBit_xor, e63, Nat.testBit_two_pow]
    rcases Nat.lt_trichotomy i 63 with h' | h' | h'
    · rw [Nat.testBit_two_pow_add_gt h', decide_eq_false (by omega)]; simp
    · subst h'
      rw [Nat.testBit_two_pow_add_eq, Nat.testBit_lt_two_pow (by omega)]; simp
    · rw [decide_eq_false (by omega), Nat.testBit_lt_two_pow (x := m) (Nat.lt_of_lt_of_le hm (by rw [e63]; exact Nat.pow_le_pow_right (by decide) (by omega))), Nat.testBit_lt_two_pow (x := 2 ^ 63 + m) (Nat.lt_of_lt_of_le (show 2 ^ 63 + m < 2 ^ 64 by omega) (Nat.pow_le_pow_right (by decide) (by omega)))]; rfl
  rcases Nat.lt_or_ge n 9223372036854775808 with h' | h'
  · rw [low n h']; omega
  · have e : n = 9223372036854775808 + (n - 9223372036854775808) := by omega
    have l := low (n - 9223372036854775808) (by omega)
    rw [e, ← l, Nat.xor_assoc, Nat.xor_self, Nat.xor_zero, l]
    omega
theorem xorTop_eq {n : Int} (h : (Lit.int .i64 n).wf = true) : xorTop n = n + 9223372036854775808 := by
  obtain ⟨h0, h1⟩ := wf64 h
  have hw : IntKind.u64.wrap n = n % 18446744073709551616 := by simp [IntKind.wrap, IntKind.bits, IntKind.signed]
  unfold xorTop
  rw [hw]
  show IntKind.u64.wrap ((BitVec.ofInt 64 (n % 18446744073709551616) ^^^ BitVec.ofInt 64 9223372036854775808).toNat : Int) = _
  have t2 : (BitVec.ofInt 64 9223372036854775808).toNat = 9223372036854775808 := by decide
  have t1 : (BitVec.ofInt 64 (n % 18446744073709551616)).toNat = (n % 18446744073709551616).toNat := by
    rw [BitVec.toNat_ofInt]; omega
  rw [BitVec.toNat_xor, t1, t2, xor_top (by omega)]
  simp [IntKind.wrap, IntKind.bits, IntKind.signed]
  omega
def last4 (n : Int) : List Int := [byteL n 4, byteL n 5, byteL n 6, byteL n 7]
/-! a row's bytes -/
def endV (x : S43) : List Int :=
  if x.f0 = 1 then [x.f1 % 256] else if x.f0 = 2 then laidL (IntKind.u64.wrap x.f1) else if x.f0 = 3 ∨ x.f0 = 4 then last4 (IntKind.u64.wrap (x.f2.size : Int)) ++ bytesOf x.f2 else []
def encV (x : S43) : List Int := (x.f0 % 256) :: endV x
def encL : List S43 → List Int
  | [] => []
  | x :: l => encV x ++ encL l
theorem encL_len : ∀ l, (encL l).length ≤ 11 * wt l
  | [] => Nat.le_refl _
  | x :: l => by
    have ih := encL_len l
    have h1 : (endV x).length ≤ 10 + x.f2.size := by
      unfold endV
      by_cases k1 : x.f0 = 1
      · rw [if_pos k1]; simp; omega
      · rw [if_neg k1]
        by_cases k2 : x.f0 = 2
        · rw [if_pos k2]; show 8 ≤ _; omega
        · rw [if_neg k2]
          by_cases k3 : x.f0 = 3 ∨ x.f0 = 4
          · rw [if_pos k3, List.length_append, bytesOf_length]; show 4 + _ ≤ _; omega
          · rw [if_neg k3]; simp
    simp only [encL, encV, wt, List.length_append, List.length_cons]
    omega
section
variable {l : List S43} (hl : l.length * 32 ≤ 140737488351232)
include hl
theorem enc_loop : ∀ (r : List S43) (i : Nat) (acc : List Int), l.drop i = r → acc.length + (encL r).length < 140737488355328 →
    Ev (fun k => code_Encode.l0 k acc l (l.length : Int) (i : Int)) (acc ++ encL r, 0) := by
  intro r
  induction r with
  | nil =>
    intro i acc h hs
    have := List.drop_eq_nil_iff.1 h
    refine Ev.at1 ?_
    simp only [code_Encode.l0]
    exact Ev.neg (by omega) (Ev.done (by simp [encL]))
  | cons c r ih =>
    intro i acc h hs
    have hlt := drop_lt h
    have hw := wrap_next h (by omega)
    have hk : (encL (c :: r)).length = 1 + (endV c).length + (encL r).length := by simp [encL, encV]; omega
    refine Ev.at1 ?_
    simp only [code_Encode.l0]
    refine Ev.pos (by omega) (Ev.pos (by omega) (Ev.pos (by omega) (Ev.pos (by omega) ?_)))
    rw [rd_drop h, hw]
    refine Ev.given ?_
    by_cases k1 : c.f0 = 1
    · have hp : endV c = [c.f1 % 256] := by unfold endV; rw [if_pos k1]
      have hpl : (endV c).length = 1 := by rw [hp]; rfl
      refine Ev.pos k1 (Ev.pos (by simp; omega) ?_)
      refine Ev.eq (ih (i + 1) _ (drop_next h) (by simp; omega)) ?_
      simp [encL, encV, hp]
    · refine Ev.neg k1 ?_
      by_cases k2 : c.f0 = 2
      · have hp : endV c = laidL (IntKind.u64.wrap c.f1) := by unfold endV; rw [if_neg k1, if_pos k2]
        have hpl : (endV c).length = 8 := by rw [hp]; rfl
        have h8 : (laidL (IntKind.u64.wrap c.f1)).length = 8 := rfl
        refine Ev.pos k2 (Ev.bind (a := laidL (IntKind.u64.wrap c.f1)) (Ev.same rfl) (Ev.pos (by rw [h8]; simp; omega) ?_))
        refine Ev.eq (ih (i + 1) _ (drop_next h) (by rw [List.length_append, h8]; simp; omega)) ?_
        simp [encL, encV, hp]
      · refine Ev.neg k2 ?_
        have text : (c.f0 = 3 ∨ c.f0 = 4) → Ev (fun k => (boscageref05_Key.f (IntKind.u64.wrap ((c.f2).size : Int))).bind fun t141 => (if (acc ++ [c.f0 % 256]).length + t141.length < 140737488355328 then ((some (acc ++ [c.f0 % 256] ++ t141 : List Int)).bind fun y144 => (if y144.length + (c.f2).size < 140737488355328 then (code_Encode.l0 k (y144 ++ bytesOf (c.f2)) l (l.length : Int) ((i + 1 : Nat) : Int)) else (none))) else (none))) (acc ++ encL (c :: r), 0) := by
          intro k34
          have hp : endV c = last4 (IntKind.u64.wrap (c.f2.size : Int)) ++ bytesOf c.f2 := by unfold endV; rw [if_neg k1, if_neg k2, if_pos k34]
          have h4 : (last4 (IntKind.u64.wrap (c.f2.size : Int))).length = 4 := rfl
          have hpl : (endV c).length = 4 + c.f2.size := by rw [hp, List.length_append, h4, bytesOf_length]
          refine Ev.bind (a := last4 (IntKind.u64.wrap (c.f2.size : Int))) (Ev.same rfl) (Ev.pos (by rw [h4]; simp; omega) (Ev.given (Ev.pos (by rw [List.length_append, h4]; simp; omega) ?_)))
          refine Ev.eq (ih (i + 1) _ (drop_next h) (by rw [List.length_append, List.length_append, h4, bytesOf_length]; simp; omega)) ?_
          simp [encL, encV, hp]
        by_cases k3 : c.f0 = 3
        · exact Ev.pos k3 (text (.inl k3))
        · refine Ev.neg k3 ?_
          by_cases k4 : c.f0 = 4
          · exact Ev.pos k4 (text (.inr k4))
          · refine Ev.neg k4 ?_
            have hp : endV c = [] := by unfold endV; rw [if_neg k1, if_neg k2, if_neg (by omega)]
            refine Ev.eq (ih (i + 1) _ (drop_next h) (by simp; omega)) ?_
            simp [encL, encV, hp]
end
def encR (l : List S43) : List Int × Int := if crV l = 0 then ([(l.length : Int) % 256] ++ encL l, 0) else ([], crV l)
section
variable {l : List S43} (hl : l.length * 32 ≤ 140737488351232) (wf : ∀ x ∈ l, OkV x)
include hl wf
theorem enc_ev (hs : (encL l).length < 140737488350000) : Ev (fun k => code_Encode.f k l) (encR l) := by
  unfold code_Encode.f encR
  rw [checkRow_ev hl wf]
  refine Ev.given ?_
  by_cases h : crV l = 0
  · rw [if_pos h]
    exact Ev.pos h (enc_loop hl l 0 _ rfl (by simp; omega))
  · rw [if_neg h]
    exact Ev.neg h (Ev.now _)
end
theorem live_ev : Ev (fun k => boscagelaw05_live.f k) true := ⟨80, fun k hk => at_rounds (fun k => boscagelaw05_live.mono k) hk (by decide +kernel)⟩
theorem okK {x : S43} (h : ok x = true) : (x.f0 = 0 ∧ x.f1 = 0 ∧ bs x.f2 = []) ∨ (x.f0 = 1 ∧ (x.f1 = 0 ∨ x.f1 = 1) ∧ bs x.f2 = []) ∨ (x.f0 = 2 ∧ bs x.f2 = []) ∨ ((x.f0 = 3 ∨ x.f0 = 4) ∧ x.f1 = 0) := by
  unfold ok at h
  by_cases h0 : x.f0 = 0
  · rw [if_pos h0] at h; simp at h; exact .inl ⟨h0, h.1, h.2⟩
  · rw [if_neg h0] at h
    by_cases h1 : x.f0 = 1
    · rw [if_pos h1] at h; simp at h; exact .inr (.inl ⟨h1, h.1, h.2⟩)
    · rw [if_neg h1] at h
      by_cases h2 : x.f0 = 2
      · rw [if_pos h2] at h; simp at h; exact .inr (.inr (.inl ⟨h2, h⟩))
      · rw [if_neg h2] at h
        by_cases h3 : x.f0 = 3 ∨ x.f0 = 4
        · rw [if_pos h3] at h; simp at h; exact .inr (.inr (.inr ⟨h3, h⟩))
        · rw [if_neg h3] at h; cases h

/-! the document's order of rows -/
theorem ref_Compare_ev (a b : S43) : Ev (fun k => boscageref01_Compare.f k a.f0 a.f1 a.f2 b.f0 b.f1 b.f2) (cmpV a b) := Ev.after 1 fun k => by
  unfold cmpV
  rw [bytes_cmp]
  have hc : a.f0 < b.f0 ∨ a.f0 = b.f0 ∨ b.f0 < a.f0 := by omega
  rcases hc with hc | hc | hc
  · simp [boscageref01_Compare.f, boscageref01_Compare.j0, hc]
  · have hd : a.f1 < b.f1 ∨ a.f1 = b.f1 ∨ b.f1 < a.f1 := by omega
    rcases hd with hd | hd | hd
    · simp [boscageref01_Compare.f, boscageref01_Compare.j0, hc, hd]
    · by_cases h1 : Op.bytesLess (bs a.f2) (bs b.f2) = true <;> by_cases h2 : bs a.f2 = bs b.f2 <;> simp_all [boscageref01_Compare.f, boscageref01_Compare.j0, boscageref01_Same.f, bs_toList, less_irrefl]
    · have : ¬ a.f1 < b.f1 := by omega
      have : ¬ a.f1 = b.f1 := by omega
      simp [boscageref01_Compare.f, boscageref01_Compare.j0, boscageref01_Same.f, hc, hd, *]
  · have : ¬ a.f0 < b.f0 := by omega
    have : ¬ a.f0 = b.f0 := by omega
    simp [boscageref01_Compare.f, boscageref01_Compare.j0, boscageref01_Same.f, hc, *]

def cmpL : List S43 → List S43 → Int
  | [], [] => 0
  | [], _ :: _ => -1
  | _ :: _, [] => 1
  | x :: l, y :: m => if cmpV x y = 0 then cmpL l m else cmpV x y
theorem rows_loop {a b : List S43} (ha : a.length * 32 ≤ 140737488351232) (hb : b.length * 32 ≤ 140737488351232) : ∀ (r s : List S43) (i : Nat), a.drop i = r → b.drop i = s → i ≤ a.length → i ≤ b.length →
    Ev (fun k => boscageref01_CompareRows.l0 k a b (a.length : Int) (i : Int)) (cmpL r s) := by
  intro r
  induction r with
  | nil =>
    intro s i h h' hi hi'
    have e := drop_len h hi
    have e' := drop_len h' hi'
    refine Ev.at1 ?_
    simp only [boscageref01_CompareRows.l0]
    refine Ev.neg (by simp at e; omega) ?_
    cases s with
    | nil => exact Ev.neg (by simp at e e'; omega) (Ev.now _)
    | cons d s => exact Ev.pos (by simp at e e'; omega) (Ev.now _)
  | cons c r ih =>
    intro s i h h' hi hi'
    have hlt := drop_lt h
    have hw := wrap_next h (by omega)
    refine Ev.at1 ?_
    simp only [boscageref01_CompareRows.l0]
    refine Ev.pos (by omega) ?_
    cases s with
    | nil =>
      have e' := drop_len h' hi'
      exact Ev.pos (by simp at e'; omega) (Ev.now _)
    | cons d s =>
      have hlt' := drop_lt h'
      refine Ev.neg (by omega) (Ev.pos (by omega) (Ev.pos (by omega) (Ev.pos (by omega) ?_)))
      rw [rd_drop h, rd_drop h', hw]
      refine Ev.bind (ref_Compare_ev c d) ?_
      rw [cmpL]
      by_cases hz : cmpV c d = 0
      · rw [if_pos hz]
        exact Ev.pos hz (ih s (i + 1) (drop_next h) (drop_next h') (by omega) (by omega))
      · rw [if_neg hz]
        exact Ev.neg hz (Ev.now _)
theorem rows_ev {a b : List S43} (ha : a.length * 32 ≤ 140737488351232) (hb : b.length * 32 ≤ 140737488351232) : Ev (fun k => boscageref01_CompareRows.f k a b) (cmpL a b) :=
  rows_loop ha hb a b 0 rfl rfl (Nat.zero_le _) (Nat.zero_le _)
/-! how many are played -/
theorem few_row (ls : List (List S43)) (L j : Int) (l : List S43) (hl : l.length * 32 ≤ 140737488351232) (wf : ∀ x ∈ l, OkV x) (P : Prop) : ∀ (r : List S43) (i : Nat) (n : Int), l.drop i = r → 0 ≤ n → n ≤ 20000 →
    (∀ n' : Int, n' = n + (wt r : Nat) → n' ≤ 20000 → ∃ b, Ev (fun k => boscageref01_Few.l0 k 20000 n' ls L (wrap64 (j + 1))) b ∧ (b = true → P)) →
    ∃ b, Ev (fun k => boscageref01_Few.l1 k 20000 n ls L j l (l.length : Int) (i : Int)) b ∧ (b = true → P ∧ n + (wt r : Nat) ≤ 20000) := by
  intro r
  induction r with
  | nil =>
    intro i n h h0 h1 next
    have := List.drop_eq_nil_iff.1 h
    obtain ⟨b, hb, hp⟩ := next n (by simp [wt]) h1
    refine ⟨b, Ev.at1 ?_, fun e => ⟨hp e, by simpa [wt] using h1⟩⟩
    simp only [boscageref01_Few.l1]
    exact Ev.neg (by omega) hb
  | cons c r ih =>
    intro i n h h0 h1 next
    have hlt := drop_lt h
    have hw := wrap_next h (by omega)
    have hs := (wf c (mem_drop h)).2.2
    have e1 : wrap64 (1 + (c.f2.size : Int)) = 1 + (c.f2.size : Int) := wrap_id (by omega) (by omega)
    have e2 : wrap64 (n + (1 + (c.f2.size : Int))) = n + (1 + (c.f2.size : Int)) := wrap_id (by omega) (by omega)
    by_cases hg : n + (1 + (c.f2.size : Int)) > 20000
    · refine ⟨false, Ev.at1 ?_, fun e => by cases e⟩
      simp only [boscageref01_Few.l1]
      refine Ev.pos (by omega) (Ev.pos (by omega) (Ev.pos (by omega) ?_))
      rw [rd_drop h, e1, e2]
      exact Ev.pos hg (Ev.now _)
    · obtain ⟨b, hb, hp⟩ := ih (i + 1) (n + (1 + (c.f2.size : Int))) (drop_next h) (by omega) (by omega) (fun n' hn' hl' => next n' (by rw [hn', wt]; omega) hl')
      refine ⟨b, Ev.at1 ?_, fun e => ⟨(hp e).1, by have := (hp e).2; rw [wt]; omega⟩⟩
      simp only [boscageref01_Few.l1]
      refine Ev.pos (by omega) (Ev.pos (by omega) (Ev.pos (by omega) ?_))
      rw [rd_drop h, e1, e2, hw]
      exact Ev.neg hg hb
section
variable {l : List S43} (hl : l.length * 32 ≤ 140737488351232) (wf : ∀ x ∈ l, OkV x)
include hl wf
theorem big1_ev : ∃ v, Ev (fun k => boscageref05_Encode.f k l) v ∧ (v = false → wt l ≤ 20000) := by
  have w01 : wrap64 ((0 : Int) + 1) = 1 := wrap_id (by decide) (by decide)
  obtain ⟨v, hv, hp⟩ := few_row [l] 1 0 l hl wf True l 0 1 rfl (by omega) (by omega) (fun n' hn' hl' => ⟨decide (n' ≤ 20000), by
    rw [w01]
    refine Ev.at1 ?_
    simp only [boscageref01_Few.l0]
    exact Ev.neg (by decide) (Ev.now _), fun _ => trivial⟩)
  refine ⟨!v, Ev.bind (a := v) ?_ (Ev.now _), fun e => by have := hp (by simpa using e); omega⟩
  unfold boscageref01_Few.f
  refine Ev.at1 ?_
  simp only [boscageref01_Few.l0]
  rw [w01]
  exact Ev.pos (show (0 : Int) < 1 by decide) (Ev.pos (by decide) (Ev.pos (show (0 : Int) < 1 by decide) hv))
end
/-! numbers of bytes -/
def valN : List Int → Int
  | [] => 0
  | c :: r => c * 256 ^ r.length + valN r
def inQ (l : List Int) : Prop := ∀ x ∈ l, 0 ≤ x ∧ x ≤ 255
theorem inQ_tail {c : Int} {r : List Int} (h : inQ (c :: r)) : inQ r := fun x hx => h x (List.mem_cons_of_mem _ hx)
theorem valN_lt : ∀ {l : List Int}, inQ l → 0 ≤ valN l ∧ valN l < 256 ^ l.length
  | [], _ => ⟨Int.le_refl 0, by decide⟩
  | c :: r, h => by
    obtain ⟨h0, h1⟩ := valN_lt (inQ_tail h)
    have hc := h c List.mem_cons_self
    have hp : (0 : Int) < 256 ^ r.length := Int.pow_pos (by decide)
    rw [valN, List.length_cons, Int.pow_succ]
    generalize (256 : Int) ^ r.length = p at *
    have m1 : 0 ≤ c * p := Int.mul_nonneg hc.1 (by omega)
    have m2 : c * p ≤ 255 * p := Int.mul_le_mul_of_nonneg_right hc.2 (by omega)
    exact ⟨by omega, by omega⟩
theorem fold_val : ∀ (l : List Int) (a : Int) (j : Nat), j + l.length ≤ 8 → 0 ≤ a → a < 256 ^ j → inQ l → l.foldl Rd.numStep a = a * 256 ^ l.length + valN l
  | [], a, j, _, _, _, _ => by simp [valN]
  | c :: r, a, j, h, h0, h1, hv => by
    rw [List.length_cons] at h
    have hc := hv c List.mem_cons_self
    obtain ⟨e, h2, h3⟩ := Rd.numStep_lt a c j (by omega) h0 h1 hc.1 hc.2
    rw [List.foldl_cons, fold_val r _ (j + 1) (by omega) h2 h3 (inQ_tail hv), e, valN, List.length_cons, Int.pow_succ, Int.add_mul, Int.mul_assoc, Int.mul_comm 256, Int.add_assoc]
theorem numS_val {l : List Int} (h : l.length ≤ 8) (hv : inQ l) : Rd.numS l = valN l := by
  have := fold_val l 0 0 (by omega) (by decide) (by decide) hv
  rw [Int.zero_mul, Int.zero_add] at this
  exact this
theorem be_val : ∀ {l : List Int}, inQ l → be l.length (valN l) = l
  | [], _ => rfl
  | c :: r, h => by
    have hc := h c List.mem_cons_self
    obtain ⟨h0, h1⟩ := valN_lt (inQ_tail h)
    have ih := be_val (inQ_tail h)
    have hp : (0 : Int) < 256 ^ r.length := Int.pow_pos (by decide)
    rw [List.length_cons, be, valN]
    have e1 : (c * 256 ^ r.length + valN r) / 256 ^ r.length = c := by
      rw [Int.add_comm, Int.add_mul_ediv_right _ _ (by omega), Int.ediv_eq_zero_of_lt h0 h1, Int.zero_add]
    have e2 : (c * 256 ^ r.length + valN r) % 256 ^ r.length = valN r := by
      rw [Int.add_comm, Int.add_mul_emod_self_right, Int.emod_eq_of_lt h0 h1]
    rw [e1, e2, ih]
theorem be_len : ∀ (j : Nat) (n : Int), (be j n).length = j
  | 0, _ => rfl
  | j + 1, n => by rw [be, List.length_cons, be_len j]
theorem val_be : ∀ (j : Nat) (n : Int), 0 ≤ n → n < 256 ^ j → valN (be j n) = n
  | 0, n, h0, h1 => by
    rw [be, valN]
    have : (256 : Int) ^ 0 = 1 := by decide
    omega
  | j + 1, n, h0, h1 => by
    have hp : (0 : Int) < 256 ^ j := Int.pow_pos (by decide)
    rw [be, valN, be_len, val_be j _ (Int.emod_nonneg _ (by omega)) (Int.emod_lt_of_pos _ hp)]
    rw [Int.mul_comm]
    exact Int.mul_ediv_add_emod n _
theorem inQ_be : ∀ (j : Nat) (n : Int), 0 ≤ n → n < 256 ^ j → inQ (be j n)
  | 0, _, _, _ => fun x hx => by cases hx
  | j + 1, n, h0, h1 => by
    have hp : (0 : Int) < 256 ^ j := Int.pow_pos (by decide)
    intro x hx
    rw [be] at hx
    rcases List.mem_cons.1 hx with rfl | hx
    · have h2 : n / 256 ^ j < 256 := Int.ediv_lt_of_lt_mul hp (by rw [Int.pow_succ] at h1; rwa [Int.mul_comm] at h1)
      exact ⟨Int.ediv_nonneg h0 (by omega), by omega⟩
    · exact inQ_be j _ (Int.emod_nonneg _ (by omega)) (Int.emod_lt_of_pos _ hp) x hx
theorem p8 : (256 : Int) ^ 8 = 18446744073709551616 := by decide
theorem p4 : (256 : Int) ^ 4 = 4294967296 := by decide
theorem last4_be {n : Int} (h0 : 0 ≤ n) (h1 : n < 4294967296) : last4 n = be 4 n := by
  have p4 : (2 : Int) ^ (56 - 8 * (4 : Int)).toNat = 16777216 := by decide
  have p5 : (2 : Int) ^ (56 - 8 * (5 : Int)).toNat = 65536 := by decide
  have p6 : (2 : Int) ^ (56 - 8 * (6 : Int)).toNat = 256 := by decide
  have p7 : (2 : Int) ^ (56 - 8 * (7 : Int)).toNat = 1 := by decide
  have q0 : (256 : Int) ^ 0 = 1 := by decide
  have q1 : (256 : Int) ^ 1 = 256 := by decide
  have q2 : (256 : Int) ^ 2 = 65536 := by decide
  have q3 : (256 : Int) ^ 3 = 16777216 := by decide
  simp only [last4, byteL, be, p4, p5, p6, p7, q0, q1, q2, q3]
  clear p4 p5 p6 p7 q0 q1 q2 q3
  simp only [List.cons.injEq]
  exact ⟨by omega, by omega, by omega, by omega, trivial⟩
theorem u64_id {n : Int} (h0 : 0 ≤ n) (h1 : n < 18446744073709551616) : IntKind.u64.wrap n = n := by rw [IntKind.wrap_u64]; omega
theorem u64_of_i64 {n : Int} (h0 : 0 ≤ n) (h1 : n < 18446744073709551616) : IntKind.u64.wrap (wrap64 n) = n := by rw [IntKind.wrap_u64]; unfold wrap64; omega
theorem wrap64_in (n : Int) : (Lit.int .i64 (wrap64 n)).wf = true := by
  have : -9223372036854775808 ≤ wrap64 n ∧ wrap64 n ≤ 9223372036854775807 := by unfold wrap64; omega
  simp [Lit.wf, IntKind.min, IntKind.max, IntKind.bits, IntKind.signed]
  exact this
theorem wf_of {n : Int} (h0 : -9223372036854775808 ≤ n) (h1 : n ≤ 9223372036854775807) : (Lit.int .i64 n).wf = true := by
  simp [Lit.wf, IntKind.min, IntKind.max, IntKind.bits, IntKind.signed]
  exact ⟨h0, h1⟩
theorem xor_zero {n : Int} (h0 : 0 ≤ n) (h1 : n < 18446744073709551616) : Go.bits .xor .u64 n 0 = n := by
  show IntKind.u64.wrap ((BitVec.ofInt 64 n ^^^ BitVec.ofInt 64 0).toNat : Int) = _
  have t0 : (BitVec.ofInt 64 0).toNat = 0 := by decide
  have t1 : (BitVec.ofInt 64 n).toNat = n.toNat := by rw [BitVec.toNat_ofInt]; omega
  rw [BitVec.toNat_xor, t1, t0, Nat.xor_zero, IntKind.wrap_u64]
  omega
theorem xor_top' {n : Int} (h0 : 0 ≤ n) (h1 : n < 18446744073709551616) : Go.bits .xor .u64 n 9223372036854775808 = (n + 9223372036854775808) % 18446744073709551616 := by
  show IntKind.u64.wrap ((BitVec.ofInt 64 n ^^^ BitVec.ofInt 64 9223372036854775808).toNat : Int) = _
  have t2 : (BitVec.ofInt 64 9223372036854775808).toNat = 9223372036854775808 := by decide
  have t1 : (BitVec.ofInt 64 n).toNat = n.toNat := by rw [BitVec.toNat_ofInt]; omega
  rw [BitVec.toNat_xor, t1, t2, xor_top (by omega), IntKind.wrap_u64]
  omega
/-! bytes and texts -/
theorem nums_str {l : List Int} (h : inQ l) : numsOf (strOfNums l) = l := by
  unfold numsOf strOfNums
  simp only [List.map_map]
  conv => rhs; rw [← List.map_id l]
  apply List.map_congr_left
  intro x hx
  have := h x hx
  show (((UInt8.ofNat x.toNat).toNat : Nat) : Int) = x
  rw [UInt8.toNat_ofNat']
  omega
theorem bytes_nums (s : ByteArray) : bytesOf s = numsOf s := rfl
theorem str_size (l : List Int) : (strOfNums l).size = l.length := by
  unfold strOfNums
  simp [ByteArray.size]
theorem str_nums (s : ByteArray) : strOfNums (numsOf s) = s := by
  apply bs_ext
  show ((numsOf s).map fun n => UInt8.ofNat n.toNat) = bs s
  unfold numsOf
  rw [List.map_map]
  conv => rhs; rw [← List.map_id (bs s)]
  apply List.map_congr_left
  intro x hx
  show UInt8.ofNat ((x.toNat : Nat) : Int).toNat = x
  rw [Int.toNat_natCast]
  exact UInt8.ofNat_toNat
theorem inQ_nums (s : ByteArray) : inQ (numsOf s) := by
  intro x hx
  unfold numsOf at hx
  obtain ⟨c, _, rfl⟩ := List.mem_map.1 hx
  have := c.toNat_lt
  exact ⟨by omega, by omega⟩
theorem nums_size (s : ByteArray) : (numsOf s).length = s.size := by rw [← bytes_nums, bytesOf_length]
/-! a value's bytes -/
theorem take_cons {α : Type} (c : α) (r : List α) (n : Nat) : (c :: r).take (n + 1) = c :: r.take n := rfl
theorem chk_v {v : Int × Int × List Int} (h : v.1 = 0 ∧ v.2.1 = 0 ∧ v.2.2 = [] ∨ v.1 = 1 ∧ (v.2.1 = 0 ∨ v.2.1 = 1) ∧ v.2.2 = [] ∨ v.1 = 2 ∧ v.2.2 = [] ∨ (v.1 = 3 ∨ v.1 = 4) ∧ v.2.1 = 0) : ok (vX v) = true := by
  have hn : bs (strOfNums []) = [] := rfl
  unfold ok vX
  rcases h with ⟨h1, h2, h3⟩ | ⟨h1, h2, h3⟩ | ⟨h1, h3⟩ | ⟨h1, h2⟩
  · simp [h1, h2, h3, hn]
  · rcases h2 with h2 | h2 <;> simp [h1, h2, h3, hn]
  · simp [h1, h3, hn]
  · rcases h1 with h1 | h1 <;> simp [h1, h2]
theorem counted_inv {r : List Int} (hq : inQ r) (hl : r.length ≤ 1000000000) {t : List Int} {n : Nat} (h : Rd.countedP r = some (t, n)) : last4 (IntKind.u64.wrap ((strOfNums t).size : Int)) ++ bytesOf (strOfNums t) = r.take n ∧ n ≤ r.length ∧ inQ t ∧ t.length ≤ r.length := by
  unfold Rd.countedP at h
  split at h
  · rename_i hc
    obtain ⟨h4, h5, h6⟩ := hc
    simp only [Option.some.injEq, Prod.mk.injEq] at h
    obtain ⟨rfl, rfl⟩ := h
    have q4 : inQ (r.take 4) := fun x hx => hq x (List.mem_of_mem_take hx)
    have l4 : (r.take 4).length = 4 := by rw [List.length_take]; omega
    have e4 := numS_val (by omega) q4
    have hv := valN_lt q4
    have hb := be_val q4
    rw [l4, p4] at hv
    rw [l4] at hb
    rw [e4] at h5 h6 ⊢
    generalize valN (r.take 4) = N at *
    obtain ⟨m, rfl⟩ : ∃ m : Nat, N = m := ⟨N.toNat, by omega⟩
    rw [Int.toNat_natCast]
    have qt : inQ ((r.drop 4).take m) := fun x hx => hq x (List.mem_of_mem_drop (List.mem_of_mem_take hx))
    have lt : ((r.drop 4).take m).length = m := by rw [List.length_take, List.length_drop]; omega
    refine ⟨?_, by omega, qt, by omega⟩
    rw [str_size, lt, u64_id (by omega) (by omega), last4_be (by omega) (by omega), hb, bytes_nums, nums_str qt]
    rw [← List.take_append_drop 4 (r.take (4 + m)), List.take_take, Nat.min_eq_left (by omega), List.drop_take]
    congr 2
    omega
  · cases h
theorem rep_cons {c : Int} (h : c ≠ 0) (t : List Int) : repL (c :: t) = c :: repL t := by rw [repL, if_neg h]
theorem ended_inv : ∀ {r : List Int}, inQ r → ∀ {t : List Int} {n : Nat}, Rd.endedP r = some (t, n) → repL t ++ [0, 0] = r.take n ∧ n ≤ r.length ∧ inQ t ∧ t.length ≤ r.length
  | [], _, t, n, h => by simp [Rd.endedP] at h
  | [c], _, t, n, h => by simp [Rd.endedP] at h
  | c :: d :: r, hq, t, n, h => by
    rw [Rd.endedP] at h
    by_cases hc : c = 0
    · subst hc
      rw [if_neg (fun e => e rfl)] at h
      by_cases hd : d = 0
      · subst hd
        rw [if_pos rfl] at h
        simp only [Option.some.injEq, Prod.mk.injEq] at h
        obtain ⟨rfl, rfl⟩ := h
        exact ⟨rfl, by simp, (fun x hx => by cases hx), by simp⟩
      · rw [if_neg hd] at h
        by_cases h5 : d = 255
        · subst h5
          rw [if_pos rfl] at h
          obtain ⟨⟨t', n'⟩, h1, h2⟩ := Option.map_eq_some_iff.1 h
          simp only [Prod.mk.injEq] at h2
          obtain ⟨rfl, rfl⟩ := h2
          obtain ⟨i1, i2, i3, i4⟩ := ended_inv (inQ_tail (inQ_tail hq)) h1
          refine ⟨?_, by simp; omega, ?_, by simp; omega⟩
          · rw [repL, if_pos rfl]
            show 0 :: 255 :: (repL t' ++ [0, 0]) = _
            rw [i1]; rfl
          · intro x hx
            rcases List.mem_cons.1 hx with rfl | hx
            · exact ⟨by decide, by decide⟩
            · exact i3 x hx
        · rw [if_neg h5] at h; cases h
    · rw [if_pos hc] at h
      obtain ⟨⟨t', n'⟩, h1, h2⟩ := Option.map_eq_some_iff.1 h
      simp only [Prod.mk.injEq] at h2
      obtain ⟨rfl, rfl⟩ := h2
      obtain ⟨i1, i2, i3, i4⟩ := ended_inv (inQ_tail hq) h1
      refine ⟨?_, by simp at i2 ⊢; omega, ?_, by simp at i4 ⊢; omega⟩
      · rw [rep_cons hc]
        show c :: (repL t' ++ [0, 0]) = _
        rw [i1]; rfl
      · intro x hx
        rcases List.mem_cons.1 hx with rfl | hx
        · exact hq _ List.mem_cons_self
        · exact i3 x hx
/-- what is read as a value is that value's bytes -/
theorem val_inv {turned : Int} {tp : List Int → Option (List Int × Nat)} {pay : S43 → List Int} {r : List Int} (hq : inQ r) (hl : r.length ≤ 1000000000)
    (h1p : ∀ x : S43, x.f0 = 1 → pay x = [x.f1 % 256]) (h2p : ∀ l : List Int, inQ l → l.length = 8 → ∀ x : S43, x.f0 = 2 → x.f1 = wrap64 (Go.bits .xor .u64 (Rd.numS l) turned) → pay x = l)
    (h0p : ∀ x : S43, x.f0 = 0 → pay x = []) (h3p : ∀ (l t : List Int) (n : Nat), inQ l → l.length ≤ 1000000000 → tp l = some (t, n) → n ≤ l.length ∧ inQ t ∧ t.length ≤ l.length ∧ ∀ x : S43, (x.f0 = 3 ∨ x.f0 = 4) → x.f2 = strOfNums t → pay x = l.take n)
    {v : Int × Int × List Int} {n : Nat} (h : Rd.val1 turned tp r = some (v, n)) : ((vX v).f0 % 256) :: pay (vX v) = r.take n ∧ 1 ≤ n ∧ n ≤ r.length ∧ ok (vX v) = true ∧ OkV (vX v) := by
  cases r with
  | nil => cases h
  | cons c r =>
    have hq' := inQ_tail hq
    simp only [Rd.val1] at h
    have hl' : r.length ≤ 1000000000 := by simp at hl; omega
    by_cases c0 : c = 0
    · rw [if_pos c0] at h
      simp only [Option.some.injEq, Prod.mk.injEq] at h
      obtain ⟨rfl, rfl⟩ := h
      refine ⟨?_, Nat.le_refl _, by simp, chk_v (.inl ⟨rfl, rfl, rfl⟩), wf_of (by decide) (by decide), wf_of (by decide) (by decide), by show 0 ≤ _; omega⟩
      rw [h0p _ rfl, c0]; rfl
    · rw [if_neg c0] at h
      by_cases c1 : c = 1
      · rw [if_pos c1] at h
        cases r with
        | nil => cases h
        | cons d r =>
          have hd := hq' d List.mem_cons_self
          simp only at h
          split at h
          · rename_i hd1
            simp only [Option.some.injEq, Prod.mk.injEq] at h
            obtain ⟨rfl, rfl⟩ := h
            refine ⟨?_, by decide, by simp, chk_v (.inr (.inl ⟨rfl, by show d = 0 ∨ d = 1; omega, rfl⟩)), (show (Lit.int .i64 1).wf = true from wf_of (by decide) (by decide)), wf_of (by show _ ≤ d; omega) (by show d ≤ _; omega), by show 0 ≤ _; omega⟩
            rw [h1p _ rfl, c1]
            show 1 % 256 :: [d % 256] = [1, d]
            rw [show (1 : Int) % 256 = 1 from rfl, Int.emod_eq_of_lt hd.1 (by omega)]
          · cases h
      · rw [if_neg c1] at h
        by_cases c2 : c = 2
        · rw [if_pos c2] at h
          split at h
          · rename_i h8
            simp only [Option.some.injEq, Prod.mk.injEq] at h
            obtain ⟨rfl, rfl⟩ := h
            have q8 : inQ (r.take 8) := fun x hx => hq' x (List.mem_of_mem_take hx)
            refine ⟨?_, by decide, by simp; omega, chk_v (.inr (.inr (.inl ⟨rfl, rfl⟩))), (show (Lit.int .i64 2).wf = true from wf_of (by decide) (by decide)), wrap64_in _, by show 0 ≤ _; omega⟩
            rw [h2p (r.take 8) q8 (by rw [List.length_take]; omega) _ rfl rfl, c2]; rfl
          · cases h
        · rw [if_neg c2] at h
          by_cases c3 : c = 3 ∨ c = 4
          · rw [if_pos c3] at h
            obtain ⟨⟨t, m⟩, e1, e2⟩ := Option.map_eq_some_iff.1 h
            simp only [Prod.mk.injEq] at e2
            obtain ⟨rfl, rfl⟩ := e2
            obtain ⟨i1, i2, i3, i4⟩ := h3p r t m hq' hl' e1
            refine ⟨?_, by omega, by simp; omega, chk_v (.inr (.inr (.inr ⟨c3, rfl⟩))), wf_of (by show _ ≤ c; omega) (by show c ≤ _; omega), (show (Lit.int .i64 0).wf = true from wf_of (by decide) (by decide)), ?_⟩
            · rw [i4 _ c3 rfl, take_cons]
              show c % 256 :: _ = _
              rw [Int.emod_eq_of_lt (by omega) (by omega)]
            · show (strOfNums t).size ≤ _
              rw [str_size]; omega
          · rw [if_neg c3] at h; cases h
theorem enc_inv {r : List Int} (hq : inQ r) (hl : r.length ≤ 1000000000) {v : Int × Int × List Int} {n : Nat} (h : Rd.val1 0 Rd.countedP r = some (v, n)) : encV (vX v) = r.take n ∧ 1 ≤ n ∧ n ≤ r.length ∧ ok (vX v) = true ∧ OkV (vX v) := by
  refine val_inv (pay := endV) hq hl ?_ ?_ ?_ ?_ h
  · intro x h1; unfold endV; rw [if_pos h1]
  · intro l q8 l8 x h2 h3
    have hv := valN_lt q8
    rw [l8, p8] at hv
    unfold endV
    rw [if_neg (by omega), if_pos h2, h3, numS_val (by omega) q8, xor_zero hv.1 hv.2, u64_of_i64 hv.1 hv.2, laid_be hv.1 hv.2]
    have := be_val q8
    rwa [l8] at this
  · intro x h0; unfold endV; rw [if_neg (by omega), if_neg (by omega), if_neg (by omega)]
  · intro l t n hq hl h
    obtain ⟨i1, i2, i3, i4⟩ := counted_inv hq hl h
    refine ⟨i2, i3, i4, fun x h3 h4 => ?_⟩
    unfold endV
    rw [if_neg (by omega), if_neg (by omega), if_pos h3, h4]
    exact i1
theorem key_inv {r : List Int} (hq : inQ r) (hl : r.length ≤ 1000000000) {v : Int × Int × List Int} {n : Nat} (h : Rd.val1 9223372036854775808 Rd.endedP r = some (v, n)) : keyV (vX v) = r.take n ∧ 1 ≤ n ∧ n ≤ r.length ∧ ok (vX v) = true ∧ OkV (vX v) := by
  refine val_inv (pay := payV) hq hl ?_ ?_ ?_ ?_ h
  · intro x h1; unfold payV; rw [if_pos h1]
  · intro l q8 l8 x h2 h3
    have hv := valN_lt q8
    rw [l8, p8] at hv
    unfold payV
    rw [if_neg (by omega), if_pos h2, h3, numS_val (by omega) q8, xor_top' hv.1 hv.2]
    have hx : xorTop (wrap64 ((valN l + 9223372036854775808) % 18446744073709551616)) = valN l := by
      rw [xorTop_eq (wrap64_in _)]
      unfold wrap64; omega
    rw [hx, laid_be hv.1 hv.2]
    have := be_val q8
    rwa [l8] at this
  · intro x h0; unfold payV; rw [if_neg (by omega), if_neg (by omega), if_neg (by omega)]
  · intro l t n hq hl h
    obtain ⟨i1, i2, i3, i4⟩ := ended_inv hq h
    refine ⟨i2, i3, i4, fun x h3 h4 => ?_⟩
    unfold payV
    rw [if_neg (by omega), if_neg (by omega), if_pos h3, h4, nums_str i3]
    exact i1
/-! rows -/
def decP : Nat → List Int → Option (List S43 × Nat)
  | 0, _ => some ([], 0)
  | n + 1, r => (Rd.val1 0 Rd.countedP r).bind fun p => (decP n (r.drop p.2)).map fun q => (vX p.1 :: q.1, p.2 + q.2)
def unkP : Nat → List Int → Option (List S43)
  | 0, _ => none
  | f + 1, r => if r = [] then some [] else (Rd.val1 9223372036854775808 Rd.endedP r).bind fun p => (unkP f (r.drop p.2)).map fun q => vX p.1 :: q
theorem inQ_drop {r : List Int} (h : inQ r) (n : Nat) : inQ (r.drop n) := fun x hx => h x (List.mem_of_mem_drop hx)
theorem decS_off {xs : List Int} {row : List S43} {at_ : Nat} : ∀ n, (decS xs n row (at_, false)).2.2 = false
  | 0 => rfl
  | n + 1 => by rw [decS, if_neg (show ¬ (false = true) by decide)]
theorem decS_bad {xs : List Int} {row : List S43} {s : Nat × Bool} (h : s.2 = false) (n : Nat) : (decS xs n row s).2.2 = false := by
  obtain ⟨a, b⟩ := s
  simp only at h
  subst h
  exact decS_off n
theorem dec_good {xs : List Int} (hv : inQ xs) : ∀ (n : Nat) (row : List S43) (at_ : Nat), at_ ≤ xs.length →
    Rd.Good xs at_ ((decP n (xs.drop at_)).map fun p => (row ++ p.1, p.2)) (decS xs n row (at_, true)) := by
  intro n
  induction n with
  | zero => intro row at_ h; exact ⟨by simp [decS], by simpa using h⟩
  | succ n ih =>
    intro row at_ h
    rw [decS, if_pos rfl, decP]
    have hg := Rd.value_good (turned := 0) hv (fun a ha => Rd.counted_good hv ha) h
    cases hp : Rd.val1 0 Rd.countedP (xs.drop at_) with
    | none =>
      rw [hp] at hg
      exact decS_bad hg n
    | some p =>
      obtain ⟨v, k⟩ := p
      rw [hp] at hg
      obtain ⟨g1, g2⟩ := hg
      rw [g1]
      have := ih (row ++ [vX v]) (at_ + k) g2
      simp only [Option.bind_some, Option.map_map, List.drop_drop]
      have h3 := Rd.good_map (k := k) (g := fun l => row ++ [vX v] ++ l) (at_ := at_) (o := decP n (xs.drop (at_ + k))) this
      have e : ((fun p : List S43 × Nat => (row ++ p.1, p.2)) ∘ fun q : List S43 × Nat => (vX v :: q.1, k + q.2)) = fun p => (row ++ [vX v] ++ p.1, p.2 + k) := by funext p; simp [Nat.add_comm]
      rw [e]
      exact h3
theorem unkS_off {xs : List Int} {row : List S43} {at_ : Nat} : ∀ n, (unkS xs n row (at_, false)).2.2 = false
  | 0 => rfl
  | n + 1 => by rw [unkS, if_neg (by rintro ⟨h, _⟩; cases h)]
theorem unkS_bad {xs : List Int} {row : List S43} {s : Nat × Bool} (h : s.2 = false) (n : Nat) : (unkS xs n row s).2.2 = false := by
  obtain ⟨a, b⟩ := s
  simp only at h
  subst h
  exact unkS_off n
theorem unk_good {xs : List Int} (hv : inQ xs) : ∀ (f : Nat) (row : List S43) (at_ : Nat), at_ ≤ xs.length → xs.length < at_ + f → xs.length ≤ 1000000000 →
    (match unkP f (xs.drop at_) with | some l => unkS xs f row (at_, true) = (row ++ l, (xs.length, true)) | none => (unkS xs f row (at_, true)).2.2 = false) := by
  intro f
  induction f with
  | zero => intro row at_ h h2; omega
  | succ f ih =>
    intro row at_ h h2 hl
    rw [unkS, unkP]
    by_cases hlt : at_ < xs.length
    · have hne : ¬ xs.drop at_ = [] := by
        intro e
        have := List.drop_eq_nil_iff.1 e
        omega
      rw [if_neg hne, if_pos ⟨rfl, hlt⟩]
      have hg := Rd.value_good (turned := 9223372036854775808) hv (fun a ha => by
        have := Rd.ended_good hv (xs.length + 2) [] a ha (by omega)
        simpa using this) h
      cases hp : Rd.val1 9223372036854775808 Rd.endedP (xs.drop at_) with
      | none =>
        rw [hp] at hg
        exact unkS_bad hg f
      | some p =>
        obtain ⟨v, k⟩ := p
        rw [hp] at hg
        obtain ⟨g1, g2⟩ := hg
        rw [g1]
        have hk := (key_inv (inQ_drop hv at_) (by rw [List.length_drop]; omega) hp).2.1
        have := ih (row ++ [vX v]) (at_ + k) g2 (by omega) hl
        simp only [Option.bind_some, List.drop_drop]
        cases hu : unkP f (xs.drop (at_ + k)) with
        | none => rw [hu] at this; exact this
        | some l =>
          rw [hu] at this
          simp only at this
          simp [this]
    · have he : xs.drop at_ = [] := List.drop_eq_nil_iff.2 (by omega)
      rw [if_pos he, if_neg (fun h => hlt h.2)]
      have : at_ = xs.length := by omega
      simp [this]
/-! what they are, off the bytes -/
theorem decR_cases {xs : List Int} (hv : inQ xs) : (∃ c r l k, xs = c :: r ∧ c ≤ 64 ∧ decP c.toNat r = some (l, k) ∧ decR xs = (l, ((1 + k : Nat) : Int), 0)) ∨ decR xs = ([], 0, 50) := by
  unfold decR
  cases xs with
  | nil =>
    right
    rw [Rd.byteS_nil (xs := []) (at_ := 0) rfl]
    rfl
  | cons c r =>
    rw [Rd.byteS_cons (xs := c :: r) (at_ := 0) rfl]
    by_cases h : c > 64
    · right
      rw [if_pos h]
      rfl
    · rw [if_neg h]
      have hg := dec_good hv c.toNat [] 1 (by simp)
      rw [show (c :: r).drop 1 = r from rfl] at hg
      cases hp : decP c.toNat r with
      | none =>
        right
        rw [hp] at hg
        have hb : (decS (c :: r) c.toNat [] (1, true)).2.2 = false := hg
        simp only
        rw [show (0 + 1 : Nat) = 1 from rfl, hb, if_neg (by decide)]
      | some q =>
        obtain ⟨l, k⟩ := q
        rw [hp] at hg
        obtain ⟨g1, g2⟩ := hg
        left
        refine ⟨c, r, l, k, rfl, by omega, hp, ?_⟩
        simp only
        rw [show (0 + 1 : Nat) = 1 from rfl, g1]
        simp
theorem unkR_cases {xs : List Int} (hv : inQ xs) (hl : xs.length ≤ 1000000000) : (∃ l, unkP (xs.length + 1) xs = some l ∧ l.length ≤ 64 ∧ unkR xs = (l, 0)) ∨ unkR xs = ([], 50) ∧ (∀ l, unkP (xs.length + 1) xs = some l → 64 < l.length) := by
  unfold unkR
  have hg := unk_good hv (xs.length + 1) [] 0 (Nat.zero_le _) (by omega) hl
  rw [List.drop_zero] at hg
  cases hp : unkP (xs.length + 1) xs with
  | none =>
    right
    rw [hp] at hg
    have hb : (unkS xs (xs.length + 1) [] (0, true)).2.2 = false := hg
    exact ⟨by rw [hb, if_neg (by simp)], fun l h => by cases h⟩
  | some l =>
    rw [hp] at hg
    have hb : unkS xs (xs.length + 1) [] (0, true) = ([] ++ l, (xs.length, true)) := hg
    rw [hb]
    by_cases h64 : l.length ≤ 64
    · left
      exact ⟨l, rfl, h64, by rw [if_pos ⟨rfl, by simpa using h64⟩]; simp⟩
    · right
      refine ⟨by rw [if_neg (fun h => h64 (by simpa using h.2))], fun l' h => ?_⟩
      injection h with h
      subst h
      omega
/-! their bytes -/
theorem decP_inv : ∀ (n : Nat) {r : List Int}, inQ r → r.length ≤ 1000000000 → ∀ {l : List S43} {k : Nat}, decP n r = some (l, k) → encL l = r.take k ∧ k ≤ r.length ∧ l.length = n ∧ ∀ x ∈ l, ok x = true ∧ OkV x
  | 0, r, _, _, l, k, h => by
    simp only [decP, Option.some.injEq, Prod.mk.injEq] at h
    obtain ⟨rfl, rfl⟩ := h
    exact ⟨by simp [encL], Nat.zero_le _, rfl, fun x hx => by cases hx⟩
  | n + 1, r, hq, hl, l, k, h => by
    rw [decP] at h
    obtain ⟨⟨v, m⟩, e1, h⟩ := Option.bind_eq_some_iff.1 h
    obtain ⟨⟨l', k'⟩, e2, h⟩ := Option.map_eq_some_iff.1 h
    simp only [Prod.mk.injEq] at h
    obtain ⟨rfl, rfl⟩ := h
    obtain ⟨i1, i2, i3, i4, i5⟩ := enc_inv hq hl e1
    obtain ⟨j1, j2, j3, j4⟩ := decP_inv n (inQ_drop hq m) (by rw [List.length_drop]; omega) e2
    rw [List.length_drop] at j2
    refine ⟨?_, by omega, by simp [j3], fun x hx => ?_⟩
    · rw [encL, i1, j1]
      rw [← List.take_append_drop m (r.take (m + k')), List.take_take, Nat.min_eq_left (by omega), List.drop_take]
      congr 2
      omega
    · rcases List.mem_cons.1 hx with rfl | hx
      · exact ⟨i4, i5⟩
      · exact j4 x hx
theorem unkP_inv : ∀ (f : Nat) {r : List Int}, inQ r → r.length ≤ 1000000000 → ∀ {l : List S43}, unkP f r = some l → keyL l = r ∧ (∀ x ∈ l, ok x = true ∧ OkV x)
  | 0, r, _, _, l, h => by cases h
  | f + 1, r, hq, hl, l, h => by
    rw [unkP] at h
    by_cases hr : r = []
    · rw [if_pos hr] at h
      injection h with h
      subst h
      exact ⟨by rw [hr]; rfl, fun x hx => by cases hx⟩
    · rw [if_neg hr] at h
      obtain ⟨⟨v, m⟩, e1, h⟩ := Option.bind_eq_some_iff.1 h
      obtain ⟨l', e2, h⟩ := Option.map_eq_some_iff.1 h
      subst h
      obtain ⟨i1, i2, i3, i4, i5⟩ := key_inv hq hl e1
      obtain ⟨j1, j2⟩ := unkP_inv f (inQ_drop hq m) (by rw [List.length_drop]; omega) e2
      refine ⟨?_, fun x hx => ?_⟩
      · rw [keyL, i1, j1, List.take_append_drop]
      · rcases List.mem_cons.1 hx with rfl | hx
        · exact ⟨i4, i5⟩
        · exact j2 x hx
theorem crV_of {l : List S43} (h : ∀ x ∈ l, ok x = true ∧ OkV x) (h64 : l.length ≤ 64) : crV l = 0 := by
  unfold crV
  rw [if_pos (List.all_eq_true.2 fun x hx => (h x hx).1), if_neg (by omega)]
/-! decoding, exactly -/
def dcd : List Int → List S43 × Int × Int
  | [] => ([], 0, 50)
  | c :: r => if c > 64 then ([], 0, 50) else match decP c.toNat r with | none => ([], 0, 50) | some (l, k) => (l, ((1 + k : Nat) : Int), 0)
theorem decR_eq {xs : List Int} (hv : inQ xs) : decR xs = dcd xs := by
  unfold decR
  cases xs with
  | nil =>
    rw [Rd.byteS_nil (xs := []) (at_ := 0) rfl]
    rfl
  | cons c r =>
    rw [Rd.byteS_cons (xs := c :: r) (at_ := 0) rfl, dcd]
    by_cases h : c > 64
    · rw [if_pos h, if_pos h]
      rfl
    · rw [if_neg h, if_neg h]
      have hg := dec_good hv c.toNat [] 1 (by simp)
      rw [show (c :: r).drop 1 = r from rfl] at hg
      cases hp : decP c.toNat r with
      | none =>
        rw [hp] at hg
        have hb : (decS (c :: r) c.toNat [] (1, true)).2.2 = false := hg
        simp only
        rw [show (0 + 1 : Nat) = 1 from rfl, hb, if_neg (by decide)]
      | some q =>
        obtain ⟨l, k⟩ := q
        rw [hp] at hg
        obtain ⟨g1, g2⟩ := hg
        simp only
        rw [show (0 + 1 : Nat) = 1 from rfl, g1]
        simp
def ukd (xs : List Int) : List S43 × Int := match unkP (xs.length + 1) xs with | none => ([], 50) | some l => if l.length ≤ 64 then (l, 0) else ([], 50)
theorem unkR_eq {xs : List Int} (hv : inQ xs) (hl : xs.length ≤ 1000000000) : unkR xs = ukd xs := by
  unfold unkR ukd
  have hg := unk_good hv (xs.length + 1) [] 0 (Nat.zero_le _) (by omega) hl
  rw [List.drop_zero] at hg
  cases hp : unkP (xs.length + 1) xs with
  | none =>
    rw [hp] at hg
    have hb : (unkS xs (xs.length + 1) [] (0, true)).2.2 = false := hg
    simp only
    rw [hb, if_neg (by simp)]
  | some l =>
    rw [hp] at hg
    have hb : unkS xs (xs.length + 1) [] (0, true) = ([] ++ l, (xs.length, true)) := hg
    rw [hb]
    simp
theorem cmpV_self (x : S43) : cmpV x x = 0 := by
  unfold cmpV
  rw [if_neg (by omega), if_neg (by omega), if_neg (by omega), if_neg (by omega), bytes_cmp, less_irrefl]
  simp
theorem cmpL_self : ∀ l : List S43, cmpL l l = 0
  | [] => rfl
  | x :: l => by rw [cmpL, if_pos (cmpV_self x), cmpL_self l]
theorem sameRow_ev {l : List S43} (h : l.length * 32 ≤ 140737488351232) : Ev (fun k => boscageref01_SameRow.f k l l) true := by
  unfold boscageref01_SameRow.f
  refine Ev.bind (rows_ev h h) (Ev.done ?_)
  rw [cmpL_self]; rfl
/-! what is written is read -/
def tri (x : S43) : Int × Int × List Int := (x.f0, x.f1, numsOf x.f2)
theorem vX_tri (x : S43) : vX (tri x) = x := by
  unfold vX tri
  rw [str_nums]
theorem nums_nil {x : S43} (h : bs x.f2 = []) : numsOf x.f2 = [] := by
  unfold numsOf
  have : x.f2.data.toList = [] := h
  rw [this]; rfl
theorem wrap_u64_back {n : Int} (h0 : -9223372036854775808 ≤ n) (h1 : n ≤ 9223372036854775807) : wrap64 (IntKind.u64.wrap n) = n := by rw [IntKind.wrap_u64]; unfold wrap64; omega
theorem u64_range (n : Int) : 0 ≤ IntKind.u64.wrap n ∧ IntKind.u64.wrap n < 18446744073709551616 := by rw [IntKind.wrap_u64]; omega
theorem laid_len (n : Int) : (laidL n).length = 8 := rfl
theorem numS_laid {n : Int} (h0 : 0 ≤ n) (h1 : n < 18446744073709551616) (rest : List Int) : Rd.numS ((laidL n ++ rest).take 8) = n := by
  have e : (laidL n ++ rest).take 8 = laidL n := by rw [List.take_append_of_le_length (Nat.le_of_eq (laid_len n).symm)]; rfl
  rw [e, laid_be h0 h1, numS_val (by rw [be_len]; exact Nat.le_refl 8) (inQ_be 8 n h0 (by rw [p8]; exact h1)), val_be 8 n h0 (by rw [p8]; exact h1)]
theorem counted_back (s : ByteArray) (hs : s.size ≤ 2147483647) (rest : List Int) : Rd.countedP (last4 (IntKind.u64.wrap (s.size : Int)) ++ bytesOf s ++ rest) = some (numsOf s, 4 + s.size) := by
  have h0 : (0 : Int) ≤ (s.size : Int) := by omega
  have h1 : (s.size : Int) < 4294967296 := by omega
  have hl : (be 4 (s.size : Int)).length = 4 := be_len _ _
  have hb : (bytesOf s).length = s.size := bytesOf_length s
  rw [u64_id h0 (by omega), last4_be h0 h1, List.append_assoc]
  have e : (be 4 (s.size : Int) ++ (bytesOf s ++ rest)).take 4 = be 4 (s.size : Int) := by rw [List.take_append_of_le_length (by omega)]; exact List.take_of_length_le (by omega)
  have en : Rd.numS (be 4 (s.size : Int)) = s.size := by rw [numS_val (by omega) (inQ_be 4 _ h0 (by rw [p4]; exact h1)), val_be 4 _ h0 (by rw [p4]; exact h1)]
  have ed : (be 4 (s.size : Int) ++ (bytesOf s ++ rest)).drop 4 = bytesOf s ++ rest := List.drop_left' hl
  unfold Rd.countedP
  rw [e, en, ed, if_pos ⟨by rw [List.length_append]; omega, by omega, by rw [List.length_append, List.length_append]; omega⟩, Int.toNat_natCast, List.take_append_of_le_length (by omega), ← hb, List.take_length, bytes_nums]
theorem endedP_cons {c : Int} {r : List Int} (hc : c ≠ 0) (hr : r ≠ []) : Rd.endedP (c :: r) = (Rd.endedP r).map fun p => (c :: p.1, p.2 + 1) := by
  cases r with
  | nil => exact absurd rfl hr
  | cons d r => rw [Rd.endedP, if_pos hc]
theorem ended_back (rest : List Int) : ∀ t : List Int, Rd.endedP (repL t ++ 0 :: 0 :: rest) = some (t, (repL t).length + 2)
  | [] => by rw [repL, List.nil_append, Rd.endedP, if_neg (fun h => h rfl), if_pos rfl]; rfl
  | x :: t => by
    have ih := ended_back rest t
    by_cases h : x = 0
    · subst h
      rw [repL, if_pos rfl]
      show Rd.endedP (0 :: 255 :: (repL t ++ 0 :: 0 :: rest)) = _
      rw [Rd.endedP, if_neg (fun h => h rfl), if_neg (by decide), if_pos rfl, ih]
      simp
    · rw [rep_cons h]
      show Rd.endedP (x :: (repL t ++ 0 :: 0 :: rest)) = _
      rw [endedP_cons h (by simp), ih]
      simp
theorem val_back {turned : Int} {tp : List Int → Option (List Int × Nat)} {pay : S43 → List Int} {x : S43} (rest : List Int) (hx : ok x = true) (h1p : x.f0 = 1 → pay x = [x.f1 % 256])
    (h2p : x.f0 = 2 → (pay x).length = 8 ∧ wrap64 (Go.bits .xor .u64 (Rd.numS ((pay x ++ rest).take 8)) turned) = x.f1)
    (h0p : x.f0 = 0 → pay x = []) (h3p : x.f0 = 3 ∨ x.f0 = 4 → tp (pay x ++ rest) = some (numsOf x.f2, (pay x).length)) :
    Rd.val1 turned tp ((x.f0 % 256) :: pay x ++ rest) = some (tri x, ((x.f0 % 256) :: pay x).length) := by
  have hk := okK hx
  have hf : x.f0 % 256 = x.f0 := by omega
  rw [hf, List.cons_append]
  simp only [Rd.val1, List.length_cons]
  rcases hk with ⟨h, h1, h2⟩ | ⟨h, h1, h2⟩ | ⟨h, h2⟩ | ⟨h, h1⟩
  · rw [if_pos h, h0p h]
    unfold tri
    rw [h, h1, nums_nil h2]; rfl
  · rw [if_neg (by omega), if_pos h, h1p h]
    have h3 : x.f1 % 256 = x.f1 := by omega
    rw [h3]
    show (if x.f1 ≤ 1 then some ((1, x.f1, []), 2) else none) = _
    rw [if_pos (by omega)]
    unfold tri
    rw [h, nums_nil h2]; rfl
  · obtain ⟨h8, h9⟩ := h2p h
    rw [if_neg (by omega), if_neg (by omega), if_pos h, if_pos (by rw [List.length_append]; omega), h9, h8]
    unfold tri
    rw [h, nums_nil h2]
  · rw [if_neg (by omega), if_neg (by omega), if_neg (by omega), if_pos h, h3p h]
    unfold tri
    rw [h1]; rfl
theorem enc_back {x : S43} (rest : List Int) (hx : ok x = true) (wx : OkV x) (hs : x.f2.size ≤ 20000) : Rd.val1 0 Rd.countedP (encV x ++ rest) = some (tri x, (encV x).length) := by
  refine val_back (pay := endV) rest hx ?_ ?_ ?_ ?_
  · intro h; unfold endV; rw [if_pos h]
  · intro h
    have e : endV x = laidL (IntKind.u64.wrap x.f1) := by unfold endV; rw [if_neg (by omega), if_pos h]
    have hr := u64_range x.f1
    have hw := wf64 wx.2.1
    rw [e, numS_laid hr.1 hr.2, xor_zero hr.1 hr.2, wrap_u64_back hw.1 hw.2]
    exact ⟨rfl, rfl⟩
  · intro h; unfold endV; rw [if_neg (by omega), if_neg (by omega), if_neg (by omega)]
  · intro h
    have e : endV x = last4 (IntKind.u64.wrap (x.f2.size : Int)) ++ bytesOf x.f2 := by unfold endV; rw [if_neg (by omega), if_neg (by omega), if_pos h]
    rw [e, counted_back _ (by omega), List.length_append, bytesOf_length]; rfl
theorem key_back {x : S43} (rest : List Int) (hx : ok x = true) (wx : OkV x) : Rd.val1 9223372036854775808 Rd.endedP (keyV x ++ rest) = some (tri x, (keyV x).length) := by
  refine val_back (pay := payV) rest hx ?_ ?_ ?_ ?_
  · intro h; unfold payV; rw [if_pos h]
  · intro h
    have e : payV x = laidL (xorTop x.f1) := by unfold payV; rw [if_neg (by omega), if_pos h]
    have hw := wf64 wx.2.1
    rw [e, xorTop_eq wx.2.1, numS_laid (by omega) (by omega), xor_top' (by omega) (by omega)]
    exact ⟨rfl, by unfold wrap64; omega⟩
  · intro h; unfold payV; rw [if_neg (by omega), if_neg (by omega), if_neg (by omega)]
  · intro h
    have e : payV x = repL (numsOf x.f2) ++ [0, 0] := by unfold payV; rw [if_neg (by omega), if_neg (by omega), if_pos h]
    rw [e, List.append_assoc]
    show Rd.endedP (repL (numsOf x.f2) ++ 0 :: 0 :: rest) = _
    rw [ended_back]; simp
theorem decP_back (rest : List Int) : ∀ l : List S43, (∀ x ∈ l, ok x = true ∧ OkV x ∧ x.f2.size ≤ 20000) → decP l.length (encL l ++ rest) = some (l, (encL l).length)
  | [], _ => rfl
  | x :: l, h => by
    obtain ⟨h1, h2, h3⟩ := h x List.mem_cons_self
    rw [List.length_cons, decP, encL, List.append_assoc, enc_back _ h1 h2 h3]
    simp only [Option.bind_some, List.drop_left]
    rw [decP_back rest l fun y hy => h y (List.mem_cons_of_mem _ hy)]
    simp [vX_tri]
theorem unkP_back : ∀ (l : List S43) (f : Nat), l.length < f → (∀ x ∈ l, ok x = true ∧ OkV x) → unkP f (keyL l) = some l
  | l, 0, h, _ => by omega
  | [], f + 1, _, _ => rfl
  | x :: l, f + 1, h, hx => by
    obtain ⟨h1, h2⟩ := hx x List.mem_cons_self
    rw [keyL, unkP, if_neg (by simp [keyV]), key_back _ h1 h2]
    simp only [Option.bind_some, List.drop_left]
    rw [unkP_back l f (by simp at h; omega) fun y hy => hx y (List.mem_cons_of_mem _ hy)]
    simp [vX_tri]
theorem inQ_app {a b : List Int} (ha : inQ a) (hb : inQ b) : inQ (a ++ b) := fun x hx => (List.mem_append.1 hx).elim (ha x) (hb x)
theorem inQ_byte (n i : Int) : 0 ≤ byteL n i ∧ byteL n i ≤ 255 := by unfold byteL; omega
theorem inQ_mod (n : Int) : inQ [n % 256] := fun x hx => by
  simp only [List.mem_cons, List.mem_nil_iff, or_false] at hx
  subst hx; omega
theorem inQ_laid (n : Int) : inQ (laidL n) := fun x hx => by
  simp only [laidL, List.mem_cons, List.mem_nil_iff, or_false] at hx
  rcases hx with rfl | rfl | rfl | rfl | rfl | rfl | rfl | rfl <;> exact inQ_byte _ _
theorem inQ_last (n : Int) : inQ (last4 n) := fun x hx => by
  simp only [last4, List.mem_cons, List.mem_nil_iff, or_false] at hx
  rcases hx with rfl | rfl | rfl | rfl <;> exact inQ_byte _ _
theorem inQ_nil : inQ [] := fun x hx => by cases hx
theorem inQ_enc : ∀ l : List S43, inQ (encL l)
  | [] => inQ_nil
  | x :: l => by
    rw [encL, encV]
    refine inQ_app (inQ_app (inQ_mod x.f0) (b := endV x) ?_) (inQ_enc l)
    unfold endV
    split
    · exact inQ_mod _
    · split
      · exact inQ_laid _
      · split
        · exact inQ_app (inQ_last _) (inQ_nums _)
        · exact inQ_nil
theorem inQ_rep : ∀ {l : List Int}, inQ l → inQ (repL l)
  | [], _ => inQ_nil
  | x :: l, h => by
    have ih := inQ_rep (inQ_tail h)
    rw [repL]
    have hx := h x List.mem_cons_self
    split
    · intro y hy
      rcases List.mem_cons.1 hy with rfl | hy
      · exact ⟨by decide, by decide⟩
      · rcases List.mem_cons.1 hy with rfl | hy
        · exact ⟨by decide, by decide⟩
        · exact ih y hy
    · intro y hy
      rcases List.mem_cons.1 hy with rfl | hy
      · exact hx
      · exact ih y hy
theorem inQ_key : ∀ l : List S43, inQ (keyL l)
  | [] => inQ_nil
  | x :: l => by
    rw [keyL, keyV]
    refine inQ_app (inQ_app (inQ_mod x.f0) (b := payV x) ?_) (inQ_key l)
    unfold payV
    split
    · exact inQ_mod _
    · split
      · exact inQ_laid _
      · split
        · refine inQ_app (inQ_rep (inQ_nums _)) ?_
          intro y hy
          simp only [List.mem_cons, List.mem_nil_iff, or_false] at hy
          rcases hy with rfl | rfl <;> exact ⟨by decide, by decide⟩
        · exact inQ_nil
theorem wt_mem : ∀ {l : List S43} {x : S43}, x ∈ l → x.f2.size ≤ wt l
  | y :: l, x, h => by
    rcases List.mem_cons.1 h with rfl | h
    · rw [wt]; omega
    · have := wt_mem h; rw [wt]; omega
theorem key_ge : ∀ l : List S43, l.length ≤ (keyL l).length
  | [] => Nat.le_refl _
  | x :: l => by
    have := key_ge l
    rw [keyL, List.length_append, List.length_cons, keyV, List.length_cons]; omega
theorem codeBack_pure (a : List S43) (b : List Int) (ha : a.length * 32 ≤ 140737488351232) (wa : ∀ x ∈ a, OkV x) (hb : b.length ≤ 140737488351232) (wb : ∀ x ∈ b, (Lit.int .u8 x).wf = true) : ∃ k, boscagelaw05_CodeBack.f k a b = some true := by
  have hv : inQ b := fun x hx => by
    have := wb x hx
    simp [Lit.wf, IntKind.min, IntKind.max, IntKind.bits, IntKind.signed] at this
    exact this
  refine Ev.rounds ?_
  unfold boscagelaw05_CodeBack.f
  refine Ev.bind live_ev ?_
  obtain ⟨v, hv1, hp⟩ := big1_ev ha wa
  refine Ev.bind hv1 ?_
  have early : Ev (fun k => boscagelaw05_CodeBack.j0 k a b true true) true := by
    refine Ev.at1 ?_
    simp only [boscagelaw05_CodeBack.j0]
    exact Ev.pos (by trivial) (Ev.now _)
  cases v
  · have hw := hp rfl
    have s1 := keyL_len a
    have s2 := encL_len a
    refine Ev.neg (by decide) ?_
    by_cases hg : (b.length : Int) > 100000
    · rw [decide_eq_true hg]; exact early
    · rw [decide_eq_false hg]
      refine Ev.at1 ?_
      simp only [boscagelaw05_CodeBack.j0]
      refine Ev.neg (by decide) (Ev.bind (enc_ev ha wa (by omega)) (Ev.bind (key_ev ha wa (by omega)) ?_))
      by_cases hc : crV a = 0
      · have he : encR a = ([(a.length : Int) % 256] ++ encL a, 0) := by unfold encR; rw [if_pos hc]
        have hk : keyR a = (keyL a, 0) := by unfold keyR; rw [if_pos hc]
        obtain ⟨o1, o2⟩ := crV_ok hc
        rw [he, hk]
        refine Ev.pos rfl (Ev.at1 ?_)
        simp only [boscagelaw05_CodeBack.j1]
        refine Ev.neg (show ¬ (((0 : Int) != 0) = true) by decide) (Ev.pos (by simp; omega) (Ev.bind (Ev.now _) (Ev.pos (by simp; omega) ?_)))
        have q1 : inQ ((([] : List Int) ++ ([(a.length : Int) % 256] ++ encL a)) ++ b) := inQ_app (inQ_app inQ_nil (inQ_app (inQ_mod _) (inQ_enc a))) hv
        have l1 : ((([] : List Int) ++ ([(a.length : Int) % 256] ++ encL a)) ++ b).length ≤ 1000000000 := by simp; omega
        have hd : code_Decode.f ((([] : List Int) ++ ([(a.length : Int) % 256] ++ encL a)) ++ b) = some (a, ((1 + (encL a).length : Nat) : Int), 0) := by
          unfold code_Decode.f
          rw [if_pos ⟨l1, q1⟩, decR_eq q1]
          have e1 : (([] : List Int) ++ ([(a.length : Int) % 256] ++ encL a)) ++ b = ((a.length : Int) % 256) :: (encL a ++ b) := by simp
          have e2 : (a.length : Int) % 256 = (a.length : Int) := by omega
          rw [e1, e2, dcd, if_neg (by omega), Int.toNat_natCast, decP_back b a fun x hx => ⟨o1 x hx, wa x hx, Nat.le_trans (wt_mem hx) hw⟩]
        have hu : code_Unkey.f (keyL a) = some (a, 0) := by
          unfold code_Unkey.f
          rw [if_pos ⟨by omega, inQ_key a⟩, unkR_eq (inQ_key a) (by omega), ukd, unkP_back a _ (by have := key_ge a; omega) fun x hx => ⟨o1 x hx, wa x hx⟩]
          simp only
          rw [if_pos o2]
        refine Ev.bind (Ev.same hd) (Ev.bind (Ev.same hu) (Ev.pos (by trivial) (Ev.bind (sameRow_ev ha) (Ev.pos rfl (Ev.pos ?_ (Ev.pos rfl (Ev.bind (sameRow_ev ha) (Ev.pos rfl (Ev.done rfl)))))))))
        show ((1 + (encL a).length : Nat) : Int) = (([(a.length : Int) % 256] ++ encL a).length : Int)
        rw [List.length_append]; rfl
      · have he : encR a = ([], crV a) := by unfold encR; rw [if_neg hc]
        have hk : keyR a = ([], crV a) := by unfold keyR; rw [if_neg hc]
        rw [he, hk]
        refine Ev.neg hc (Ev.at1 ?_)
        simp only [boscagelaw05_CodeBack.j1]
        exact Ev.pos (by trivial) (Ev.pos (by trivial) (Ev.pos (by trivial) (Ev.pos (by trivial) (Ev.done rfl))))
  · exact Ev.pos (by trivial) early
end Go.Proofs.YtbojfgjdpfobaaaDoor.Cd
