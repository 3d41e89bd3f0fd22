/- Layer 5 in plain words: the check, the key of a row, its order. -/
import Derived.Test.YtbojfgjdpfobaaaDoorPu
import Derived.Test.YtbojfgjdpfobaaaDoorRwV
import Derived.Test.YtbojfgjdpfobaaaDoorQCVx0
import Derived.Test.YtbojfgjdpfobaaaDoorQCVx1
import Derived.Test.YtbojfgjdpfobaaaDoorQCVx2
import Derived.Test.YtbojfgjdpfobaaaDoorQCVx3
import Derived.Test.YtbojfgjdpfobaaaDoorQCVx4
import Derived.Test.YtbojfgjdpfobaaaDoorQCVx5
import Derived.Test.YtbojfgjdpfobaaaDoorQCVx6
import Derived.Test.YtbojfgjdpfobaaaDoorQCVx7
set_option linter.unusedVariables false
set_option linter.unusedSimpArgs false
namespace Go.Proofs.YtbojfgjdpfobaaaDoor.Cd
open Go.RowKit Go.Proofs.YtbojfgjdpfobaaaDoorW.PrintWords Go.Proofs.YtbojfgjdpfobaaaDoor.Pu Go.Proofs.YtbojfgjdpfobaaaDoor.QCV Go.Proofs.YtbojfgjdpfobaaaDoor.Rw

def nil : ByteArray := ⟨#[]⟩
def ok (x : S43) : Bool :=
  if x.f0 = 0 then decide (x.f1 = 0) && decide (bs x.f2 = [])
  else if x.f0 = 1 then (decide (x.f1 = 0) || decide (x.f1 = 1)) && decide (bs x.f2 = [])
  else if x.f0 = 2 then decide (bs x.f2 = [])
  else if x.f0 = 3 ∨ x.f0 = 4 then decide (x.f1 = 0) else false
def chk (x : S43) : Int := if ok x = true then 0 else 1
theorem chk_zero {x : S43} (h : chk x = 0) : ok x = true := by
  unfold chk at h; split at h
  · assumption
  · cases h

theorem wf64 {x : Int} (h : (Lit.int .i64 x).wf = true) : -9223372036854775808 ≤ x ∧ x ≤ 9223372036854775807 := by
  simp [Lit.wf, IntKind.min, IntKind.max, IntKind.bits, IntKind.signed] at h
  exact h
theorem andNot1 {x : Int} (h : (Lit.int .i64 x).wf = true) : Go.bits .andNot .i64 x 1 = 0 ↔ x = 0 ∨ x = 1 := by
  obtain ⟨h0, h1⟩ := wf64 h
  constructor
  · intro hz
    have e : (BitVec.ofInt 64 x &&& ~~~(BitVec.ofInt 64 1)).toNat = 0 := by
      have hl := (BitVec.ofInt 64 x &&& ~~~(BitVec.ofInt 64 1)).isLt
      revert hz
      show IntKind.i64.wrap ((BitVec.ofInt 64 x &&& ~~~(BitVec.ofInt 64 1)).toNat : Int) = 0 → _
      generalize (BitVec.ofInt 64 x &&& ~~~(BitVec.ofInt 64 1)).toNat = n at hl ⊢
      intro hz
      simp [IntKind.wrap, IntKind.bits, IntKind.signed] at hz
      omega
    have e2 : (BitVec.ofInt 64 x &&& ~~~(BitVec.ofInt 64 1)) = 0#64 := BitVec.eq_of_toNat_eq (by rw [e]; rfl)
    have e3 : BitVec.ofInt 64 x = BitVec.ofInt 64 x &&& 1#64 := by
      apply BitVec.eq_of_getLsbD_eq
      intro i hi
      have := congrArg (fun b => b.getLsbD i) e2
      have o : BitVec.ofInt 64 1 = 1#64 := rfl
      rw [o] at this
      simp only [BitVec.getLsbD_and, BitVec.getLsbD_not, hi, decide_true, Bool.true_and, BitVec.getLsbD_zero] at this
      rw [BitVec.getLsbD_and]
      cases hb : (BitVec.ofInt 64 x).getLsbD i <;> cases hc : (1#64).getLsbD i <;> simp_all
    have e4 := congrArg BitVec.toNat e3
    rw [BitVec.toNat_and] at e4
    have e5 : (1#64).toNat = 1 := rfl
    rw [e5, Nat.and_one_is_mod, BitVec.toNat_ofInt] at e4
    omega
  · rintro (rfl | rfl) <;> decide +kernel

theorem value_Check_at (x : S43) (h : (Lit.int .i64 x.f1).wf = true) (k : Nat) : value_Check.f (k + 5) x.f0 x.f1 x.f2 = some (chk x) := by
  have hn := andNot1 h
  have z0 : Go.bits .andNot .i64 0 1 = 0 := by decide +kernel
  have z1 : Go.bits .andNot .i64 1 1 = 0 := by decide +kernel
  have hc : x.f0 < 0 ∨ x.f0 = 0 ∨ x.f0 = 1 ∨ x.f0 = 2 ∨ x.f0 = 3 ∨ x.f0 = 4 ∨ x.f0 > 4 := by omega
  rcases hc with hc | hc | hc | hc | hc | hc | hc
  · have a0 : x.f0 ≠ 0 := by omega
    have a1 : x.f0 ≠ 1 := by omega
    have a2 : x.f0 ≠ 2 := by omega
    have a3 : x.f0 ≠ 3 := by omega
    have a4 : x.f0 ≠ 4 := by omega
    simp [value_Check.f, value_Check.j0, value_Check.j1, chk, ok, hc, a0, a1, a2, a3, a4]
  · by_cases b0 : x.f1 = 0 <;> by_cases s : bs x.f2 = [] <;> simp [value_Check.f, value_Check.j0, value_Check.j1, value_Check.j2, value_Check.j3, value_Check.j4, chk, ok, bs_toList, hn, hc, b0, s]
  · by_cases b0 : x.f1 = 0 <;> by_cases b1 : x.f1 = 1 <;> by_cases s : bs x.f2 = [] <;> simp [value_Check.f, value_Check.j0, value_Check.j1, value_Check.j2, value_Check.j3, value_Check.j4, chk, ok, bs_toList, hn, z0, z1, hc, b0, b1, s]
  · by_cases s : bs x.f2 = [] <;> simp [value_Check.f, value_Check.j0, value_Check.j1, value_Check.j2, value_Check.j3, value_Check.j4, chk, ok, bs_toList, hn, hc, s]
  · by_cases b0 : x.f1 = 0 <;> simp [value_Check.f, value_Check.j0, value_Check.j1, value_Check.j2, value_Check.j3, value_Check.j4, chk, ok, bs_toList, hn, hc, b0]
  · by_cases b0 : x.f1 = 0 <;> simp [value_Check.f, value_Check.j0, value_Check.j1, value_Check.j2, value_Check.j3, value_Check.j4, chk, ok, bs_toList, hn, hc, b0]
  · have a0 : x.f0 ≠ 0 := by omega
    have a1 : x.f0 ≠ 1 := by omega
    have a2 : x.f0 ≠ 2 := by omega
    have a3 : x.f0 ≠ 3 := by omega
    have a4 : x.f0 ≠ 4 := by omega
    simp [value_Check.f, value_Check.j0, value_Check.j1, chk, ok, hc, a0, a1, a2, a3, a4]
theorem Ev.after {α : Type} {g : Nat → Option α} {r : α} (n : Nat) (h : ∀ k, g (k + n) = some r) : Ev g r := ⟨n, fun k hk => by
  have := h (k - n)
  rw [Nat.sub_add_cancel hk] at this
  exact this⟩
theorem rd_drop {l r : List S43} {i : Nat} {c : S43} (h : l.drop i = c :: r) : rd_T43 l (i : Int) = c := by
  have hl := drop_lt h
  rw [List.drop_eq_getElem_cons hl] at h
  injection h with h1 _
  unfold rd_T43
  rw [Int.toNat_natCast, List.getD_eq_getElem?_getD, List.getElem?_eq_getElem hl, Option.getD_some, h1]
theorem mem_drop {l r : List S43} {i : Nat} {c : S43} (h : l.drop i = c :: r) : c ∈ l := by
  have : c ∈ l.drop i := by rw [h]; exact List.mem_cons_self
  exact List.mem_of_mem_drop this
theorem wrap_next {l r : List S43} {i : Nat} {c : S43} (h : l.drop i = c :: r) (hl : l.length ≤ 4398046511105) : wrap64 ((i : Int) + 1) = ((i + 1 : Nat) : Int) := by
  have := drop_lt h
  rw [wrap_id (by omega) (by omega)]; rfl

def cmpV (a b : S43) : Int := if a.f0 < b.f0 then -1 else if b.f0 < a.f0 then 1 else if a.f1 < b.f1 then -1 else if b.f1 < a.f1 then 1 else Lib.compareBytes (bs a.f2) (bs b.f2)
theorem bytes_cmp : ∀ (x y : List UInt8), Lib.compareBytes x y = if Op.bytesLess x y = true then -1 else if x = y then 0 else 1
  | [], [] => rfl
  | [], _ :: _ => rfl
  | _ :: _, [] => by simp [Lib.compareBytes, Op.bytesLess]
  | a :: x, b :: y => by
    have ih := bytes_cmp x y
    rw [Lib.compareBytes, Op.bytesLess, ih]
    by_cases h1 : a < b
    · simp [h1]
    · by_cases h2 : a = b
      · subst h2
        simp [UInt8.lt_irrefl]
      · have h3 : b < a := UInt8.lt_of_le_of_ne (UInt8.not_lt.1 h1) (Ne.symm h2)
        simp [h1, h2, h3]
theorem less_irrefl : ∀ x : List UInt8, Op.bytesLess x x = false
  | [] => rfl
  | a :: x => by simp [Op.bytesLess, less_irrefl x, UInt8.lt_irrefl]


theorem chkV_eq (x : S43) (h : OkV x) : chkV x = chk x := by
  have := value_Check_at x h.2.1 0
  unfold chkV
  rw [show (0 + 5 : Nat) = 5 from rfl] at this
  rw [this]; rfl
theorem badV_eq (x : S43) (h : OkV x) : badV x = !ok x := by
  unfold badV
  rw [chkV_eq x h]
  unfold chk
  cases ok x <;> rfl
/-- why a row may not be -/
def crV (l : List S43) : Int := if l.all ok = true then (if (l.length : Int) > 64 then 2 else 0) else 1
theorem any_bad : ∀ {l : List S43}, (∀ x ∈ l, OkV x) → l.any badV = !l.all ok
  | [], _ => rfl
  | x :: l, h => by
    rw [List.any_cons, List.all_cons, any_bad fun y hy => h y (List.mem_cons_of_mem _ hy), badV_eq x (h x List.mem_cons_self)]
    cases ok x <;> simp
theorem checkRow_ev {l : List S43} (hl : l.length * 32 ≤ 140737488351232) (wf : ∀ x ∈ l, OkV x) : value_CheckRow.f l = some (crV l) := by
  unfold value_CheckRow.f crV
  rw [if_pos (by omega), any_bad wf]
  cases h : l.all ok <;> simp
theorem crV_ok {l : List S43} (h : crV l = 0) : (∀ x ∈ l, ok x = true) ∧ l.length ≤ 64 := by
  unfold crV at h
  by_cases ha : l.all ok = true
  · rw [if_pos ha] at h
    refine ⟨fun x hx => List.all_eq_true.1 ha x hx, ?_⟩
    by_cases hb : (l.length : Int) > 64
    · rw [if_pos hb] at h; cases h
    · omega
  · rw [if_neg ha] at h; cases h

/-! a row's key -/
def xorTop (n : Int) : Int := Go.bits .xor .u64 (IntKind.u64.wrap n) 9223372036854775808
def payV (x : S43) : List Int :=
  if x.f0 = 1 then [x.f1 % 256] else if x.f0 = 2 then laidL (xorTop x.f1) else if x.f0 = 3 ∨ x.f0 = 4 then repL (numsOf x.f2) ++ [0, 0] else []
def keyV (x : S43) : List Int := (x.f0 % 256) :: payV x
def keyL : List S43 → List Int
  | [] => []
  | x :: l => keyV x ++ keyL l
theorem keyL_append : ∀ a b, keyL (a ++ b) = keyL a ++ keyL b
  | [], _ => rfl
  | x :: a, b => by rw [List.cons_append, keyL, keyL, keyL_append a b, List.append_assoc]
theorem key_loop {l : List S43} (hl : l.length * 32 ≤ 140737488351232) : ∀ (r : List S43) (i : Nat) (acc : List Int), l.drop i = r → acc.length + (keyL r).length < 140737488355328 →
    Ev (fun k => code_Key.l0 k acc l (l.length : Int) (i : Int)) (acc ++ keyL r, 0) := by
  intro r
  induction r with
  | nil =>
    intro i acc h hs
    have := List.drop_eq_nil_iff.1 h
    refine Ev.at1 ?_
    simp only [code_Key.l0]
    exact Ev.neg (by omega) (Ev.done (by simp [keyL]))
  | cons c r ih =>
    intro i acc h hs
    have hlt := drop_lt h
    have hw := wrap_next h (by omega)
    have hk : (keyL (c :: r)).length = 1 + (payV c).length + (keyL r).length := by simp [keyL, keyV]; omega
    refine Ev.at1 ?_
    simp only [code_Key.l0]
    refine Ev.pos (by omega) (Ev.pos (by omega) (Ev.pos (by omega) (Ev.pos (by omega) ?_)))
    rw [rd_drop h, hw]
    refine Ev.given ?_
    by_cases k1 : c.f0 = 1
    · have hp : payV c = [c.f1 % 256] := by unfold payV; rw [if_pos k1]
      have hpl : (payV c).length = 1 := by rw [hp]; rfl
      refine Ev.pos k1 (Ev.pos (by simp; omega) ?_)
      refine Ev.eq (ih (i + 1) _ (drop_next h) (by simp; omega)) ?_
      simp [keyL, keyV, hp]
    · refine Ev.neg k1 ?_
      by_cases k2 : c.f0 = 2
      · have hp : payV c = laidL (xorTop c.f1) := by unfold payV; rw [if_neg k1, if_pos k2]
        have hpl : (payV c).length = 8 := by rw [hp]; rfl
        have h8 : (laidL (xorTop c.f1)).length = 8 := rfl
        refine Ev.pos k2 (Ev.bind (a := laidL (xorTop c.f1)) (Ev.same rfl) (Ev.pos (by rw [h8]; simp; omega) ?_))
        refine Ev.eq (ih (i + 1) _ (drop_next h) (by rw [List.length_append, h8]; simp; omega)) ?_
        simp [keyL, keyV, hp]
      · refine Ev.neg k2 ?_
        have text : (c.f0 = 3 ∨ c.f0 = 4) → Ev (fun k => (bytes_ReplaceAll.f (c.f2)).bind fun t162 => (if (acc ++ [c.f0 % 256]).length + t162.length < 140737488355328 then ((some (acc ++ [c.f0 % 256] ++ t162 : List Int)).bind fun y165 => ((some (([0, 0] : List Int) : List Int)).bind fun y168 => (if y165.length + y168.length < 140737488355328 then (code_Key.l0 k (y165 ++ y168) l (l.length : Int) ((i + 1 : Nat) : Int)) else (none)))) else (none))) (acc ++ keyL (c :: r), 0) := by
          intro k34
          have hp : payV c = repL (numsOf c.f2) ++ [0, 0] := by unfold payV; rw [if_neg k1, if_neg k2, if_pos k34]
          have hpl : (payV c).length = (repL (numsOf c.f2)).length + 2 := by rw [hp]; simp
          refine Ev.bind (a := repL (numsOf c.f2)) (Ev.same (by unfold bytes_ReplaceAll.f; rw [if_pos (by omega)])) (Ev.pos (by simp; omega) (Ev.given (Ev.given (Ev.pos (by simp; omega) ?_))))
          refine Ev.eq (ih (i + 1) _ (drop_next h) (by simp; omega)) ?_
          simp [keyL, keyV, hp]
        by_cases k3 : c.f0 = 3
        · exact Ev.pos k3 (text (.inl k3))
        · refine Ev.neg k3 ?_
          by_cases k4 : c.f0 = 4
          · exact Ev.pos k4 (text (.inr k4))
          · refine Ev.neg k4 ?_
            have hp : payV c = [] := by unfold payV; rw [if_neg k1, if_neg k2, if_neg (by omega)]
            refine Ev.eq (ih (i + 1) _ (drop_next h) (by simp; omega)) ?_
            simp [keyL, keyV, hp]
def keyR (l : List S43) : List Int × Int := if crV l = 0 then (keyL l, 0) else ([], crV l)
theorem key_ev {l : List S43} (hl : l.length * 32 ≤ 140737488351232) (wf : ∀ x ∈ l, OkV x) (hs : (keyL l).length < 140737488355328) : Ev (fun k => code_Key.f k l) (keyR l) := by
  unfold code_Key.f keyR
  rw [checkRow_ev hl wf]
  refine Ev.given ?_
  by_cases h : crV l = 0
  · rw [if_pos h]
    exact Ev.pos h (Ev.eq (key_loop hl l 0 [] rfl (by simpa using hs)) (by simp))
  · rw [if_neg h]
    exact Ev.neg h (Ev.now _)
/-! how great rows are -/
def wt : List S43 → Nat
  | [] => 0
  | x :: l => 1 + x.f2.size + wt l
theorem nums_len (s : ByteArray) : (numsOf s).length = s.size := by unfold numsOf; rw [List.length_map, Array.length_toList]; rfl
theorem keyL_len : ∀ l, (keyL l).length ≤ 11 * wt l
  | [] => Nat.le_refl _
  | x :: l => by
    have ih := keyL_len l
    have h1 : (payV x).length ≤ 10 + 2 * x.f2.size := by
      unfold payV
      by_cases k1 : x.f0 = 1
      · rw [if_pos k1]; simp; omega
      · rw [if_neg k1]
        by_cases k2 : x.f0 = 2
        · rw [if_pos k2]; show 8 ≤ _; omega
        · rw [if_neg k2]
          by_cases k3 : x.f0 = 3 ∨ x.f0 = 4
          · rw [if_pos k3, List.length_append, repL_length]
            have h2 : (numsOf x.f2).count 0 ≤ (numsOf x.f2).length := List.count_le_length
            rw [nums_len] at h2 ⊢
            simp; omega
          · rw [if_neg k3]; simp
    simp only [keyL, keyV, wt, List.length_append, List.length_cons]
    omega
/-! how many are played -/
theorem few_row (ls : List (List S43)) (L j : Int) (l : List S43) (hl : l.length * 32 ≤ 140737488351232) (wf : ∀ x ∈ l, OkV x) (P : Prop) : ∀ (r : List S43) (i : Nat) (n : Int), l.drop i = r → 0 ≤ n → n ≤ 20000 →
    (∀ n' : Int, n' = n + (wt r : Nat) → n' ≤ 20000 → ∃ b, Ev (fun k => boscageref01_Few.l0 k 20000 n' ls L (wrap64 (j + 1))) b ∧ (b = true → P)) →
    ∃ b, Ev (fun k => boscageref01_Few.l1 k 20000 n ls L j l (l.length : Int) (i : Int)) b ∧ (b = true → P ∧ n + (wt r : Nat) ≤ 20000) := by
  intro r
  induction r with
  | nil =>
    intro i n h h0 h1 next
    have := List.drop_eq_nil_iff.1 h
    obtain ⟨b, hb, hp⟩ := next n (by simp [wt]) h1
    refine ⟨b, Ev.at1 ?_, fun e => ⟨hp e, by simpa [wt] using h1⟩⟩
    simp only [boscageref01_Few.l1]
    exact Ev.neg (by omega) hb
  | cons c r ih =>
    intro i n h h0 h1 next
    have hlt := drop_lt h
    have hw := wrap_next h (by omega)
    have hs := (wf c (mem_drop h)).2.2
    have e1 : wrap64 (1 + (c.f2.size : Int)) = 1 + (c.f2.size : Int) := wrap_id (by omega) (by omega)
    have e2 : wrap64 (n + (1 + (c.f2.size : Int))) = n + (1 + (c.f2.size : Int)) := wrap_id (by omega) (by omega)
    by_cases hg : n + (1 + (c.f2.size : Int)) > 20000
    · refine ⟨false, Ev.at1 ?_, fun e => by cases e⟩
      simp only [boscageref01_Few.l1]
      refine Ev.pos (by omega) (Ev.pos (by omega) (Ev.pos (by omega) ?_))
      rw [rd_drop h, e1, e2]
      exact Ev.pos hg (Ev.now _)
    · obtain ⟨b, hb, hp⟩ := ih (i + 1) (n + (1 + (c.f2.size : Int))) (drop_next h) (by omega) (by omega) (fun n' hn' hl' => next n' (by rw [hn', wt]; omega) hl')
      refine ⟨b, Ev.at1 ?_, fun e => ⟨(hp e).1, by have := (hp e).2; rw [wt]; omega⟩⟩
      simp only [boscageref01_Few.l1]
      refine Ev.pos (by omega) (Ev.pos (by omega) (Ev.pos (by omega) ?_))
      rw [rd_drop h, e1, e2, hw]
      exact Ev.neg hg hb
def q8 (S : List UInt8) : List Int := S.map fun c => ((c.toNat : Nat) : Int)

/-! the document's check of a row -/
theorem ref_Check_ev (x : S43) : Ev (fun k => boscageref01_Check.f k x.f0 x.f1 x.f2) (chk x) := Ev.after 1 fun k => by
  by_cases a0 : x.f0 = 0
  · by_cases b0 : x.f1 = 0 <;> by_cases s : bs x.f2 = [] <;> simp [boscageref01_Check.f, boscageref01_Check.j0, chk, ok, bs_toList, a0, b0, s]
  by_cases a1 : x.f0 = 1
  · by_cases b0 : x.f1 = 0 <;> by_cases b1 : x.f1 = 1 <;> by_cases s : bs x.f2 = [] <;> simp [boscageref01_Check.f, boscageref01_Check.j0, chk, ok, bs_toList, a0, a1, b0, b1, s]
  by_cases a2 : x.f0 = 2
  · by_cases s : bs x.f2 = [] <;> simp [boscageref01_Check.f, boscageref01_Check.j0, chk, ok, bs_toList, a0, a1, a2, s]
  by_cases a3 : x.f0 = 3
  · by_cases b0 : x.f1 = 0 <;> simp [boscageref01_Check.f, boscageref01_Check.j0, chk, ok, bs_toList, a3, b0]
  by_cases a4 : x.f0 = 4
  · by_cases b0 : x.f1 = 0 <;> simp [boscageref01_Check.f, boscageref01_Check.j0, chk, ok, bs_toList, a4, b0]
  simp [boscageref01_Check.f, boscageref01_Check.j0, chk, ok, bs_toList, a0, a1, a2, a3, a4]

theorem refCheck_loop {l : List S43} (hl : l.length * 32 ≤ 140737488351232) : ∀ (r : List S43) (i : Nat), l.drop i = r → Ev (fun k => boscageref01_CheckRow.l0 k l l (l.length : Int) (i : Int)) (if r.all ok = true then (if (l.length : Int) > 64 then 2 else 0) else 1) := by
  intro r
  induction r with
  | nil =>
    intro i h
    have := List.drop_eq_nil_iff.1 h
    refine Ev.at1 ?_
    simp only [boscageref01_CheckRow.l0]
    refine Ev.neg (by omega) ?_
    by_cases hg : (l.length : Int) > 64
    · exact Ev.pos hg (Ev.done (by simp [hg]))
    · exact Ev.neg hg (Ev.done (by simp [hg]))
  | cons c r ih =>
    intro i h
    have hlt := drop_lt h
    have hw := wrap_next h (by omega)
    refine Ev.at1 ?_
    simp only [boscageref01_CheckRow.l0]
    refine Ev.pos (by omega) (Ev.pos (by omega) (Ev.pos (by omega) ?_))
    rw [rd_drop h, hw]
    refine Ev.bind (ref_Check_ev c) ?_
    by_cases hc : ok c = true
    · refine Ev.pos (by simp [chk, hc]) (Ev.eq (ih (i + 1) (drop_next h)) ?_)
      simp [hc]
    · refine Ev.neg (by simp [chk, hc]) (Ev.done ?_)
      simp [chk, hc]
theorem refCheckRow_ev {l : List S43} (hl : l.length * 32 ≤ 140737488351232) : Ev (fun k => boscageref01_CheckRow.f k l) (crV l) := refCheck_loop hl l 0 rfl
/-! a number's bytes, by the document -/
theorem wide_step {n many i : Int} {acc r : List Int} (hi : 0 ≤ i) (h : i < many) (hm : many ≤ 8) (ha : acc.length < 140737488355328) (next : Ev (fun k => boscageref05_wide.l0 k n many (acc ++ [byteL n (8 - many + i)]) many (i + 1)) r) :
    Ev (fun k => boscageref05_wide.l0 k n many acc many i) r := by
  have w1 : wrap64 (many - 1) = many - 1 := wrap_id (by omega) (by omega)
  have w2 : wrap64 (many - 1 - i) = many - 1 - i := wrap_id (by omega) (by omega)
  have w3 : wrap64 (8 * (many - 1 - i)) = 8 * (many - 1 - i) := wrap_id (by omega) (by omega)
  have w4 : IntKind.u64.wrap (8 * (many - 1 - i)) = 8 * (many - 1 - i) := by simp [IntKind.wrap, IntKind.bits, IntKind.signed]; omega
  have w5 : wrap64 (i + 1) = i + 1 := wrap_id (by omega) (by omega)
  refine Ev.at1 ?_
  simp only [boscageref05_wide.l0]
  rw [w1, w2, w3, w4, w5]
  refine Ev.pos h (Ev.pos (by omega) (Ev.pos ha ?_))
  have e : (shr .u64 n (8 * (many - 1 - i))) % 256 = byteL n (8 - many + i) := by
    unfold shr byteL
    rw [Nat.min_eq_left (show (8 * (many - 1 - i)).toNat ≤ IntKind.u64.bits from (show _ ≤ 64 by omega)), show 56 - 8 * (8 - many + i) = 8 * (many - 1 - i) by omega]
  rw [e]
  exact next
theorem wide_end {n many : Int} {acc : List Int} : Ev (fun k => boscageref05_wide.l0 k n many acc many many) acc := by
  refine Ev.at1 ?_
  simp only [boscageref05_wide.l0]
  exact Ev.neg (by omega) (Ev.now _)
theorem wide8 (n : Int) : Ev (fun k => boscageref05_wide.f k n 8) (laidL n) := by
  unfold boscageref05_wide.f
  refine wide_step (by decide) (by decide) (by decide) (by decide) (wide_step (by decide) (by decide) (by decide) (by simp) (wide_step (by decide) (by decide) (by decide) (by simp) (wide_step (by decide) (by decide) (by decide) (by simp) (wide_step (by decide) (by decide) (by decide) (by simp) (wide_step (by decide) (by decide) (by decide) (by simp) (wide_step (by decide) (by decide) (by decide) (by simp) (wide_step (by decide) (by decide) (by decide) (by simp) ?_)))))))
  exact Ev.eq wide_end rfl
def last4 (n : Int) : List Int := [byteL n 4, byteL n 5, byteL n 6, byteL n 7]
theorem wide4 (n : Int) : Ev (fun k => boscageref05_wide.f k n 4) (last4 n) := by
  unfold boscageref05_wide.f
  refine wide_step (by decide) (by decide) (by decide) (by decide) (wide_step (by decide) (by decide) (by decide) (by simp) (wide_step (by decide) (by decide) (by decide) (by simp) (wide_step (by decide) (by decide) (by decide) (by simp) ?_)))
  exact Ev.eq wide_end rfl
/-! a row's bytes -/
def endV (x : S43) : List Int :=
  if x.f0 = 1 then [x.f1 % 256] else if x.f0 = 2 then laidL (IntKind.u64.wrap x.f1) else if x.f0 = 3 ∨ x.f0 = 4 then last4 (IntKind.u64.wrap (x.f2.size : Int)) ++ bytesOf x.f2 else []
def encV (x : S43) : List Int := (x.f0 % 256) :: endV x
def encL : List S43 → List Int
  | [] => []
  | x :: l => encV x ++ encL l
theorem encL_len : ∀ l, (encL l).length ≤ 11 * wt l
  | [] => Nat.le_refl _
  | x :: l => by
    have ih := encL_len l
    have h1 : (endV x).length ≤ 10 + x.f2.size := by
      unfold endV
      by_cases k1 : x.f0 = 1
      · rw [if_pos k1]; simp; omega
      · rw [if_neg k1]
        by_cases k2 : x.f0 = 2
        · rw [if_pos k2]; show 8 ≤ _; omega
        · rw [if_neg k2]
          by_cases k3 : x.f0 = 3 ∨ x.f0 = 4
          · rw [if_pos k3, List.length_append, bytesOf_length]; show 4 + _ ≤ _; omega
          · rw [if_neg k3]; simp
    simp only [encL, encV, wt, List.length_append, List.length_cons]
    omega
/-- the document's key: a text's bytes, one by one -/
theorem text_loop {l : List S43} (c : S43) (hc : c.f2.size ≤ 140737488351232) (i : Int) (r : List Int × Int) : ∀ (t : List UInt8) (j : Nat) (acc : List Int), (bs c.f2).drop j = t → acc.length + (repL (q8 t)).length + 2 < 140737488355328 →
    Ev (fun k => boscageref05_Key.l0 k (acc ++ repL (q8 t) ++ [0, 0]) l (l.length : Int) (wrap64 (i + 1))) r → Ev (fun k => boscageref05_Key.l1 k acc (j : Int) l (l.length : Int) i c.f0 c.f1 c.f2) r := by
  have hsz := bs_length c.f2
  intro t
  induction t with
  | nil =>
    intro j acc h hs next
    have := List.drop_eq_nil_iff.1 h
    refine Ev.at1 ?_
    simp only [boscageref05_Key.l1]
    refine Ev.neg (by omega) (Ev.given (Ev.pos (by simp [repL, q8] at hs ⊢; omega) ?_))
    refine Ev.eq (Ev.congr (fun k => ?_) next) rfl
    simp [repL, q8]
  | cons d t ih =>
    intro j acc h hs next
    have hlt := drop_lt h
    have hw : wrap64 ((j : Int) + 1) = ((j + 1 : Nat) : Int) := by rw [wrap_id (by omega) (by omega)]; rfl
    have eq8 : q8 (d :: t) = ((d.toNat : Nat) : Int) :: q8 t := rfl
    refine Ev.at1 ?_
    simp only [boscageref05_Key.l1]
    rw [eq8, repL] at hs next
    refine Ev.pos (by omega) (Ev.pos (by omega) (Ev.pos (by omega) (Ev.given ?_)))
    rw [bt_drop h, hw]
    by_cases hz : ((d.toNat : Nat) : Int) = 0
    · rw [if_pos hz] at hs next
      rw [hz]
      have hs' : acc.length + ((repL (q8 t)).length + 2) + 2 < 140737488355328 := by simpa using hs
      refine Ev.pos rfl (Ev.pos (by simp; omega) (ih (j + 1) _ (drop_next h) (by simp; omega) ?_))
      refine Ev.eq (Ev.congr (fun k => ?_) next) rfl
      simp
    · rw [if_neg hz] at hs next
      have hs' : acc.length + ((repL (q8 t)).length + 1) + 2 < 140737488355328 := by simpa using hs
      refine Ev.neg hz (ih (j + 1) _ (drop_next h) (by simp; omega) ?_)
      refine Ev.eq (Ev.congr (fun k => ?_) next) rfl
      simp
section
variable {l : List S43} (hl : l.length * 32 ≤ 140737488351232)
include hl
theorem enc_loop : ∀ (r : List S43) (i : Nat) (acc : List Int), l.drop i = r → acc.length + (encL r).length < 140737488355328 →
    Ev (fun k => code_Encode.l0 k acc l (l.length : Int) (i : Int)) (acc ++ encL r, 0) := by
  intro r
  induction r with
  | nil =>
    intro i acc h hs
    have := List.drop_eq_nil_iff.1 h
    refine Ev.at1 ?_
    simp only [code_Encode.l0]
    exact Ev.neg (by omega) (Ev.done (by simp [encL]))
  | cons c r ih =>
    intro i acc h hs
    have hlt := drop_lt h
    have hw := wrap_next h (by omega)
    have hk : (encL (c :: r)).length = 1 + (endV c).length + (encL r).length := by simp [encL, encV]; omega
    refine Ev.at1 ?_
    simp only [code_Encode.l0]
    refine Ev.pos (by omega) (Ev.pos (by omega) (Ev.pos (by omega) (Ev.pos (by omega) ?_)))
    rw [rd_drop h, hw]
    refine Ev.given ?_
    by_cases k1 : c.f0 = 1
    · have hp : endV c = [c.f1 % 256] := by unfold endV; rw [if_pos k1]
      have hpl : (endV c).length = 1 := by rw [hp]; rfl
      refine Ev.pos k1 (Ev.pos (by simp; omega) ?_)
      refine Ev.eq (ih (i + 1) _ (drop_next h) (by simp; omega)) ?_
      simp [encL, encV, hp]
    · refine Ev.neg k1 ?_
      by_cases k2 : c.f0 = 2
      · have hp : endV c = laidL (IntKind.u64.wrap c.f1) := by unfold endV; rw [if_neg k1, if_pos k2]
        have hpl : (endV c).length = 8 := by rw [hp]; rfl
        have h8 : (laidL (IntKind.u64.wrap c.f1)).length = 8 := rfl
        refine Ev.pos k2 (Ev.bind (a := laidL (IntKind.u64.wrap c.f1)) (Ev.same rfl) (Ev.pos (by rw [h8]; simp; omega) ?_))
        refine Ev.eq (ih (i + 1) _ (drop_next h) (by rw [List.length_append, h8]; simp; omega)) ?_
        simp [encL, encV, hp]
      · refine Ev.neg k2 ?_
        have text : (c.f0 = 3 ∨ c.f0 = 4) → Ev (fun k => (code_Unkey.f (IntKind.u64.wrap ((c.f2).size : Int))).bind fun t141 => (if (acc ++ [c.f0 % 256]).length + t141.length < 140737488355328 then ((some (acc ++ [c.f0 % 256] ++ t141 : List Int)).bind fun y144 => (if y144.length + (c.f2).size < 140737488355328 then (code_Encode.l0 k (y144 ++ bytesOf (c.f2)) l (l.length : Int) ((i + 1 : Nat) : Int)) else (none))) else (none))) (acc ++ encL (c :: r), 0) := by
          intro k34
          have hp : endV c = last4 (IntKind.u64.wrap (c.f2.size : Int)) ++ bytesOf c.f2 := by unfold endV; rw [if_neg k1, if_neg k2, if_pos k34]
          have h4 : (last4 (IntKind.u64.wrap (c.f2.size : Int))).length = 4 := rfl
          have hpl : (endV c).length = 4 + c.f2.size := by rw [hp, List.length_append, h4, bytesOf_length]
          refine Ev.bind (a := last4 (IntKind.u64.wrap (c.f2.size : Int))) (Ev.same rfl) (Ev.pos (by rw [h4]; simp; omega) (Ev.given (Ev.pos (by rw [List.length_append, h4]; simp; omega) ?_)))
          refine Ev.eq (ih (i + 1) _ (drop_next h) (by rw [List.length_append, List.length_append, h4, bytesOf_length]; simp; omega)) ?_
          simp [encL, encV, hp]
        by_cases k3 : c.f0 = 3
        · exact Ev.pos k3 (text (.inl k3))
        · refine Ev.neg k3 ?_
          by_cases k4 : c.f0 = 4
          · exact Ev.pos k4 (text (.inr k4))
          · refine Ev.neg k4 ?_
            have hp : endV c = [] := by unfold endV; rw [if_neg k1, if_neg k2, if_neg (by omega)]
            refine Ev.eq (ih (i + 1) _ (drop_next h) (by simp; omega)) ?_
            simp [encL, encV, hp]
theorem refEnc_loop : ∀ (r : List S43) (i : Nat) (acc : List Int), l.drop i = r → acc.length + (encL r).length < 140737488355328 →
    Ev (fun k => boscageref05_Encode.l0 k acc l (l.length : Int) (i : Int)) (acc ++ encL r, 0) := by
  intro r
  induction r with
  | nil =>
    intro i acc h hs
    have := List.drop_eq_nil_iff.1 h
    refine Ev.at1 ?_
    simp only [boscageref05_Encode.l0]
    exact Ev.neg (by omega) (Ev.done (by simp [encL]))
  | cons c r ih =>
    intro i acc h hs
    have hlt := drop_lt h
    have hw := wrap_next h (by omega)
    have hk : (encL (c :: r)).length = 1 + (endV c).length + (encL r).length := by simp [encL, encV]; omega
    refine Ev.at1 ?_
    simp only [boscageref05_Encode.l0]
    refine Ev.pos (by omega) (Ev.pos (by omega) (Ev.pos (by omega) (Ev.pos (by omega) ?_)))
    rw [rd_drop h, hw]
    refine Ev.given ?_
    by_cases k1 : c.f0 = 1
    · have hp : endV c = [c.f1 % 256] := by unfold endV; rw [if_pos k1]
      have hpl : (endV c).length = 1 := by rw [hp]; rfl
      refine Ev.pos k1 (Ev.pos (by simp; omega) ?_)
      refine Ev.eq (ih (i + 1) _ (drop_next h) (by simp; omega)) ?_
      simp [encL, encV, hp]
    · refine Ev.neg k1 ?_
      by_cases k2 : c.f0 = 2
      · have hp : endV c = laidL (IntKind.u64.wrap c.f1) := by unfold endV; rw [if_neg k1, if_pos k2]
        have hpl : (endV c).length = 8 := by rw [hp]; rfl
        have h8 : (laidL (IntKind.u64.wrap c.f1)).length = 8 := rfl
        refine Ev.pos k2 (Ev.bind (wide8 _) (Ev.pos (by rw [h8]; simp; omega) ?_))
        refine Ev.eq (ih (i + 1) _ (drop_next h) (by rw [List.length_append, h8]; simp; omega)) ?_
        simp [encL, encV, hp]
      · refine Ev.neg k2 ?_
        have text : (c.f0 = 3 ∨ c.f0 = 4) → Ev (fun k => (boscageref05_wide.f k (IntKind.u64.wrap ((c.f2).size : Int)) 4).bind fun t141 => (if (acc ++ [c.f0 % 256]).length + t141.length < 140737488355328 then ((some (acc ++ [c.f0 % 256] ++ t141 : List Int)).bind fun y144 => (if y144.length + (c.f2).size < 140737488355328 then (boscageref05_Encode.l0 k (y144 ++ bytesOf (c.f2)) l (l.length : Int) ((i + 1 : Nat) : Int)) else (none))) else (none))) (acc ++ encL (c :: r), 0) := by
          intro k34
          have hp : endV c = last4 (IntKind.u64.wrap (c.f2.size : Int)) ++ bytesOf c.f2 := by unfold endV; rw [if_neg k1, if_neg k2, if_pos k34]
          have h4 : (last4 (IntKind.u64.wrap (c.f2.size : Int))).length = 4 := rfl
          have hpl : (endV c).length = 4 + c.f2.size := by rw [hp, List.length_append, h4, bytesOf_length]
          refine Ev.bind (wide4 _) (Ev.pos (by rw [h4]; simp; omega) (Ev.given (Ev.pos (by rw [List.length_append, h4]; simp; omega) ?_)))
          refine Ev.eq (ih (i + 1) _ (drop_next h) (by rw [List.length_append, List.length_append, h4, bytesOf_length]; simp; omega)) ?_
          simp [encL, encV, hp]
        by_cases k3 : c.f0 = 3
        · exact Ev.pos k3 (text (.inl k3))
        · refine Ev.neg k3 ?_
          by_cases k4 : c.f0 = 4
          · exact Ev.pos k4 (text (.inr k4))
          · refine Ev.neg k4 ?_
            have hp : endV c = [] := by unfold endV; rw [if_neg k1, if_neg k2, if_neg (by omega)]
            refine Ev.eq (ih (i + 1) _ (drop_next h) (by simp; omega)) ?_
            simp [encL, encV, hp]
theorem refKey_loop (wf : ∀ x ∈ l, OkV x) : ∀ (r : List S43) (i : Nat) (acc : List Int), l.drop i = r → acc.length + (keyL r).length < 140737488355328 →
    Ev (fun k => boscageref05_Key.l0 k acc l (l.length : Int) (i : Int)) (acc ++ keyL r, 0) := by
  intro r
  induction r with
  | nil =>
    intro i acc h hs
    have := List.drop_eq_nil_iff.1 h
    refine Ev.at1 ?_
    simp only [boscageref05_Key.l0]
    exact Ev.neg (by omega) (Ev.done (by simp [keyL]))
  | cons c r ih =>
    intro i acc h hs
    have hlt := drop_lt h
    have hw := wrap_next h (by omega)
    have hk : (keyL (c :: r)).length = 1 + (payV c).length + (keyL r).length := by simp [keyL, keyV]; omega
    refine Ev.at1 ?_
    simp only [boscageref05_Key.l0]
    refine Ev.pos (by omega) (Ev.pos (by omega) (Ev.pos (by omega) (Ev.pos (by omega) ?_)))
    rw [rd_drop h, hw]
    refine Ev.given ?_
    by_cases k1 : c.f0 = 1
    · have hp : payV c = [c.f1 % 256] := by unfold payV; rw [if_pos k1]
      have hpl : (payV c).length = 1 := by rw [hp]; rfl
      refine Ev.pos k1 (Ev.pos (by simp; omega) ?_)
      refine Ev.eq (ih (i + 1) _ (drop_next h) (by simp; omega)) ?_
      simp [keyL, keyV, hp]
    · refine Ev.neg k1 ?_
      by_cases k2 : c.f0 = 2
      · have hp : payV c = laidL (xorTop c.f1) := by unfold payV; rw [if_neg k1, if_pos k2]
        have hpl : (payV c).length = 8 := by rw [hp]; rfl
        have h8 : (laidL (xorTop c.f1)).length = 8 := rfl
        refine Ev.pos k2 (Ev.bind (wide8 _) (Ev.pos (show (acc ++ [c.f0 % 256]).length + (laidL (xorTop c.f1)).length < 140737488355328 by rw [h8]; simp; omega) ?_))
        refine Ev.eq (ih (i + 1) (acc ++ [c.f0 % 256] ++ laidL (xorTop c.f1)) (drop_next h) (by rw [List.length_append, h8]; simp; omega)) ?_
        simp [keyL, keyV, hp]
      · refine Ev.neg k2 ?_
        have text : (c.f0 = 3 ∨ c.f0 = 4) → Ev (fun k => boscageref05_Key.j1 k (acc ++ [c.f0 % 256]) l (l.length : Int) (i : Int) true c.f0 c.f1 c.f2) (acc ++ keyL (c :: r), 0) := by
          intro k34
          have hp : payV c = repL (q8 (bs c.f2)) ++ [0, 0] := by unfold payV; rw [if_neg k1, if_neg k2, if_pos k34]; rfl
          have hpl : (payV c).length = (repL (q8 (bs c.f2))).length + 2 := by rw [hp]; simp
          refine Ev.at1 ?_
          simp only [boscageref05_Key.j1]
          refine Ev.pos (by trivial) (text_loop c (wf c (mem_drop h)).2.2 (i : Int) _ (bs c.f2) 0 _ rfl (by simp; omega) ?_)
          rw [hw]
          refine Ev.eq (ih (i + 1) _ (drop_next h) (by simp; omega)) ?_
          simp [keyL, keyV, hp]
        by_cases k3 : c.f0 = 3
        · refine Ev.pos k3 ?_
          rw [show (c.f0 == 3) = true from beq_iff_eq.2 k3]
          exact text (.inl k3)
        · refine Ev.neg k3 ?_
          by_cases k4 : c.f0 = 4
          · rw [show (c.f0 == 4) = true from beq_iff_eq.2 k4]
            exact text (.inr k4)
          · rw [show (c.f0 == 4) = false from beq_eq_false_iff_ne.2 k4]
            have hp : payV c = [] := by unfold payV; rw [if_neg k1, if_neg k2, if_neg (by omega)]
            refine Ev.at1 ?_
            simp only [boscageref05_Key.j1]
            refine Ev.neg (by decide) ?_
            rw [hw]
            refine Ev.eq (ih (i + 1) _ (drop_next h) (by simp; omega)) ?_
            simp [keyL, keyV, hp]
end
def encR (l : List S43) : List Int × Int := if crV l = 0 then ([(l.length : Int) % 256] ++ encL l, 0) else ([], crV l)
theorem refEnc_ev {l : List S43} (hl : l.length * 32 ≤ 140737488351232) (hs : (encL l).length < 140737488350000) : Ev (fun k => boscageref05_Encode.f k l) (encR l) := by
  unfold boscageref05_Encode.f encR
  refine Ev.bind (refCheckRow_ev hl) ?_
  by_cases h : crV l = 0
  · rw [if_pos h]
    exact Ev.pos h (refEnc_loop hl l 0 _ rfl (by simp; omega))
  · rw [if_neg h]
    exact Ev.neg h (Ev.now _)
section
variable {l : List S43} (hl : l.length * 32 ≤ 140737488351232) (wf : ∀ x ∈ l, OkV x)
include hl wf
theorem enc_ev (hs : (encL l).length < 140737488350000) : Ev (fun k => code_Encode.f k l) (encR l) := by
  unfold code_Encode.f encR
  rw [checkRow_ev hl wf]
  refine Ev.given ?_
  by_cases h : crV l = 0
  · rw [if_pos h]
    exact Ev.pos h (enc_loop hl l 0 _ rfl (by simp; omega))
  · rw [if_neg h]
    exact Ev.neg h (Ev.now _)
theorem refKey_ev (hs : (keyL l).length < 140737488355328) : Ev (fun k => boscageref05_Key.f k l) (keyR l) := by
  unfold boscageref05_Key.f keyR
  refine Ev.bind (refCheckRow_ev hl) ?_
  by_cases h : crV l = 0
  · rw [if_pos h]
    exact Ev.pos h (Ev.eq (refKey_loop hl wf l 0 [] rfl (by simpa using hs)) (by simp))
  · rw [if_neg h]
    exact Ev.neg h (Ev.now _)
theorem big1_ev : ∃ v, Ev (fun k => boscageref05_text.f k l) v ∧ (v = false → wt l ≤ 20000) := by
  have w01 : wrap64 ((0 : Int) + 1) = 1 := wrap_id (by decide) (by decide)
  obtain ⟨v, hv, hp⟩ := few_row [l] 1 0 l hl wf True l 0 1 rfl (by omega) (by omega) (fun n' hn' hl' => ⟨decide (n' ≤ 20000), by
    rw [w01]
    refine Ev.at1 ?_
    simp only [boscageref01_Few.l0]
    exact Ev.neg (by decide) (Ev.now _), fun _ => trivial⟩)
  refine ⟨!v, Ev.bind (a := v) ?_ (Ev.now _), fun e => by have := hp (by simpa using e); omega⟩
  unfold boscageref01_Few.f
  refine Ev.at1 ?_
  simp only [boscageref01_Few.l0]
  rw [w01]
  exact Ev.pos (show (0 : Int) < 1 by decide) (Ev.pos (by decide) (Ev.pos (show (0 : Int) < 1 by decide) hv))
end
theorem live_ev : Ev (fun k => boscagelaw05_live.f k) true := ⟨80, fun k hk => at_rounds (fun k => boscagelaw05_live.mono k) hk (by decide +kernel)⟩
theorem codeWrites_pure (a : List S43) (ha : a.length * 32 ≤ 140737488351232) (wa : ∀ x ∈ a, OkV x) : ∃ k, boscagelaw05_CodeWrites.f k a = some true := by
  refine Ev.rounds ?_
  unfold boscagelaw05_CodeWrites.f
  refine Ev.bind live_ev ?_
  obtain ⟨v, hv, hp⟩ := big1_ev ha wa
  refine Ev.bind hv ?_
  cases v
  · have g := hp rfl
    have s1 := keyL_len a
    have s2 := encL_len a
    refine Ev.neg (by decide) (Ev.bind (enc_ev ha wa (by omega)) (Ev.bind (refEnc_ev ha (by omega)) (Ev.bind (key_ev ha wa (by omega)) (Ev.bind (refKey_ev ha wa (by omega)) ?_))))
    exact Ev.pos (by trivial) (Ev.pos rfl (Ev.pos rfl (Ev.pos rfl (Ev.done (beq_self_eq_true _)))))
  · exact Ev.pos rfl (Ev.now _)
end Go.Proofs.YtbojfgjdpfobaaaDoor.Cd
