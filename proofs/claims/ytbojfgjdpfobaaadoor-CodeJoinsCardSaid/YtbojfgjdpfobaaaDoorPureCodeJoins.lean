/- Layer 5 in plain words: the check, the key of a row, its order. -/
import Derived.Test.YtbojfgjdpfobaaaDoorPu
import Derived.Test.YtbojfgjdpfobaaaDoorRwJ
import Derived.Test.YtbojfgjdpfobaaaDoorQCJx0
import Derived.Test.YtbojfgjdpfobaaaDoorQCJx1
import Derived.Test.YtbojfgjdpfobaaaDoorQCJx2
import Derived.Test.YtbojfgjdpfobaaaDoorQCJx3
import Derived.Test.YtbojfgjdpfobaaaDoorQCJx4
import Derived.Test.YtbojfgjdpfobaaaDoorQCJx5
set_option linter.unusedVariables false
set_option linter.unusedSimpArgs false
namespace Go.Proofs.YtbojfgjdpfobaaaDoor.Cd
open Go.RowKit Go.Proofs.YtbojfgjdpfobaaaDoorW.PrintWords Go.Proofs.YtbojfgjdpfobaaaDoor.Pu Go.Proofs.YtbojfgjdpfobaaaDoor.QCJ Go.Proofs.YtbojfgjdpfobaaaDoor.Rw

def nil : ByteArray := ⟨#[]⟩
def ok (x : S43) : Bool :=
  if x.f0 = 0 then decide (x.f1 = 0) && decide (bs x.f2 = [])
  else if x.f0 = 1 then (decide (x.f1 = 0) || decide (x.f1 = 1)) && decide (bs x.f2 = [])
  else if x.f0 = 2 then decide (bs x.f2 = [])
  else if x.f0 = 3 ∨ x.f0 = 4 then decide (x.f1 = 0) else false
def chk (x : S43) : Int := if ok x = true then 0 else 1
theorem chk_zero {x : S43} (h : chk x = 0) : ok x = true := by
  unfold chk at h; split at h
  · assumption
  · cases h

theorem wf64 {x : Int} (h : (Lit.int .i64 x).wf = true) : -9223372036854775808 ≤ x ∧ x ≤ 9223372036854775807 := by
  simp [Lit.wf, IntKind.min, IntKind.max, IntKind.bits, IntKind.signed] at h
  exact h
theorem andNot1 {x : Int} (h : (Lit.int .i64 x).wf = true) : Go.bits .andNot .i64 x 1 = 0 ↔ x = 0 ∨ x = 1 := by
  obtain ⟨h0, h1⟩ := wf64 h
  constructor
  · intro hz
    have e : (BitVec.ofInt 64 x &&& ~~~(BitVec.ofInt 64 1)).toNat = 0 := by
      have hl := (BitVec.ofInt 64 x &&& ~~~(BitVec.ofInt 64 1)).isLt
      revert hz
      show IntKind.i64.wrap ((BitVec.ofInt 64 x &&& ~~~(BitVec.ofInt 64 1)).toNat : Int) = 0 → _
      generalize (BitVec.ofInt 64 x &&& ~~~(BitVec.ofInt 64 1)).toNat = n at hl ⊢
      intro hz
      simp [IntKind.wrap, IntKind.bits, IntKind.signed] at hz
      omega
    have e2 : (BitVec.ofInt 64 x &&& ~~~(BitVec.ofInt 64 1)) = 0#64 := BitVec.eq_of_toNat_eq (by rw [e]; rfl)
    have e3 : BitVec.ofInt 64 x = BitVec.ofInt 64 x &&& 1#64 := by
      apply BitVec.eq_of_getLsbD_eq
      intro i hi
      have := congrArg (fun b => b.getLsbD i) e2
      have o : BitVec.ofInt 64 1 = 1#64 := rfl
      rw [o] at this
      simp only [BitVec.getLsbD_and, BitVec.getLsbD_not, hi, decide_true, Bool.true_and, BitVec.getLsbD_zero] at this
      rw [BitVec.getLsbD_and]
      cases hb : (BitVec.ofInt 64 x).getLsbD i <;> cases hc : (1#64).getLsbD i <;> simp_all
    have e4 := congrArg BitVec.toNat e3
    rw [BitVec.toNat_and] at e4
    have e5 : (1#64).toNat = 1 := rfl
    rw [e5, Nat.and_one_is_mod, BitVec.toNat_ofInt] at e4
    omega
  · rintro (rfl | rfl) <;> decide +kernel

theorem value_Check_at (x : S43) (h : (Lit.int .i64 x.f1).wf = true) (k : Nat) : value_Check.f (k + 5) x.f0 x.f1 x.f2 = some (chk x) := by
  have hn := andNot1 h
  have z0 : Go.bits .andNot .i64 0 1 = 0 := by decide +kernel
  have z1 : Go.bits .andNot .i64 1 1 = 0 := by decide +kernel
  have hc : x.f0 < 0 ∨ x.f0 = 0 ∨ x.f0 = 1 ∨ x.f0 = 2 ∨ x.f0 = 3 ∨ x.f0 = 4 ∨ x.f0 > 4 := by omega
  rcases hc with hc | hc | hc | hc | hc | hc | hc
  · have a0 : x.f0 ≠ 0 := by omega
    have a1 : x.f0 ≠ 1 := by omega
    have a2 : x.f0 ≠ 2 := by omega
    have a3 : x.f0 ≠ 3 := by omega
    have a4 : x.f0 ≠ 4 := by omega
    simp [value_Check.f, value_Check.j0, value_Check.j1, chk, ok, hc, a0, a1, a2, a3, a4]
  · by_cases b0 : x.f1 = 0 <;> by_cases s : bs x.f2 = [] <;> simp [value_Check.f, value_Check.j0, value_Check.j1, value_Check.j2, value_Check.j3, value_Check.j4, chk, ok, bs_toList, hn, hc, b0, s]
  · by_cases b0 : x.f1 = 0 <;> by_cases b1 : x.f1 = 1 <;> by_cases s : bs x.f2 = [] <;> simp [value_Check.f, value_Check.j0, value_Check.j1, value_Check.j2, value_Check.j3, value_Check.j4, chk, ok, bs_toList, hn, z0, z1, hc, b0, b1, s]
  · by_cases s : bs x.f2 = [] <;> simp [value_Check.f, value_Check.j0, value_Check.j1, value_Check.j2, value_Check.j3, value_Check.j4, chk, ok, bs_toList, hn, hc, s]
  · by_cases b0 : x.f1 = 0 <;> simp [value_Check.f, value_Check.j0, value_Check.j1, value_Check.j2, value_Check.j3, value_Check.j4, chk, ok, bs_toList, hn, hc, b0]
  · by_cases b0 : x.f1 = 0 <;> simp [value_Check.f, value_Check.j0, value_Check.j1, value_Check.j2, value_Check.j3, value_Check.j4, chk, ok, bs_toList, hn, hc, b0]
  · have a0 : x.f0 ≠ 0 := by omega
    have a1 : x.f0 ≠ 1 := by omega
    have a2 : x.f0 ≠ 2 := by omega
    have a3 : x.f0 ≠ 3 := by omega
    have a4 : x.f0 ≠ 4 := by omega
    simp [value_Check.f, value_Check.j0, value_Check.j1, chk, ok, hc, a0, a1, a2, a3, a4]
theorem Ev.after {α : Type} {g : Nat → Option α} {r : α} (n : Nat) (h : ∀ k, g (k + n) = some r) : Ev g r := ⟨n, fun k hk => by
  have := h (k - n)
  rw [Nat.sub_add_cancel hk] at this
  exact this⟩
theorem rd_drop {l r : List S43} {i : Nat} {c : S43} (h : l.drop i = c :: r) : rd_T43 l (i : Int) = c := by
  have hl := drop_lt h
  rw [List.drop_eq_getElem_cons hl] at h
  injection h with h1 _
  unfold rd_T43
  rw [Int.toNat_natCast, List.getD_eq_getElem?_getD, List.getElem?_eq_getElem hl, Option.getD_some, h1]
theorem mem_drop {l r : List S43} {i : Nat} {c : S43} (h : l.drop i = c :: r) : c ∈ l := by
  have : c ∈ l.drop i := by rw [h]; exact List.mem_cons_self
  exact List.mem_of_mem_drop this
theorem wrap_next {l r : List S43} {i : Nat} {c : S43} (h : l.drop i = c :: r) (hl : l.length ≤ 4398046511105) : wrap64 ((i : Int) + 1) = ((i + 1 : Nat) : Int) := by
  have := drop_lt h
  rw [wrap_id (by omega) (by omega)]; rfl

def cmpV (a b : S43) : Int := if a.f0 < b.f0 then -1 else if b.f0 < a.f0 then 1 else if a.f1 < b.f1 then -1 else if b.f1 < a.f1 then 1 else Lib.compareBytes (bs a.f2) (bs b.f2)
theorem bytes_cmp : ∀ (x y : List UInt8), Lib.compareBytes x y = if Op.bytesLess x y = true then -1 else if x = y then 0 else 1
  | [], [] => rfl
  | [], _ :: _ => rfl
  | _ :: _, [] => by simp [Lib.compareBytes, Op.bytesLess]
  | a :: x, b :: y => by
    have ih := bytes_cmp x y
    rw [Lib.compareBytes, Op.bytesLess, ih]
    by_cases h1 : a < b
    · simp [h1]
    · by_cases h2 : a = b
      · subst h2
        simp [UInt8.lt_irrefl]
      · have h3 : b < a := UInt8.lt_of_le_of_ne (UInt8.not_lt.1 h1) (Ne.symm h2)
        simp [h1, h2, h3]
theorem less_irrefl : ∀ x : List UInt8, Op.bytesLess x x = false
  | [] => rfl
  | a :: x => by simp [Op.bytesLess, less_irrefl x, UInt8.lt_irrefl]


theorem chkV_eq (x : S43) (h : OkV x) : chkV x = chk x := by
  have := value_Check_at x h.2.1 0
  unfold chkV
  rw [show (0 + 5 : Nat) = 5 from rfl] at this
  rw [this]; rfl
theorem badV_eq (x : S43) (h : OkV x) : badV x = !ok x := by
  unfold badV
  rw [chkV_eq x h]
  unfold chk
  cases ok x <;> rfl
/-- why a row may not be -/
def crV (l : List S43) : Int := if l.all ok = true then (if (l.length : Int) > 64 then 2 else 0) else 1
theorem any_bad : ∀ {l : List S43}, (∀ x ∈ l, OkV x) → l.any badV = !l.all ok
  | [], _ => rfl
  | x :: l, h => by
    rw [List.any_cons, List.all_cons, any_bad fun y hy => h y (List.mem_cons_of_mem _ hy), badV_eq x (h x List.mem_cons_self)]
    cases ok x <;> simp
theorem checkRow_ev {l : List S43} (hl : l.length * 32 ≤ 140737488351232) (wf : ∀ x ∈ l, OkV x) : value_CheckRow.f l = some (crV l) := by
  unfold value_CheckRow.f crV
  rw [if_pos (by omega), any_bad wf]
  cases h : l.all ok <;> simp
theorem crV_ok {l : List S43} (h : crV l = 0) : (∀ x ∈ l, ok x = true) ∧ l.length ≤ 64 := by
  unfold crV at h
  by_cases ha : l.all ok = true
  · rw [if_pos ha] at h
    refine ⟨fun x hx => List.all_eq_true.1 ha x hx, ?_⟩
    by_cases hb : (l.length : Int) > 64
    · rw [if_pos hb] at h; cases h
    · omega
  · rw [if_neg ha] at h; cases h

/-! a row's key -/
def xorTop (n : Int) : Int := Go.bits .xor .u64 (IntKind.u64.wrap n) 9223372036854775808
def payV (x : S43) : List Int :=
  if x.f0 = 1 then [x.f1 % 256] else if x.f0 = 2 then laidL (xorTop x.f1) else if x.f0 = 3 ∨ x.f0 = 4 then repL (numsOf x.f2) ++ [0, 0] else []
def keyV (x : S43) : List Int := (x.f0 % 256) :: payV x
def keyL : List S43 → List Int
  | [] => []
  | x :: l => keyV x ++ keyL l
theorem keyL_append : ∀ a b, keyL (a ++ b) = keyL a ++ keyL b
  | [], _ => rfl
  | x :: a, b => by rw [List.cons_append, keyL, keyL, keyL_append a b, List.append_assoc]
theorem key_loop {l : List S43} (hl : l.length * 32 ≤ 140737488351232) : ∀ (r : List S43) (i : Nat) (acc : List Int), l.drop i = r → acc.length + (keyL r).length < 140737488355328 →
    Ev (fun k => code_Key.l0 k acc l (l.length : Int) (i : Int)) (acc ++ keyL r, 0) := by
  intro r
  induction r with
  | nil =>
    intro i acc h hs
    have := List.drop_eq_nil_iff.1 h
    refine Ev.at1 ?_
    simp only [code_Key.l0]
    exact Ev.neg (by omega) (Ev.done (by simp [keyL]))
  | cons c r ih =>
    intro i acc h hs
    have hlt := drop_lt h
    have hw := wrap_next h (by omega)
    have hk : (keyL (c :: r)).length = 1 + (payV c).length + (keyL r).length := by simp [keyL, keyV]; omega
    refine Ev.at1 ?_
    simp only [code_Key.l0]
    refine Ev.pos (by omega) (Ev.pos (by omega) (Ev.pos (by omega) (Ev.pos (by omega) ?_)))
    rw [rd_drop h, hw]
    refine Ev.given ?_
    by_cases k1 : c.f0 = 1
    · have hp : payV c = [c.f1 % 256] := by unfold payV; rw [if_pos k1]
      have hpl : (payV c).length = 1 := by rw [hp]; rfl
      refine Ev.pos k1 (Ev.pos (by simp; omega) ?_)
      refine Ev.eq (ih (i + 1) _ (drop_next h) (by simp; omega)) ?_
      simp [keyL, keyV, hp]
    · refine Ev.neg k1 ?_
      by_cases k2 : c.f0 = 2
      · have hp : payV c = laidL (xorTop c.f1) := by unfold payV; rw [if_neg k1, if_pos k2]
        have hpl : (payV c).length = 8 := by rw [hp]; rfl
        have h8 : (laidL (xorTop c.f1)).length = 8 := rfl
        refine Ev.pos k2 (Ev.bind (a := laidL (xorTop c.f1)) (Ev.same rfl) (Ev.pos (by rw [h8]; simp; omega) ?_))
        refine Ev.eq (ih (i + 1) _ (drop_next h) (by rw [List.length_append, h8]; simp; omega)) ?_
        simp [keyL, keyV, hp]
      · refine Ev.neg k2 ?_
        have text : (c.f0 = 3 ∨ c.f0 = 4) → Ev (fun k => (bytes_ReplaceAll.f (c.f2)).bind fun t162 => (if (acc ++ [c.f0 % 256]).length + t162.length < 140737488355328 then ((some (acc ++ [c.f0 % 256] ++ t162 : List Int)).bind fun y165 => ((some (([0, 0] : List Int) : List Int)).bind fun y168 => (if y165.length + y168.length < 140737488355328 then (code_Key.l0 k (y165 ++ y168) l (l.length : Int) ((i + 1 : Nat) : Int)) else (none)))) else (none))) (acc ++ keyL (c :: r), 0) := by
          intro k34
          have hp : payV c = repL (numsOf c.f2) ++ [0, 0] := by unfold payV; rw [if_neg k1, if_neg k2, if_pos k34]
          have hpl : (payV c).length = (repL (numsOf c.f2)).length + 2 := by rw [hp]; simp
          refine Ev.bind (a := repL (numsOf c.f2)) (Ev.same (by unfold bytes_ReplaceAll.f; rw [if_pos (by omega)])) (Ev.pos (by simp; omega) (Ev.given (Ev.given (Ev.pos (by simp; omega) ?_))))
          refine Ev.eq (ih (i + 1) _ (drop_next h) (by simp; omega)) ?_
          simp [keyL, keyV, hp]
        by_cases k3 : c.f0 = 3
        · exact Ev.pos k3 (text (.inl k3))
        · refine Ev.neg k3 ?_
          by_cases k4 : c.f0 = 4
          · exact Ev.pos k4 (text (.inr k4))
          · refine Ev.neg k4 ?_
            have hp : payV c = [] := by unfold payV; rw [if_neg k1, if_neg k2, if_neg (by omega)]
            refine Ev.eq (ih (i + 1) _ (drop_next h) (by simp; omega)) ?_
            simp [keyL, keyV, hp]
def keyR (l : List S43) : List Int × Int := if crV l = 0 then (keyL l, 0) else ([], crV l)
theorem key_ev {l : List S43} (hl : l.length * 32 ≤ 140737488351232) (wf : ∀ x ∈ l, OkV x) (hs : (keyL l).length < 140737488355328) : Ev (fun k => code_Key.f k l) (keyR l) := by
  unfold code_Key.f keyR
  rw [checkRow_ev hl wf]
  refine Ev.given ?_
  by_cases h : crV l = 0
  · rw [if_pos h]
    exact Ev.pos h (Ev.eq (key_loop hl l 0 [] rfl (by simpa using hs)) (by simp))
  · rw [if_neg h]
    exact Ev.neg h (Ev.now _)
/-! how great rows are -/
def wt : List S43 → Nat
  | [] => 0
  | x :: l => 1 + x.f2.size + wt l
theorem nums_len (s : ByteArray) : (numsOf s).length = s.size := by unfold numsOf; rw [List.length_map, Array.length_toList]; rfl
theorem keyL_len : ∀ l, (keyL l).length ≤ 11 * wt l
  | [] => Nat.le_refl _
  | x :: l => by
    have ih := keyL_len l
    have h1 : (payV x).length ≤ 10 + 2 * x.f2.size := by
      unfold payV
      by_cases k1 : x.f0 = 1
      · rw [if_pos k1]; simp; omega
      · rw [if_neg k1]
        by_cases k2 : x.f0 = 2
        · rw [if_pos k2]; show 8 ≤ _; omega
        · rw [if_neg k2]
          by_cases k3 : x.f0 = 3 ∨ x.f0 = 4
          · rw [if_pos k3, List.length_append, repL_length]
            have h2 : (numsOf x.f2).count 0 ≤ (numsOf x.f2).length := List.count_le_length
            rw [nums_len] at h2 ⊢
            simp; omega
          · rw [if_neg k3]; simp
    simp only [keyL, keyV, wt, List.length_append, List.length_cons]
    omega
/-! how many are played -/
theorem few_row (ls : List (List S43)) (L j : Int) (l : List S43) (hl : l.length * 32 ≤ 140737488351232) (wf : ∀ x ∈ l, OkV x) (P : Prop) : ∀ (r : List S43) (i : Nat) (n : Int), l.drop i = r → 0 ≤ n → n ≤ 20000 →
    (∀ n' : Int, n' = n + (wt r : Nat) → n' ≤ 20000 → ∃ b, Ev (fun k => boscageref01_Few.l0 k 20000 n' ls L (wrap64 (j + 1))) b ∧ (b = true → P)) →
    ∃ b, Ev (fun k => boscageref01_Few.l1 k 20000 n ls L j l (l.length : Int) (i : Int)) b ∧ (b = true → P ∧ n + (wt r : Nat) ≤ 20000) := by
  intro r
  induction r with
  | nil =>
    intro i n h h0 h1 next
    have := List.drop_eq_nil_iff.1 h
    obtain ⟨b, hb, hp⟩ := next n (by simp [wt]) h1
    refine ⟨b, Ev.at1 ?_, fun e => ⟨hp e, by simpa [wt] using h1⟩⟩
    simp only [boscageref01_Few.l1]
    exact Ev.neg (by omega) hb
  | cons c r ih =>
    intro i n h h0 h1 next
    have hlt := drop_lt h
    have hw := wrap_next h (by omega)
    have hs := (wf c (mem_drop h)).2.2
    have e1 : wrap64 (1 + (c.f2.size : Int)) = 1 + (c.f2.size : Int) := wrap_id (by omega) (by omega)
    have e2 : wrap64 (n + (1 + (c.f2.size : Int))) = n + (1 + (c.f2.size : Int)) := wrap_id (by omega) (by omega)
    by_cases hg : n + (1 + (c.f2.size : Int)) > 20000
    · refine ⟨false, Ev.at1 ?_, fun e => by cases e⟩
      simp only [boscageref01_Few.l1]
      refine Ev.pos (by omega) (Ev.pos (by omega) (Ev.pos (by omega) ?_))
      rw [rd_drop h, e1, e2]
      exact Ev.pos hg (Ev.now _)
    · obtain ⟨b, hb, hp⟩ := ih (i + 1) (n + (1 + (c.f2.size : Int))) (drop_next h) (by omega) (by omega) (fun n' hn' hl' => next n' (by rw [hn', wt]; omega) hl')
      refine ⟨b, Ev.at1 ?_, fun e => ⟨(hp e).1, by have := (hp e).2; rw [wt]; omega⟩⟩
      simp only [boscageref01_Few.l1]
      refine Ev.pos (by omega) (Ev.pos (by omega) (Ev.pos (by omega) ?_))
      rw [rd_drop h, e1, e2, hw]
      exact Ev.neg hg hb
theorem few2 (a b : List S43) (ha : a.length * 32 ≤ 140737488351232) (hb : b.length * 32 ≤ 140737488351232) (wa : ∀ x ∈ a, OkV x) (wb : ∀ x ∈ b, OkV x) : ∃ v, Ev (fun k => boscageref01_Few.f k [a, b] 20000) v ∧ (v = true → wt a ≤ 20000 ∧ wt b ≤ 20000) := by
  have w01 : wrap64 ((0 : Int) + 1) = 1 := wrap_id (by decide) (by decide)
  have w12 : wrap64 ((1 : Int) + 1) = 2 := wrap_id (by decide) (by decide)
  have last : ∀ n : Int, n ≤ 20000 → Ev (fun k => boscageref01_Few.l0 k 20000 n [a, b] 2 2) (decide (n ≤ 20000)) := fun n hn => by
    refine Ev.at1 ?_
    simp only [boscageref01_Few.l0]
    exact Ev.neg (by decide) (Ev.now _)
  have second : ∀ n : Int, 0 ≤ n → n ≤ 20000 → ∃ v, Ev (fun k => boscageref01_Few.l0 k 20000 n [a, b] 2 1) v ∧ (v = true → wt b ≤ 20000) := by
    intro n h0 h1
    have en : wrap64 (n + 1) = n + 1 := wrap_id (by omega) (by omega)
    by_cases hn : n + 1 ≤ 20000
    · obtain ⟨v, hv, hp⟩ := few_row [a, b] 2 1 b hb wb True b 0 (n + 1) rfl (by omega) hn (fun n' _ hn' => ⟨_, by rw [w12]; exact last n' hn', fun _ => trivial⟩)
      refine ⟨v, Ev.at1 ?_, fun e => by have := (hp e).2; omega⟩
      simp only [boscageref01_Few.l0]
      rw [en]
      exact Ev.pos (by decide) (Ev.pos (by decide) (Ev.pos (show (1 : Int) < 2 by decide) hv))
    · cases b with
      | nil =>
        refine ⟨decide (n + 1 ≤ 20000), Ev.at1 ?_, fun _ => Nat.zero_le _⟩
        simp only [boscageref01_Few.l0]
        rw [en]
        refine Ev.pos (by decide) (Ev.pos (by decide) (Ev.pos (show (1 : Int) < 2 by decide) (Ev.at1 ?_)))
        simp only [boscageref01_Few.l1]
        refine Ev.neg (show ¬ ((0 : Int) < 0) by decide) ?_
        rw [w12]
        refine Ev.at1 ?_
        simp only [boscageref01_Few.l0]
        exact Ev.neg (by decide) (Ev.now _)
      | cons c r =>
        have hs := (wb c List.mem_cons_self).2.2
        have e1 : wrap64 (1 + (c.f2.size : Int)) = 1 + (c.f2.size : Int) := wrap_id (by omega) (by omega)
        have e2 : wrap64 (n + 1 + (1 + (c.f2.size : Int))) = n + 1 + (1 + (c.f2.size : Int)) := wrap_id (by omega) (by omega)
        refine ⟨false, Ev.at1 ?_, fun e => by cases e⟩
        simp only [boscageref01_Few.l0]
        rw [en]
        refine Ev.pos (by decide) (Ev.pos (by decide) (Ev.pos (show (1 : Int) < 2 by decide) (Ev.at1 ?_)))
        simp only [boscageref01_Few.l1]
        refine Ev.pos (show (0 : Int) < ((c :: r).length : Int) by simp) (Ev.pos (by decide) (Ev.pos (show (0 : Int) < ((c :: r).length : Int) by simp) ?_))
        rw [show rd_T43 (rd_L3 [a, c :: r] 1) 0 = c from rfl, e1, e2]
        exact Ev.pos (by omega) (Ev.now _)
  obtain ⟨v, hv, hp⟩ := few_row [a, b] 2 0 a ha wa (wt b ≤ 20000) a 0 1 rfl (by omega) (by omega) (fun n' hn' hl' => by rw [w01]; exact second n' (by omega) hl')
  refine ⟨v, ?_, fun e => by have := hp e; omega⟩
  unfold boscageref01_Few.f
  refine Ev.at1 ?_
  simp only [boscageref01_Few.l0]
  rw [w01]
  exact Ev.pos (show (0 : Int) < 2 by decide) (Ev.pos (by decide) (Ev.pos (show (0 : Int) < 2 by decide) hv))
theorem big2_ev (a b : List S43) (ha : a.length * 32 ≤ 140737488351232) (hb : b.length * 32 ≤ 140737488351232) (wa : ∀ x ∈ a, OkV x) (wb : ∀ x ∈ b, OkV x) : ∃ v, Ev (fun k => code_Decode.f k a b) v ∧ (v = false → wt a ≤ 20000 ∧ wt b ≤ 20000) := by
  obtain ⟨v, hv, hp⟩ := few2 a b ha hb wa wb
  refine ⟨!v, Ev.bind hv (Ev.now _), fun e => hp (by simpa using e)⟩
theorem live_ev : Ev (fun k => boscagelaw05_live.f k) true := ⟨80, fun k hk => at_rounds (fun k => boscagelaw05_live.mono k) hk (by decide +kernel)⟩
theorem strOf_list (l : List Int) : (strOfNums l).toList = l.map fun n => UInt8.ofNat n.toNat := by rw [bs_toList]; rfl
/-! a hash, byte by byte -/
def hstep (h c : Int) : Int := IntKind.u64.wrap ((Go.bits .xor .u64 h (IntKind.u64.wrap c)) * 1099511628211)
theorem hash_loop {xs : List Int} (hx : xs.length ≤ 140737488355328) : ∀ (r : List Int) (i : Nat) (h : Int), xs.drop i = r → Ev (fun k => code_Hash.l0 k h xs (xs.length : Int) (i : Int)) (r.foldl hstep h) := by
  intro r
  induction r with
  | nil =>
    intro i h e
    have := List.drop_eq_nil_iff.1 e
    refine Ev.at1 ?_
    simp only [code_Hash.l0]
    exact Ev.neg (by omega) (Ev.now _)
  | cons c r ih =>
    intro i h e
    have hlt := drop_lt e
    have hw : wrap64 ((i : Int) + 1) = ((i + 1 : Nat) : Int) := by rw [wrap_id (by omega) (by omega)]; rfl
    have hr : rd xs (i : Int) = c := by
      have hl := drop_lt e
      rw [List.drop_eq_getElem_cons hl] at e
      injection e with h1 _
      unfold rd
      rw [Int.toNat_natCast, List.getD_eq_getElem?_getD, List.getElem?_eq_getElem hl, Option.getD_some, h1]
    refine Ev.at1 ?_
    simp only [code_Hash.l0]
    refine Ev.pos (by omega) (Ev.pos (by omega) (Ev.pos (by omega) ?_))
    rw [hr, hw]
    exact ih (i + 1) _ (drop_next e)
def hashL (xs : List Int) : Int := xs.foldl hstep 14695981039346656037
theorem hash_ev {xs : List Int} (hx : xs.length ≤ 140737488355328) : Ev (fun k => code_Hash.f k xs) (hashL xs) := hash_loop hx xs 0 _ rfl
theorem crV_app {a b : List S43} (hs : a.length + b.length ≤ 64) : crV (a ++ b) = 0 ↔ crV a = 0 ∧ crV b = 0 := by
  have one : ∀ l : List S43, l.length ≤ 64 → (crV l = 0 ↔ l.all ok = true) := fun l hl => by
    unfold crV
    by_cases h : l.all ok = true
    · rw [if_pos h, if_neg (by omega)]; simp [h]
    · rw [if_neg h]; simp [h]
  rw [one _ (by simp; omega), one a (by omega), one b (by omega), List.all_append, Bool.and_eq_true]
theorem codeJoins_pure (a b : List S43) (c : Int) (ha : a.length * 32 ≤ 140737488351232) (wa : ∀ x ∈ a, OkV x) (hb : b.length * 32 ≤ 140737488351232) (wb : ∀ x ∈ b, OkV x) (wc : (Lit.int .u8 c).wf = true) : ∃ k, boscagelaw05_CodeJoins.f k a b c = some true := by
  refine Ev.rounds ?_
  unfold boscagelaw05_CodeJoins.f
  refine Ev.bind live_ev ?_
  obtain ⟨v, hv, hp⟩ := big2_ev a b ha hb wa wb
  refine Ev.bind hv ?_
  have early : Ev (fun k => boscagelaw05_CodeJoins.j0 k a b c true true) true := by
    refine Ev.at1 ?_
    simp only [boscagelaw05_CodeJoins.j0]
    exact Ev.pos (by trivial) (Ev.now _)
  cases v
  · obtain ⟨g1, g2⟩ := hp rfl
    have s1 := keyL_len a
    have s2 := keyL_len b
    refine Ev.neg (by decide) ?_
    rw [show wrap64 ((a.length : Int) + (b.length : Int)) = (a.length : Int) + (b.length : Int) from wrap_id (by omega) (by omega)]
    by_cases hl : (a.length : Int) + (b.length : Int) > 64
    · rw [decide_eq_true hl]; exact early
    · rw [decide_eq_false hl]
      have hs : a.length + b.length ≤ 64 := by omega
      have hab : (a ++ b).length * 32 ≤ 140737488351232 := by simp; omega
      have wab : ∀ x ∈ a ++ b, OkV x := fun x hx => (List.mem_append.1 hx).elim (wa x) (wb x)
      have hk : (keyL (a ++ b)).length < 140737488355328 := by rw [keyL_append, List.length_append]; omega
      have happ := crV_app hs
      refine Ev.at1 ?_
      simp only [boscagelaw05_CodeJoins.j0]
      refine Ev.neg (by decide) (Ev.bind (key_ev ha wa (by omega)) (Ev.bind (key_ev hb wb (by omega)) (Ev.pos (by simp; omega) (Ev.given (Ev.pos (by simp; omega) ?_)))))
      rw [List.nil_append]
      refine Ev.bind (key_ev hab wab hk) ?_
      have bad : crV (a ++ b) ≠ 0 → Ev (fun k => boscagelaw05_CodeJoins.j1 k c true (keyR a).1 (keyR b).1 (keyR (a ++ b)).1 (keyR (a ++ b)).2 true) true := fun hn => by
        have kab : keyR (a ++ b) = ([], crV (a ++ b)) := by unfold keyR; rw [if_neg hn]
        refine Ev.at1 ?_
        simp only [boscagelaw05_CodeJoins.j1]
        refine Ev.pos (by trivial) (Ev.pos (by trivial) (Ev.done ?_))
        rw [kab]
        exact bne_iff_ne.2 hn
      by_cases ca : crV a = 0
      · have ka : keyR a = (keyL a, 0) := by unfold keyR; rw [if_pos ca]
        refine Ev.pos (by rw [ka]) ?_
        by_cases cb : crV b = 0
        · have kb : keyR b = (keyL b, 0) := by unfold keyR; rw [if_pos cb]
          have kab : keyR (a ++ b) = (keyL a ++ keyL b, 0) := by unfold keyR; rw [if_pos (happ.2 ⟨ca, cb⟩), keyL_append]
          rw [ka, kb, kab]
          refine Ev.at1 ?_
          simp only [boscagelaw05_CodeJoins.j1]
          refine Ev.neg (show ¬ (((0 : Int) != 0) = true) by decide) (Ev.bind (hash_ev (by omega)) (Ev.pos (by trivial) (Ev.pos (by trivial) (Ev.pos (by rw [strOfNums_size, strOfNums_size]; omega) (Ev.pos ?_ (Ev.pos (by simp; omega) (Ev.given (Ev.pos (by simp; omega) ?_))))))))
          · rw [strOf_list, bs_toList, bs_append, ← bs_toList, ← bs_toList, strOf_list, strOf_list, List.map_append]
          · rw [List.nil_append]
            refine Ev.bind (hash_ev (by simp; omega)) (Ev.done ?_)
            have e : hashL (keyL a ++ [c]) = hstep (hashL (keyL a)) c := by unfold hashL; rw [List.foldl_append]; rfl
            rw [e]
            exact beq_self_eq_true _
        · have kb : keyR b = ([], crV b) := by unfold keyR; rw [if_neg cb]
          have hn : ((keyR b).2 != 0) = true := by rw [kb]; exact bne_iff_ne.2 cb
          rw [hn]
          exact bad fun h => cb (happ.1 h).2
      · have ka : keyR a = ([], crV a) := by unfold keyR; rw [if_neg ca]
        refine Ev.neg (by rw [ka]; exact ca) ?_
        exact bad fun h => ca (happ.1 h).1
  · exact Ev.pos rfl early
end Go.Proofs.YtbojfgjdpfobaaaDoor.Cd
