/- Layer 5 in plain words: the check, the key of a row, its order. -/
import Derived.Test.YtbojfgjdpfobaaaDoorPu
import Derived.Test.YtbojfgjdpfobaaaDoorRwO
import Derived.Test.YtbojfgjdpfobaaaDoorQCOx0
import Derived.Test.YtbojfgjdpfobaaaDoorQCOx1
import Derived.Test.YtbojfgjdpfobaaaDoorQCOx2
import Derived.Test.YtbojfgjdpfobaaaDoorQCOx3
import Derived.Test.YtbojfgjdpfobaaaDoorQCOx4
import Derived.Test.YtbojfgjdpfobaaaDoorQCOx5
import Derived.Test.YtbojfgjdpfobaaaDoorQCOx6
set_option linter.unusedVariables false
set_option linter.unusedSimpArgs false
namespace Go.Proofs.YtbojfgjdpfobaaaDoor.Cd
open Go.RowKit Go.Proofs.YtbojfgjdpfobaaaDoorW.PrintWords Go.Proofs.YtbojfgjdpfobaaaDoor.Pu Go.Proofs.YtbojfgjdpfobaaaDoor.QCO Go.Proofs.YtbojfgjdpfobaaaDoor.Rw

def nil : ByteArray := ⟨#[]⟩
def ok (x : S43) : Bool :=
  if x.f0 = 0 then decide (x.f1 = 0) && decide (bs x.f2 = [])
  else if x.f0 = 1 then (decide (x.f1 = 0) || decide (x.f1 = 1)) && decide (bs x.f2 = [])
  else if x.f0 = 2 then decide (bs x.f2 = [])
  else if x.f0 = 3 ∨ x.f0 = 4 then decide (x.f1 = 0) else false
def chk (x : S43) : Int := if ok x = true then 0 else 1
theorem chk_zero {x : S43} (h : chk x = 0) : ok x = true := by
  unfold chk at h; split at h
  · assumption
  · cases h

theorem wf64 {x : Int} (h : (Lit.int .i64 x).wf = true) : -9223372036854775808 ≤ x ∧ x ≤ 9223372036854775807 := by
  simp [Lit.wf, IntKind.min, IntKind.max, IntKind.bits, IntKind.signed] at h
  exact h
theorem andNot1 {x : Int} (h : (Lit.int .i64 x).wf = true) : Go.bits .andNot .i64 x 1 = 0 ↔ x = 0 ∨ x = 1 := by
  obtain ⟨h0, h1⟩ := wf64 h
  constructor
  · intro hz
    have e : (BitVec.ofInt 64 x &&& ~~~(BitVec.ofInt 64 1)).toNat = 0 := by
      have hl := (BitVec.ofInt 64 x &&& ~~~(BitVec.ofInt 64 1)).isLt
      revert hz
      show IntKind.i64.wrap ((BitVec.ofInt 64 x &&& ~~~(BitVec.ofInt 64 1)).toNat : Int) = 0 → _
      generalize (BitVec.ofInt 64 x &&& ~~~(BitVec.ofInt 64 1)).toNat = n at hl ⊢
      intro hz
      simp [IntKind.wrap, IntKind.bits, IntKind.signed] at hz
      omega
    have e2 : (BitVec.ofInt 64 x &&& ~~~(BitVec.ofInt 64 1)) = 0#64 := BitVec.eq_of_toNat_eq (by rw [e]; rfl)
    have e3 : BitVec.ofInt 64 x = BitVec.ofInt 64 x &&& 1#64 := by
      apply BitVec.eq_of_getLsbD_eq
      intro i hi
      have := congrArg (fun b => b.getLsbD i) e2
      have o : BitVec.ofInt 64 1 = 1#64 := rfl
      rw [o] at this
      simp only [BitVec.getLsbD_and, BitVec.getLsbD_not, hi, decide_true, Bool.true_and, BitVec.getLsbD_zero] at this
      rw [BitVec.getLsbD_and]
      cases hb : (BitVec.ofInt 64 x).getLsbD i <;> cases hc : (1#64).getLsbD i <;> simp_all
    have e4 := congrArg BitVec.toNat e3
    rw [BitVec.toNat_and] at e4
    have e5 : (1#64).toNat = 1 := rfl
    rw [e5, Nat.and_one_is_mod, BitVec.toNat_ofInt] at e4
    omega
  · rintro (rfl | rfl) <;> decide +kernel

theorem value_Check_at (x : S43) (h : (Lit.int .i64 x.f1).wf = true) (k : Nat) : value_Check.f (k + 5) x.f0 x.f1 x.f2 = some (chk x) := by
  have hn := andNot1 h
  have z0 : Go.bits .andNot .i64 0 1 = 0 := by decide +kernel
  have z1 : Go.bits .andNot .i64 1 1 = 0 := by decide +kernel
  have hc : x.f0 < 0 ∨ x.f0 = 0 ∨ x.f0 = 1 ∨ x.f0 = 2 ∨ x.f0 = 3 ∨ x.f0 = 4 ∨ x.f0 > 4 := by omega
  rcases hc with hc | hc | hc | hc | hc | hc | hc
  · have a0 : x.f0 ≠ 0 := by omega
    have a1 : x.f0 ≠ 1 := by omega
    have a2 : x.f0 ≠ 2 := by omega
    have a3 : x.f0 ≠ 3 := by omega
    have a4 : x.f0 ≠ 4 := by omega
    simp [value_Check.f, value_Check.j0, value_Check.j1, chk, ok, hc, a0, a1, a2, a3, a4]
  · by_cases b0 : x.f1 = 0 <;> by_cases s : bs x.f2 = [] <;> simp [value_Check.f, value_Check.j0, value_Check.j1, value_Check.j2, value_Check.j3, value_Check.j4, chk, ok, bs_toList, hn, hc, b0, s]
  · by_cases b0 : x.f1 = 0 <;> by_cases b1 : x.f1 = 1 <;> by_cases s : bs x.f2 = [] <;> simp [value_Check.f, value_Check.j0, value_Check.j1, value_Check.j2, value_Check.j3, value_Check.j4, chk, ok, bs_toList, hn, z0, z1, hc, b0, b1, s]
  · by_cases s : bs x.f2 = [] <;> simp [value_Check.f, value_Check.j0, value_Check.j1, value_Check.j2, value_Check.j3, value_Check.j4, chk, ok, bs_toList, hn, hc, s]
  · by_cases b0 : x.f1 = 0 <;> simp [value_Check.f, value_Check.j0, value_Check.j1, value_Check.j2, value_Check.j3, value_Check.j4, chk, ok, bs_toList, hn, hc, b0]
  · by_cases b0 : x.f1 = 0 <;> simp [value_Check.f, value_Check.j0, value_Check.j1, value_Check.j2, value_Check.j3, value_Check.j4, chk, ok, bs_toList, hn, hc, b0]
  · have a0 : x.f0 ≠ 0 := by omega
    have a1 : x.f0 ≠ 1 := by omega
    have a2 : x.f0 ≠ 2 := by omega
    have a3 : x.f0 ≠ 3 := by omega
    have a4 : x.f0 ≠ 4 := by omega
    simp [value_Check.f, value_Check.j0, value_Check.j1, chk, ok, hc, a0, a1, a2, a3, a4]
theorem Ev.after {α : Type} {g : Nat → Option α} {r : α} (n : Nat) (h : ∀ k, g (k + n) = some r) : Ev g r := ⟨n, fun k hk => by
  have := h (k - n)
  rw [Nat.sub_add_cancel hk] at this
  exact this⟩
theorem rd_drop {l r : List S43} {i : Nat} {c : S43} (h : l.drop i = c :: r) : rd_T43 l (i : Int) = c := by
  have hl := drop_lt h
  rw [List.drop_eq_getElem_cons hl] at h
  injection h with h1 _
  unfold rd_T43
  rw [Int.toNat_natCast, List.getD_eq_getElem?_getD, List.getElem?_eq_getElem hl, Option.getD_some, h1]
theorem mem_drop {l r : List S43} {i : Nat} {c : S43} (h : l.drop i = c :: r) : c ∈ l := by
  have : c ∈ l.drop i := by rw [h]; exact List.mem_cons_self
  exact List.mem_of_mem_drop this
theorem wrap_next {l r : List S43} {i : Nat} {c : S43} (h : l.drop i = c :: r) (hl : l.length ≤ 4398046511105) : wrap64 ((i : Int) + 1) = ((i + 1 : Nat) : Int) := by
  have := drop_lt h
  rw [wrap_id (by omega) (by omega)]; rfl

def cmpV (a b : S43) : Int := if a.f0 < b.f0 then -1 else if b.f0 < a.f0 then 1 else if a.f1 < b.f1 then -1 else if b.f1 < a.f1 then 1 else Lib.compareBytes (bs a.f2) (bs b.f2)
theorem bytes_cmp : ∀ (x y : List UInt8), Lib.compareBytes x y = if Op.bytesLess x y = true then -1 else if x = y then 0 else 1
  | [], [] => rfl
  | [], _ :: _ => rfl
  | _ :: _, [] => by simp [Lib.compareBytes, Op.bytesLess]
  | a :: x, b :: y => by
    have ih := bytes_cmp x y
    rw [Lib.compareBytes, Op.bytesLess, ih]
    by_cases h1 : a < b
    · simp [h1]
    · by_cases h2 : a = b
      · subst h2
        simp [UInt8.lt_irrefl]
      · have h3 : b < a := UInt8.lt_of_le_of_ne (UInt8.not_lt.1 h1) (Ne.symm h2)
        simp [h1, h2, h3]
theorem less_irrefl : ∀ x : List UInt8, Op.bytesLess x x = false
  | [] => rfl
  | a :: x => by simp [Op.bytesLess, less_irrefl x, UInt8.lt_irrefl]


theorem chkV_eq (x : S43) (h : OkV x) : chkV x = chk x := by
  have := value_Check_at x h.2.1 0
  unfold chkV
  rw [show (0 + 5 : Nat) = 5 from rfl] at this
  rw [this]; rfl
theorem badV_eq (x : S43) (h : OkV x) : badV x = !ok x := by
  unfold badV
  rw [chkV_eq x h]
  unfold chk
  cases ok x <;> rfl
/-- why a row may not be -/
def crV (l : List S43) : Int := if l.all ok = true then (if (l.length : Int) > 64 then 2 else 0) else 1
theorem any_bad : ∀ {l : List S43}, (∀ x ∈ l, OkV x) → l.any badV = !l.all ok
  | [], _ => rfl
  | x :: l, h => by
    rw [List.any_cons, List.all_cons, any_bad fun y hy => h y (List.mem_cons_of_mem _ hy), badV_eq x (h x List.mem_cons_self)]
    cases ok x <;> simp
theorem checkRow_ev {l : List S43} (hl : l.length * 32 ≤ 140737488351232) (wf : ∀ x ∈ l, OkV x) : value_CheckRow.f l = some (crV l) := by
  unfold value_CheckRow.f crV
  rw [if_pos (by omega), any_bad wf]
  cases h : l.all ok <;> simp
theorem crV_ok {l : List S43} (h : crV l = 0) : (∀ x ∈ l, ok x = true) ∧ l.length ≤ 64 := by
  unfold crV at h
  by_cases ha : l.all ok = true
  · rw [if_pos ha] at h
    refine ⟨fun x hx => List.all_eq_true.1 ha x hx, ?_⟩
    by_cases hb : (l.length : Int) > 64
    · rw [if_pos hb] at h; cases h
    · omega
  · rw [if_neg ha] at h; cases h

/-! a row's key -/
def xorTop (n : Int) : Int := Go.bits .xor .u64 (IntKind.u64.wrap n) 9223372036854775808
def payV (x : S43) : List Int :=
  if x.f0 = 1 then [x.f1 % 256] else if x.f0 = 2 then laidL (xorTop x.f1) else if x.f0 = 3 ∨ x.f0 = 4 then repL (numsOf x.f2) ++ [0, 0] else []
def keyV (x : S43) : List Int := (x.f0 % 256) :: payV x
def keyL : List S43 → List Int
  | [] => []
  | x :: l => keyV x ++ keyL l
theorem keyL_append : ∀ a b, keyL (a ++ b) = keyL a ++ keyL b
  | [], _ => rfl
  | x :: a, b => by rw [List.cons_append, keyL, keyL, keyL_append a b, List.append_assoc]
theorem key_loop {l : List S43} (hl : l.length * 32 ≤ 140737488351232) : ∀ (r : List S43) (i : Nat) (acc : List Int), l.drop i = r → acc.length + (keyL r).length < 140737488355328 →
    Ev (fun k => code_Key.l0 k acc l (l.length : Int) (i : Int)) (acc ++ keyL r, 0) := by
  intro r
  induction r with
  | nil =>
    intro i acc h hs
    have := List.drop_eq_nil_iff.1 h
    refine Ev.at1 ?_
    simp only [code_Key.l0]
    exact Ev.neg (by omega) (Ev.done (by simp [keyL]))
  | cons c r ih =>
    intro i acc h hs
    have hlt := drop_lt h
    have hw := wrap_next h (by omega)
    have hk : (keyL (c :: r)).length = 1 + (payV c).length + (keyL r).length := by simp [keyL, keyV]; omega
    refine Ev.at1 ?_
    simp only [code_Key.l0]
    refine Ev.pos (by omega) (Ev.pos (by omega) (Ev.pos (by omega) (Ev.pos (by omega) ?_)))
    rw [rd_drop h, hw]
    refine Ev.given ?_
    by_cases k1 : c.f0 = 1
    · have hp : payV c = [c.f1 % 256] := by unfold payV; rw [if_pos k1]
      have hpl : (payV c).length = 1 := by rw [hp]; rfl
      refine Ev.pos k1 (Ev.pos (by simp; omega) ?_)
      refine Ev.eq (ih (i + 1) _ (drop_next h) (by simp; omega)) ?_
      simp [keyL, keyV, hp]
    · refine Ev.neg k1 ?_
      by_cases k2 : c.f0 = 2
      · have hp : payV c = laidL (xorTop c.f1) := by unfold payV; rw [if_neg k1, if_pos k2]
        have hpl : (payV c).length = 8 := by rw [hp]; rfl
        have h8 : (laidL (xorTop c.f1)).length = 8 := rfl
        refine Ev.pos k2 (Ev.bind (a := laidL (xorTop c.f1)) (Ev.same rfl) (Ev.pos (by rw [h8]; simp; omega) ?_))
        refine Ev.eq (ih (i + 1) _ (drop_next h) (by rw [List.length_append, h8]; simp; omega)) ?_
        simp [keyL, keyV, hp]
      · refine Ev.neg k2 ?_
        have text : (c.f0 = 3 ∨ c.f0 = 4) → Ev (fun k => (bytes_ReplaceAll.f (c.f2)).bind fun t162 => (if (acc ++ [c.f0 % 256]).length + t162.length < 140737488355328 then ((some (acc ++ [c.f0 % 256] ++ t162 : List Int)).bind fun y165 => ((some (([0, 0] : List Int) : List Int)).bind fun y168 => (if y165.length + y168.length < 140737488355328 then (code_Key.l0 k (y165 ++ y168) l (l.length : Int) ((i + 1 : Nat) : Int)) else (none)))) else (none))) (acc ++ keyL (c :: r), 0) := by
          intro k34
          have hp : payV c = repL (numsOf c.f2) ++ [0, 0] := by unfold payV; rw [if_neg k1, if_neg k2, if_pos k34]
          have hpl : (payV c).length = (repL (numsOf c.f2)).length + 2 := by rw [hp]; simp
          refine Ev.bind (a := repL (numsOf c.f2)) (Ev.same (by unfold bytes_ReplaceAll.f; rw [if_pos (by omega)])) (Ev.pos (by simp; omega) (Ev.given (Ev.given (Ev.pos (by simp; omega) ?_))))
          refine Ev.eq (ih (i + 1) _ (drop_next h) (by simp; omega)) ?_
          simp [keyL, keyV, hp]
        by_cases k3 : c.f0 = 3
        · exact Ev.pos k3 (text (.inl k3))
        · refine Ev.neg k3 ?_
          by_cases k4 : c.f0 = 4
          · exact Ev.pos k4 (text (.inr k4))
          · refine Ev.neg k4 ?_
            have hp : payV c = [] := by unfold payV; rw [if_neg k1, if_neg k2, if_neg (by omega)]
            refine Ev.eq (ih (i + 1) _ (drop_next h) (by simp; omega)) ?_
            simp [keyL, keyV, hp]
def keyR (l : List S43) : List Int × Int := if crV l = 0 then (keyL l, 0) else ([], crV l)
theorem key_ev {l : List S43} (hl : l.length * 32 ≤ 140737488351232) (wf : ∀ x ∈ l, OkV x) (hs : (keyL l).length < 140737488355328) : Ev (fun k => code_Key.f k l) (keyR l) := by
  unfold code_Key.f keyR
  rw [checkRow_ev hl wf]
  refine Ev.given ?_
  by_cases h : crV l = 0
  · rw [if_pos h]
    exact Ev.pos h (Ev.eq (key_loop hl l 0 [] rfl (by simpa using hs)) (by simp))
  · rw [if_neg h]
    exact Ev.neg h (Ev.now _)
/-! how great rows are -/
def wt : List S43 → Nat
  | [] => 0
  | x :: l => 1 + x.f2.size + wt l
theorem nums_len (s : ByteArray) : (numsOf s).length = s.size := by unfold numsOf; rw [List.length_map, Array.length_toList]; rfl
theorem keyL_len : ∀ l, (keyL l).length ≤ 11 * wt l
  | [] => Nat.le_refl _
  | x :: l => by
    have ih := keyL_len l
    have h1 : (payV x).length ≤ 10 + 2 * x.f2.size := by
      unfold payV
      by_cases k1 : x.f0 = 1
      · rw [if_pos k1]; simp; omega
      · rw [if_neg k1]
        by_cases k2 : x.f0 = 2
        · rw [if_pos k2]; show 8 ≤ _; omega
        · rw [if_neg k2]
          by_cases k3 : x.f0 = 3 ∨ x.f0 = 4
          · rw [if_pos k3, List.length_append, repL_length]
            have h2 : (numsOf x.f2).count 0 ≤ (numsOf x.f2).length := List.count_le_length
            rw [nums_len] at h2 ⊢
            simp; omega
          · rw [if_neg k3]; simp
    simp only [keyL, keyV, wt, List.length_append, List.length_cons]
    omega
/-! how many are played -/
theorem few_row (ls : List (List S43)) (L j : Int) (l : List S43) (hl : l.length * 32 ≤ 140737488351232) (wf : ∀ x ∈ l, OkV x) (P : Prop) : ∀ (r : List S43) (i : Nat) (n : Int), l.drop i = r → 0 ≤ n → n ≤ 20000 →
    (∀ n' : Int, n' = n + (wt r : Nat) → n' ≤ 20000 → ∃ b, Ev (fun k => boscageref01_Few.l0 k 20000 n' ls L (wrap64 (j + 1))) b ∧ (b = true → P)) →
    ∃ b, Ev (fun k => boscageref01_Few.l1 k 20000 n ls L j l (l.length : Int) (i : Int)) b ∧ (b = true → P ∧ n + (wt r : Nat) ≤ 20000) := by
  intro r
  induction r with
  | nil =>
    intro i n h h0 h1 next
    have := List.drop_eq_nil_iff.1 h
    obtain ⟨b, hb, hp⟩ := next n (by simp [wt]) h1
    refine ⟨b, Ev.at1 ?_, fun e => ⟨hp e, by simpa [wt] using h1⟩⟩
    simp only [boscageref01_Few.l1]
    exact Ev.neg (by omega) hb
  | cons c r ih =>
    intro i n h h0 h1 next
    have hlt := drop_lt h
    have hw := wrap_next h (by omega)
    have hs := (wf c (mem_drop h)).2.2
    have e1 : wrap64 (1 + (c.f2.size : Int)) = 1 + (c.f2.size : Int) := wrap_id (by omega) (by omega)
    have e2 : wrap64 (n + (1 + (c.f2.size : Int))) = n + (1 + (c.f2.size : Int)) := wrap_id (by omega) (by omega)
    by_cases hg : n + (1 + (c.f2.size : Int)) > 20000
    · refine ⟨false, Ev.at1 ?_, fun e => by cases e⟩
      simp only [boscageref01_Few.l1]
      refine Ev.pos (by omega) (Ev.pos (by omega) (Ev.pos (by omega) ?_))
      rw [rd_drop h, e1, e2]
      exact Ev.pos hg (Ev.now _)
    · obtain ⟨b, hb, hp⟩ := ih (i + 1) (n + (1 + (c.f2.size : Int))) (drop_next h) (by omega) (by omega) (fun n' hn' hl' => next n' (by rw [hn', wt]; omega) hl')
      refine ⟨b, Ev.at1 ?_, fun e => ⟨(hp e).1, by have := (hp e).2; rw [wt]; omega⟩⟩
      simp only [boscageref01_Few.l1]
      refine Ev.pos (by omega) (Ev.pos (by omega) (Ev.pos (by omega) ?_))
      rw [rd_drop h, e1, e2, hw]
      exact Ev.neg hg hb
theorem few2 (a b : List S43) (ha : a.length * 32 ≤ 140737488351232) (hb : b.length * 32 ≤ 140737488351232) (wa : ∀ x ∈ a, OkV x) (wb : ∀ x ∈ b, OkV x) : ∃ v, Ev (fun k => boscageref01_Few.f k [a, b] 20000) v ∧ (v = true → wt a ≤ 20000 ∧ wt b ≤ 20000) := by
  have w01 : wrap64 ((0 : Int) + 1) = 1 := wrap_id (by decide) (by decide)
  have w12 : wrap64 ((1 : Int) + 1) = 2 := wrap_id (by decide) (by decide)
  have last : ∀ n : Int, n ≤ 20000 → Ev (fun k => boscageref01_Few.l0 k 20000 n [a, b] 2 2) (decide (n ≤ 20000)) := fun n hn => by
    refine Ev.at1 ?_
    simp only [boscageref01_Few.l0]
    exact Ev.neg (by decide) (Ev.now _)
  have second : ∀ n : Int, 0 ≤ n → n ≤ 20000 → ∃ v, Ev (fun k => boscageref01_Few.l0 k 20000 n [a, b] 2 1) v ∧ (v = true → wt b ≤ 20000) := by
    intro n h0 h1
    have en : wrap64 (n + 1) = n + 1 := wrap_id (by omega) (by omega)
    by_cases hn : n + 1 ≤ 20000
    · obtain ⟨v, hv, hp⟩ := few_row [a, b] 2 1 b hb wb True b 0 (n + 1) rfl (by omega) hn (fun n' _ hn' => ⟨_, by rw [w12]; exact last n' hn', fun _ => trivial⟩)
      refine ⟨v, Ev.at1 ?_, fun e => by have := (hp e).2; omega⟩
      simp only [boscageref01_Few.l0]
      rw [en]
      exact Ev.pos (by decide) (Ev.pos (by decide) (Ev.pos (show (1 : Int) < 2 by decide) hv))
    · cases b with
      | nil =>
        refine ⟨decide (n + 1 ≤ 20000), Ev.at1 ?_, fun _ => Nat.zero_le _⟩
        simp only [boscageref01_Few.l0]
        rw [en]
        refine Ev.pos (by decide) (Ev.pos (by decide) (Ev.pos (show (1 : Int) < 2 by decide) (Ev.at1 ?_)))
        simp only [boscageref01_Few.l1]
        refine Ev.neg (show ¬ ((0 : Int) < 0) by decide) ?_
        rw [w12]
        refine Ev.at1 ?_
        simp only [boscageref01_Few.l0]
        exact Ev.neg (by decide) (Ev.now _)
      | cons c r =>
        have hs := (wb c List.mem_cons_self).2.2
        have e1 : wrap64 (1 + (c.f2.size : Int)) = 1 + (c.f2.size : Int) := wrap_id (by omega) (by omega)
        have e2 : wrap64 (n + 1 + (1 + (c.f2.size : Int))) = n + 1 + (1 + (c.f2.size : Int)) := wrap_id (by omega) (by omega)
        refine ⟨false, Ev.at1 ?_, fun e => by cases e⟩
        simp only [boscageref01_Few.l0]
        rw [en]
        refine Ev.pos (by decide) (Ev.pos (by decide) (Ev.pos (show (1 : Int) < 2 by decide) (Ev.at1 ?_)))
        simp only [boscageref01_Few.l1]
        refine Ev.pos (show (0 : Int) < ((c :: r).length : Int) by simp) (Ev.pos (by decide) (Ev.pos (show (0 : Int) < ((c :: r).length : Int) by simp) ?_))
        rw [show rd_T43 (rd_L3 [a, c :: r] 1) 0 = c from rfl, e1, e2]
        exact Ev.pos (by omega) (Ev.now _)
  obtain ⟨v, hv, hp⟩ := few_row [a, b] 2 0 a ha wa (wt b ≤ 20000) a 0 1 rfl (by omega) (by omega) (fun n' hn' hl' => by rw [w01]; exact second n' (by omega) hl')
  refine ⟨v, ?_, fun e => by have := hp e; omega⟩
  unfold boscageref01_Few.f
  refine Ev.at1 ?_
  simp only [boscageref01_Few.l0]
  rw [w01]
  exact Ev.pos (show (0 : Int) < 2 by decide) (Ev.pos (by decide) (Ev.pos (show (0 : Int) < 2 by decide) hv))
theorem big2_ev (a b : List S43) (ha : a.length * 32 ≤ 140737488351232) (hb : b.length * 32 ≤ 140737488351232) (wa : ∀ x ∈ a, OkV x) (wb : ∀ x ∈ b, OkV x) : ∃ v, Ev (fun k => code_Decode.f k a b) v ∧ (v = false → wt a ≤ 20000 ∧ wt b ≤ 20000) := by
  obtain ⟨v, hv, hp⟩ := few2 a b ha hb wa wb
  refine ⟨!v, Ev.bind hv (Ev.now _), fun e => hp (by simpa using e)⟩

/-! the document's order of rows -/
theorem ref_Compare_ev (a b : S43) : Ev (fun k => boscageref01_Compare.f k a.f0 a.f1 a.f2 b.f0 b.f1 b.f2) (cmpV a b) := Ev.after 1 fun k => by
  unfold cmpV
  rw [bytes_cmp]
  have hc : a.f0 < b.f0 ∨ a.f0 = b.f0 ∨ b.f0 < a.f0 := by omega
  rcases hc with hc | hc | hc
  · simp [boscageref01_Compare.f, boscageref01_Compare.j0, hc]
  · have hd : a.f1 < b.f1 ∨ a.f1 = b.f1 ∨ b.f1 < a.f1 := by omega
    rcases hd with hd | hd | hd
    · simp [boscageref01_Compare.f, boscageref01_Compare.j0, hc, hd]
    · by_cases h1 : Op.bytesLess (bs a.f2) (bs b.f2) = true <;> by_cases h2 : bs a.f2 = bs b.f2 <;> simp_all [boscageref01_Compare.f, boscageref01_Compare.j0, boscageref01_Same.f, bs_toList, less_irrefl]
    · have : ¬ a.f1 < b.f1 := by omega
      have : ¬ a.f1 = b.f1 := by omega
      simp [boscageref01_Compare.f, boscageref01_Compare.j0, boscageref01_Same.f, hc, hd, *]
  · have : ¬ a.f0 < b.f0 := by omega
    have : ¬ a.f0 = b.f0 := by omega
    simp [boscageref01_Compare.f, boscageref01_Compare.j0, boscageref01_Same.f, hc, *]

def cmpL : List S43 → List S43 → Int
  | [], [] => 0
  | [], _ :: _ => -1
  | _ :: _, [] => 1
  | x :: l, y :: m => if cmpV x y = 0 then cmpL l m else cmpV x y
theorem rows_loop {a b : List S43} (ha : a.length * 32 ≤ 140737488351232) (hb : b.length * 32 ≤ 140737488351232) : ∀ (r s : List S43) (i : Nat), a.drop i = r → b.drop i = s → i ≤ a.length → i ≤ b.length →
    Ev (fun k => boscageref01_CompareRows.l0 k a b (a.length : Int) (i : Int)) (cmpL r s) := by
  intro r
  induction r with
  | nil =>
    intro s i h h' hi hi'
    have e := drop_len h hi
    have e' := drop_len h' hi'
    refine Ev.at1 ?_
    simp only [boscageref01_CompareRows.l0]
    refine Ev.neg (by simp at e; omega) ?_
    cases s with
    | nil => exact Ev.neg (by simp at e e'; omega) (Ev.now _)
    | cons d s => exact Ev.pos (by simp at e e'; omega) (Ev.now _)
  | cons c r ih =>
    intro s i h h' hi hi'
    have hlt := drop_lt h
    have hw := wrap_next h (by omega)
    refine Ev.at1 ?_
    simp only [boscageref01_CompareRows.l0]
    refine Ev.pos (by omega) ?_
    cases s with
    | nil =>
      have e' := drop_len h' hi'
      exact Ev.pos (by simp at e'; omega) (Ev.now _)
    | cons d s =>
      have hlt' := drop_lt h'
      refine Ev.neg (by omega) (Ev.pos (by omega) (Ev.pos (by omega) (Ev.pos (by omega) ?_)))
      rw [rd_drop h, rd_drop h', hw]
      refine Ev.bind (ref_Compare_ev c d) ?_
      rw [cmpL]
      by_cases hz : cmpV c d = 0
      · rw [if_pos hz]
        exact Ev.pos hz (ih s (i + 1) (drop_next h) (drop_next h') (by omega) (by omega))
      · rw [if_neg hz]
        exact Ev.neg hz (Ev.now _)
theorem rows_ev {a b : List S43} (ha : a.length * 32 ≤ 140737488351232) (hb : b.length * 32 ≤ 140737488351232) : Ev (fun k => boscageref01_CompareRows.f k a b) (cmpL a b) :=
  rows_loop ha hb a b 0 rfl rfl (Nat.zero_le _) (Nat.zero_le _)

/-! keys stand as their rows do -/
def cmpI : List Int → List Int → Int
  | [], [] => 0
  | [], _ :: _ => -1
  | _ :: _, [] => 1
  | a :: x, b :: y => if a < b then -1 else if b < a then 1 else cmpI x y
theorem byte_nat {x : Int} (h : 0 ≤ x ∧ x < 256) : ((UInt8.ofNat x.toNat).toNat : Int) = x := by
  rw [UInt8.toNat_ofNat_of_lt' (show x.toNat < 256 by omega)]; omega
theorem byte_lt {x y : Int} (hx : 0 ≤ x ∧ x < 256) (hy : 0 ≤ y ∧ y < 256) : (UInt8.ofNat x.toNat < UInt8.ofNat y.toNat) ↔ x < y := by
  rw [UInt8.lt_iff_toNat_lt]
  have := byte_nat hx; have := byte_nat hy; omega
theorem cmp_bytes : ∀ {x y : List Int}, inB x → inB y → Lib.compareBytes (x.map fun n => UInt8.ofNat n.toNat) (y.map fun n => UInt8.ofNat n.toNat) = cmpI x y
  | [], [], _, _ => rfl
  | [], _ :: _, _, _ => rfl
  | _ :: _, [], _, _ => rfl
  | a :: x, b :: y, hx, hy => by
    have ih := cmp_bytes (x := x) (y := y) (fun z hz => hx z (List.mem_cons_of_mem _ hz)) fun z hz => hy z (List.mem_cons_of_mem _ hz)
    have ha := hx a List.mem_cons_self
    have hb := hy b List.mem_cons_self
    rw [List.map_cons, List.map_cons, Lib.compareBytes, cmpI, ih]
    by_cases h1 : a < b
    · rw [if_pos h1, if_pos ((byte_lt ha hb).2 h1)]
    · rw [if_neg h1, if_neg (fun h => h1 ((byte_lt ha hb).1 h))]
      by_cases h2 : b < a
      · rw [if_pos h2, if_pos ((byte_lt hb ha).2 h2)]
      · rw [if_neg h2, if_neg (fun h => h2 ((byte_lt hb ha).1 h))]
theorem cmpI_lt {a b : Int} (h : a < b) (x y : List Int) : cmpI (a :: x) (b :: y) = -1 := by rw [cmpI, if_pos h]
theorem cmpI_gt {a b : Int} (h : b < a) (x y : List Int) : cmpI (a :: x) (b :: y) = 1 := by rw [cmpI, if_neg (by omega), if_pos h]
theorem cmpI_eq (a : Int) (x y : List Int) : cmpI (a :: x) (a :: y) = cmpI x y := by rw [cmpI, if_neg (by omega), if_neg (by omega)]
/-- a number's bytes in the base 256 -/
def be : Nat → Int → List Int
  | 0, _ => []
  | j + 1, n => n / 256 ^ j :: be j (n % 256 ^ j)
theorem be_cmp (s t : List Int) : ∀ (j : Nat) (n m : Int), 0 ≤ n → 0 ≤ m → n < 256 ^ j → m < 256 ^ j → cmpI (be j n ++ s) (be j m ++ t) = if n < m then -1 else if m < n then 1 else cmpI s t
  | 0, n, m, h0, h1, h2, h3 => by
    have e : n = m := by simp at h2 h3; omega
    subst e
    rw [if_neg (by omega), if_neg (by omega)]; rfl
  | j + 1, n, m, h0, h1, h2, h3 => by
    have hP : (0 : Int) < 256 ^ j := Int.pow_pos (by decide)
    have en := Int.mul_ediv_add_emod n (256 ^ j)
    have em := Int.mul_ediv_add_emod m (256 ^ j)
    have rn := Int.emod_nonneg n (Int.ne_of_gt hP)
    have rm := Int.emod_nonneg m (Int.ne_of_gt hP)
    have ln := Int.emod_lt_of_pos n hP
    have lm := Int.emod_lt_of_pos m hP
    rw [be, be, List.cons_append, List.cons_append]
    by_cases q1 : n / 256 ^ j < m / 256 ^ j
    · rw [cmpI_lt q1, if_pos]
      rcases Int.lt_or_le n m with h | h
      · exact h
      · have := Int.ediv_le_ediv hP h; omega
    · by_cases q2 : m / 256 ^ j < n / 256 ^ j
      · have hlt : m < n := by
          rcases Int.lt_or_le m n with h | h
          · exact h
          · have := Int.ediv_le_ediv hP h; omega
        rw [cmpI_gt q2, if_neg (by omega), if_pos hlt]
      · have e : n / 256 ^ j = m / 256 ^ j := by omega
        rw [e, cmpI_eq, be_cmp s t j _ _ rn rm ln lm]
        rw [e] at en
        generalize 256 ^ j * (m / 256 ^ j) = z at en em
        have i1 : (n % 256 ^ j < m % 256 ^ j) ↔ n < m := by omega
        have i2 : (m % 256 ^ j < n % 256 ^ j) ↔ m < n := by omega
        simp only [i1, i2]
theorem laid_be {n : Int} (h0 : 0 ≤ n) (h1 : n < 18446744073709551616) : laidL n = be 8 n := by
  have p0 : (2 : Int) ^ (56 - 8 * (0 : Int)).toNat = 72057594037927936 := by decide
  have p1 : (2 : Int) ^ (56 - 8 * (1 : Int)).toNat = 281474976710656 := by decide
  have p2 : (2 : Int) ^ (56 - 8 * (2 : Int)).toNat = 1099511627776 := by decide
  have p3 : (2 : Int) ^ (56 - 8 * (3 : Int)).toNat = 4294967296 := by decide
  have p4 : (2 : Int) ^ (56 - 8 * (4 : Int)).toNat = 16777216 := by decide
  have p5 : (2 : Int) ^ (56 - 8 * (5 : Int)).toNat = 65536 := by decide
  have p6 : (2 : Int) ^ (56 - 8 * (6 : Int)).toNat = 256 := by decide
  have p7 : (2 : Int) ^ (56 - 8 * (7 : Int)).toNat = 1 := by decide
  have q0 : (256 : Int) ^ 0 = 1 := by decide
  have q1 : (256 : Int) ^ 1 = 256 := by decide
  have q2 : (256 : Int) ^ 2 = 65536 := by decide
  have q3 : (256 : Int) ^ 3 = 16777216 := by decide
  have q4 : (256 : Int) ^ 4 = 4294967296 := by decide
  have q5 : (256 : Int) ^ 5 = 1099511627776 := by decide
  have q6 : (256 : Int) ^ 6 = 281474976710656 := by decide
  have q7 : (256 : Int) ^ 7 = 72057594037927936 := by decide
  simp only [laidL, byteL, be, p0, p1, p2, p3, p4, p5, p6, p7, q0, q1, q2, q3, q4, q5, q6, q7]
  clear p0 p1 p2 p3 p4 p5 p6 p7 q0 q1 q2 q3 q4 q5 q6 q7
  simp only [List.cons.injEq]
  refine ⟨by omega, by omega, by omega, by omega, by omega, by omega, by omega, by omega, trivial⟩
theorem xor_top {n : Nat} (h : n < 18446744073709551616) : n ^^^ 9223372036854775808 = (n + 9223372036854775808) % 18446744073709551616 := by
  have low : ∀ m : Nat, m < 9223372036854775808 → m ^^^ 9223372036854775808 = 9223372036854775808 + m := by
    intro m hm
    have e63 : (9223372036854775808 : Nat) = 2 ^ 63 := by decide
    apply Nat.eq_of_testBit_eq
    intro i
    rw [Nat.testBit_xor, e63, Nat.testBit_two_pow]
    rcases Nat.lt_trichotomy i 63 with h' | h' | h'
    · rw [Nat.testBit_two_pow_add_gt h', decide_eq_false (by omega)]; simp
    · subst h'
      rw [Nat.testBit_two_pow_add_eq, Nat.testBit_lt_two_pow (by omega)]; simp
    · rw [decide_eq_false (by omega), Nat.testBit_lt_two_pow (x := m) (Nat.lt_of_lt_of_le hm (by rw [e63]; exact Nat.pow_le_pow_right (by decide) (by omega))), Nat.testBit_lt_two_pow (x := 2 ^ 63 + m) (Nat.lt_of_lt_of_le (show 2 ^ 63 + m < 2 ^ 64 by omega) (Nat.pow_le_pow_right (by decide) (by omega)))]; rfl
  rcases Nat.lt_or_ge n 9223372036854775808 with h' | h'
  · rw [low n h']; omega
  · have e : n = 9223372036854775808 + (n - 9223372036854775808) := by omega
    have l := low (n - 9223372036854775808) (by omega)
    rw [e, ← l, Nat.xor_assoc, Nat.xor_self, Nat.xor_zero, l]
    omega
theorem xorTop_eq {n : Int} (h : (Lit.int .i64 n).wf = true) : xorTop n = n + 9223372036854775808 := by
  obtain ⟨h0, h1⟩ := wf64 h
  have hw : IntKind.u64.wrap n = n % 18446744073709551616 := by simp [IntKind.wrap, IntKind.bits, IntKind.signed]
  unfold xorTop
  rw [hw]
  show IntKind.u64.wrap ((BitVec.ofInt 64 (n % 18446744073709551616) ^^^ BitVec.ofInt 64 9223372036854775808).toNat : Int) = _
  have t2 : (BitVec.ofInt 64 9223372036854775808).toNat = 9223372036854775808 := by decide
  have t1 : (BitVec.ofInt 64 (n % 18446744073709551616)).toNat = (n % 18446744073709551616).toNat := by
    rw [BitVec.toNat_ofInt]; omega
  rw [BitVec.toNat_xor, t1, t2, xor_top (by omega)]
  simp [IntKind.wrap, IntKind.bits, IntKind.signed]
  omega
def q8 (S : List UInt8) : List Int := S.map fun c => ((c.toNat : Nat) : Int)
theorem rep_cmp (s t : List Int) : ∀ S T : List UInt8, cmpI (repL (q8 S) ++ 0 :: 0 :: s) (repL (q8 T) ++ 0 :: 0 :: t) = if Lib.compareBytes S T = 0 then cmpI s t else Lib.compareBytes S T
  | [], [] => by
    show cmpI (0 :: 0 :: s) (0 :: 0 :: t) = _
    rw [cmpI_eq, cmpI_eq]; rfl
  | [], d :: T => by
    have e : q8 (d :: T) = ((d.toNat : Nat) : Int) :: q8 T := rfl
    have c : Lib.compareBytes [] (d :: T) = -1 := rfl
    rw [e, c, if_neg (by decide), repL]
    show cmpI (0 :: 0 :: s) _ = -1
    by_cases h : ((d.toNat : Nat) : Int) = 0
    · rw [if_pos h]
      show cmpI (0 :: 0 :: s) (0 :: 255 :: _) = -1
      rw [cmpI_eq, cmpI_lt (by decide)]
    · rw [if_neg h]
      show cmpI (0 :: 0 :: s) (((d.toNat : Nat) : Int) :: _) = -1
      rw [cmpI_lt (by omega)]
  | d :: S, [] => by
    have e : q8 (d :: S) = ((d.toNat : Nat) : Int) :: q8 S := rfl
    have c : Lib.compareBytes (d :: S) [] = 1 := rfl
    rw [e, c, if_neg (by decide), repL]
    show cmpI _ (0 :: 0 :: t) = 1
    by_cases h : ((d.toNat : Nat) : Int) = 0
    · rw [if_pos h]
      show cmpI (0 :: 255 :: _) (0 :: 0 :: t) = 1
      rw [cmpI_eq, cmpI_gt (by decide)]
    · rw [if_neg h]
      show cmpI (((d.toNat : Nat) : Int) :: _) (0 :: 0 :: t) = 1
      rw [cmpI_gt (by omega)]
  | c :: S, d :: T => by
    have ih := rep_cmp s t S T
    have e : q8 (c :: S) = ((c.toNat : Nat) : Int) :: q8 S := rfl
    have e' : q8 (d :: T) = ((d.toNat : Nat) : Int) :: q8 T := rfl
    rw [e, e', repL, repL, Lib.compareBytes]
    by_cases h1 : c < d
    · have l1 : c.toNat < d.toNat := UInt8.lt_iff_toNat_lt.1 h1
      rw [if_pos h1, show (if (-1 : Int) = 0 then cmpI s t else -1) = -1 from if_neg (by decide), if_neg (show ¬ ((d.toNat : Nat) : Int) = 0 by omega)]
      by_cases h : ((c.toNat : Nat) : Int) = 0
      · rw [if_pos h]
        show cmpI (0 :: _) (((d.toNat : Nat) : Int) :: _) = -1
        exact cmpI_lt (by omega) _ _
      · rw [if_neg h]
        show cmpI (((c.toNat : Nat) : Int) :: _) (((d.toNat : Nat) : Int) :: _) = -1
        exact cmpI_lt (by omega) _ _
    · rw [if_neg h1]
      by_cases h2 : d < c
      · have l2 : d.toNat < c.toNat := UInt8.lt_iff_toNat_lt.1 h2
        rw [if_pos h2, show (if (1 : Int) = 0 then cmpI s t else 1) = 1 from if_neg (by decide), if_neg (show ¬ ((c.toNat : Nat) : Int) = 0 by omega)]
        by_cases h : ((d.toNat : Nat) : Int) = 0
        · rw [if_pos h]
          show cmpI (((c.toNat : Nat) : Int) :: _) (0 :: _) = 1
          exact cmpI_gt (by omega) _ _
        · rw [if_neg h]
          show cmpI (((c.toNat : Nat) : Int) :: _) (((d.toNat : Nat) : Int) :: _) = 1
          exact cmpI_gt (by omega) _ _
      · rw [if_neg h2]
        have l1 : ¬ c.toNat < d.toNat := fun h => h1 (UInt8.lt_iff_toNat_lt.2 h)
        have l2 : ¬ d.toNat < c.toNat := fun h => h2 (UInt8.lt_iff_toNat_lt.2 h)
        have e : c.toNat = d.toNat := by omega
        rw [e, ← ih]
        by_cases h : ((d.toNat : Nat) : Int) = 0
        · rw [if_pos h, if_pos h]
          show cmpI (0 :: 255 :: _) (0 :: 255 :: _) = _
          rw [cmpI_eq, cmpI_eq]; rfl
        · rw [if_neg h, if_neg h]
          show cmpI (((d.toNat : Nat) : Int) :: _) (((d.toNat : Nat) : Int) :: _) = _
          rw [cmpI_eq]; rfl
theorem okK {x : S43} (h : ok x = true) : (x.f0 = 0 ∧ x.f1 = 0 ∧ bs x.f2 = []) ∨ (x.f0 = 1 ∧ (x.f1 = 0 ∨ x.f1 = 1) ∧ bs x.f2 = []) ∨ (x.f0 = 2 ∧ bs x.f2 = []) ∨ ((x.f0 = 3 ∨ x.f0 = 4) ∧ x.f1 = 0) := by
  unfold ok at h
  by_cases h0 : x.f0 = 0
  · rw [if_pos h0] at h; simp at h; exact .inl ⟨h0, h.1, h.2⟩
  · rw [if_neg h0] at h
    by_cases h1 : x.f0 = 1
    · rw [if_pos h1] at h; simp at h; exact .inr (.inl ⟨h1, h.1, h.2⟩)
    · rw [if_neg h1] at h
      by_cases h2 : x.f0 = 2
      · rw [if_pos h2] at h; simp at h; exact .inr (.inr (.inl ⟨h2, h⟩))
      · rw [if_neg h2] at h
        by_cases h3 : x.f0 = 3 ∨ x.f0 = 4
        · rw [if_pos h3] at h; simp at h; exact .inr (.inr (.inr ⟨h3, h⟩))
        · rw [if_neg h3] at h; cases h
theorem val_cmp {x y : S43} (hx : ok x = true) (hy : ok y = true) (wx : OkV x) (wy : OkV y) (s t : List Int) : cmpI (keyV x ++ s) (keyV y ++ t) = if cmpV x y = 0 then cmpI s t else cmpV x y := by
  have kx := okK hx
  have ky := okK hy
  have ex : x.f0 % 256 = x.f0 := by omega
  have ey : y.f0 % 256 = y.f0 := by omega
  unfold keyV
  rw [ex, ey, List.cons_append, List.cons_append]
  by_cases h1 : x.f0 < y.f0
  · have c : cmpV x y = -1 := by unfold cmpV; rw [if_pos h1]
    rw [cmpI_lt h1, c]; rfl
  · by_cases h2 : y.f0 < x.f0
    · have c : cmpV x y = 1 := by unfold cmpV; rw [if_neg h1, if_pos h2]
      rw [cmpI_gt h2, c]; rfl
    · have e : x.f0 = y.f0 := by omega
      rw [e, cmpI_eq]
      have c : cmpV x y = if x.f1 < y.f1 then -1 else if y.f1 < x.f1 then 1 else Lib.compareBytes (bs x.f2) (bs y.f2) := by unfold cmpV; rw [if_neg h1, if_neg h2]
      rw [c]
      rcases kx with ⟨k, f, b⟩ | ⟨k, f, b⟩ | ⟨k, b⟩ | ⟨k, f⟩
      · have b' : bs y.f2 = [] ∧ y.f1 = 0 := by rcases ky with h | h | h | h <;> first | exact ⟨h.2.2, h.2.1⟩ | omega
        have px : payV x = [] := by unfold payV; rw [if_neg (by omega), if_neg (by omega), if_neg (by omega)]
        have py : payV y = [] := by unfold payV; rw [if_neg (by omega), if_neg (by omega), if_neg (by omega)]
        rw [px, py, f, b, b'.1, b'.2]; rfl
      · have b' : bs y.f2 = [] ∧ (y.f1 = 0 ∨ y.f1 = 1) := by rcases ky with h | h | h | h <;> first | exact ⟨h.2.2, h.2.1⟩ | omega
        have px : payV x = [x.f1] := by unfold payV; rw [if_pos k]; congr 1; omega
        have py : payV y = [y.f1] := by unfold payV; rw [if_pos (by omega)]; congr 1; omega
        rw [px, py, b, b'.1]
        show cmpI (x.f1 :: s) (y.f1 :: t) = _
        by_cases g1 : x.f1 < y.f1
        · rw [cmpI_lt g1, if_pos g1]; rfl
        · rw [if_neg g1]
          by_cases g2 : y.f1 < x.f1
          · rw [cmpI_gt g2, if_pos g2]; rfl
          · have : x.f1 = y.f1 := by omega
            rw [if_neg g2, this, cmpI_eq]; rfl
      · have b' : bs y.f2 = [] := by rcases ky with h | h | h | h <;> first | exact h.2 | omega
        have px : payV x = laidL (xorTop x.f1) := by unfold payV; rw [if_neg (by omega), if_pos k]
        have py : payV y = laidL (xorTop y.f1) := by unfold payV; rw [if_neg (by omega), if_pos (by omega)]
        obtain ⟨r1, r2⟩ := wf64 wx.2.1
        obtain ⟨r3, r4⟩ := wf64 wy.2.1
        have p8 : (256 : Int) ^ 8 = 18446744073709551616 := by decide
        rw [px, py, b, b', xorTop_eq wx.2.1, xorTop_eq wy.2.1, laid_be (by omega) (by omega), laid_be (by omega) (by omega), be_cmp s t 8 _ _ (by omega) (by omega) (by omega) (by omega)]
        have i1 : (x.f1 + 9223372036854775808 < y.f1 + 9223372036854775808) ↔ x.f1 < y.f1 := by omega
        have i2 : (y.f1 + 9223372036854775808 < x.f1 + 9223372036854775808) ↔ y.f1 < x.f1 := by omega
        simp only [i1, i2]
        by_cases g1 : x.f1 < y.f1
        · rw [if_pos g1, if_pos g1]; rfl
        · rw [if_neg g1, if_neg g1]
          by_cases g2 : y.f1 < x.f1
          · rw [if_pos g2, if_pos g2]; rfl
          · rw [if_neg g2, if_neg g2]; rfl
      · have f' : y.f1 = 0 := by rcases ky with h | h | h | h <;> first | exact h.2 | omega
        have px : payV x = repL (q8 (bs x.f2)) ++ [0, 0] := by unfold payV; rw [if_neg (by omega), if_neg (by omega), if_pos k]; rfl
        have py : payV y = repL (q8 (bs y.f2)) ++ [0, 0] := by unfold payV; rw [if_neg (by omega), if_neg (by omega), if_pos (by omega)]; rfl
        rw [px, py, f, f', List.append_assoc, List.append_assoc]
        show cmpI (repL (q8 (bs x.f2)) ++ 0 :: 0 :: s) (repL (q8 (bs y.f2)) ++ 0 :: 0 :: t) = _
        rw [rep_cmp]
        simp
theorem key_order : ∀ {a b : List S43}, (∀ x ∈ a, ok x = true ∧ OkV x) → (∀ x ∈ b, ok x = true ∧ OkV x) → cmpI (keyL a) (keyL b) = cmpL a b
  | [], [], _, _ => rfl
  | [], _ :: _, _, _ => rfl
  | _ :: _, [], _, _ => rfl
  | x :: a, y :: b, ha, hb => by
    have hx := ha x List.mem_cons_self
    have hy := hb y List.mem_cons_self
    rw [keyL, keyL, val_cmp hx.1 hy.1 hx.2 hy.2, key_order (fun z hz => ha z (List.mem_cons_of_mem _ hz)) fun z hz => hb z (List.mem_cons_of_mem _ hz)]
    rfl
theorem inB_rep : ∀ {l : List Int}, inB l → inB (repL l)
  | [], _ => fun _ h => by cases h
  | x :: l, h => by
    have ih := inB_rep (l := l) fun y hy => h y (List.mem_cons_of_mem _ hy)
    intro z hz
    rw [repL] at hz
    by_cases hx : x = 0
    · rw [if_pos hx] at hz
      rcases List.mem_cons.1 hz with rfl | hz
      · omega
      · rcases List.mem_cons.1 hz with rfl | hz
        · omega
        · exact ih z hz
    · rw [if_neg hx] at hz
      rcases List.mem_cons.1 hz with rfl | hz
      · exact h _ List.mem_cons_self
      · exact ih z hz
theorem inB_nums (s : ByteArray) : inB (numsOf s) := by
  intro x hx
  unfold numsOf at hx
  obtain ⟨c, _, rfl⟩ := List.mem_map.1 hx
  have := c.toNat_lt
  omega
theorem inB_app {a b : List Int} (ha : inB a) (hb : inB b) : inB (a ++ b) := fun x hx => (List.mem_append.1 hx).elim (ha x) (hb x)
theorem inB_laid (n : Int) : inB (laidL n) := by
  intro x hx
  simp only [laidL, List.mem_cons, List.not_mem_nil, or_false] at hx
  rcases hx with h | h | h | h | h | h | h | h <;> (rw [h]; unfold byteL; omega)
theorem inB_key : ∀ l : List S43, inB (keyL l)
  | [] => fun _ h => by cases h
  | x :: l => by
    refine inB_app ?_ (inB_key l)
    intro z hz
    unfold keyV at hz
    rcases List.mem_cons.1 hz with rfl | hz
    · omega
    · unfold payV at hz
      by_cases k1 : x.f0 = 1
      · rw [if_pos k1] at hz
        simp at hz
        omega
      · rw [if_neg k1] at hz
        by_cases k2 : x.f0 = 2
        · rw [if_pos k2] at hz; exact inB_laid _ z hz
        · rw [if_neg k2] at hz
          by_cases k3 : x.f0 = 3 ∨ x.f0 = 4
          · rw [if_pos k3] at hz
            exact inB_app (inB_rep (inB_nums _)) (fun y hy => by simp at hy; omega) z hz
          · rw [if_neg k3] at hz; cases hz
theorem strOf_list (l : List Int) : (strOfNums l).toList = l.map fun n => UInt8.ofNat n.toNat := by rw [bs_toList]; rfl
theorem live_ev : Ev (fun k => boscagelaw05_live.f k) true := ⟨80, fun k hk => at_rounds (fun k => boscagelaw05_live.mono k) hk (by decide +kernel)⟩
theorem codeOrders_pure (a b : List S43) (ha : a.length * 32 ≤ 140737488351232) (wa : ∀ x ∈ a, OkV x) (hb : b.length * 32 ≤ 140737488351232) (wb : ∀ x ∈ b, OkV x) : ∃ k, boscagelaw05_CodeOrders.f k a b = some true := by
  refine Ev.rounds ?_
  unfold boscagelaw05_CodeOrders.f
  refine Ev.bind live_ev ?_
  obtain ⟨v, hv, hp⟩ := big2_ev a b ha hb wa wb
  refine Ev.bind hv ?_
  cases v
  · obtain ⟨g1, g2⟩ := hp rfl
    have s1 := keyL_len a
    have s2 := keyL_len b
    refine Ev.neg (by decide) (Ev.bind (key_ev ha wa (by omega)) (Ev.bind (key_ev hb wb (by omega)) ?_))
    by_cases ca : crV a = 0
    · have ka : keyR a = (keyL a, 0) := by unfold keyR; rw [if_pos ca]
      rw [ka]
      refine Ev.pos rfl (Ev.at1 ?_)
      simp only [boscagelaw05_CodeOrders.j0]
      by_cases cb : crV b = 0
      · have kb : keyR b = (keyL b, 0) := by unfold keyR; rw [if_pos cb]
        rw [kb]
        refine Ev.neg (show ¬ (((0 : Int) != 0) = true) by decide) ?_
        have oa : ∀ x ∈ a, ok x = true ∧ OkV x := fun x hx => ⟨(crV_ok ca).1 x hx, wa x hx⟩
        have ob : ∀ x ∈ b, ok x = true ∧ OkV x := fun x hx => ⟨(crV_ok cb).1 x hx, wb x hx⟩
        have hc := key_order oa ob
        have hd := key_order ob oa
        rw [← cmp_bytes (inB_key a) (inB_key b), bytes_cmp] at hc
        rw [strOf_list, strOf_list]
        generalize hx : (keyL a).map (fun n => UInt8.ofNat n.toNat) = x at hc ⊢
        generalize hy : (keyL b).map (fun n => UInt8.ofNat n.toNat) = y at hc ⊢
        have hrows := rows_ev ha hb
        by_cases l1 : Op.bytesLess x y = true
        · rw [if_pos l1] at hc
          refine Ev.pos l1 (Ev.pos (by trivial) (Ev.bind hrows (Ev.done ?_)))
          rw [← hc]; rfl
        · rw [if_neg l1] at hc
          refine Ev.neg l1 ?_
          have hdd : (if Op.bytesLess y x = true then (-1 : Int) else if y = x then 0 else 1) = cmpL b a := by
            rw [← hd, ← cmp_bytes (inB_key b) (inB_key a), bytes_cmp, hx, hy]
          by_cases l2 : Op.bytesLess y x = true
          · refine Ev.pos l2 (Ev.pos (by trivial) (Ev.bind hrows (Ev.done ?_)))
            have hne : ¬ x = y := by rintro rfl; exact l1 l2
            rw [if_neg hne] at hc
            rw [← hc]; rfl
          · refine Ev.neg l2 (Ev.pos (by trivial) (Ev.bind hrows (Ev.done ?_)))
            have heq : x = y := by
              have t1 := Pre.less_total x y
              have : Op.bytesLess y x = false := by simpa using l2
              rw [this] at t1
              have l1' : Op.bytesLess x y = false := by simpa using l1
              rw [l1'] at t1
              simpa using t1
            rw [if_pos heq] at hc
            rw [← hc]; rfl
      · have kb : keyR b = ([], crV b) := by unfold keyR; rw [if_neg cb]
        rw [kb]
        exact Ev.pos (bne_iff_ne.2 cb) (Ev.now _)
    · have ka : keyR a = ([], crV a) := by unfold keyR; rw [if_neg ca]
      rw [ka]
      refine Ev.neg ca (Ev.at1 ?_)
      simp only [boscagelaw05_CodeOrders.j0]
      exact Ev.pos (by trivial) (Ev.now _)
  · exact Ev.pos rfl (Ev.now _)
end Go.Proofs.YtbojfgjdpfobaaaDoor.Cd
