/- ValueApart's plain law: two values that may be have the same text, just if they are the same. -/
import Derived.Test.YtaneicpggglcbaaDoorTx
import Derived.Test.YtaneicpggglcbaaDoorQVAx12
set_option linter.unusedVariables false
set_option linter.unusedSimpArgs false
namespace Go.Proofs.YtaneicpggglcbaaDoor.Va
open Go.RowKit Go.Proofs.YtaneicpggglcbaaDoorW.PrintWords Go.Proofs.YtaneicpggglcbaaDoor.Pu Go.Proofs.YtaneicpggglcbaaDoor.QVA Go.Proofs.YtaneicpggglcbaaDoor.Rw
theorem dec_big' {u : Nat} (h : ¬ u < 10) : Lib.decDigits u = Lib.decDigits (u / 10) ++ [UInt8.ofNat (48 + u % 10)] := by rw [Lib.decDigits, dif_neg h]
def valD (l : List UInt8) : Nat := l.foldl (fun a d => 10 * a + (d.toNat - 48)) 0
theorem valD_dec : ∀ n u : Nat, u ≤ n → valD (Lib.decDigits u) = u ∧ ∀ d ∈ Lib.decDigits u, 48 ≤ d.toNat ∧ d.toNat ≤ 57 := by
  intro n
  induction n with
  | zero =>
    intro u h
    obtain rfl : u = 0 := by omega
    rw [Lib.decDigits_one (by omega)]
    exact ⟨rfl, fun d hd => by simp at hd; subst hd; decide⟩
  | succ n ih =>
    intro u h
    by_cases h1 : u < 10
    · rw [Lib.decDigits_one h1]
      have e : (UInt8.ofNat (48 + u)).toNat = 48 + u := by rw [UInt8.toNat_ofNat']; omega
      refine ⟨?_, fun d hd => ?_⟩
      · simp only [valD, List.foldl_cons, List.foldl_nil, e]; omega
      · simp only [List.mem_cons, List.mem_nil_iff, or_false] at hd
        subst hd
        rw [e]; omega
    · obtain ⟨i1, i2⟩ := ih (u / 10) (by omega)
      have e : (UInt8.ofNat (48 + u % 10)).toNat = 48 + u % 10 := by rw [UInt8.toNat_ofNat']; omega
      rw [dec_big' h1]
      refine ⟨?_, fun d hd => ?_⟩
      · unfold valD at i1 ⊢
        rw [List.foldl_append, i1]
        simp only [List.foldl_cons, List.foldl_nil, e]; omega
      · rcases List.mem_append.1 hd with hd | hd
        · exact i2 d hd
        · simp only [List.mem_cons, List.mem_nil_iff, or_false] at hd
          subst hd
          rw [e]; omega
theorem dec_ne (u : Nat) : Lib.decDigits u ≠ [] := by
  intro h
  have := congrArg List.length h
  rw [Lib.decDigits_length] at this
  have := Lib.nDigits_pos u
  simp at *
  omega
theorem dec_head (u : Nat) : ∃ c r, Lib.decDigits u = c :: r ∧ 48 ≤ c.toNat ∧ c.toNat ≤ 57 := by
  have h := (valD_dec u u (Nat.le_refl _)).2
  have hn := dec_ne u
  generalize Lib.decDigits u = l at h hn
  cases l with
  | nil => exact absurd rfl hn
  | cons c r => exact ⟨c, r, rfl, h c List.mem_cons_self⟩
theorem dec_inj {u v : Nat} (h : Lib.decDigits u = Lib.decDigits v) : u = v := by
  rw [← (valD_dec u u (Nat.le_refl _)).1, ← (valD_dec v v (Nat.le_refl _)).1, h]
theorem itoa_head (n : Int) : ∃ c r, Lib.itoa n = c :: r ∧ (c = 45 ∨ 48 ≤ c.toNat ∧ c.toNat ≤ 57) := by
  unfold Lib.itoa
  split
  · exact ⟨_, _, rfl, .inl rfl⟩
  · obtain ⟨c, r, e, h⟩ := dec_head n.toNat
    exact ⟨c, r, e, .inr h⟩
theorem itoa_inj {m n : Int} (h : Lib.itoa m = Lib.itoa n) : m = n := by
  unfold Lib.itoa at h
  split at h <;> split at h
  · injection h with _ h
    have := dec_inj h
    omega
  · obtain ⟨c, r, e, h1, h2⟩ := dec_head n.toNat
    rw [e] at h
    injection h with h _
    subst h
    exact absurd h1 (by decide)
  · obtain ⟨c, r, e, h1, h2⟩ := dec_head m.toNat
    rw [e] at h
    injection h with h _
    subst h
    exact absurd h1 (by decide)
  · have := dec_inj h
    omega
theorem dbl_inj : ∀ a b : List UInt8, Wv.dblL a = Wv.dblL b → a = b
  | [], [], _ => rfl
  | [], y :: b, h => by
    rw [Wv.dblL_cons] at h
    have := congrArg List.length h
    by_cases hy : y = 39 <;> simp [hy, Wv.dblL] at this
  | x :: a, [], h => by
    rw [Wv.dblL_cons] at h
    have := congrArg List.length h
    by_cases hx : x = 39 <;> simp [hx, Wv.dblL] at this
  | x :: a, y :: b, h => by
    rw [Wv.dblL_cons, Wv.dblL_cons] at h
    by_cases hx : x = 39
    · by_cases hy : y = 39
      · rw [if_pos hx, if_pos hy] at h
        simp only [List.cons_append, List.nil_append, List.cons.injEq, true_and] at h
        rw [hx, hy, dbl_inj a b h]
      · rw [if_pos hx, if_neg hy] at h
        simp only [List.cons_append, List.nil_append, List.cons.injEq] at h
        exact absurd h.1.symm hy
    · by_cases hy : y = 39
      · rw [if_neg hx, if_pos hy] at h
        simp only [List.cons_append, List.nil_append, List.cons.injEq] at h
        exact absurd h.1 hx
      · rw [if_neg hx, if_neg hy] at h
        simp only [List.cons_append, List.nil_append, List.cons.injEq] at h
        rw [h.1, dbl_inj a b h.2]
theorem hexD_inj : ∀ m n : Fin 16, Wv.hexD m.val = Wv.hexD n.val → m = n := by decide +kernel
theorem hex_cons (x : UInt8) (l : List UInt8) : Wv.hexL (x :: l) = Wv.hexD (x.toNat / 16) :: Wv.hexD (x.toNat % 16) :: Wv.hexL l := rfl
theorem hexL_inj : ∀ a b : List UInt8, Wv.hexL a = Wv.hexL b → a = b
  | [], [], _ => rfl
  | [], y :: b, h => by rw [hex_cons] at h; cases h
  | x :: a, [], h => by rw [hex_cons] at h; cases h
  | x :: a, y :: b, h => by
    rw [hex_cons, hex_cons] at h
    injection h with h1 h
    injection h with h2 h
    have hx : x.toNat < 256 := x.toNat_lt
    have hy : y.toNat < 256 := y.toNat_lt
    have e1 := congrArg Fin.val (hexD_inj ⟨x.toNat / 16, by omega⟩ ⟨y.toNat / 16, by omega⟩ h1)
    have e2 := congrArg Fin.val (hexD_inj ⟨x.toNat % 16, by omega⟩ ⟨y.toNat % 16, by omega⟩ h2)
    simp only at e1 e2
    rw [byte_inj (c := x) (d := y) (by omega), hexL_inj a b h]
/-- a value that may be, by its kind -/
theorem ok_cases {x : S27} (h : ok x = true) : (x.f0 = 0 ∧ x.f1 = 0 ∧ bs x.f2 = []) ∨ (x.f0 = 1 ∧ (x.f1 = 0 ∨ x.f1 = 1) ∧ bs x.f2 = []) ∨ (x.f0 = 2 ∧ bs x.f2 = []) ∨ (x.f0 = 3 ∧ x.f1 = 0) ∨ (x.f0 = 4 ∧ x.f1 = 0) := by
  unfold ok at h
  split at h
  · rename_i e
    simp only [Bool.and_eq_true, decide_eq_true_eq] at h
    exact .inl ⟨e, h⟩
  · split at h
    · rename_i e
      simp only [Bool.and_eq_true, Bool.or_eq_true, decide_eq_true_eq] at h
      exact .inr (.inl ⟨e, h⟩)
    · split at h
      · rename_i e
        simp only [decide_eq_true_eq] at h
        exact .inr (.inr (.inl ⟨e, h⟩))
      · split at h
        · rename_i n1 n2 n3 e
          simp only [decide_eq_true_eq] at h
          rcases e with e | e
          · exact .inr (.inr (.inr (.inl ⟨e, h⟩)))
          · exact .inr (.inr (.inr (.inr ⟨e, h⟩)))
        · cases h
/-- the text's kind: its first byte's -/
def kindB (c : UInt8) : Int := if c = 78 then 0 else if c = 84 ∨ c = 70 then 1 else if c = 39 then 3 else if c = 120 then 4 else 2
theorem text_kind {x : S27} (h : ok x = true) : ∃ c r, Wv.textL x.f0 x.f1 x.f2 = c :: r ∧ kindB c = x.f0 := by
  rcases ok_cases h with ⟨e, _, _⟩ | ⟨e, e1, _⟩ | ⟨e, _⟩ | ⟨e, _⟩ | ⟨e, _⟩
  · exact ⟨78, _, by simp [Wv.textL, e]; rfl, by rw [e]; rfl⟩
  · rcases e1 with e1 | e1
    · exact ⟨70, _, by simp [Wv.textL, e, e1]; rfl, by rw [e]; rfl⟩
    · exact ⟨84, _, by simp [Wv.textL, e, e1]; rfl, by rw [e]; rfl⟩
  · obtain ⟨c, r, ec, hc⟩ := itoa_head x.f1
    refine ⟨c, r, by rw [← ec]; simp [Wv.textL, e], ?_⟩
    rw [e]
    unfold kindB
    have hn : ∀ d : UInt8, (d = 78 ∨ d = 84 ∨ d = 70 ∨ d = 39 ∨ d = 120) → c ≠ d := by
      rintro d hd rfl
      rcases hc with rfl | hc
      · rcases hd with h | h | h | h | h <;> cases h
      · rcases hd with h | h | h | h | h <;> (subst h; revert hc; decide)
    rw [if_neg (hn 78 (by simp)), if_neg (by rintro (h | h); exact hn 84 (by simp) h; exact hn 70 (by simp) h), if_neg (hn 39 (by simp)), if_neg (hn 120 (by simp))]
  · exact ⟨39, _, by simp [Wv.textL, e]; rfl, by rw [e]; rfl⟩
  · exact ⟨120, _, by simp [Wv.textL, e]; rfl, by rw [e]; rfl⟩
theorem ext27 {x y : S27} (h0 : x.f0 = y.f0) (h1 : x.f1 = y.f1) (h2 : bs x.f2 = bs y.f2) : x = y := by
  have h3 := bs_ext h2
  cases x; cases y
  simp at h0 h1 h3
  simp [h0, h1, h3]
theorem text_inj {x y : S27} (hx : ok x = true) (hy : ok y = true) (h : Wv.textL x.f0 x.f1 x.f2 = Wv.textL y.f0 y.f1 y.f2) : x = y := by
  have hk : x.f0 = y.f0 := by
    obtain ⟨c, r, e, k⟩ := text_kind hx
    obtain ⟨d, s, e', k'⟩ := text_kind hy
    rw [e, e'] at h
    injection h with h _
    rw [← k, ← k', h]
  rcases ok_cases hx with ⟨e, e1, e2⟩ | ⟨e, e1, e2⟩ | ⟨e, e2⟩ | ⟨e, e1⟩ | ⟨e, e1⟩ <;> rcases ok_cases hy with ⟨d, d1, d2⟩ | ⟨d, d1, d2⟩ | ⟨d, d2⟩ | ⟨d, d1⟩ | ⟨d, d1⟩ <;> first | (exfalso; omega) | skip
  · exact ext27 hk (by rw [e1, d1]) (by rw [e2, d2])
  · refine ext27 hk ?_ (by rw [e2, d2])
    rcases e1 with e1 | e1 <;> rcases d1 with d1 | d1 <;> first | (rw [e1, d1]; done) | (exfalso; simp [Wv.textL, e, d, e1, d1] at h; done)
  · refine ext27 hk (itoa_inj ?_) (by rw [e2, d2])
    simpa [Wv.textL, e, d] using h
  · refine ext27 hk (by rw [e1, d1]) (dbl_inj _ _ ?_)
    simpa [Wv.textL, e, d, bs] using h
  · refine ext27 hk (by rw [e1, d1]) (hexL_inj _ _ ?_)
    simpa [Wv.textL, e, d, bs] using h
theorem chk_ok {x : S27} (h : chk x = 0) : txt x = (mk (Wv.textL x.f0 x.f1 x.f2), 0) := by unfold txt; rw [if_pos h]
theorem chk_bad {x : S27} (h : ¬ chk x = 0) : txt x = (⟨#[]⟩, chk x) := by unfold txt; rw [if_neg h]
theorem valueApart_pure (a b : S27) (wa : OkV a) (wb : OkV b) : ∃ k, boscagelaw01_ValueApart.f k a.f0 a.f1 a.f2 b.f0 b.f1 b.f2 = some true := by
  refine Ev.rounds ?_
  unfold boscagelaw01_ValueApart.f
  refine Ev.bind live_ev ?_
  have early : Ev (fun k => boscagelaw01_ValueApart.j0 k true true a.f0 a.f1 a.f2 b.f0 b.f1 b.f2) true := by
    refine Ev.at1 ?_
    simp only [boscagelaw01_ValueApart.j0]
    exact Ev.pos (by trivial) (Ev.now _)
  by_cases ha : (a.f2.size : Int) > 10000
  · exact Ev.pos ha early
  · refine Ev.neg ha ?_
    by_cases hb : (b.f2.size : Int) > 10000
    · rw [decide_eq_true hb]
      exact early
    · rw [decide_eq_false hb]
      refine Ev.at1 ?_
      simp only [boscagelaw01_ValueApart.j0]
      refine Ev.neg (by decide) (Ev.bind (Ev.same (mineText_at wa (by omega))) (Ev.bind (Ev.same (mineText_at wb (by omega))) ?_))
      by_cases ca : chk a = 0
      · rw [chk_ok ca]
        refine Ev.pos rfl (Ev.at1 ?_)
        simp only [boscagelaw01_ValueApart.j1]
        by_cases cb : chk b = 0
        · rw [chk_ok cb]
          refine Ev.neg (show ¬ (((0 : Int) != 0) = true) by decide) (Ev.pos (by trivial) (Ev.bind (Ev.same (same_at a b)) ?_))
          have e1 : ((mk (Wv.textL a.f0 a.f1 a.f2)).toList == (mk (Wv.textL b.f0 b.f1 b.f2)).toList) = sameB a b := by
            rw [bs_toList, bs_toList, bs_mk', bs_mk', Bool.eq_iff_iff, sameB_iff, beq_iff_eq]
            exact ⟨text_inj (chk_zero ca) (chk_zero cb), fun h => by rw [h]⟩
          have e2 : (cmpV a b == 0) = sameB a b := by
            rw [Bool.eq_iff_iff, sameB_iff, beq_iff_eq, cmpV_zero]
          refine Ev.pos (by rw [e1]; simp) (Ev.bind (mine_ev a b) (Ev.bind (Ev.same (same_at a b)) (Ev.done ?_)))
          rw [e2]; simp
        · rw [chk_bad cb]
          have h1 : (chk b != 0) = true := bne_iff_ne.2 cb
          refine Ev.pos h1 (Ev.pos (by trivial) (Ev.pos (by trivial) (Ev.neg cb (Ev.done ?_))))
          show ((⟨#[]⟩ : ByteArray).toList == ([] : List UInt8)) = true
          rw [bs_toList]; rfl
      · rw [chk_bad ca]
        refine Ev.neg ca (Ev.at1 ?_)
        simp only [boscagelaw01_ValueApart.j1]
        refine Ev.pos (by trivial) (Ev.pos (by trivial) (Ev.neg ca (Ev.pos (by rw [bs_toList]; rfl) ?_)))
        by_cases cb : chk b = 0
        · rw [chk_ok cb]
          exact Ev.pos rfl (Ev.now _)
        · rw [chk_bad cb]
          refine Ev.neg cb (Ev.done ?_)
          show ((⟨#[]⟩ : ByteArray).toList == ([] : List UInt8)) = true
          rw [bs_toList]; rfl
end Go.Proofs.YtaneicpggglcbaaDoor.Va
