/- ValueTexts' plain law: a value's and a row's text is the document's. -/
import Derived.Test.YtaneicpggglcbaaDoorTx
import Derived.Test.YtaneicpggglcbaaDoorQVAx10
import Derived.Test.YtaneicpggglcbaaDoorQVAx11
set_option linter.unusedVariables false
set_option linter.unusedSimpArgs false
namespace Go.Proofs.YtaneicpggglcbaaDoor.Va
open Go.RowKit Go.Proofs.YtaneicpggglcbaaDoorW.PrintWords Go.Proofs.YtaneicpggglcbaaDoor.Pu Go.Proofs.YtaneicpggglcbaaDoor.QVA Go.Proofs.YtaneicpggglcbaaDoor.Rw
/-! a number in tens -/
theorem dec_big {u : Nat} (h : ¬ u < 10) : Lib.decDigits u = Lib.decDigits (u / 10) ++ [UInt8.ofNat (48 + u % 10)] := by rw [Lib.decDigits, dif_neg h]
def decs (u : Nat) : List UInt8 := if u = 0 then [] else Lib.decDigits u
theorem decs_step {u : Nat} (h : u ≠ 0) : decs u = decs (u / 10) ++ [UInt8.ofNat (48 + u % 10)] := by
  unfold decs
  rw [if_neg h]
  by_cases h1 : u < 10
  · rw [if_pos (by omega), Lib.decDigits_one h1, Nat.mod_eq_of_lt h1]; rfl
  · rw [if_neg (by omega), dec_big h1]
theorem pos_loop : ∀ (n u : Nat) (s : ByteArray), u ≤ n → u ≤ 9223372036854775807 → s.size + u ≤ 9223372036854775807 →
    Ev (fun k => boscageref01_digits.l1 k (u : Int) s) (mk (decs u ++ bs s)) := by
  intro n
  induction n with
  | zero =>
    intro u s h hu hs
    obtain rfl : u = 0 := by omega
    refine Ev.at1 ?_
    simp only [boscageref01_digits.l1]
    exact Ev.neg (by decide) (Ev.done (mk_eq rfl))
  | succ n ih =>
    intro u s h hu hs
    refine Ev.at1 ?_
    simp only [boscageref01_digits.l1]
    by_cases h0 : u = 0
    · subst h0
      exact Ev.neg (by decide) (Ev.done (mk_eq rfl))
    · have e1 : Int.tmod (u : Int) 10 = ((u % 10 : Nat) : Int) := by rw [Int.tmod_eq_emod_of_nonneg (by omega)]; omega
      have e2 : Int.tdiv (u : Int) 10 = ((u / 10 : Nat) : Int) := by rw [Int.tdiv_eq_ediv_of_nonneg (by omega)]; omega
      rw [e1, e2, wrap_id (n := 48 + ((u % 10 : Nat) : Int)) (by omega) (by omega), wrap_id (n := ((u / 10 : Nat) : Int)) (by omega) (by omega)]
      have e3 : (48 + ((u % 10 : Nat) : Int)) % 256 = ((48 + u % 10 : Nat) : Int) := by omega
      rw [e3]
      have e4 : bs (strOfNums [((48 + u % 10 : Nat) : Int)] ++ s) = UInt8.ofNat (48 + u % 10) :: bs s := by rw [bs_append, bs_nums]; rfl
      have e5 : (strOfNums [((48 + u % 10 : Nat) : Int)]).size = 1 := rfl
      refine Ev.pos (by omega) (Ev.bind (Ev.now _) (Ev.pos (by rw [e5]; omega) (Ev.eq (ih (u / 10) _ (by omega) (by omega) ?_) ?_)))
      · rw [ByteArray.size_append, e5]; omega
      · rw [e4, decs_step h0, List.append_assoc]; rfl
theorem neg_loop : ∀ (n u : Nat) (s : ByteArray), u ≤ n → u ≤ 9223372036854775808 → (s.size + u + 1 ≤ 9223372036854775807 ∨ s.size = 0 ∧ u ≠ 0) →
    Ev (fun k => boscageref01_digits.l0 k (-(u : Int)) s) (mk (45 :: (decs u ++ bs s))) := by
  intro n
  induction n with
  | zero =>
    intro u s h hu hs
    obtain rfl : u = 0 := by omega
    refine Ev.at1 ?_
    simp only [boscageref01_digits.l0]
    refine Ev.pos (by decide) (Ev.pos (by omega) (Ev.done (mk_eq ?_)))
    rw [bs_append]; rfl
  | succ n ih =>
    intro u s h hu hs
    refine Ev.at1 ?_
    simp only [boscageref01_digits.l0]
    by_cases h0 : u = 0
    · subst h0
      refine Ev.pos (by decide) (Ev.pos (by omega) (Ev.done (mk_eq ?_)))
      rw [bs_append]; rfl
    · have e1 : Int.tmod (-(u : Int)) 10 = -((u % 10 : Nat) : Int) := by rw [Int.neg_tmod, Int.tmod_eq_emod_of_nonneg (by omega)]; omega
      have e2 : Int.tdiv (-(u : Int)) 10 = -((u / 10 : Nat) : Int) := by rw [Int.neg_tdiv, Int.tdiv_eq_ediv_of_nonneg (by omega)]; omega
      rw [e1, e2, wrap_id (n := 48 - -((u % 10 : Nat) : Int)) (by omega) (by omega), wrap_id (n := -((u / 10 : Nat) : Int)) (by omega) (by omega)]
      have e3 : (48 - -((u % 10 : Nat) : Int)) % 256 = ((48 + u % 10 : Nat) : Int) := by omega
      rw [e3]
      have e4 : bs (strOfNums [((48 + u % 10 : Nat) : Int)] ++ s) = UInt8.ofNat (48 + u % 10) :: bs s := by rw [bs_append, bs_nums]; rfl
      have e5 : (strOfNums [((48 + u % 10 : Nat) : Int)]).size = 1 := rfl
      refine Ev.neg (by omega) (Ev.bind (Ev.now _) (Ev.pos (by rw [e5]; omega) (Ev.eq (ih (u / 10) _ (by omega) (by omega) ?_) ?_)))
      · rw [ByteArray.size_append, e5]; omega
      · rw [e4, decs_step h0, List.append_assoc]; rfl
theorem digits_ev (n : Int) (h : (Lit.int .i64 n).wf = true) : Ev (fun k => boscageref01_digits.f k n) (mk (Lib.itoa n)) := by
  obtain ⟨h0, h1⟩ := wf64 h
  unfold boscageref01_digits.f
  by_cases hn : n < 0
  · refine Ev.pos hn ?_
    obtain ⟨u, rfl⟩ : ∃ u : Nat, n = -(u : Int) := ⟨n.natAbs, by omega⟩
    refine Ev.eq (neg_loop u u _ (Nat.le_refl _) (by omega) (.inr ⟨rfl, by omega⟩)) ?_
    rw [Lib.itoa_neg u (by omega), decs, if_neg (by omega)]
    simp [bs]
  · refine Ev.neg hn ?_
    obtain ⟨u, rfl⟩ : ∃ u : Nat, n = (u : Int) := ⟨n.toNat, by omega⟩
    have e1 : Int.tmod (u : Int) 10 = ((u % 10 : Nat) : Int) := by rw [Int.tmod_eq_emod_of_nonneg (by omega)]; omega
    have e2 : Int.tdiv (u : Int) 10 = ((u / 10 : Nat) : Int) := by rw [Int.tdiv_eq_ediv_of_nonneg (by omega)]; omega
    rw [e1, e2, wrap_id (n := 48 + ((u % 10 : Nat) : Int)) (by omega) (by omega), wrap_id (n := ((u / 10 : Nat) : Int)) (by omega) (by omega)]
    have e3 : (48 + ((u % 10 : Nat) : Int)) % 256 = ((48 + u % 10 : Nat) : Int) := by omega
    rw [e3]
    refine Ev.eq (pos_loop (u / 10) (u / 10) _ (Nat.le_refl _) (by omega) (by show 1 + u / 10 ≤ _; omega)) ?_
    rw [Lib.itoa_nonneg, bs_nums]
    by_cases h2 : u < 10
    · rw [decs, if_pos (by omega), Lib.decDigits_one h2, Nat.mod_eq_of_lt h2]; rfl
    · rw [decs, if_neg (by omega), dec_big h2]; rfl
/-! a text, each quote twice -/
theorem cut1 {s : ByteArray} {i : Nat} {c : UInt8} {r : List UInt8} (h : (bs s).drop i = c :: r) : bs (s.extract ((i : Nat) : Int).toNat (((i + 1 : Nat)) : Int).toNat) = [c] := by
  rw [Int.toNat_natCast, Int.toNat_natCast, bs_extract, take_next h, List.drop_append_of_le_length (by have := drop_lt h; simp; omega), List.drop_eq_nil_of_le (by simp; omega)]; rfl
theorem quote_loop (a b : Int) {s : ByteArray} (hs : s.size ≤ 20000) : ∀ (r : List UInt8) (i : Nat) (acc : ByteArray), (bs s).drop i = r → i ≤ s.size → acc.size ≤ 2 * i + 1 →
    Ev (fun k => boscageref01_text.l0 k acc (i : Int) a b s) (mk (bs acc ++ (Wv.dblL r ++ [39]))) := by
  intro r
  induction r with
  | nil =>
    intro i acc h hi ha
    have := List.drop_eq_nil_iff.1 h
    rw [bs_length] at this
    refine Ev.at1 ?_
    simp only [boscageref01_text.l0]
    refine Ev.neg (by omega) (Ev.pos (by omega) (Ev.done (mk_eq ?_)))
    rw [bs_append]; rfl
  | cons c r ih =>
    intro i acc h hi ha
    have hlt := drop_lt h
    rw [bs_length] at hlt
    have hw : wrap64 ((i : Int) + 1) = ((i + 1 : Nat) : Int) := by rw [wrap_id (by omega) (by omega)]; rfl
    have hc := cut1 h
    have hl : (s.extract ((i : Nat) : Int).toNat (((i + 1 : Nat)) : Int).toNat).size = 1 := by rw [size_bs, hc]; rfl
    have hb := bt_drop h
    refine Ev.at1 ?_
    simp only [boscageref01_text.l0]
    rw [hw]
    refine Ev.pos (by omega) (Ev.pos (by omega) (Ev.pos (by omega) (Ev.pos (by omega) (Ev.pos (by rw [hl]; omega) ?_))))
    rw [hb]
    by_cases hq : c = 39
    · subst hq
      refine Ev.pos rfl (Ev.pos (by rw [ByteArray.size_append, hl]; omega) (Ev.eq (ih (i + 1) _ (drop_next h) (by omega) (by
        rw [ByteArray.size_append, ByteArray.size_append, hl]
        show acc.size + 1 + 1 ≤ _
        omega)) ?_))
      rw [bs_append, bs_append, hc, Wv.dblL_cons, if_pos rfl]
      simp [bs]
    · refine Ev.neg (fun e => hq (byte_inj (by show c.toNat = 39; omega))) (Ev.eq (ih (i + 1) _ (drop_next h) (by omega) (by rw [ByteArray.size_append, hl]; omega)) ?_)
      rw [bs_append, hc, Wv.dblL_cons, if_neg hq]
      simp
/-! a blob, by digits -/
def hexS : ByteArray := ⟨#[48, 49, 50, 51, 52, 53, 54, 55, 56, 57, 97, 98, 99, 100, 101, 102]⟩
theorem hex_at (n : Nat) (h : n < 16) : bt hexS (n : Int) = ((Wv.hexD n).toNat : Int) := by
  rw [bt_get hexS n h]
  unfold Wv.hexD
  rw [List.getD_eq_getElem?_getD, List.getElem?_eq_getElem h, Option.getD_some]
  rfl
theorem hex_loop (a b : Int) {s : ByteArray} (hs : s.size ≤ 20000) : ∀ (r : List UInt8) (i : Nat) (acc : ByteArray), (bs s).drop i = r → i ≤ s.size → acc.size ≤ 2 * i + 2 →
    Ev (fun k => boscageref01_text.l1 k hexS acc (i : Int) a b s) (mk (bs acc ++ (Wv.hexL r ++ [39]))) := by
  intro r
  induction r with
  | nil =>
    intro i acc h hi ha
    have := List.drop_eq_nil_iff.1 h
    rw [bs_length] at this
    refine Ev.at1 ?_
    simp only [boscageref01_text.l1]
    refine Ev.neg (by omega) (Ev.pos (by omega) (Ev.done (mk_eq ?_)))
    rw [bs_append]; rfl
  | cons c r ih =>
    intro i acc h hi ha
    have hlt := drop_lt h
    rw [bs_length] at hlt
    have hw : wrap64 ((i : Int) + 1) = ((i + 1 : Nat) : Int) := by rw [wrap_id (by omega) (by omega)]; rfl
    have hb := bt_drop h
    have hz : c.toNat < 256 := c.toNat_lt
    have e1 : (Int.tdiv (c.toNat : Int) 16) % 256 = ((c.toNat / 16 : Nat) : Int) := by rw [Int.tdiv_eq_ediv_of_nonneg (by omega)]; omega
    have e2 : Int.tmod (c.toNat : Int) 16 = ((c.toNat % 16 : Nat) : Int) := by rw [Int.tmod_eq_emod_of_nonneg (by omega)]; omega
    have hS : hexS.size = 16 := rfl
    have h1 := hex_at (c.toNat / 16) (by omega)
    have h2 := hex_at (c.toNat % 16) (by omega)
    have hl : (strOfNums [((Wv.hexD (c.toNat / 16)).toNat : Int), ((Wv.hexD (c.toNat % 16)).toNat : Int)]).size = 2 := rfl
    refine Ev.at1 ?_
    simp only [boscageref01_text.l1]
    rw [hw, hb, e1, e2, h1, h2]
    refine Ev.pos (by omega) (Ev.pos (by omega) (Ev.pos (by omega) (Ev.pos (by omega) (Ev.pos (by omega) (Ev.pos (by omega) (Ev.bind (Ev.now _) (Ev.pos (by rw [hl]; omega) (Ev.eq (ih (i + 1) _ (drop_next h) (by omega) (by rw [ByteArray.size_append, hl]; omega)) ?_))))))))
    rw [bs_append, bs_nums]
    simp [Wv.hexL]
/-! a value's text -/
theorem text_ev {x : S27} (h : OkV x) (hk : ok x = true) (hs : x.f2.size ≤ 20000) : Ev (fun k => boscageref01_text.f k x.f0 x.f1 x.f2) (mk (Wv.textL x.f0 x.f1 x.f2)) := by
  obtain ⟨hx, hx1⟩ := ok_kinds hk
  unfold boscageref01_text.f
  rcases hx with e | e | e | e | e
  · rw [show Wv.textL x.f0 x.f1 x.f2 = [78, 85, 76, 76] by simp [Wv.textL, e]]
    exact Ev.pos e (Ev.done rfl)
  · rw [show Wv.textL x.f0 x.f1 x.f2 = if x.f1 = 1 then [84, 82, 85, 69] else [70, 65, 76, 83, 69] by simp [Wv.textL, e]]
    refine Ev.neg (by omega) (Ev.pos e ?_)
    by_cases h1 : x.f1 = 1
    · refine Ev.pos h1 (Ev.done ?_)
      rw [if_pos h1]; rfl
    · refine Ev.neg h1 (Ev.done ?_)
      rw [if_neg h1]; rfl
  · rw [show Wv.textL x.f0 x.f1 x.f2 = Lib.itoa x.f1 by simp [Wv.textL, e]]
    exact Ev.neg (by omega) (Ev.neg (by omega) (Ev.pos e (Ev.bind (digits_ev _ h.2.1) (Ev.now _))))
  · rw [show Wv.textL x.f0 x.f1 x.f2 = 39 :: (Wv.dblL (bs x.f2) ++ [39]) by simp [Wv.textL, e, bs]]
    exact Ev.neg (by omega) (Ev.neg (by omega) (Ev.neg (by omega) (Ev.pos e (quote_loop x.f0 x.f1 hs _ 0 ⟨#[39]⟩ rfl (Nat.zero_le _) (by decide)))))
  · rw [show Wv.textL x.f0 x.f1 x.f2 = 120 :: 39 :: (Wv.hexL (bs x.f2) ++ [39]) by simp [Wv.textL, e, bs]]
    exact Ev.neg (by omega) (Ev.neg (by omega) (Ev.neg (by omega) (Ev.neg (by omega) (hex_loop x.f0 x.f1 hs _ 0 ⟨#[120, 39]⟩ rfl (Nat.zero_le _) (by decide)))))
theorem refText_ev {x : S27} (h : OkV x) (hs : x.f2.size ≤ 20000) : Ev (fun k => boscageref01_Text.f k x.f0 x.f1 x.f2) (txt x) := by
  unfold boscageref01_Text.f txt
  refine Ev.bind (ref_Check_ev x) ?_
  by_cases hc : chk x = 0
  · rw [if_pos hc]
    exact Ev.pos hc (Ev.bind (text_ev h (chk_zero hc) hs) (Ev.now _))
  · rw [if_neg hc]
    exact Ev.neg hc (Ev.now _)
/-! a row's -/
theorem wt_mem : ∀ {l : List S27} {x : S27}, x ∈ l → x.f2.size ≤ wt l
  | y :: l, x, h => by
    rcases List.mem_cons.1 h with rfl | h
    · rw [wt]; omega
    · have := wt_mem h; rw [wt]; omega
theorem segs_next (x : S27) (r : List S27) (i : Nat) : segs i (x :: r) = (if 0 < i then [44, 32] else []) ++ Wv.textL x.f0 x.f1 x.f2 ++ segs (i + 1) r := rfl
theorem row_loop {l : List S27} (wf : ∀ x ∈ l, OkV x) (hok : ∀ x ∈ l, ok x = true) (hs : ∀ x ∈ l, x.f2.size ≤ 20000) (hl : l.length ≤ 64) : ∀ (r : List S27) (i : Nat) (acc : ByteArray), l.drop i = r → i ≤ l.length → acc.size ≤ 1 + i * 100000 →
    Ev (fun k => boscageref01_RowText.l0 k acc l (l.length : Int) (i : Int)) (mk (bs acc ++ (segs i r ++ [41])), 0) := by
  intro r
  induction r with
  | nil =>
    intro i acc h hi ha
    have := List.drop_eq_nil_iff.1 h
    refine Ev.at1 ?_
    simp only [boscageref01_RowText.l0]
    refine Ev.neg (by omega) (Ev.pos (by omega) (Ev.done ?_))
    rw [mk_eq (a := acc ++ (⟨#[41]⟩ : ByteArray)) (by rw [bs_append])]
    rfl
  | cons c r ih =>
    intro i acc h hi ha
    have hlt := drop_lt h
    have hw := wrap_next h (by omega)
    have hm := mem_drop h
    have hw1 := wf64 (wf c hm).2.1
    have hL := textL_len c.f0 c.f1 c.f2 hw1.1 hw1.2
    have hS := hs c hm
    have ht := text_ev (wf c hm) (hok c hm) hS
    have hz : (mk (Wv.textL c.f0 c.f1 c.f2)).size = (Wv.textL c.f0 c.f1 c.f2).length := size_mk _
    refine Ev.at1 ?_
    simp only [boscageref01_RowText.l0]
    refine Ev.pos (by omega) (Ev.pos (by omega) (Ev.pos (by omega) ?_))
    rw [rd_drop h, hw]
    by_cases hp : 0 < i
    · refine Ev.pos (by omega) (Ev.pos (by omega) (Ev.bind ht (Ev.pos (by rw [ByteArray.size_append, hz]; show acc.size + 2 + _ ≤ _; omega) (Ev.eq (ih (i + 1) _ (drop_next h) (by omega) (by
        rw [ByteArray.size_append, ByteArray.size_append, hz]
        show acc.size + 2 + _ ≤ _
        omega)) ?_))))
      rw [bs_append, bs_append, bs_mk', segs_next, if_pos hp]
      simp [bs]
    · refine Ev.neg (by omega) (Ev.bind ht (Ev.pos (by rw [hz]; omega) (Ev.eq (ih (i + 1) _ (drop_next h) (by omega) (by
        rw [ByteArray.size_append, hz]
        omega)) ?_)))
      rw [bs_append, bs_mk', segs_next, if_neg hp]
      simp
/-- a row's text, or why there is none -/
def rtxt (l : List S27) : ByteArray × Int := if crV l = 0 then (mk (rowL l), 0) else (⟨#[]⟩, crV l)
theorem mineRow_at {l : List S27} (hl : l.length * 32 ≤ 140737488351232) (wf : ∀ x ∈ l, OkV x) (hs : ∀ x ∈ l, x.f2.size ≤ 20000) : value_RowText.f l = some (rtxt l) := by
  unfold value_RowText.f rtxt
  rw [if_pos ⟨by omega, fun x hx => ⟨by have := hs x hx; omega, wf64 (wf x hx).2.1⟩⟩, checkRow_ev hl wf, Option.bind_some]
  by_cases hc : crV l = 0
  · obtain ⟨h1, h2⟩ := crV_ok hc
    rw [if_pos hc, if_pos hc, if_pos ⟨h2, fun x hx => ok_kinds (h1 x hx)⟩]; rfl
  · rw [if_neg hc, if_neg hc]
theorem refRow_ev {l : List S27} (hl : l.length * 32 ≤ 140737488351232) (wf : ∀ x ∈ l, OkV x) (hs : ∀ x ∈ l, x.f2.size ≤ 20000) : Ev (fun k => boscageref01_RowText.f k l) (rtxt l) := by
  unfold boscageref01_RowText.f rtxt
  refine Ev.bind (refCheckRow_ev hl) ?_
  by_cases hc : crV l = 0
  · obtain ⟨h1, h2⟩ := crV_ok hc
    rw [if_pos hc]
    exact Ev.pos hc (row_loop wf h1 hs h2 l 0 _ rfl (Nat.zero_le _) (by decide))
  · rw [if_neg hc]
    exact Ev.neg hc (Ev.now _)
theorem texts_loop {a : List S27} (ha : a.length * 32 ≤ 140737488351232) (wa : ∀ x ∈ a, OkV x) (hs : ∀ x ∈ a, x.f2.size ≤ 20000) : ∀ (r : List S27) (i : Nat), a.drop i = r →
    Ev (fun k => boscagelaw01_ValueTexts.l0 k a true a (a.length : Int) (i : Int)) true := by
  intro r
  induction r with
  | nil =>
    intro i h
    have := List.drop_eq_nil_iff.1 h
    refine Ev.at1 ?_
    simp only [boscagelaw01_ValueTexts.l0]
    refine Ev.neg (by omega) (Ev.bind (Ev.same (mineRow_at ha wa hs)) (Ev.bind (refRow_ev ha wa hs) (Ev.pos (by trivial) (Ev.pos rfl (Ev.done ?_)))))
    simp
  | cons c r ih =>
    intro i h
    have hlt := drop_lt h
    have hw := wrap_next h (by omega)
    have hm := mem_drop h
    refine Ev.at1 ?_
    simp only [boscagelaw01_ValueTexts.l0]
    refine Ev.pos (by omega) (Ev.pos (by omega) (Ev.pos (by omega) ?_))
    rw [rd_drop h, hw]
    exact Ev.bind (Ev.same (mineText_at (wa c hm) (hs c hm))) (Ev.bind (refText_ev (wa c hm) (hs c hm)) (Ev.pos rfl (Ev.pos rfl (ih (i + 1) (drop_next h)))))
theorem valueTexts_pure (a : List S27) (ha : a.length * 32 ≤ 140737488351232) (wa : ∀ x ∈ a, OkV x) : ∃ k, boscagelaw01_ValueTexts.f k a = some true := by
  refine Ev.rounds ?_
  unfold boscagelaw01_ValueTexts.f
  refine Ev.bind live_ev ?_
  obtain ⟨v, hv, hp⟩ := big_ev [a] (by simp) (by
    intro r hr
    simp only [List.mem_cons, List.mem_nil_iff, or_false] at hr
    subst hr
    exact ⟨ha, wa⟩)
  refine Ev.bind hv ?_
  cases v
  · have hb := hp rfl a List.mem_cons_self
    exact Ev.neg (by decide) (texts_loop ha wa (fun x hx => Nat.le_trans (wt_mem hx) hb) a 0 rfl)
  · exact Ev.pos rfl (Ev.now _)
end Go.Proofs.YtaneicpggglcbaaDoor.Va
