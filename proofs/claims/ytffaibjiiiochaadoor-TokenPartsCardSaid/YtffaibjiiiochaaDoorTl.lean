/- The document's answer of layer 6 is the plain words' (shared). -/
import Derived.Test.YtffaibjiiiochaaDoorQTAx5
import Derived.Test.YtffaibjiiiochaaDoorPu
set_option linter.unusedVariables false
set_option linter.unusedSimpArgs false
namespace Go.Proofs.YtffaibjiiiochaaDoor.Tl
open Go.RowKit Go.Proofs.YtffaibjiiiochaaDoorW.PrintWords Go.Proofs.YtffaibjiiiochaaDoor.Tk Go.Proofs.YtffaibjiiiochaaDoor.Pu Go.Proofs.YtffaibjiiiochaaDoor.QTA
open Go.Proofs.YtffaibjiiiochaaDoor.Ct (peekS peekS_in peekS_out peekS_range drop_at drop_end head_peek)
theorem bt_peek {s : ByteArray} {i : Nat} (h : i < s.size) : bt s (i : Int) = peekS s i := by
  rw [← peekS_in h]; unfold bt; rw [dif_pos (by simpa using h)]; rfl
theorem at_f (s : ByteArray) (i : Nat) : boscageref06_at.f s (i : Int) = some (peekS s i) := by
  unfold boscageref06_at.f
  rw [if_neg (by omega)]
  by_cases h : i < s.size
  · rw [if_neg (by omega), if_pos (by omega), if_pos (by omega), bt_peek h]
  · rw [if_pos (by omega), peekS_out (by omega)]
theorem w1 {i : Nat} (n : Nat) (h : i + n ≤ 1000000) : wrap64 ((i : Int) + (n : Int)) = ((i + n : Nat) : Int) := by rw [wrap_id (by omega) (by omega)]; rfl
theorem w11 {i : Nat} (h : i ≤ 900000) : wrap64 ((i : Int) + 1) = ((i + 1 : Nat) : Int) := w1 1 (by omega)
theorem w12 {i : Nat} (h : i ≤ 900000) : wrap64 ((i : Int) + 2) = ((i + 2 : Nat) : Int) := w1 2 (by omega)
theorem letter_f (c : Int) : boscageref06_letter.f c = some (isL c) := by
  unfold boscageref06_letter.f isL
  repeat' split
  all_goals congr 1
  all_goals (rw [Bool.eq_iff_iff]; simp; try omega)
theorem digit_f (c : Int) : boscageref06_digit.f c = some (isD c) := by
  unfold boscageref06_digit.f isD
  split
  all_goals congr 1
  all_goals (rw [Bool.eq_iff_iff]; simp; try omega)
theorem hex_f {c : Int} (h0 : 0 ≤ c) (h1 : c ≤ 255) : Ev (fun k => boscageref06_hex.f k c) (hex c) := by
  unfold boscageref06_hex.f
  refine Ev.at1 ?_
  simp only [digit_f, Option.bind_some, boscageref06_hex.j0]
  unfold hex isD
  refine ⟨0, fun k _ => ?_⟩
  repeat' split
  all_goals simp at *
  all_goals omega
theorem strOf_append (a b : List Int) : strOfNums a ++ strOfNums b = strOfNums (a ++ b) := by
  apply bs_ext
  rw [bs_append]
  simp [bs, strOfNums]
theorem strOf_size (a : List Int) : (strOfNums a).size = a.length := by
  show (strOfNums a).data.size = _
  simp [strOfNums]
/-- the places behind blanks and remarks -/
theorem blanks_ev (s : ByteArray) (hs : s.size ≤ 4096) : ∀ (n i : Nat), s.size - i ≤ n → i ≤ s.size →
    (∃ j : Nat, j ≤ s.size ∧ i ≤ j ∧ (bytesOf s).drop j = skipB false ((bytesOf s).drop i) ∧ Ev (fun k => boscageref06_blanks.l0 k s (i : Int)) (j : Int)) ∧
    (∃ j : Nat, j ≤ s.size ∧ i ≤ j ∧ (bytesOf s).drop j = skipB true ((bytesOf s).drop i) ∧ Ev (fun k => boscageref06_blanks.l1 k s (i : Int)) (j : Int)) := by
  intro n
  induction n with
  | zero =>
    intro i h1 h2
    have e : i = s.size := by omega
    subst e
    have a : Ev (fun k => boscageref06_blanks.l0 k s (s.size : Int)) (s.size : Int) := by
      refine Ev.at1 ?_
      simp only [boscageref06_blanks.l0]
      exact Ev.neg (by omega) (Ev.done rfl)
    refine ⟨⟨s.size, Nat.le_refl _, Nat.le_refl _, by rw [drop_end (Nat.le_refl _)]; rfl, a⟩, ⟨s.size, Nat.le_refl _, Nat.le_refl _, by rw [drop_end (Nat.le_refl _)]; rfl, ?_⟩⟩
    refine Ev.at1 ?_
    simp only [boscageref06_blanks.l1]
    exact Ev.neg (by omega) a
  | succ n ih =>
    intro i h1 h2
    by_cases hlt : i < s.size
    · obtain ⟨⟨j, hj, hij, hd, hev⟩, ⟨j', hj', hij', hd', hev'⟩⟩ := ih (i + 1) (by omega) (by omega)
      have hbt := bt_peek hlt
      have hw := w11 (i := i) (by omega)
      have hdr := drop_at hlt
      have hl1 : ∃ j : Nat, j ≤ s.size ∧ i ≤ j ∧ (bytesOf s).drop j = skipB true ((bytesOf s).drop i) ∧ Ev (fun k => boscageref06_blanks.l1 k s (i : Int)) (j : Int) := by
        by_cases h10 : peekS s i = 10
        · refine ⟨j, hj, by omega, by rw [hd, hdr, skipB, if_pos h10], ?_⟩
          refine Ev.at1 ?_
          simp only [boscageref06_blanks.l1]
          refine Ev.pos (by omega) (Ev.pos (by omega) (Ev.pos (by rw [hbt]; exact h10) ?_))
          refine Ev.at1 (Ev.at1 ?_)
          simp only [boscageref06_blanks.l0, boscageref06_blanks.j1, hbt, h10]
          refine Ev.pos (by omega) (Ev.pos (by omega) (Ev.neg (by decide) (Ev.neg (by decide) (Ev.pos (by trivial) (Ev.pos (by trivial) ?_)))))
          rw [hw]; exact hev
        · refine ⟨j', hj', by omega, by rw [hd', hdr, skipB, if_neg h10], ?_⟩
          refine Ev.at1 ?_
          simp only [boscageref06_blanks.l1]
          refine Ev.pos (by omega) (Ev.pos (by omega) (Ev.neg (by rw [hbt]; exact h10) ?_))
          rw [hw]; exact hev'
      refine ⟨?_, hl1⟩
      by_cases hB : isB (peekS s i) = true
      · refine ⟨j, hj, by omega, by rw [hd, hdr, skipB, if_pos hB], ?_⟩
        have hB' : peekS s i = 32 ∨ peekS s i = 9 ∨ peekS s i = 10 ∨ peekS s i = 13 := by simpa [isB, or_assoc] using hB
        refine Ev.at1 (Ev.at1 ?_)
        simp only [boscageref06_blanks.l0, boscageref06_blanks.j1, hbt]
        refine Ev.pos (by omega) (Ev.pos (by omega) ?_)
        rcases hB' with h | h | h | h
        · exact Ev.pos h (Ev.pos (by trivial) (by rw [hw]; exact hev))
        · exact Ev.neg (by omega) (Ev.pos h (Ev.pos (by trivial) (by rw [hw]; exact hev)))
        · exact Ev.neg (by omega) (Ev.neg (by omega) (Ev.pos h (Ev.pos (by trivial) (by rw [hw]; exact hev))))
        · exact Ev.neg (by omega) (Ev.neg (by omega) (Ev.neg (by omega) (Ev.pos (by rw [h]; rfl) (by rw [hw]; exact hev))))
      · have hB' : ¬ (peekS s i = 32 ∨ peekS s i = 9 ∨ peekS s i = 10 ∨ peekS s i = 13) := by simpa [isB, or_assoc] using hB
        have e13 : (peekS s i == 13) = false := by simp; omega
        by_cases h45 : peekS s i = 45 ∧ peekS s (i + 1) = 45
        · obtain ⟨j1, hj1, hij1, hd1, hev1⟩ := hl1
          refine ⟨j1, hj1, hij1, ?_, ?_⟩
          · rw [hd1, hdr, skipB, skipB, if_neg (by omega), if_neg hB, if_pos ⟨h45.1, (head_peek (by decide)).2 h45.2⟩]
          · refine Ev.at1 (Ev.at1 (Ev.at1 ?_))
            simp only [boscageref06_blanks.l0, boscageref06_blanks.j1, boscageref06_blanks.j2, hbt, hw, at_f, e13, h45.1, h45.2, Option.bind_some]
            exact Ev.pos (by omega) (Ev.pos (by omega) (Ev.neg (by omega) (Ev.neg (by omega) (Ev.neg (by omega) (Ev.neg (by decide) (Ev.pos (by trivial) (Ev.pos (by decide) hev1)))))))
        · refine ⟨i, h2, Nat.le_refl _, ?_, ?_⟩
          · rw [hdr, skipB, if_neg hB, if_neg (fun h => h45 ⟨h.1, (head_peek (by decide)).1 h.2⟩)]
          · refine Ev.at1 (Ev.at1 (Ev.at1 ?_))
            simp only [boscageref06_blanks.l0, boscageref06_blanks.j1, boscageref06_blanks.j2, hbt, hw, at_f, e13, Option.bind_some]
            refine Ev.pos (by omega) (Ev.pos (by omega) (Ev.neg (by omega) (Ev.neg (by omega) (Ev.neg (by omega) (Ev.neg (by decide) ?_)))))
            by_cases h5 : peekS s i = 45
            · refine Ev.pos h5 (Ev.neg ?_ (Ev.done rfl))
              have : ¬ peekS s (i + 1) = 45 := fun h => h45 ⟨h5, h⟩
              simpa using this
            · exact Ev.neg h5 (Ev.neg (by decide) (Ev.done rfl))
    · have e : i = s.size := by omega
      exact ih i (by omega) h2
/-- what a document's cutting function comes to -/
def RG (s : ByteArray) (at0 : Nat) (o : Option (Tok × List Int)) (r : Int × ByteArray × Int × Int × Int × Bool) : Prop :=
  match o with
  | none => r.2.2.2.2.2 = false
  | some (t, rest) => ∃ j : Nat, at0 ≤ j ∧ j ≤ s.size ∧ (bytesOf s).drop j = rest ∧ r = (t.1, strOfNums t.2.1, t.2.2, (at0 : Int), (j : Int), true)
theorem small_ev (X : ByteArray) (hX : X.size ≤ 100000) : ∀ (n i : Nat) (L : List Int), X.size - i ≤ n → i ≤ X.size → L.length ≤ i →
    Ev (fun k => boscageref06_small.l0 k X (strOfNums L) (i : Int)) (strOfNums (L ++ ((bytesOf X).drop i).map low)) := by
  intro n
  induction n with
  | zero =>
    intro i L h1 h2 hL
    have e : i = X.size := by omega
    subst e
    refine Ev.at1 ?_
    simp only [boscageref06_small.l0]
    exact Ev.neg (by omega) (Ev.done (by rw [drop_end (Nat.le_refl _)]; simp))
  | succ n ih =>
    intro i L h1 h2 hL
    by_cases hlt : i < X.size
    · have hbt := bt_peek hlt
      have hw := w11 (i := i) (by omega)
      have hdr := drop_at hlt
      have hr := peekS_range X i
      have hsz : ∀ x : Int, (strOfNums L).size + (strOfNums [x]).size ≤ 9223372036854775807 := fun x => by rw [strOf_size, strOf_size]; simp; omega
      have hgo : ∀ x : Int, x = low (peekS X i) → Ev (fun k => if (strOfNums L).size + (strOfNums [x]).size ≤ 9223372036854775807 then boscageref06_small.l0 k X (strOfNums L ++ strOfNums [x]) (wrap64 ((i : Int) + 1)) else none) (strOfNums (L ++ ((bytesOf X).drop i).map low)) := fun x hx => by
        refine Ev.pos (hsz x) ?_
        rw [hw, strOf_append]
        have := ih (i + 1) (L ++ [x]) (by omega) (by omega) (by simp; omega)
        rw [hdr, List.map_cons, ← hx]
        rw [List.append_assoc] at this
        exact this
      refine Ev.at1 ?_
      simp only [boscageref06_small.l0, hbt, Option.bind_some]
      refine Ev.pos (by omega) (Ev.pos (by omega) ?_)
      by_cases h65 : peekS X i ≥ 65
      · refine Ev.pos h65 ?_
        by_cases h90 : peekS X i ≤ 90
        · refine Ev.pos h90 (hgo _ ?_)
          unfold low
          rw [if_pos ⟨h65, h90⟩]; omega
        · refine Ev.neg h90 (hgo _ ?_)
          unfold low
          rw [if_neg (fun h => h90 h.2)]
      · refine Ev.neg h65 (hgo _ ?_)
        unfold low
        rw [if_neg (fun h => h65 h.1)]
    · exact ih i L (by omega) h2 hL
theorem low_ev (s : ByteArray) (hs : s.size ≤ 4096) (a b : Nat) (hab : a ≤ b) (hb : b ≤ s.size) (part rest : List Int) (h : (bytesOf s).drop a = part ++ rest) (hp : a + part.length = b) :
    Ev (fun k => boscageref06_small.f k (s.extract a b)) (strOfNums (part.map low)) := by
  have hz : (s.extract a b).size ≤ 100000 := by rw [ByteArray.size_extract]; omega
  have h0 := small_ev (s.extract a b) hz _ 0 [] (Nat.le_refl _) (Nat.zero_le _) (Nat.le_refl _)
  have he : bytesOf (s.extract a b) = part := by
    have := Ct.ext_part h
    rw [hp] at this
    exact this
  rw [he, List.drop_zero, List.nil_append] at h0
  exact h0
theorem word_ev (s : ByteArray) (hs : s.size ≤ 4096) (a : Nat) : ∀ (n i : Nat) (part : List Int), s.size - i ≤ n → i ≤ s.size → a + part.length = i → (bytesOf s).drop a = part ++ (bytesOf s).drop i → (∀ x ∈ part, Ct.isLD x = true) →
    ∃ r, Ev (fun k => boscageref06_word.l0 k s (a : Int) (i : Int)) r ∧ RG s a (wordT ((bytesOf s).drop a)) r := by
  have hend : ∀ (i : Nat) (part : List Int), i ≤ s.size → a + part.length = i → (bytesOf s).drop a = part ++ (bytesOf s).drop i → (∀ x ∈ part, Ct.isLD x = true) → isL (peekS s i) = false → isD (peekS s i) = false →
      ∃ r, Ev (fun k => boscageref06_word.l0 k s (a : Int) (i : Int)) r ∧ RG s a (wordT ((bytesOf s).drop a)) r := by
    intro i part hi hp hd hall hL hD
    have hsub : wrap64 ((i : Int) - (a : Int)) = (part.length : Int) := by rw [wrap_id (by omega) (by omega)]; omega
    refine ⟨(1, strOfNums (part.map low), 0, (a : Int), (i : Int), decide ((part.length : Int) ≤ 32)), ?_, ?_⟩
    · refine Ev.at1 ?_
      simp only [boscageref06_word.l0, at_f, letter_f, digit_f, Option.bind_some, hL, hD]
      refine Ev.neg (by decide) (Ev.neg (by decide) (Ev.pos (by omega) (Ev.pos (by omega) (Ev.pos (by omega) ?_))))
      have h0 := low_ev s hs a i (by omega) hi part _ hd hp
      rw [hsub]
      exact Ev.bind h0 (Ev.done rfl)
    · have htw : ((bytesOf s).drop a).takeWhile (fun c => isL c || isD c) = part ∧ ((bytesOf s).drop a).dropWhile (fun c => isL c || isD c) = (bytesOf s).drop i := by
        rw [hd]
        have h1 : ((bytesOf s).drop i).takeWhile (fun c => isL c || isD c) = [] ∧ ((bytesOf s).drop i).dropWhile (fun c => isL c || isD c) = (bytesOf s).drop i := by
          by_cases h : i < s.size
          · rw [drop_at h, List.takeWhile_cons, List.dropWhile_cons, hL, hD]; exact ⟨rfl, rfl⟩
          · rw [drop_end (Nat.le_of_not_lt h)]; exact ⟨rfl, rfl⟩
        have hall' : ∀ x ∈ part, (fun c => isL c || isD c) x = true := hall
        rw [List.takeWhile_append_of_pos hall', List.dropWhile_append_of_pos hall', h1.1, h1.2, List.append_nil]
        exact ⟨rfl, rfl⟩
      unfold wordT
      rw [htw.1, htw.2]
      by_cases h32 : part.length ≤ 32
      · rw [if_pos h32]
        exact ⟨i, by omega, hi, rfl, by rw [decide_eq_true (by omega : (part.length : Int) ≤ 32)]⟩
      · rw [if_neg h32]
        exact decide_eq_false (by omega)
  intro n
  induction n with
  | zero =>
    intro i part h1 h2 hp hd hall
    have e : i = s.size := by omega
    refine hend i part h2 hp hd hall ?_ ?_
    · rw [peekS_out (by omega)]; rfl
    · rw [peekS_out (by omega)]; rfl
  | succ n ih =>
    intro i part h1 h2 hp hd hall
    by_cases hLD : isL (peekS s i) = true ∨ isD (peekS s i) = true
    · have hlt : i < s.size := by
        rcases Nat.lt_or_ge i s.size with h | h
        · exact h
        · rw [peekS_out h] at hLD; rcases hLD with h | h <;> cases h
      have hw := w11 (i := i) (by omega)
      have hx : Ct.isLD (peekS s i) = true := by unfold Ct.isLD; rcases hLD with h | h <;> simp [h]
      obtain ⟨r, hev, hr⟩ := ih (i + 1) (part ++ [peekS s i]) (by omega) (by omega) (by simp; omega) (by rw [hd, drop_at hlt, List.append_assoc]; rfl) (fun x hm => by
        rcases List.mem_append.1 hm with h | h
        · exact hall x h
        · rw [List.mem_singleton.1 h]; exact hx)
      refine ⟨r, Ev.at1 ?_, hr⟩
      simp only [boscageref06_word.l0, at_f, letter_f, digit_f, Option.bind_some, hw]
      by_cases hL : isL (peekS s i) = true
      · exact Ev.pos hL hev
      · exact Ev.neg hL (Ev.pos (hLD.resolve_left hL) hev)
    · exact hend i part h2 hp hd hall (by simpa using fun h => hLD (.inl h)) (by simpa using fun h => hLD (.inr h))
theorem num_ev (s : ByteArray) (hs : s.size ≤ 4096) (a : Nat) : ∀ (n i : Nat) (m : Int), s.size - i ≤ n → a ≤ i → i ≤ s.size → 0 ≤ m → m ≤ 9223372036854775808 →
    ∃ r, Ev (fun k => boscageref06_number.l0 k s (a : Int) m (i : Int)) r ∧ RG s a ((numT m ((bytesOf s).drop i)).map fun p => ((2, [], wrap64 p.1), p.2)) r := by
  have hend : ∀ (i : Nat) (m : Int), a ≤ i → i ≤ s.size → isD (peekS s i) = false →
      ∃ r, Ev (fun k => boscageref06_number.l0 k s (a : Int) m (i : Int)) r ∧ RG s a ((numT m ((bytesOf s).drop i)).map fun p => ((2, [], wrap64 p.1), p.2)) r := by
    intro i m hai hi hD
    refine ⟨(2, strOfNums [], wrap64 m, (a : Int), (i : Int), !isL (peekS s i)), ?_, ?_⟩
    · refine Ev.at1 ?_
      simp only [boscageref06_number.l0, at_f, letter_f, digit_f, Option.bind_some, hD]
      exact Ev.neg (by decide) (Ev.done rfl)
    · have e : numT m ((bytesOf s).drop i) = if isL (peekS s i) = true then none else some (m, (bytesOf s).drop i) := by
        by_cases h : i < s.size
        · rw [drop_at h, numT, if_neg (by rw [hD]; decide)]
        · rw [drop_end (Nat.le_of_not_lt h), peekS_out (Nat.le_of_not_lt h)]; rfl
      rw [e]
      by_cases hL : isL (peekS s i) = true
      · rw [if_pos hL, hL]; rfl
      · rw [if_neg hL]
        have hL' : isL (peekS s i) = false := by simpa using hL
        rw [hL']
        exact ⟨i, hai, hi, rfl, rfl⟩
  intro n
  induction n with
  | zero =>
    intro i m h1 hai h2 _ _
    exact hend i m hai h2 (by rw [peekS_out (by omega)]; rfl)
  | succ n ih =>
    intro i m h1 hai h2 hm0 hm1
    by_cases hD : isD (peekS s i) = true
    · have hlt : i < s.size := by
        rcases Nat.lt_or_ge i s.size with h | h
        · exact h
        · rw [peekS_out h] at hD; cases hD
      have hw := w11 (i := i) (by omega)
      have hbt := bt_peek hlt
      have hd2 : 48 ≤ peekS s i ∧ peekS s i ≤ 57 := by simpa [isD] using hD
      have h256 : (peekS s i - 48) % 256 = peekS s i - 48 := by omega
      rw [drop_at hlt, numT, if_pos hD]
      by_cases hov : m > (9223372036854775808 - (peekS s i - 48)) / 10
      · rw [if_pos hov]
        refine ⟨(0, (⟨#[]⟩ : ByteArray), 0, 0, 0, false), Ev.at1 ?_, rfl⟩
        simp only [boscageref06_number.l0, at_f, letter_f, digit_f, Option.bind_some, hbt, h256]
        exact Ev.pos hD (Ev.pos (by omega) (Ev.pos (by omega) (Ev.pos hov (Ev.done rfl))))
      · rw [if_neg hov]
        obtain ⟨r, hev, hr⟩ := ih (i + 1) (m * 10 + (peekS s i - 48)) (by omega) (by omega) (by omega) (by omega) (by omega)
        refine ⟨r, Ev.at1 ?_, hr⟩
        have e1 : IntKind.u64.wrap (IntKind.u64.wrap (10 * m) + (peekS s i - 48)) = m * 10 + (peekS s i - 48) := by
          rw [IntWalk.u64_in (10 * m) (by omega), IntWalk.u64_in _ (by omega)]; omega
        simp only [boscageref06_number.l0, at_f, letter_f, digit_f, Option.bind_some, hbt, h256, hw, e1]
        exact Ev.pos hD (Ev.pos (by omega) (Ev.pos (by omega) (Ev.neg hov hev)))
    · exact hend i m hai h2 (by simpa using hD)
theorem text_ev (s : ByteArray) (hs : s.size ≤ 4096) (a : Nat) : ∀ (n i : Nat) (L : List Int), s.size - i ≤ n → a ≤ i → i ≤ s.size → L.length ≤ i →
    ∃ r, Ev (fun k => boscageref06_text.l0 k s (a : Int) (strOfNums L) (i : Int)) r ∧ RG s a ((textT ((bytesOf s).drop i)).map fun p => ((3, L ++ p.1, 0), p.2)) r := by
  intro n
  induction n using Nat.strongRecOn with
  | _ n ih =>
    intro i L h1 hai h2 hL
    by_cases hlt : i < s.size
    · have HW := Aside0.mk (w11 (i := i) (by omega))
      have hbt := bt_peek hlt
      have hdr := drop_at hlt
      by_cases hq : peekS s i = 39
      · by_cases hm : peekS s (i + 1) = 39
        · have hl1 : i + 1 < s.size := by
            rcases Nat.lt_or_ge (i + 1) s.size with h | h
            · exact h
            · rw [peekS_out h] at hm; cases hm
          have HW2 := Aside0.mk (w11 (i := i + 1) (by omega))
          obtain ⟨r, hev, hr⟩ := ih (s.size - (i + 1 + 1)) (by omega) (i + 1 + 1) (L ++ [39]) (Nat.le_refl _) (by omega) (by omega) (by simp; omega)
          refine ⟨r, Ev.at1 ?_, ?_⟩
          · simp only [boscageref06_text.l0, hbt, at_f, HW.out, HW2.out, Option.bind_some]
            refine Ev.pos (by omega) (Ev.pos (by omega) (Ev.pos hq (Ev.pos hm (Ev.pos (by rw [strOf_size]; omega) ?_))))
            have e : strOfNums L ++ (⟨#[39]⟩ : ByteArray) = strOfNums (L ++ [39]) := strOf_append L [39]
            rw [e]; exact hev
          · rw [hdr, drop_at hl1, hq, hm, Ct.textT_twice]
            have e : ((textT ((bytesOf s).drop (i + 1 + 1))).map fun p => (39 :: p.1, p.2)).map (fun p => (((3 : Int), L ++ p.1, (0 : Int)), p.2)) = (textT ((bytesOf s).drop (i + 1 + 1))).map (fun p => (((3 : Int), L ++ [39] ++ p.1, (0 : Int)), p.2)) := by
              cases textT ((bytesOf s).drop (i + 1 + 1)) <;> simp
            rw [e]; exact hr
        · refine ⟨(3, strOfNums L, 0, (a : Int), ((i + 1 : Nat) : Int), true), Ev.at1 ?_, ?_⟩
          · simp only [boscageref06_text.l0, hbt, at_f, HW.out, Option.bind_some]
            exact Ev.pos (by omega) (Ev.pos (by omega) (Ev.pos hq (Ev.neg hm (Ev.done rfl))))
          · rw [hdr, hq, Ct.textT_close (fun h => hm ((head_peek (by decide)).1 h))]
            exact ⟨i + 1, by omega, hlt, rfl, by simp⟩
      · obtain ⟨r, hev, hr⟩ := ih (s.size - (i + 1)) (by omega) (i + 1) (L ++ [peekS s i]) (Nat.le_refl _) (by omega) (by omega) (by simp; omega)
        have hx : s.extract i (i + 1) = strOfNums [peekS s i] := Ct.ext_str (part := [peekS s i]) (by rw [hdr]; rfl)
        refine ⟨r, Ev.at1 ?_, ?_⟩
        · simp only [boscageref06_text.l0, hbt, at_f, HW.out, Option.bind_some, Int.toNat_natCast, hx]
          refine Ev.pos (by omega) (Ev.pos (by omega) (Ev.neg hq (Ev.pos (by omega) (Ev.pos (by omega) (Ev.pos (by rw [strOf_size, strOf_size]; simp; omega) ?_)))))
          rw [strOf_append]; exact hev
        · rw [hdr, Ct.textT_other hq]
          have e : ((textT ((bytesOf s).drop (i + 1))).map fun p => (peekS s i :: p.1, p.2)).map (fun p => (((3 : Int), L ++ p.1, (0 : Int)), p.2)) = (textT ((bytesOf s).drop (i + 1))).map (fun p => (((3 : Int), L ++ [peekS s i] ++ p.1, (0 : Int)), p.2)) := by
            cases textT ((bytesOf s).drop (i + 1)) <;> simp
          rw [e]; exact hr
    · refine ⟨(0, (⟨#[]⟩ : ByteArray), 0, 0, 0, false), Ev.at1 ?_, ?_⟩
      · simp only [boscageref06_text.l0]
        exact Ev.neg (by omega) (Ev.done rfl)
      · rw [drop_end (Nat.le_of_not_lt hlt)]; rfl
theorem blob_ev (s : ByteArray) (hs : s.size ≤ 4096) (a : Nat) : ∀ (n i : Nat) (L : List Int), s.size - i ≤ n → a ≤ i → L.length ≤ i →
    ∃ r, Ev (fun k => boscageref06_blob.l0 k s (a : Int) (strOfNums L) (i : Int)) r ∧ RG s a ((blobT ((bytesOf s).drop i)).map fun p => ((4, L ++ p.1, 0), p.2)) r := by
  intro n
  induction n using Nat.strongRecOn with
  | _ n ih =>
    intro i L h1 hai hL
    by_cases hlt : i < s.size
    · have HW := Aside0.mk (w11 (i := i) (by omega))
      have HW2 := Aside0.mk (w12 (i := i) (by omega))
      have hbt := bt_peek hlt
      have hdr := drop_at hlt
      have hr0 := peekS_range s i
      have hr1 := peekS_range s (i + 1)
      by_cases hq : peekS s i = 39
      · refine ⟨(4, strOfNums L, 0, (a : Int), ((i + 1 : Nat) : Int), true), Ev.at1 ?_, ?_⟩
        · simp only [boscageref06_blob.l0, hbt, HW.out]
          exact Ev.pos (by omega) (Ev.pos (by omega) (Ev.pos hq (Ev.done rfl)))
        · have e : blobT ((bytesOf s).drop i) = some ([], (bytesOf s).drop (i + 1)) := by
            rw [hdr, hq]
            cases (bytesOf s).drop (i + 1) with
            | nil => rw [blobT, if_pos rfl]
            | cons d r => rw [blobT, if_pos rfl]
          rw [e]
          exact ⟨i + 1, by omega, hlt, rfl, by simp⟩
      · by_cases hok : 0 ≤ hex (peekS s i) ∧ 0 ≤ hex (peekS s (i + 1))
        · have hl1 : i + 1 < s.size := by
            rcases Nat.lt_or_ge (i + 1) s.size with h | h
            · exact h
            · have h3 := hok.2; rw [peekS_out h] at h3; exact absurd h3 (by decide)
          have hx0 : hex (peekS s i) ≤ 15 := by unfold hex; repeat' split <;> omega
          have hx1 : hex (peekS s (i + 1)) ≤ 15 := by unfold hex; repeat' split <;> omega
          have HV : Aside0 (wrap64 (wrap64 (16 * hex (peekS s i)) + hex (peekS s (i + 1))) % 256 = 16 * hex (peekS s i) + hex (peekS s (i + 1))) := ⟨by
            rw [wrap_id (n := 16 * hex (peekS s i)) (by omega) (by omega), wrap_id (by omega) (by omega)]; omega⟩
          obtain ⟨r, hev, hr⟩ := ih (s.size - (i + 2)) (by omega) (i + 2) (L ++ [16 * hex (peekS s i) + hex (peekS s (i + 1))]) (Nat.le_refl _) (by omega) (by simp; omega)
          refine ⟨r, Ev.at1 ?_, ?_⟩
          · simp only [boscageref06_blob.l0, hbt, HW.out, HW2.out, at_f, Option.bind_some]
            refine Ev.pos (by omega) (Ev.pos (by omega) (Ev.neg hq (Ev.bind (hex_f hr0.1 hr0.2) (Ev.bind (hex_f hr1.1 hr1.2) (Ev.neg (by omega) (Ev.neg (by omega) ?_))))))
            simp only [HV.out]
            refine Ev.pos (by rw [strOf_size, strOf_size]; simp; omega) ?_
            rw [strOf_append]; exact hev
          · rw [hdr, drop_at hl1, blobT, if_neg hq, if_pos hok]
            have e : ((blobT ((bytesOf s).drop (i + 1 + 1))).map fun p => ((16 * hex (peekS s i) + hex (peekS s (i + 1))) :: p.1, p.2)).map (fun p => (((4 : Int), L ++ p.1, (0 : Int)), p.2)) = (blobT ((bytesOf s).drop (i + 2))).map (fun p => (((4 : Int), L ++ [16 * hex (peekS s i) + hex (peekS s (i + 1))] ++ p.1, (0 : Int)), p.2)) := by
              show _ = (blobT ((bytesOf s).drop (i + 1 + 1))).map _
              cases blobT ((bytesOf s).drop (i + 1 + 1)) <;> simp
            rw [e]; exact hr
        · refine ⟨(0, (⟨#[]⟩ : ByteArray), 0, 0, 0, false), Ev.at1 ?_, ?_⟩
          · simp only [boscageref06_blob.l0, hbt, HW.out, HW2.out, at_f, Option.bind_some]
            refine Ev.pos (by omega) (Ev.pos (by omega) (Ev.neg hq (Ev.bind (hex_f hr0.1 hr0.2) (Ev.bind (hex_f hr1.1 hr1.2) ?_))))
            by_cases h0 : hex (peekS s i) < 0
            · exact Ev.pos h0 (Ev.done rfl)
            · exact Ev.neg h0 (Ev.pos (by omega) (Ev.done rfl))
          · have e : blobT ((bytesOf s).drop i) = none := by
              rw [hdr]
              by_cases hl1 : i + 1 < s.size
              · rw [drop_at hl1, blobT, if_neg hq, if_neg hok]
              · rw [drop_end (Nat.le_of_not_lt hl1), blobT, if_neg hq]
            rw [e]; rfl
    · refine ⟨(0, (⟨#[]⟩ : ByteArray), 0, 0, 0, false), Ev.at1 ?_, ?_⟩
      · simp only [boscageref06_blob.l0]
        exact Ev.neg (by omega) (Ev.done rfl)
      · rw [drop_end (Nat.le_of_not_lt hlt)]; rfl
def sgW : List (List Int) := [[60, 62], [60, 61], [62, 61], [33, 61], [124, 124], [61], [60], [62], [43], [45], [42], [47], [37], [40], [41], [44], [46], [59]]
def firstW (l : List Int) : List (List Int) → Option (List Int)
  | [] => none
  | w :: r => if w.isPrefixOf l = true then some w else firstW l r
theorem firstW_none (l : List Int) : ∀ ws : List (List Int), (∀ w ∈ ws, w.isPrefixOf l = false) → firstW l ws = none
  | [], _ => rfl
  | w :: ws, h => by
    rw [firstW, h w (by simp), if_neg (by decide)]
    exact firstW_none l ws (fun v hv => h v (by simp [hv]))
theorem sign_first : ∀ l : List Int, signT l = (firstW l sgW).map fun w => ((if w = [33, 61] then [60, 62] else w), l.drop w.length)
  | [] => by simp [firstW, sgW, signT]
  | c :: r => by
    by_cases h60 : c = 60
    · subst h60
      cases r with
      | nil => simp [firstW, sgW, signT, List.isPrefixOf]
      | cons d r =>
        by_cases h1 : d = 62
        · subst h1; simp [firstW, sgW, signT, List.isPrefixOf]
        · by_cases h2 : d = 61
          · subst h2; simp [firstW, sgW, signT, List.isPrefixOf]
          · have e1 : ((62 : Int) == d) = false := by simp; omega
            have e2 : ((61 : Int) == d) = false := by simp; omega
            simp [firstW, sgW, signT, List.isPrefixOf, h1, h2, e1, e2]
    by_cases h62 : c = 62
    · subst h62
      cases r with
      | nil => simp [firstW, sgW, signT, List.isPrefixOf]
      | cons d r =>
        by_cases h2 : d = 61
        · subst h2; simp [firstW, sgW, signT, List.isPrefixOf]
        · have e2 : ((61 : Int) == d) = false := by simp; omega
          simp [firstW, sgW, signT, List.isPrefixOf, h2, e2]
    by_cases h33 : c = 33
    · subst h33
      cases r with
      | nil => simp [firstW, sgW, signT, List.isPrefixOf]
      | cons d r =>
        by_cases h2 : d = 61
        · subst h2; simp [firstW, sgW, signT, List.isPrefixOf]
        · have e2 : ((61 : Int) == d) = false := by simp; omega
          simp [firstW, sgW, signT, List.isPrefixOf, h2, e2]
    by_cases h124 : c = 124
    · subst h124
      cases r with
      | nil => simp [firstW, sgW, signT, List.isPrefixOf]
      | cons d r =>
        by_cases h2 : d = 124
        · subst h2; simp [firstW, sgW, signT, List.isPrefixOf]
        · have e2 : ((124 : Int) == d) = false := by simp; omega
          simp [firstW, sgW, signT, List.isPrefixOf, h2, e2]
    by_cases hs : sign1 c = true
    · have h2 : c = 61 ∨ c = 43 ∨ c = 45 ∨ c = 42 ∨ c = 47 ∨ c = 37 ∨ c = 40 ∨ c = 41 ∨ c = 44 ∨ c = 46 ∨ c = 59 := by simpa [sign1, or_assoc] using hs
      rcases h2 with rfl | rfl | rfl | rfl | rfl | rfl | rfl | rfl | rfl | rfl | rfl
      all_goals simp [firstW, sgW, signT, sign1, List.isPrefixOf]
    · have hn : ¬ (c = 61 ∨ c = 43 ∨ c = 45 ∨ c = 42 ∨ c = 47 ∨ c = 37 ∨ c = 40 ∨ c = 41 ∨ c = 44 ∨ c = 46 ∨ c = 59) := by simpa [sign1, or_assoc] using hs
      have e : firstW (c :: r) sgW = none := by
        refine firstW_none _ _ ?_
        intro w hw
        simp only [sgW, List.mem_cons, List.not_mem_nil, or_false] at hw
        have q : ∀ k : Int, ¬ c = k → ∀ v : List Int, (k :: v).isPrefixOf (c :: r) = false := fun k hk v => by
          have : (k == c) = false := by simp; omega
          rw [List.isPrefixOf, this]; rfl
        rcases hw with rfl | rfl | rfl | rfl | rfl | rfl | rfl | rfl | rfl | rfl | rfl | rfl | rfl | rfl | rfl | rfl | rfl | rfl
        all_goals exact q _ (by omega) _
      rw [e, signT, if_neg h33, if_neg h124, if_neg h60, if_neg h62, if_neg hs]
      rfl
theorem bytesOf_strOf {w : List Int} (h : ∀ x ∈ w, 0 ≤ x ∧ x ≤ 255) : bytesOf (strOfNums w) = w := by
  unfold bytesOf strOfNums
  rw [List.toList_toArray, List.map_map]
  conv => rhs; rw [← List.map_id w]
  refine List.map_congr_left fun x hx => ?_
  have := h x hx
  show ((UInt8.ofNat x.toNat).toNat : Int) = x
  rw [UInt8.toNat_ofNat']
  omega
theorem ext_take (s : ByteArray) (k n : Nat) : bytesOf (s.extract k (k + n)) = ((bytesOf s).drop k).take n := by
  unfold bytesOf
  rw [← List.map_drop, ← List.map_take]
  congr 1
  simp [ByteArray.data_extract, Array.toList_extract, List.extract_eq_take_drop]
theorem bytesOf_inj {a b : ByteArray} (h : bytesOf a = bytesOf b) : a = b := by
  apply bs_ext
  have hinj : ∀ l m : List UInt8, (l.map fun b => (b.toNat : Int)) = (m.map fun b => (b.toNat : Int)) → l = m := by
    intro l
    induction l with
    | nil => intro m h; cases m with
      | nil => rfl
      | cons x m => cases h
    | cons x l ih => intro m h; cases m with
      | nil => cases h
      | cons y m =>
        injection h with h1 h2
        have h1' : (x.toNat : Int) = (y.toNat : Int) := h1
        rw [ih m h2, UInt8.toNat_inj.1 (by omega : x.toNat = y.toNat)]
  exact hinj _ _ h
theorem sg_bytes : ∀ w ∈ sgW, (∀ x ∈ w, 0 ≤ x ∧ x ≤ 255) ∧ 1 ≤ w.length ∧ w.length ≤ 2 := by decide
theorem sg_ne : ∀ w ∈ sgW, ((bs (strOfNums w)) = [33, 61]) = (w = [33, 61]) := by
  intro w hw
  have h1 := bytesOf_strOf (sg_bytes w hw).1
  have h2 : bytesOf (strOfNums w) = (bs (strOfNums w)).map (fun b => (b.toNat : Int)) := rfl
  apply propext
  constructor
  · intro h; rw [h] at h2; rw [← h1, h2]; rfl
  · intro h; subst h; rfl
theorem sign_ev (s : ByteArray) (hs : s.size ≤ 4096) (a : Nat) (ha : a < s.size) : ∀ (ws p : List (List Int)), sgW = p ++ ws →
    Ev (fun k => boscageref06_sign.l0 k s (a : Int) (sgW.map strOfNums) (((sgW.map strOfNums).length : Nat) : Int) (p.length : Int)) (match firstW ((bytesOf s).drop a) ws with | none => (0, (⟨#[]⟩ : ByteArray), 0, 0, 0, false) | some w => (5, strOfNums (if w = [33, 61] then [60, 62] else w), 0, (a : Int), ((a + w.length : Nat) : Int), true)) := by
  intro ws
  induction ws with
  | nil =>
    intro p hp
    refine Ev.at1 ?_
    simp only [boscageref06_sign.l0]
    refine Ev.neg ?_ (Ev.done rfl)
    rw [hp, List.append_nil, List.length_map]; omega
  | cons w ws ih =>
    intro p hp
    have hmem : w ∈ sgW := by rw [hp]; simp
    obtain ⟨hb, hl1, hl2⟩ := sg_bytes w hmem
    have hrd : rdOf ByteArray.empty (sgW.map strOfNums) (p.length : Int) = strOfNums w := by
      unfold rdOf
      rw [hp, Int.toNat_natCast, List.map_append, List.getD_eq_getElem?_getD, List.getElem?_append_right (by rw [List.length_map]; omega), List.length_map, Nat.sub_self]
      rfl
    have hlen : ((sgW.map strOfNums).length : Int) = 18 := rfl
    have hlp : (p.length : Int) < 18 := by have := congrArg List.length hp; rw [List.length_append, List.length_cons] at this; have e : sgW.length = 18 := rfl; omega
    have hnext := ih (p ++ [w]) (by rw [hp, List.append_assoc]; rfl)
    have hW := Aside0.mk (w1 (i := a) w.length (by omega))
    have hW2 := Aside0.mk (w11 (i := p.length) (by omega))
    rw [List.length_append, List.length_singleton] at hnext
    have hpre : w.isPrefixOf ((bytesOf s).drop a) = true ↔ (a + w.length ≤ s.size ∧ s.extract a (a + w.length) = strOfNums w) := by
      rw [List.isPrefixOf_iff_prefix]
      constructor
      · rintro ⟨t, ht⟩
        have h1 := congrArg List.length ht
        rw [List.length_append, List.length_drop, bytesOf_length] at h1
        exact ⟨by omega, Ct.ext_str ht.symm⟩
      · rintro ⟨h1, h2⟩
        have h3 := congrArg bytesOf h2
        rw [ext_take, bytesOf_strOf hb] at h3
        refine ⟨((bytesOf s).drop a).drop w.length, ?_⟩
        conv => lhs; arg 1; rw [← h3]
        exact List.take_append_drop _ _
    refine Ev.at1 ?_
    simp only [boscageref06_sign.l0, hrd, hlen, strOf_size, hW.out]
    refine Ev.pos hlp (Ev.pos (by omega) (Ev.pos hlp ?_))
    rw [firstW]
    by_cases hfit : a + w.length ≤ s.size
    · refine Ev.pos (by omega) (Ev.pos (by omega) (Ev.pos (by omega) ?_))
      refine Ev.at1 ?_
      simp only [boscageref06_sign.j1, Int.toNat_natCast, bs_toList, hW.out, strOf_size]
      by_cases hx : s.extract a (a + w.length) = strOfNums w
      · rw [if_pos (hpre.2 ⟨hfit, hx⟩)]
        refine Ev.pos (by rw [hx]; simp) ?_
        by_cases he : w = [33, 61]
        · subst he
          exact Ev.pos rfl (Ev.done rfl)
        · refine Ev.neg (fun h => he ((sg_ne w hmem).mp h)) (Ev.done ?_)
          simp only [if_neg he]
      · rw [if_neg (fun h => hx (hpre.1 h).2)]
        refine Ev.neg ?_ ?_
        · intro h
          exact hx (bs_ext (by simpa using h))
        · rw [hW2.out]
          rw [hlen] at hnext
          exact hnext
    · refine Ev.neg (by omega) ?_
      rw [if_neg (fun h => hfit (hpre.1 h).1)]
      refine Ev.at1 ?_
      simp only [boscageref06_sign.j1]
      refine Ev.neg (by decide) ?_
      rw [hW2.out]
      rw [hlen] at hnext
      exact hnext
theorem eta6 (x : Int × ByteArray × Int × Int × Int × Bool) : (x.1, x.2.1, x.2.2.1, x.2.2.2.1, x.2.2.2.2.1, x.2.2.2.2.2) = x := rfl
theorem sign_all (s : ByteArray) (hs : s.size ≤ 4096) (a : Nat) (ha : a < s.size) : ∃ r, Ev (fun k => boscageref06_sign.f k s (a : Int)) r ∧ RG s a ((signT ((bytesOf s).drop a)).map fun p => ((5, p.1, 0), p.2)) r := by
  refine ⟨_, sign_ev s hs a ha sgW [] rfl, ?_⟩
  rw [sign_first]
  cases hf : firstW ((bytesOf s).drop a) sgW with
  | none => rfl
  | some w =>
    have hp : w.isPrefixOf ((bytesOf s).drop a) = true := by
      have : ∀ ws, firstW ((bytesOf s).drop a) ws = some w → w.isPrefixOf ((bytesOf s).drop a) = true := by
        intro ws
        induction ws with
        | nil => intro h; cases h
        | cons v ws ih =>
          intro h
          rw [firstW] at h
          split at h
          · rename_i hv
            injection h with h
            rw [← h]; exact hv
          · exact ih h
      exact this _ hf
    obtain ⟨t, ht⟩ := List.isPrefixOf_iff_prefix.1 hp
    have h1 := congrArg List.length ht
    rw [List.length_append, List.length_drop, bytesOf_length] at h1
    exact ⟨a + w.length, by omega, by omega, (by show _ = List.drop w.length (List.drop a (bytesOf s)); rw [List.drop_drop]), rfl⟩
theorem one_ev (s : ByteArray) (hs : s.size ≤ 4096) (a : Nat) (ha : a < s.size) : ∃ r, Ev (fun k => boscageref06_one.f k s (a : Int)) r ∧ RG s a (oneT ((bytesOf s).drop a)) r := by
  have HW := Aside0.mk (w11 (i := a) (by omega))
  have HW2 := Aside0.mk (w12 (i := a) (by omega))
  have hbt := bt_peek ha
  have hdr := drop_at ha
  have hone : oneT ((bytesOf s).drop a) = if (peekS s a = 120 ∨ peekS s a = 88) ∧ peekS s (a + 1) = 39 then (blobT ((bytesOf s).drop (a + 2))).map fun p => ((4, p.1, 0), p.2)
      else if isL (peekS s a) = true then wordT ((bytesOf s).drop a) else if isD (peekS s a) = true then (numT 0 ((bytesOf s).drop a)).map fun p => ((2, [], wrap64 p.1), p.2)
      else if peekS s a = 39 then (textT ((bytesOf s).drop (a + 1))).map fun p => ((3, p.1, 0), p.2) else (signT ((bytesOf s).drop a)).map fun p => ((5, p.1, 0), p.2) := by
    have hh := @head_peek s (a + 1) 39 (by decide)
    rw [hdr, oneT]
    by_cases hx : (peekS s a = 120 ∨ peekS s a = 88) ∧ peekS s (a + 1) = 39
    · rw [if_pos ⟨hx.1, hh.2 hx.2⟩, if_pos hx, List.tail_drop]
    · rw [if_neg (fun h => hx ⟨h.1, hh.1 h.2⟩), if_neg hx]
  -- the cases behind the first
  have hrest : ¬ ((peekS s a = 120 ∨ peekS s a = 88) ∧ peekS s (a + 1) = 39) → ∃ r, Ev (fun k => boscageref06_one.j0 k s (a : Int) (peekS s a) false) r ∧ RG s a (oneT ((bytesOf s).drop a)) r := by
    intro hx
    rw [hone, if_neg hx]
    by_cases hL : isL (peekS s a) = true
    · rw [if_pos hL]
      obtain ⟨r, hev, hr⟩ := word_ev s hs a _ a [] (Nat.le_refl _) (Nat.le_of_lt ha) rfl rfl (by simp)
      refine ⟨r, Ev.at1 ?_, hr⟩
      simp only [boscageref06_one.j0, letter_f, digit_f, Option.bind_some, eta6]
      exact Ev.neg (by decide) (Ev.pos hL (Ev.bind hev (Ev.done rfl)))
    · rw [if_neg hL]
      by_cases hD : isD (peekS s a) = true
      · rw [if_pos hD]
        obtain ⟨r, hev, hr⟩ := num_ev s hs a _ a 0 (Nat.le_refl _) (Nat.le_refl _) (Nat.le_of_lt ha) (by omega) (by omega)
        refine ⟨r, Ev.at1 ?_, hr⟩
        simp only [boscageref06_one.j0, letter_f, digit_f, Option.bind_some, eta6]
        exact Ev.neg (by decide) (Ev.neg hL (Ev.pos hD (Ev.bind hev (Ev.done rfl))))
      · rw [if_neg hD]
        by_cases h39 : peekS s a = 39
        · rw [if_pos h39]
          obtain ⟨r, hev, hr⟩ := text_ev s hs a _ (a + 1) [] (Nat.le_refl _) (by omega) ha (by simp)
          refine ⟨r, Ev.at1 ?_, hr⟩
          simp only [boscageref06_one.j0, letter_f, digit_f, Option.bind_some, eta6]
          refine Ev.neg (by decide) (Ev.neg hL (Ev.neg hD (Ev.pos h39 (Ev.bind ?_ (Ev.done rfl)))))
          simp only [boscageref06_text.f, HW.out]
          exact hev
        · rw [if_neg h39]
          obtain ⟨r, hev, hr⟩ := sign_all s hs a ha
          refine ⟨r, Ev.at1 ?_, hr⟩
          simp only [boscageref06_one.j0, letter_f, digit_f, Option.bind_some, eta6]
          exact Ev.neg (by decide) (Ev.neg hL (Ev.neg hD (Ev.neg h39 (Ev.bind hev (Ev.done rfl)))))
  have hblob : (peekS s a = 120 ∨ peekS s a = 88) ∧ peekS s (a + 1) = 39 → ∃ r, Ev (fun k => boscageref06_one.j0 k s (a : Int) (peekS s a) true) r ∧ RG s a (oneT ((bytesOf s).drop a)) r := by
    intro hx
    rw [hone, if_pos hx]
    obtain ⟨r, hev, hr⟩ := blob_ev s hs a _ (a + 2) [] (Nat.le_refl _) (by omega) (by simp)
    refine ⟨r, Ev.at1 ?_, hr⟩
    simp only [boscageref06_one.j0, Option.bind_some, eta6]
    refine Ev.pos (by trivial) (Ev.bind ?_ (Ev.done rfl))
    simp only [boscageref06_blob.f, HW2.out]
    exact hev
  by_cases h120 : peekS s a = 120 ∨ peekS s a = 88
  · by_cases h39 : peekS s (a + 1) = 39
    · obtain ⟨r, hev, hr⟩ := hblob ⟨h120, h39⟩
      refine ⟨r, ?_, hr⟩
      have e : (peekS s (a + 1) == 39) = true := by rw [h39]; rfl
      simp only [boscageref06_one.f, hbt, HW.out, at_f, Option.bind_some, e]
      refine Ev.pos (by omega) (Ev.pos (by omega) ?_)
      by_cases h1 : peekS s a = 120
      · exact Ev.pos h1 hev
      · exact Ev.neg h1 (Ev.pos (h120.resolve_left h1) hev)
    · obtain ⟨r, hev, hr⟩ := hrest (fun h => h39 h.2)
      refine ⟨r, ?_, hr⟩
      have e : (peekS s (a + 1) == 39) = false := by simpa using h39
      simp only [boscageref06_one.f, hbt, HW.out, at_f, Option.bind_some, e]
      refine Ev.pos (by omega) (Ev.pos (by omega) ?_)
      by_cases h1 : peekS s a = 120
      · exact Ev.pos h1 hev
      · exact Ev.neg h1 (Ev.pos (h120.resolve_left h1) hev)
  · obtain ⟨r, hev, hr⟩ := hrest (fun h => h120 h.1)
    refine ⟨r, ?_, hr⟩
    simp only [boscageref06_one.f, hbt]
    exact Ev.pos (by omega) (Ev.pos (by omega) (Ev.neg (fun h => h120 (.inl h)) (Ev.neg (fun h => h120 (.inr h)) hev)))
/-- tokens as the print's structs -/
def toS (n : Nat) (t : TokAt) : S30 := sOf (Ct.toV n t)
theorem cut_ev (s : ByteArray) (hs : s.size ≤ 4096) : ∀ (n i : Nat) (ts : List TokAt), s.size - i ≤ n → i ≤ s.size → ts.length ≤ i → skipB false ((bytesOf s).drop i) = (bytesOf s).drop i →
    Ev (fun k => boscageref06_Cut.l0 k s (ts.map (toS s.size)) (i : Int)) (match Ct.pre ts (cutS ((bytesOf s).drop i)) with | .inr k => ([], (s.size : Int) - (k : Int), 60) | .inl us => (us.map (toS s.size), 0, 0)) := by
  intro n
  induction n using Nat.strongRecOn with
  | _ n ih =>
    intro i ts h1 h2 hl hsk
    by_cases hlt : i < s.size
    · obtain ⟨r, hev, hr⟩ := one_ev s hs i hlt
      have hdr := drop_at hlt
      have hlen : ((bytesOf s).drop (i + 1)).length + 1 = s.size - i := by rw [List.length_drop, bytesOf_length]; omega
      rw [cutS_eq, hsk]
      rw [hdr] at hr ⊢
      simp only
      cases ho : oneT (peekS s i :: (bytesOf s).drop (i + 1)) with
      | none =>
        rw [ho] at hr
        have hr' : r.2.2.2.2.2 = false := hr
        have hk : (s.size : Int) - (((s.size - i : Nat)) : Int) = (i : Int) := by omega
        simp only [hlen, Ct.pre, hk]
        refine Ev.at1 ?_
        simp only [boscageref06_Cut.l0]
        exact Ev.pos (by omega) (Ev.bind hev (Ev.neg (by rw [hr']; decide) (Ev.done rfl)))
      | some p =>
        obtain ⟨t, rest⟩ := p
        rw [ho] at hr
        obtain ⟨j, hij, hj, hd, rfl⟩ := hr
        have hlt2 : i < j := by
          have h3 := (oneT_suffix _ _ _ _ ho).length_le
          rw [← hd, List.length_drop, List.length_drop, bytesOf_length] at h3
          omega
        obtain ⟨⟨j2, hj2, hjj, hd2, hev2⟩, -⟩ := blanks_ev s hs _ j (Nat.le_refl _) hj
        have hnext := ih (s.size - j2) (by omega) j2 (ts ++ [(t, s.size - i)]) (Nat.le_refl _) hj2 (by simp; omega) (by rw [hd2, Ct.skipB_idem])
        rw [← Ct.pre_cons, hd2, Ct.cutS_skip, hd] at hnext
        simp only [hlen]
        have hS : (⟨t.1, strOfNums t.2.1, t.2.2, (i : Int)⟩ : S30) = toS s.size (t, s.size - i) := by
          unfold toS sOf Ct.toV
          simp only [S30.mk.injEq, true_and]
          omega
        refine Ev.at1 ?_
        simp only [boscageref06_Cut.l0]
        refine Ev.pos (by omega) (Ev.bind hev (Ev.pos rfl (Ev.pos (by rw [List.length_map]; omega) (Ev.bind hev2 ?_))))
        simp only [hS]
        rw [List.map_append] at hnext
        exact hnext
    · have e : i = s.size := by omega
      rw [e, drop_end (Nat.le_refl _)]
      have hc : cutS [] = .inl [((6, [], 0), 0)] := rfl
      rw [hc]
      simp only [Ct.pre, List.map_append]
      refine Ev.at1 ?_
      simp only [boscageref06_Cut.l0]
      refine Ev.neg (by omega) (Ev.pos (by rw [List.length_map]; omega) (Ev.done ?_))
      have hS : toS s.size ((6, [], 0), 0) = (⟨6, (⟨#[]⟩ : ByteArray), 0, (s.size : Int)⟩ : S30) := by
        unfold toS sOf Ct.toV
        simp
        rfl
      rw [List.map_cons, List.map_nil, hS]
theorem refCut_ev (s : ByteArray) : Ev (fun k => boscageref06_Cut.f k s) (cutP s) := by
  unfold cutP
  by_cases hbig : 4096 < s.size
  · simp only [boscageref06_Cut.f, if_pos hbig]
    exact Ev.pos (by omega) (Ev.done rfl)
  · simp only [boscageref06_Cut.f, if_neg hbig]
    refine Ev.neg (by omega) ?_
    obtain ⟨⟨j, hj, -, hd, hev⟩, -⟩ := blanks_ev s (by omega) _ 0 (Nat.le_refl _) (Nat.zero_le _)
    have h := cut_ev s (by omega) _ j [] (Nat.le_refl _) hj (Nat.zero_le _) (by rw [hd, Ct.skipB_idem])
    rw [Ct.pre_nil, hd, Ct.cutS_skip, List.drop_zero] at h
    refine Ev.bind hev ?_
    refine Ev.eq h ?_
    cases cutS (bytesOf s) with
    | inr k => rfl
    | inl ts => simp only [toS, List.map_map]; rfl
theorem same_ev (l : List S30) (hl : l.length ≤ 1000000) : Ev (fun k => boscageref06_Same.f k l l) true := by
  have h : ∀ (n i : Nat), l.length - i ≤ n → i ≤ l.length → Ev (fun k => boscageref06_Same.l0 k l l (l.length : Int) (i : Int)) true := by
    intro n
    induction n with
    | zero =>
      intro i h1 h2
      refine Ev.at1 ?_
      simp only [boscageref06_Same.l0]
      exact Ev.neg (by omega) (Ev.done rfl)
    | succ n ih =>
      intro i h1 h2
      by_cases hlt : i < l.length
      · have HW := Aside0.mk (w1 (i := i) 1 (by omega))
        refine Ev.at1 ?_
        simp only [boscageref06_Same.l0]
        refine Ev.pos (by omega) (Ev.pos (by omega) (Ev.pos (by omega) (Ev.pos (by omega) (Ev.neg (by simp) ?_))))
        have e : wrap64 ((i : Int) + 1) = ((i + 1 : Nat) : Int) := HW.out
        rw [e]
        exact ih (i + 1) (by omega) (by omega)
      · exact ih i (by omega) h2
  unfold boscageref06_Same.f
  exact Ev.pos rfl (h _ 0 (Nat.le_refl _) (Nat.zero_le _))
set_option maxRecDepth 100000 in
theorem live_ev : Ev (fun k => boscagelaw06_live.f k) true := Ev.of (fun k => boscagelaw06_live.mono k) (k := 12) (by kernel_rfl)
theorem tokens_short : ∀ (f : Nat) (l : List Int) (ts : List TokAt), cutT f l = .inl ts → ts.length ≤ l.length + 1
  | 0, l, ts, h => by cases h
  | f + 1, l, ts, h => by
    rw [cutT] at h
    have hs := (skipB_suffix false l).length_le
    cases hk : skipB false l with
    | nil =>
      rw [hk] at h
      injection h with h
      rw [← h]; simp
    | cons c r =>
      rw [hk] at h hs
      simp only at h
      cases ho : oneT (c :: r) with
      | none => rw [ho] at h; cases h
      | some p =>
        obtain ⟨t, rest⟩ := p
        rw [ho] at h
        simp only at h
        cases hc : cutT f rest with
        | inr k => rw [hc] at h; cases h
        | inl us =>
          rw [hc] at h
          simp only [Sum.inl.injEq] at h
          have h1 := tokens_short f rest us hc
          have h2 := (oneT_suffix c r t rest ho).length_le
          rw [List.length_cons] at hs
          rw [← h, List.length_cons]
          omega
theorem cutP_short (s : ByteArray) : (cutP s).1.length ≤ 4097 := by
  unfold cutP
  split
  · simp
  · rename_i hbig
    cases hc : cutS (bytesOf s) with
    | inr k => simp
    | inl ts =>
      have h := tokens_short _ _ _ hc
      rw [bytesOf_length] at h
      simp only [List.length_map]
      omega
theorem tokenCuts_pure (a0 : ByteArray) : ∃ k, boscagelaw06_TokenCuts.f k a0 = some true := by
  refine Ev.rounds (g := fun k => boscagelaw06_TokenCuts.f k a0) ?_
  simp only [boscagelaw06_TokenCuts.f, token_Cut.f, Option.bind_some]
  refine Ev.bind live_ev (Ev.bind (refCut_ev a0) (Ev.pos rfl (Ev.bind (same_ev _ (Nat.le_trans (cutP_short a0) (by decide))) (Ev.pos rfl (Ev.pos rfl (Ev.done ?_))))))
  simp
end Go.Proofs.YtffaibjiiiochaaDoor.Tl
