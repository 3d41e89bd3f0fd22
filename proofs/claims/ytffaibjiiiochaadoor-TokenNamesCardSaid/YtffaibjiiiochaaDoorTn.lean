/- TokenNames of layer 6: the plain law. -/
import Derived.Test.YtffaibjiiiochaaDoorQTAx6
import Derived.Test.YtffaibjiiiochaaDoorTl
set_option linter.unusedVariables false
set_option linter.unusedSimpArgs false
namespace Go.Proofs.YtffaibjiiiochaaDoor.Tn
open Go.RowKit Go.Proofs.YtffaibjiiiochaaDoorW.PrintWords Go.Proofs.YtffaibjiiiochaaDoor.Tk Go.Proofs.YtffaibjiiiochaaDoor.Pu Go.Proofs.YtffaibjiiiochaaDoor.QTA Go.Proofs.YtffaibjiiiochaaDoor.Tl
open Go.Proofs.YtffaibjiiiochaaDoor.Ct (peekS peekS_in peekS_out peekS_range drop_at drop_end head_peek)
theorem tletter_f {c : Int} (h0 : 0 ≤ c) (h1 : c ≤ 255) : token_letter.f c = some (isL c) := by
  unfold token_letter.f
  rw [Ct.or32' h0 h1]
  by_cases a : 97 ≤ Go.bits .or .u8 c 32
  · by_cases b : Go.bits .or .u8 c 32 ≤ 122
    · rw [if_pos a, if_pos b, decide_eq_true a, decide_eq_true b]; rfl
    · rw [if_pos a, if_neg b, decide_eq_false b, Bool.and_false, Bool.false_or]
  · rw [if_neg a, decide_eq_false a, Bool.false_and, Bool.false_or]
theorem tdigit_f (c : Int) : token_digit.f c = some (isD c) := by
  unfold token_digit.f isD
  split
  all_goals congr 1
  all_goals (rw [Bool.eq_iff_iff]; simp; try omega)
/-- may stand in a name -/
def okC (c : Int) : Bool := (isL c || isD c) && !(decide (65 ≤ c) && decide (c ≤ 90))
def tailT (s : ByteArray) : Bool := if s.size = 0 then false else if s.size ≤ 32 then (if isD (peekS s 0) = true then false else !Ct.resS s) else false
theorem size_nil {s : ByteArray} : s.toList = [] ↔ s.size = 0 := by
  rw [bs_toList, ← bs_length]
  cases bs s <;> simp
theorem w1b {i : Nat} (h : i ≤ 140737488351232) : wrap64 ((i : Int) + 1) = ((i + 1 : Nat) : Int) := by rw [wrap_id (by omega) (by omega)]; rfl
theorem name_ev (s : ByteArray) (hs : s.size ≤ 140737488351232) : ∀ (n i : Nat), s.size - i ≤ n → i ≤ s.size → Ev (fun k => token_IsName.l0 k s (s.size : Int) (i : Int)) (((bytesOf s).drop i).all okC && tailT s) := by
  have hend : Ev (fun k => token_IsName.l0 k s (s.size : Int) (s.size : Int)) (((bytesOf s).drop s.size).all okC && tailT s) := by
    rw [drop_end (Nat.le_refl _), List.all_nil, Bool.true_and]
    refine Ev.at1 ?_
    simp only [token_IsName.l0, tdigit_f, token_Reserved.f, Option.bind_some]
    refine Ev.neg (by omega) ?_
    unfold tailT
    by_cases h0 : s.size = 0
    · rw [if_pos h0]
      exact Ev.pos (size_nil.2 h0) (Ev.done rfl)
    · rw [if_neg h0]
      refine Ev.neg (fun h => h0 (size_nil.1 h)) ?_
      have hb : bt s 0 = peekS s 0 := bt_peek (i := 0) (by omega)
      by_cases h32 : s.size ≤ 32
      · rw [if_pos h32, hb]
        refine Ev.pos (by omega) (Ev.pos (by omega) ?_)
        by_cases hd : isD (peekS s 0) = true
        · exact Ev.pos hd (Ev.done (if_pos hd).symm)
        · exact Ev.neg hd (Ev.done (if_neg hd).symm)
      · rw [if_neg h32]
        exact Ev.neg (by omega) (Ev.done rfl)
  intro n
  induction n with
  | zero =>
    intro i h1 h2
    have e : i = s.size := by omega
    rw [e]; exact hend
  | succ n ih =>
    intro i h1 h2
    by_cases hlt : i < s.size
    · have hbt := bt_peek hlt
      have HW := Aside0.mk (w1b (i := i) (by omega))
      have hr := peekS_range s i
      have hnext := ih (i + 1) (by omega) (by omega)
      refine Ev.at1 ?_
      simp only [token_IsName.l0, tdigit_f, hbt, tletter_f hr.1 hr.2, Option.bind_some, HW.out]
      refine Ev.pos (by omega) (Ev.pos (by omega) (Ev.pos (by omega) ?_))
      rw [drop_at hlt, List.all_cons]
      have up : isL (peekS s i) = true ∨ isD (peekS s i) = true → Ev (fun k => if 65 ≤ peekS s i then (if peekS s i ≤ 90 then some false else token_IsName.l0 k s (s.size : Int) ((i + 1 : Nat) : Int)) else token_IsName.l0 k s (s.size : Int) ((i + 1 : Nat) : Int)) (okC (peekS s i) && ((bytesOf s).drop (i + 1)).all okC && tailT s) := by
        intro h
        have ho : (isL (peekS s i) || isD (peekS s i)) = true := by simpa using h
        unfold okC
        rw [ho, Bool.true_and]
        by_cases h65 : 65 ≤ peekS s i
        · by_cases h90 : peekS s i ≤ 90
          · refine Ev.pos h65 (Ev.pos h90 (Ev.done ?_))
            rw [decide_eq_true h65, decide_eq_true h90]; rfl
          · refine Ev.pos h65 (Ev.neg h90 (Ev.eq hnext ?_))
            rw [decide_eq_false h90, Bool.and_false]; rfl
        · refine Ev.neg h65 (Ev.eq hnext ?_)
          rw [decide_eq_false h65]; rfl
      by_cases hL : isL (peekS s i) = true
      · exact Ev.pos hL (up (.inl hL))
      · refine Ev.neg hL ?_
        by_cases hD : isD (peekS s i) = true
        · exact Ev.pos hD (up (.inr hD))
        · refine Ev.neg hD (Ev.done ?_)
          unfold okC
          have e1 : isL (peekS s i) = false := by simpa using hL
          have e2 : isD (peekS s i) = false := by simpa using hD
          rw [e1, e2]; rfl
    · have e : i = s.size := by omega
      rw [e]; exact hend
theorem rloop_ev (s : ByteArray) (hs : s.size ≤ 140737488351232) : ∀ (n i : Nat), s.size - i ≤ n → i ≤ s.size → Ev (fun k => boscageref06_IsName.l0 k s (i : Int)) (((bytesOf s).drop i).all okC) := by
  have hend : Ev (fun k => boscageref06_IsName.l0 k s (s.size : Int)) (((bytesOf s).drop s.size).all okC) := by
    rw [drop_end (Nat.le_refl _), List.all_nil]
    refine Ev.at1 ?_
    simp only [boscageref06_IsName.l0]
    exact Ev.neg (by omega) (Ev.done rfl)
  intro n
  induction n with
  | zero =>
    intro i h1 h2
    have e : i = s.size := by omega
    rw [e]; exact hend
  | succ n ih =>
    intro i h1 h2
    by_cases hlt : i < s.size
    · have hbt := bt_peek hlt
      have HW := Aside0.mk (w1b (i := i) (by omega))
      have hnext := ih (i + 1) (by omega) (by omega)
      refine Ev.at1 ?_
      simp only [boscageref06_IsName.l0, letter_f, digit_f, hbt, Option.bind_some, HW.out]
      refine Ev.pos (by omega) (Ev.pos (by omega) ?_)
      rw [drop_at hlt, List.all_cons]
      have up : isL (peekS s i) = true ∨ isD (peekS s i) = true → Ev (fun k => if peekS s i ≥ 65 then (if peekS s i ≤ 90 then some false else boscageref06_IsName.l0 k s ((i + 1 : Nat) : Int)) else boscageref06_IsName.l0 k s ((i + 1 : Nat) : Int)) (okC (peekS s i) && ((bytesOf s).drop (i + 1)).all okC) := by
        intro h
        have ho : (isL (peekS s i) || isD (peekS s i)) = true := by simpa using h
        unfold okC
        rw [ho, Bool.true_and]
        by_cases h65 : 65 ≤ peekS s i
        · by_cases h90 : peekS s i ≤ 90
          · refine Ev.pos h65 (Ev.pos h90 (Ev.done ?_))
            rw [decide_eq_true h65, decide_eq_true h90]; rfl
          · refine Ev.pos h65 (Ev.neg h90 (Ev.eq hnext ?_))
            rw [decide_eq_false h90, Bool.and_false]; rfl
        · refine Ev.neg h65 (Ev.eq hnext ?_)
          rw [decide_eq_false h65]; rfl
      by_cases hL : isL (peekS s i) = true
      · exact Ev.pos hL (up (.inl hL))
      · refine Ev.neg hL ?_
        by_cases hD : isD (peekS s i) = true
        · exact Ev.pos hD (up (.inr hD))
        · refine Ev.neg hD (Ev.done ?_)
          unfold okC
          have e1 : isL (peekS s i) = false := by simpa using hL
          have e2 : isD (peekS s i) = false := by simpa using hD
          rw [e1, e2]; rfl
    · have e : i = s.size := by omega
      rw [e]; exact hend
theorem res_loop (s : ByteArray) (W : List ByteArray) (hW : W.length ≤ 1000) : ∀ (n i : Nat), W.length - i ≤ n → i ≤ W.length → Ev (fun k => boscageref06_Reserved.l0 k s W (W.length : Int) (i : Int)) (Lib.containsS (W.drop i) s) := by
  have hend : Ev (fun k => boscageref06_Reserved.l0 k s W (W.length : Int) (W.length : Int)) (Lib.containsS (W.drop W.length) s) := by
    refine Ev.at1 ?_
    simp only [boscageref06_Reserved.l0]
    refine Ev.neg (by omega) (Ev.done ?_)
    rw [List.drop_length]; rfl
  intro n
  induction n with
  | zero =>
    intro i h1 h2
    have e : i = W.length := by omega
    rw [e]; exact hend
  | succ n ih =>
    intro i h1 h2
    by_cases hlt : i < W.length
    · have HW := Aside0.mk (w11 (i := i) (by omega))
      have hnext := ih (i + 1) (by omega) (by omega)
      have hrd : rdOf ByteArray.empty W (i : Int) = W[i] := by
        unfold rdOf
        rw [Int.toNat_natCast, List.getD_eq_getElem?_getD, List.getElem?_eq_getElem hlt]; rfl
      refine Ev.at1 ?_
      simp only [boscageref06_Reserved.l0, hrd, HW.out, bs_toList]
      refine Ev.pos (by omega) (Ev.pos (by omega) (Ev.pos (by omega) ?_))
      rw [List.drop_eq_getElem_cons hlt]
      by_cases he : W[i] = s
      · refine Ev.pos (by rw [he]) (Ev.done ?_)
        exact ((Lib.containsS_iff _ _).2 (by rw [he]; simp)).symm
      · refine Ev.neg (fun h => he (bs_ext h)) (Ev.eq hnext ?_)
        have : (s ∈ W[i] :: W.drop (i + 1)) ↔ (s ∈ W.drop (i + 1)) := by
          rw [List.mem_cons]
          exact ⟨fun h => h.resolve_left (fun h => he h.symm), .inr⟩
        rw [Bool.eq_iff_iff, Lib.containsS_iff, Lib.containsS_iff]
        exact this.symm
    · have e : i = W.length := by omega
      rw [e]; exact hend
set_option maxRecDepth 100000 in
theorem resWords_eq : Ct.resWords = ([(⟨#[97, 108, 108]⟩ : ByteArray), (⟨#[97, 110, 100]⟩ : ByteArray), (⟨#[97, 115]⟩ : ByteArray), (⟨#[97, 115, 99]⟩ : ByteArray), (⟨#[98, 101, 103, 105, 110]⟩ : ByteArray), (⟨#[98, 101, 116, 119, 101, 101, 110]⟩ : ByteArray), (⟨#[98, 108, 111, 98]⟩ : ByteArray), (⟨#[98, 111, 111, 108]⟩ : ByteArray), (⟨#[98, 121]⟩ : ByteArray), (⟨#[99, 97, 115, 101]⟩ : ByteArray), (⟨#[99, 111, 109, 109, 105, 116]⟩ : ByteArray), (⟨#[99, 114, 101, 97, 116, 101]⟩ : ByteArray), (⟨#[99, 114, 111, 115, 115]⟩ : ByteArray), (⟨#[100, 101, 108, 101, 116, 101]⟩ : ByteArray), (⟨#[100, 101, 115, 99]⟩ : ByteArray), (⟨#[100, 105, 115, 116, 105, 110, 99, 116]⟩ : ByteArray), (⟨#[100, 114, 111, 112]⟩ : ByteArray), (⟨#[101, 120, 99, 101, 112, 116]⟩ : ByteArray), (⟨#[101, 120, 105, 115, 116, 115]⟩ : ByteArray), (⟨#[102, 97, 108, 115, 101]⟩ : ByteArray), (⟨#[102, 114, 111, 109]⟩ : ByteArray), (⟨#[102, 117, 108, 108]⟩ : ByteArray), (⟨#[103, 114, 111, 117, 112]⟩ : ByteArray), (⟨#[104, 97, 118, 105, 110, 103]⟩ : ByteArray), (⟨#[105, 110]⟩ : ByteArray), (⟨#[105, 110, 100, 101, 120]⟩ : ByteArray), (⟨#[105, 110, 110, 101, 114]⟩ : ByteArray), (⟨#[105, 110, 115, 101, 114, 116]⟩ : ByteArray), (⟨#[105, 110, 116]⟩ : ByteArray), (⟨#[105, 110, 116, 101, 114, 115, 101, 99, 116]⟩ : ByteArray), (⟨#[105, 110, 116, 111]⟩ : ByteArray), (⟨#[105, 115]⟩ : ByteArray), (⟨#[106, 111, 105, 110]⟩ : ByteArray), (⟨#[107, 101, 121]⟩ : ByteArray), (⟨#[108, 101, 102, 116]⟩ : ByteArray), (⟨#[108, 105, 107, 101]⟩ : ByteArray), (⟨#[108, 105, 109, 105, 116]⟩ : ByteArray), (⟨#[110, 111, 116]⟩ : ByteArray), (⟨#[110, 117, 108, 108]⟩ : ByteArray), (⟨#[111, 102, 102, 115, 101, 116]⟩ : ByteArray), (⟨#[111, 110]⟩ : ByteArray), (⟨#[111, 114]⟩ : ByteArray), (⟨#[111, 114, 100, 101, 114]⟩ : ByteArray), (⟨#[111, 117, 116, 101, 114]⟩ : ByteArray), (⟨#[112, 114, 105, 109, 97, 114, 121]⟩ : ByteArray), (⟨#[114, 105, 103, 104, 116]⟩ : ByteArray), (⟨#[114, 111, 108, 108, 98, 97, 99, 107]⟩ : ByteArray), (⟨#[115, 101, 108, 101, 99, 116]⟩ : ByteArray), (⟨#[115, 101, 116]⟩ : ByteArray), (⟨#[116, 97, 98, 108, 101]⟩ : ByteArray), (⟨#[116, 101, 120, 116]⟩ : ByteArray), (⟨#[116, 114, 117, 101]⟩ : ByteArray), (⟨#[117, 110, 105, 111, 110]⟩ : ByteArray), (⟨#[117, 110, 105, 113, 117, 101]⟩ : ByteArray), (⟨#[117, 112, 100, 97, 116, 101]⟩ : ByteArray), (⟨#[117, 115, 105, 110, 103]⟩ : ByteArray), (⟨#[118, 97, 108, 117, 101, 115]⟩ : ByteArray), (⟨#[119, 104, 101, 114, 101]⟩ : ByteArray)] : List ByteArray) := by kernel_rfl
theorem res_ev (s : ByteArray) : Ev (fun k => boscageref06_Reserved.f k s) (Ct.resS s) := by
  have h := res_loop s Ct.resWords (by decide +kernel) _ 0 (Nat.le_refl _) (Nat.zero_le _)
  rw [List.drop_zero] at h
  have e : Lib.containsS Ct.resWords s = Ct.resS s := rfl
  rw [e, resWords_eq] at h
  exact h
theorem refName_ev (s : ByteArray) (hs : s.size ≤ 140737488351232) : Ev (fun k => boscageref06_IsName.f k s) ((bytesOf s).all okC && tailT s) := by
  have hj : Ev (fun k => boscageref06_IsName.j0 k s true) false := by
    refine Ev.at1 ?_
    simp only [boscageref06_IsName.j0]
    exact Ev.pos (by trivial) (Ev.done rfl)
  unfold boscageref06_IsName.f tailT
  by_cases h0 : s.size = 0
  · rw [if_pos h0, Bool.and_false]
    exact Ev.pos (size_nil.2 h0) hj
  · rw [if_neg h0]
    refine Ev.neg (fun h => h0 (size_nil.1 h)) ?_
    have hb : bt s 0 = peekS s 0 := bt_peek (i := 0) (by omega)
    by_cases h32 : s.size ≤ 32
    · rw [if_pos h32, hb]
      refine Ev.neg (by omega) (Ev.pos (by omega) ?_)
      simp only [digit_f, Option.bind_some]
      by_cases hd : isD (peekS s 0) = true
      · rw [if_pos hd, Bool.and_false]; exact Ev.pos hd hj
      · rw [if_neg hd]
        refine Ev.neg hd (Ev.bind (res_ev s) ?_)
        refine Ev.at1 ?_
        simp only [boscageref06_IsName.j0]
        by_cases hr : Ct.resS s = true
        · rw [hr]; exact Ev.pos rfl (Ev.done (by simp))
        · refine Ev.neg hr ?_
          have hr' : Ct.resS s = false := by simpa using hr
          have h := rloop_ev s hs _ 0 (Nat.le_refl _) (Nat.zero_le _)
          rw [List.drop_zero] at h
          exact Ev.eq h (by rw [hr']; simp)
    · rw [if_neg h32, Bool.and_false]
      exact Ev.pos (by omega) hj
theorem tokenNames_pure (a0 : ByteArray) (hs : a0.size ≤ 140737488351232) : ∃ k, boscagelaw06_TokenNames.f k a0 = some true := by
  refine Ev.rounds (g := fun k => boscagelaw06_TokenNames.f k a0) ?_
  have hn : Ev (fun k => token_IsName.f k a0) ((bytesOf a0).all okC && tailT a0) := by
    have h := name_ev a0 hs _ 0 (Nat.le_refl _) (Nat.zero_le _)
    rw [List.drop_zero] at h
    exact h
  unfold boscagelaw06_TokenNames.f
  refine Ev.bind live_ev (Ev.pos rfl (Ev.bind hn (Ev.bind (refName_ev a0 hs) (Ev.pos (by simp) ?_))))
  simp only [token_Reserved.f, Option.bind_some]
  refine Ev.bind (res_ev a0) (Ev.pos (by simp) (Ev.bind hn ?_))
  by_cases h : ((bytesOf a0).all okC && tailT a0) = true
  · refine Ev.pos h (Ev.done ?_)
    have ht : tailT a0 = true := by
      rw [Bool.and_eq_true] at h
      exact h.2
    unfold tailT at ht
    repeat' split at ht
    all_goals first | (cases ht; done) | exact ht
  · exact Ev.neg h (Ev.done rfl)
end Go.Proofs.YtffaibjiiiochaaDoor.Tn
