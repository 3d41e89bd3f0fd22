/- LikeCounts: so many _ are like all texts of that length; with a % among them, of that length or more: the law returns true for every input. No condition. -/
import Derived.Test.YtlmfaidocdlpeaaLikeC
import Derived.Test.YtlmfaidocdlpeaaQLKx6
set_option linter.unusedVariables false
set_option linter.unusedSimpArgs false
namespace Go.Proofs.Ytlmfaidocdlpeaa.Pure
open Go.RowKit Go.Proofs.Ytlmfaidocdlpeaa.QLK Go.Proofs.YtlmfaidocdlpeaaW.PrintWords Go.Proofs.YtlmfaidocdlpeaaW.PrintLast Go.Proofs.Ytlmfaidocdlpeaa.Pu Go.Proofs.Ytlmfaidocdlpeaa.Lk

/-- the second pattern behind i rounds -/
def qs (k i : Nat) : List Piece := if k < i then List.replicate k .one ++ (.any :: List.replicate (i - k) .one) else List.replicate i .one
theorem qs_at (i : Nat) : qs i i = List.replicate i .one := by simp [qs]
theorem rep_snoc (i : Nat) : List.replicate i Piece.one ++ [.one] = List.replicate (i + 1) .one := by
  rw [List.replicate_succ']
theorem counts_loop (s : ByteArray) (n k : Nat) (hk : k ≤ n) (hn : n < 20) (hsz : s.size ≤ 1000000) (d : Nat) : ∀ (i : Nat) (p q : ByteArray), i ≤ n → n - i = d → pieces (bs p) = some (List.replicate i .one) → pieces (bs q) = some (qs k i) → p.size ≤ 2 * i → q.size ≤ 2 * i →
    Ev (fun j => boscagelaw04_LikeCounts.l0 j s (n : Int) (k : Int) true p q (n : Int) (i : Int)) true := by
  have hs := bs_length s
  induction d with
  | zero =>
    intro i p q hi hd hp hq hpz hqz
    obtain rfl : i = n := by omega
    refine Ev.at1 ?_
    simp only [boscagelaw04_LikeCounts.l0]
    refine Ev.neg (by omega) ?_
    have h1 : (m (List.replicate i .one) (bs s) == ((s.size : Int) == (i : Int))) = true := by
      rw [beq_iff_eq, m_ones, hs]
      by_cases e : s.size = i
      · simp [e]
      · have : ¬ (s.size : Int) = (i : Int) := by omega
        simp [e, this]
    by_cases e : k = i
    · refine Ev.pos (by omega) ?_
      refine Ev.pos (by omega) ?_
      have hq2 : pieces (bs (q ++ (⟨#[37]⟩ : ByteArray))) = some (List.replicate i .one ++ [.any]) := by
        rw [bs_append]
        subst e
        rw [qs_at] at hq
        exact pieces_join hq pieces_percent
      refine Ev.bind (like_yes s p hp hsz) ?_
      refine Ev.bind (like_yes s _ hq2 hsz) ?_
      refine Ev.pos (by trivial) ?_
      refine Ev.pos (by trivial) ?_
      refine Ev.pos (by trivial) ?_
      refine Ev.pos h1 (Ev.done ?_)
      have := m_ones_any i 0 (bs s)
      simp only [List.replicate_zero] at this
      rw [beq_iff_eq, this, hs]
      apply Bool.eq_iff_iff.2
      rw [decide_eq_true_eq, decide_eq_true_eq]; omega
    · refine Ev.neg (by omega) ?_
      refine Ev.bind (like_yes s p hp hsz) ?_
      refine Ev.bind (like_yes s q hq hsz) ?_
      refine Ev.pos (by trivial) ?_
      refine Ev.pos (by trivial) ?_
      refine Ev.pos (by trivial) ?_
      refine Ev.pos h1 (Ev.done ?_)
      unfold qs
      rw [beq_iff_eq, if_pos (by omega), m_ones_any, hs]
      apply Bool.eq_iff_iff.2
      rw [decide_eq_true_eq, decide_eq_true_eq]; omega
  | succ d ih =>
    intro i p q hi hd hp hq hpz hqz
    refine Ev.at1 ?_
    simp only [boscagelaw04_LikeCounts.l0]
    refine Ev.pos (by omega) ?_
    have hw : wrap64 ((i : Int) + 1) = ((i + 1 : Nat) : Int) := by rw [wrap_id (by omega) (by omega)]; rfl
    rw [hw]
    have z1 : ∀ x : ByteArray, (x ++ (⟨#[95]⟩ : ByteArray)).size = x.size + 1 := by intro x; rw [ByteArray.size_append]; rfl
    have z2 : ∀ x : ByteArray, (x ++ (⟨#[37]⟩ : ByteArray)).size = x.size + 1 := by intro x; rw [ByteArray.size_append]; rfl
    have hp2 : pieces (bs (p ++ (⟨#[95]⟩ : ByteArray))) = some (List.replicate (i + 1) .one) := by
      rw [bs_append, ← rep_snoc]; exact pieces_join hp pieces_low
    by_cases e : i = k
    · refine Ev.pos (by omega) ?_
      refine Ev.pos (by omega) ?_
      refine Ev.pos (by omega) ?_
      refine Ev.pos (by rw [z2]; omega) ?_
      refine ih (i + 1) _ _ (by omega) (by omega) hp2 ?_ (by rw [z1]; omega) (by rw [z1, z2]; omega)
      rw [bs_append, bs_append]
      subst e
      rw [qs_at] at hq
      have := pieces_join (pieces_join hq pieces_percent) pieces_low
      refine this.trans ?_
      unfold qs
      rw [if_pos (by omega), show i + 1 - i = 1 by omega]
      simp
    · refine Ev.neg (by omega) ?_
      refine Ev.pos (by omega) ?_
      refine Ev.pos (by omega) ?_
      refine ih (i + 1) _ _ (by omega) (by omega) hp2 ?_ (by rw [z1]; omega) (by rw [z1]; omega)
      rw [bs_append]
      refine (pieces_join hq pieces_low).trans ?_
      unfold qs
      by_cases h : k < i
      · rw [if_pos h, if_pos (by omega), show i + 1 - k = (i - k) + 1 by omega, ← rep_snoc]
        simp
      · rw [if_neg h, if_neg (by omega), rep_snoc]

theorem LikeCounts : boscagelaw04_LikeCounts.Pure := by
  intro s n k _ hn hk
  refine Ev.rounds ?_
  unfold boscagelaw04_LikeCounts.f
  refine Ev.bind live_ev ?_
  by_cases h1 : (s.size : Int) > 300
  · exact Ev.pos h1 (Ev.now _)
  refine Ev.neg h1 ?_
  have t1 : -20 < Int.tmod n 20 ∧ Int.tmod n 20 < 20 := by
    rw [Int.tmod_eq_emod]; split <;> omega
  have w1 : wrap64 (Int.tmod n 20 + 20) = Int.tmod n 20 + 20 := wrap_id (by omega) (by omega)
  rw [w1]
  obtain ⟨N, hN, hN2⟩ : ∃ N : Nat, Int.tmod (Int.tmod n 20 + 20) 20 = N ∧ N < 20 := by
    rw [Int.tmod_eq_emod_of_nonneg (by omega)]
    exact ⟨((Int.tmod n 20 + 20) % 20).toNat, by omega, by omega⟩
  rw [hN]
  have w2 : wrap64 ((N : Int) + 1) = (N : Int) + 1 := wrap_id (by omega) (by omega)
  rw [w2]
  have t2 : -((N : Int) + 1) < Int.tmod k ((N : Int) + 1) ∧ Int.tmod k ((N : Int) + 1) < (N : Int) + 1 :=
    ⟨Int.lt_tmod_of_pos k (by omega), Int.tmod_lt_of_pos k (by omega)⟩
  have w3 : wrap64 (Int.tmod k ((N : Int) + 1) + (N : Int)) = Int.tmod k ((N : Int) + 1) + (N : Int) := wrap_id (by omega) (by omega)
  rw [w3]
  have w4 : wrap64 (Int.tmod k ((N : Int) + 1) + (N : Int) + 1) = Int.tmod k ((N : Int) + 1) + (N : Int) + 1 := wrap_id (by omega) (by omega)
  rw [w4]
  obtain ⟨K, hK, hK2⟩ : ∃ K : Nat, Int.tmod (Int.tmod k ((N : Int) + 1) + (N : Int) + 1) ((N : Int) + 1) = K ∧ K ≤ N := by
    have a := Int.tmod_lt_of_pos (Int.tmod k ((N : Int) + 1) + (N : Int) + 1) (show (0 : Int) < (N : Int) + 1 by omega)
    have b := Int.tmod_nonneg (a := Int.tmod k ((N : Int) + 1) + (N : Int) + 1) ((N : Int) + 1) (by omega)
    exact ⟨(Int.tmod (Int.tmod k ((N : Int) + 1) + (N : Int) + 1) ((N : Int) + 1)).toNat, by omega, by omega⟩
  rw [hK]
  refine Ev.neg (by omega) ?_
  refine counts_loop s N K hK2 hN2 (by omega) N 0 ⟨#[]⟩ ⟨#[]⟩ (by omega) (by omega) pieces_nil ?_ (Nat.le_refl _) (Nat.le_refl _)
  unfold qs
  rw [if_neg (by omega)]
  exact pieces_nil
end Go.Proofs.Ytlmfaidocdlpeaa.Pure
