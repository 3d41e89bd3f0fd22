/- LikeCuts: a text is like two patterns, one behind the other, just if it can be cut so that both have their part; what is like a pattern begins with its Prefix: the law returns true for every input. No condition. -/
import Derived.Test.YtlmfaidocdlpeaaLikeC
import Derived.Test.YtlmfaidocdlpeaaQLKx5
set_option linter.unusedVariables false
set_option linter.unusedSimpArgs false
namespace Go.Proofs.Ytlmfaidocdlpeaa.Pure
open Go.RowKit Go.Proofs.Ytlmfaidocdlpeaa.QLK Go.Proofs.YtlmfaidocdlpeaaW.PrintWords Go.Proofs.YtlmfaidocdlpeaaW.PrintLast Go.Proofs.Ytlmfaidocdlpeaa.Pu Go.Proofs.Ytlmfaidocdlpeaa.Lk

/-- what is known behind i cuts -/
def Cond (ps qs : List Piece) (s : List UInt8) (c : Bool) (i : Nat) : Prop := c = true ↔ ∃ j, j < i ∧ m ps (s.take j) = true ∧ m qs (s.drop j) = true
theorem Cond.step {ps qs : List Piece} {s : List UInt8} {c c' : Bool} {i : Nat} (h : Cond ps qs s c i) (hc : c' = true ↔ c = true ∨ (m ps (s.take i) = true ∧ m qs (s.drop i) = true)) : Cond ps qs s c' (i + 1) := by
  unfold Cond at *
  rw [hc, h]
  constructor
  · rintro (⟨j, h1, h2⟩ | h)
    · exact ⟨j, Nat.lt_succ_of_lt h1, h2⟩
    · exact ⟨i, Nat.lt_succ_self _, h⟩
  · rintro ⟨j, h1, h2⟩
    by_cases e : j = i
    · subst e; exact .inr h2
    · exact .inl ⟨j, Nat.lt_of_le_of_ne (Nat.le_of_lt_succ h1) e, h2⟩
theorem Cond.last {ps qs : List Piece} {s : List UInt8} {c : Bool} {n : Nat} (h : Cond ps qs s c (n + 1)) (hn : s.length = n) : m (ps ++ qs) s = c := by
  subst hn
  unfold Cond at h
  apply Bool.eq_iff_iff.2
  rw [m_append, h]
  constructor
  · rintro ⟨j, h, h'⟩; exact ⟨j, Nat.lt_succ_of_le h, h'⟩
  · rintro ⟨j, h, h'⟩; exact ⟨j, Nat.le_of_lt_succ h, h'⟩
theorem cuts_loop (s p q : ByteArray) (hsz : s.size ≤ 40) (hpz : p.size ≤ 40) (hqz : q.size ≤ 40) {ps qs : List Piece} (hp : pieces (bs p) = some ps) (hq : pieces (bs q) = some qs) (d : Nat) : ∀ (i : Nat) (c : Bool), i ≤ s.size + 1 → s.size + 1 - i = d →
    Cond ps qs (bs s) c i →
    Ev (fun k => boscagelaw04_LikeCuts.l0 k s p q true c ((s.size + 1 : Nat) : Int) (i : Int)) true := by
  have hs := bs_length s
  have hps := bs_length p
  induction d with
  | zero =>
    intro i c hi hd hc
    obtain rfl : i = s.size + 1 := by omega
    refine Ev.at1 ?_
    simp only [boscagelaw04_LikeCuts.l0]
    refine Ev.neg (by omega) ?_
    refine Ev.pos (by omega) ?_
    have hj : pieces (bs (p ++ q)) = some (ps ++ qs) := by rw [bs_append]; exact pieces_join hp hq
    refine Ev.bind (like_yes s _ hj (by omega)) ?_
    refine Ev.bind (prefix_yes p hp (by omega)) ?_
    refine Ev.bind (like_yes s p hp (by omega)) ?_
    refine Ev.pos (by trivial) ?_
    refine Ev.pos ?_ ?_
    · rw [beq_iff_eq]; exact hc.last hs
    refine Ev.pos (by trivial) ?_
    simp only [size_mk, bs_toList, bs_mk, bs_to, Int.toNat_natCast]
    by_cases h1 : m ps (bs s) = true
    · have hb := pre_begins ps (bs s) h1
      refine Ev.pos h1 ?_
      refine Ev.pos (by omega) ?_
      refine Ev.pos (by omega) ?_
      refine Ev.pos (by omega) ?_
      exact Ev.done (by rw [beq_iff_eq]; exact hb.2)
    · exact Ev.neg h1 (Ev.now _)
  | succ d ih =>
    intro i c hi hd hc
    refine Ev.at1 ?_
    simp only [boscagelaw04_LikeCuts.l0, Int.toNat_natCast]
    refine Ev.pos (by omega) ?_
    refine Ev.pos (by omega) ?_
    refine Ev.pos (by omega) ?_
    have a1 : i + 1 ≤ s.size + 1 := by omega
    have a2 : s.size + 1 - (i + 1) = d := by omega
    have hw : wrap64 ((i : Int) + 1) = ((i + 1 : Nat) : Int) := by rw [wrap_id (by omega) (by omega)]; rfl
    have z1 : (s.extract 0 i).size ≤ 1000000 := by clear hw; rw [ByteArray.size_extract]; omega
    have z2 : (s.extract i s.size).size ≤ 1000000 := by clear hw; rw [ByteArray.size_extract]; omega
    refine Ev.bind (like_yes _ p hp z1) ?_
    refine Ev.bind (like_yes _ q hq z2) ?_
    rw [bs_to, bs_from, hw]
    have step : ∀ c', (c' = true ↔ c = true ∨ (m ps ((bs s).take i) = true ∧ m qs ((bs s).drop i) = true)) → Ev (fun k => boscagelaw04_LikeCuts.l0 k s p q true c' ((s.size + 1 : Nat) : Int) ((i + 1 : Nat) : Int)) true :=
      fun c' h => ih (i + 1) c' a1 a2 (hc.step h)
    by_cases hcc : c = true
    · refine Ev.pos hcc (step _ ?_)
      simp [hcc]
    · refine Ev.neg hcc ?_
      by_cases h1 : m ps ((bs s).take i) = true
      · refine Ev.pos h1 (step _ ?_)
        simp [hcc, h1]
      · refine Ev.neg h1 (step _ ?_)
        simp [hcc, h1]

theorem LikeCuts : boscagelaw04_LikeCuts.Pure := by
  intro s p q _ _ _
  refine Ev.rounds ?_
  unfold boscagelaw04_LikeCuts.f
  refine Ev.bind live_ev ?_
  have out : ∀ b, b = true → Ev (fun k => boscagelaw04_LikeCuts.j0 k s p q true b) true := by
    intro b hb
    refine Ev.at1 ?_
    simp only [boscagelaw04_LikeCuts.j0]
    exact Ev.pos hb (Ev.now _)
  by_cases h1 : (s.size : Int) > 40
  · exact Ev.pos h1 (out _ rfl)
  refine Ev.neg h1 ?_
  by_cases h2 : (p.size : Int) > 40
  · exact Ev.pos h2 (out _ rfl)
  refine Ev.neg h2 ?_
  by_cases h3 : (q.size : Int) > 40
  · exact out _ (by simp [h3])
  refine Ev.at1 ?_
  simp only [boscagelaw04_LikeCuts.j0]
  refine Ev.neg (by simp [h3]) ?_
  have out1 : ∀ b, b = true → Ev (fun k => boscagelaw04_LikeCuts.j1 k s p q true b) true := by
    intro b hb
    refine Ev.at1 ?_
    simp only [boscagelaw04_LikeCuts.j1]
    exact Ev.pos hb (Ev.now _)
  refine Ev.bind (check_ev p) ?_
  cases hp : pieces (bs p) with
  | none => exact Ev.neg (by simp) (out1 _ rfl)
  | some ps =>
    refine Ev.pos (by simp) ?_
    refine Ev.bind (check_ev q) ?_
    cases hq : pieces (bs q) with
    | none => exact out1 _ (by simp)
    | some qs =>
      refine Ev.at1 ?_
      simp only [boscagelaw04_LikeCuts.j1]
      refine Ev.neg (by simp) ?_
      rw [wrap_id (by omega) (by omega)]
      exact cuts_loop s p q (by omega) (by omega) (by omega) hp hq (s.size + 1) 0 false (by omega) (by omega) (by simp [Cond])
end Go.Proofs.Ytlmfaidocdlpeaa.Pure
