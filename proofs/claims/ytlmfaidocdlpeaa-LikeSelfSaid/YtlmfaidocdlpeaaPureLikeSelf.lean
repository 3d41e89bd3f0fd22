/- LikeSelf: a text is like itself, guarded, and no other is; with a % behind just what begins with it is; and the pattern's Prefix is the text: the law returns true for every input. No condition. -/
import Derived.Test.YtlmfaidocdlpeaaLikeC
import Derived.Test.YtlmfaidocdlpeaaQLKx5
set_option linter.unusedVariables false
set_option linter.unusedSimpArgs false
namespace Go.Proofs.Ytlmfaidocdlpeaa.Pure
open Go.RowKit Go.Proofs.Ytlmfaidocdlpeaa.QLK Go.Proofs.YtlmfaidocdlpeaaW.PrintWords Go.Proofs.YtlmfaidocdlpeaaW.PrintLast Go.Proofs.Ytlmfaidocdlpeaa.Pu Go.Proofs.Ytlmfaidocdlpeaa.Lk

theorem dec_beq (a b : List UInt8) : decide (a = b) = (a == b) := by
  apply Bool.eq_iff_iff.2
  rw [decide_eq_true_eq, beq_iff_eq]
theorem dec_flip (a b : List UInt8) : decide (a = b) = (b == a) := by
  apply Bool.eq_iff_iff.2
  rw [decide_eq_true_eq, beq_iff_eq, eq_comm]
theorem LikeSelf : boscagelaw04_LikeSelf.Pure := by
  intro s t _ _
  have hs := bs_length s
  have ht := bs_length t
  refine Ev.rounds ?_
  unfold boscagelaw04_LikeSelf.f
  refine Ev.bind live_ev ?_
  by_cases h1 : (s.size : Int) > 300
  · refine Ev.pos h1 ?_
    refine Ev.at1 ?_
    simp only [boscagelaw04_LikeSelf.j0]
    exact Ev.pos (by trivial) (Ev.now _)
  · refine Ev.neg h1 ?_
    refine Ev.at1 ?_
    simp only [boscagelaw04_LikeSelf.j0]
    by_cases h2 : (t.size : Int) > 300
    · exact Ev.pos (by simp [h2]) (Ev.now _)
    · refine Ev.neg (by simp [h2]) ?_
      have hg := guard_length (bs s)
      have hp := pieces_guard (bs s)
      generalize hpat : (⟨(guard (bs s)).toArray⟩ : ByteArray) = p
      have hbp : bs p = guard (bs s) := by rw [← hpat]; rfl
      have hpz := bs_length p
      rw [hbp] at hpz
      rw [← hbp] at hp
      have hq : pieces (bs (p ++ (⟨#[37]⟩ : ByteArray))) = some ((bs s).map .ch ++ [.any]) := by
        rw [bs_append]; exact pieces_join hp pieces_percent
      refine Ev.bind (hpat ▸ guarded_ev s (by omega)) ?_
      refine Ev.bind (like_yes s p hp (by omega)) ?_
      refine Ev.bind (like_yes t p hp (by omega)) ?_
      refine Ev.pos (by omega) ?_
      refine Ev.bind (like_yes t _ hq (by omega)) ?_
      refine Ev.bind (prefix_yes p hp (by omega)) ?_
      rw [pre_chs]
      simp only [bs_toList, bs_mk, m_chs, m_chs_any, bs_to, Int.toNat_natCast]
      refine Ev.pos (by trivial) ?_
      refine Ev.pos (by decide) ?_
      refine Ev.pos (by trivial) ?_
      refine Ev.pos (beq_iff_eq.2 (dec_flip _ _)) ?_
      refine Ev.pos (by trivial) ?_
      by_cases hle : s.size ≤ t.size
      · refine Ev.pos (by omega) ?_
        refine Ev.pos (by omega) ?_
        refine Ev.pos (by omega) ?_
        refine Ev.pos ?_ ?_
        · rw [hs, ht, dec_beq, decide_eq_true hle, Bool.true_and, beq_iff_eq]
        refine Ev.pos (by trivial) ?_
        exact Ev.pos (by trivial) (Ev.now _)
      · refine Ev.neg (by omega) ?_
        refine Ev.pos ?_ ?_
        · rw [hs, ht, decide_eq_false hle, Bool.false_and, beq_iff_eq]
        refine Ev.pos (by trivial) ?_
        exact Ev.pos (by trivial) (Ev.now _)
end Go.Proofs.Ytlmfaidocdlpeaa.Pure
