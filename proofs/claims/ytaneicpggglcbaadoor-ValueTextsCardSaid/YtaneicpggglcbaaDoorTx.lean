/- A value's text, as the program writes it, in plain words. -/
import Derived.Test.YtaneicpggglcbaaDoorVa
set_option linter.unusedVariables false
set_option linter.unusedSimpArgs false
namespace Go.Proofs.YtaneicpggglcbaaDoor.Va
open Go.RowKit Go.Proofs.YtaneicpggglcbaaDoorW.PrintWords Go.Proofs.YtaneicpggglcbaaDoor.Pu Go.Proofs.YtaneicpggglcbaaDoor.QVA Go.Proofs.YtaneicpggglcbaaDoor.Rw
def mk (l : List UInt8) : ByteArray := ⟨l.toArray⟩
theorem bs_mk' (l : List UInt8) : bs (mk l) = l := rfl
theorem mk_eq {a : ByteArray} {l : List UInt8} (h : bs a = l) : a = mk l := bs_ext (h.trans (bs_mk' l).symm)
theorem size_bs (s : ByteArray) : s.size = (bs s).length := (bs_length s).symm
theorem bs_nums (l : List Int) : bs (strOfNums l) = l.map fun n => UInt8.ofNat n.toNat := rfl
theorem ok_kinds {x : S27} (h : ok x = true) : (x.f0 = 0 ∨ x.f0 = 1 ∨ x.f0 = 2 ∨ x.f0 = 3 ∨ x.f0 = 4) ∧ (x.f0 = 1 → x.f1 = 0 ∨ x.f1 = 1) := by
  unfold ok at h
  split at h
  · rename_i e
    exact ⟨.inl e, fun e' => by omega⟩
  · split at h
    · rename_i e
      simp only [Bool.and_eq_true, Bool.or_eq_true, decide_eq_true_eq] at h
      exact ⟨.inr (.inl e), fun _ => h.1⟩
    · split at h
      · rename_i e
        exact ⟨.inr (.inr (.inl e)), fun e' => by omega⟩
      · split at h
        · rename_i n1 n2 n3 e
          exact ⟨by omega, fun e' => by omega⟩
        · cases h
/-- a value's text, or why there is none -/
def txt (x : S27) : ByteArray × Int := if chk x = 0 then (mk (Wv.textL x.f0 x.f1 x.f2), 0) else (⟨#[]⟩, chk x)
theorem mineText_at {x : S27} (h : OkV x) (hs : x.f2.size ≤ 20000) : value_Text.f x.f0 x.f1 x.f2 = some (txt x) := by
  have hw := wf64 h.2.1
  unfold value_Text.f txt
  rw [if_pos ⟨by omega, hw.1, hw.2⟩, show value_Check.f 5 x.f0 x.f1 x.f2 = some (chk x) from value_Check_at x h.2.1 0, Option.bind_some]
  by_cases hc : chk x = 0
  · rw [if_pos hc, if_pos hc, if_pos (ok_kinds (chk_zero hc))]; rfl
  · rw [if_neg hc, if_neg hc]
end Go.Proofs.YtaneicpggglcbaaDoor.Va
