/- TokenBlanks of layer 6: the plain law. -/
import Derived.Test.YtffaibjiiiochaaDoorQTBx3
import Derived.Test.YtffaibjiiiochaaDoorPu
set_option linter.unusedVariables false
set_option linter.unusedSimpArgs false
namespace Go.Proofs.YtffaibjiiiochaaDoor.Pb
open Go.RowKit Go.Proofs.YtffaibjiiiochaaDoorW.PrintWords Go.Proofs.YtffaibjiiiochaaDoor.Tk Go.Proofs.YtffaibjiiiochaaDoor.Pu Go.Proofs.YtffaibjiiiochaaDoor.QTB
open Go.Proofs.YtffaibjiiiochaaDoor.Ct (peekS peekS_in peekS_out peekS_range drop_at drop_end head_peek)
theorem w11 {i : Nat} (h : i ≤ 900000) : wrap64 ((i : Int) + 1) = ((i + 1 : Nat) : Int) := by rw [wrap_id (by omega) (by omega)]; rfl
theorem tokens_short : ∀ (f : Nat) (l : List Int) (ts : List TokAt), cutT f l = .inl ts → ts.length ≤ l.length + 1
  | 0, l, ts, h => by cases h
  | f + 1, l, ts, h => by
    rw [cutT] at h
    have hs := (skipB_suffix false l).length_le
    cases hk : skipB false l with
    | nil =>
      rw [hk] at h
      injection h with h
      rw [← h]; simp
    | cons c r =>
      rw [hk] at h hs
      simp only at h
      cases ho : oneT (c :: r) with
      | none => rw [ho] at h; cases h
      | some p =>
        obtain ⟨t, rest⟩ := p
        rw [ho] at h
        simp only at h
        cases hc : cutT f rest with
        | inr k => rw [hc] at h; cases h
        | inl us =>
          rw [hc] at h
          simp only [Sum.inl.injEq] at h
          have h1 := tokens_short f rest us hc
          have h2 := (oneT_suffix c r t rest ho).length_le
          rw [List.length_cons] at hs
          rw [← h, List.length_cons]
          omega
theorem cut_left : ∀ (n : Nat) (l : List Int) (ts : List TokAt), l.length ≤ n → cutS l = .inl ts → ∀ p ∈ ts, p.2 ≤ l.length := by
  intro n
  induction n using Nat.strongRecOn with
  | _ n ih =>
    intro l xs hl h
    have hs := (skipB_suffix false l).length_le
    rw [cutS_eq] at h
    cases hk : skipB false l with
    | nil =>
      rw [hk] at h
      injection h with h
      rw [← h]
      intro p hp
      rw [List.mem_singleton.1 hp]
      exact Nat.zero_le _
    | cons c r =>
      rw [hk] at h hs
      simp only at h
      cases ho : oneT (c :: r) with
      | none => rw [ho] at h; cases h
      | some p =>
        obtain ⟨t, rest⟩ := p
        rw [ho] at h
        simp only at h
        have hr := (oneT_suffix c r t rest ho).length_le
        rw [List.length_cons] at hs
        cases hc : cutS rest with
        | inr k => rw [hc] at h; cases h
        | inl us =>
          rw [hc] at h
          simp only [Sum.inl.injEq] at h
          have hi := ih rest.length (by omega) rest us (Nat.le_refl _) hc
          rw [← h]
          intro p hp
          rcases List.mem_cons.1 hp with rfl | hp
          · exact hs
          · have := hi p hp; omega
set_option maxRecDepth 100000 in
theorem live_ev : Ev (fun k => boscagelaw06_live.f k) true := Ev.of (fun k => boscagelaw06_live.mono k) (k := 12) (by kernel_rfl)
theorem idx_in (a : Int) : 0 ≤ Int.tmod (wrap64 ((Int.tmod a 4) + 4)) 4 ∧ Int.tmod (wrap64 ((Int.tmod a 4) + 4)) 4 < 4 := by
  have h1 : -4 < Int.tmod a 4 := Int.lt_tmod_of_pos a (by decide)
  have h2 : Int.tmod a 4 < 4 := Int.tmod_lt_of_pos a (by decide)
  rw [wrap_id (by omega) (by omega)]
  exact ⟨Int.tmod_nonneg 4 (by omega), Int.tmod_lt_of_pos _ (by decide)⟩
theorem ahead_skip {j : Int} {a : ByteArray} (h : utf8_RuneLen.f j = some a) : a.size ≤ 7 ∧ ∀ l : List Int, skipB false (bytesOf a ++ l) = skipB false l := by
  unfold utf8_RuneLen.f at h
  split at h
  · rename_i hj
    injection h with h
    have hj4 : j = 0 ∨ j = 1 ∨ j = 2 ∨ j = 3 := by omega
    subst h
    rcases hj4 with rfl | rfl | rfl | rfl
    · exact ⟨by decide, fun l => rfl⟩
    · exact ⟨by decide, fun l => rfl⟩
    · exact ⟨by decide, fun l => rfl⟩
    · exact ⟨by decide, fun l => rfl⟩
  · cases h
theorem rd_at {l : List S30} {i : Nat} (h : i < l.length) : rd_T30 l (i : Int) = l[i] := by
  unfold rd_T30
  rw [Int.toNat_natCast, List.getD_eq_getElem?_getD, List.getElem?_eq_getElem h]; rfl
def adj (n : Nat) (t : S30) : S30 := ⟨t.f0, t.f1, t.f2, wrap64 (t.f3 + (n : Int))⟩
theorem loop_ev (a : ByteArray) (X : List S30) (hX : X.length ≤ 5000) : ∀ (n i : Nat), X.length - i ≤ n → i ≤ X.length →
    Ev (fun k => boscagelaw06_TokenBlanks.l0 k true a X (X.map (adj a.size)) (X.length : Int) (i : Int)) true := by
  have hend : Ev (fun k => boscagelaw06_TokenBlanks.l0 k true a X (X.map (adj a.size)) (X.length : Int) (X.length : Int)) true := by
    refine Ev.at1 ?_
    simp only [boscagelaw06_TokenBlanks.l0]
    exact Ev.neg (by omega) (Ev.done rfl)
  intro n
  induction n with
  | zero =>
    intro i h1 h2
    have e : i = X.length := by omega
    rw [e]; exact hend
  | succ n ih =>
    intro i h1 h2
    by_cases hlt : i < X.length
    · have HW := Aside0.mk (w11 (i := i) (by omega))
      have hlt2 : i < (X.map (adj a.size)).length := by rw [List.length_map]; exact hlt
      have hnext := ih (i + 1) (by omega) (by omega)
      refine Ev.at1 ?_
      simp only [boscagelaw06_TokenBlanks.l0, rd_at hlt, rd_at hlt2, HW.out, List.getElem_map]
      exact Ev.pos (by omega) (Ev.pos (by omega) (Ev.pos (by omega) (Ev.pos (by omega) (Ev.neg (by simp [adj]) hnext))))
    · have e : i = X.length := by omega
      rw [e]; exact hend
theorem j0_ev (a : ByteArray) (X : List S30) (hX : X.length ≤ 5000) : Ev (fun k => boscagelaw06_TokenBlanks.j0 k true a X (X.map (adj a.size)) false) true := by
  refine Ev.at1 ?_
  simp only [boscagelaw06_TokenBlanks.j0]
  exact Ev.neg (by decide) (loop_ev a X hX _ 0 (Nat.le_refl _) (Nat.zero_le _))
theorem bytes_app (x y : ByteArray) : bytesOf (x ++ y) = bytesOf x ++ bytesOf y := by
  unfold bytesOf
  simp [ByteArray.data_append]
theorem cut_fail : ∀ (n : Nat) (l : List Int) (k : Nat), l.length ≤ n → cutS l = .inr k → k ≤ l.length := by
  intro n
  induction n using Nat.strongRecOn with
  | _ n ih =>
    intro l k hl h
    have hs := (skipB_suffix false l).length_le
    rw [cutS_eq] at h
    cases hk : skipB false l with
    | nil => rw [hk] at h; cases h
    | cons c r =>
      rw [hk] at h hs
      simp only at h
      rw [List.length_cons] at hs
      cases ho : oneT (c :: r) with
      | none => rw [ho] at h; injection h with h; omega
      | some p =>
        obtain ⟨t, rest⟩ := p
        rw [ho] at h
        simp only at h
        have hr := (oneT_suffix c r t rest ho).length_le
        cases hc : cutS rest with
        | inr k' =>
          rw [hc] at h
          injection h with h
          have := ih rest.length (by omega) rest k' (Nat.le_refl _) hc
          omega
        | inl us => rw [hc] at h; cases h
theorem tokenBlanks_pure (a0 : ByteArray) (a1 : Int) {q : Prop} (_ : q) : ∃ k, boscagelaw06_TokenBlanks.f k a0 a1 = some true := by
  refine Ev.rounds (g := fun k => boscagelaw06_TokenBlanks.f k a0 a1) ?_
  obtain ⟨hi0, hi1⟩ := idx_in a1
  obtain ⟨a, ha⟩ : ∃ a, utf8_RuneLen.f (Int.tmod (wrap64 ((Int.tmod a1 4) + 4)) 4) = some a := ⟨_, if_pos ⟨hi0, hi1⟩⟩
  obtain ⟨hsz, hsk⟩ := ahead_skip ha
  simp only [boscagelaw06_TokenBlanks.f, token_Cut.f, ha, Option.bind_some]
  clear hi0 hi1 ha
  refine Ev.bind live_ev ?_
  by_cases hbig : (a0.size : Int) > 4000
  · exact Ev.pos hbig (Ev.done rfl)
  · refine Ev.neg hbig (Ev.pos (by omega) ?_)
    have hcut : cutS (bytesOf (a ++ a0)) = cutS (bytesOf a0) := by
      rw [bytes_app, ← Ct.cutS_skip (bytesOf a ++ bytesOf a0), hsk, Ct.cutS_skip]
    have hsize : (a ++ a0).size = a.size + a0.size := ByteArray.size_append ..
    unfold cutP
    rw [if_neg (by omega), if_neg (by omega), hcut]
    cases hc : cutS (bytesOf a0) with
    | inr k =>
      have hk := cut_fail _ _ _ (Nat.le_refl _) hc
      rw [bytesOf_length] at hk
      simp only
      refine Ev.pos (by trivial) (Ev.pos (by trivial) (Ev.neg (by decide) ?_))
      have hw : (((a ++ a0).size : Int) - (k : Int) != wrap64 ((a0.size : Int) - (k : Int) + (a.size : Int))) = false := by
        rw [wrap_id (by omega) (by omega), hsize]
        simp
        omega
      rw [hw]
      exact j0_ev a [] (by simp)
    | inl ts =>
      have hlen := tokens_short _ _ _ hc
      rw [bytesOf_length] at hlen
      simp only
      have hm : (ts.map (Ct.toV (a ++ a0).size)).map sOf = ((ts.map (Ct.toV a0.size)).map sOf).map (adj a.size) := by
        rw [List.map_map, List.map_map, List.map_map]
        refine List.map_congr_left fun p hp => ?_
        have hle := cut_left _ _ _ (Nat.le_refl _) hc p hp
        rw [bytesOf_length] at hle
        show sOf (Ct.toV _ p) = adj a.size (sOf (Ct.toV a0.size p))
        unfold adj sOf Ct.toV
        simp only [S30.mk.injEq, true_and]
        rw [hsize, wrap_id (by omega) (by omega)]
        omega
      rw [hm]
      refine Ev.pos (by trivial) (Ev.pos (by simp) (Ev.pos (by trivial) ?_))
      exact j0_ev a _ (by simp only [List.length_map]; omega)
end Go.Proofs.YtffaibjiiiochaaDoor.Pb
