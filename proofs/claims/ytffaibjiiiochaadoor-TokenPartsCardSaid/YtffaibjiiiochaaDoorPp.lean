/- TokenParts of layer 6: the plain law. -/
import Derived.Test.YtffaibjiiiochaaDoorQTAx7
import Derived.Test.YtffaibjiiiochaaDoorTj
set_option linter.unusedVariables false
set_option linter.unusedSimpArgs false
namespace Go.Proofs.YtffaibjiiiochaaDoor.Pp
open Go.RowKit Go.Proofs.YtffaibjiiiochaaDoorW.PrintWords Go.Proofs.YtffaibjiiiochaaDoor.Tk Go.Proofs.YtffaibjiiiochaaDoor.Pu Go.Proofs.YtffaibjiiiochaaDoor.QTA Go.Proofs.YtffaibjiiiochaaDoor.Tl Go.Proofs.YtffaibjiiiochaaDoor.Tj
theorem cutP_inl {s : ByteArray} {ts : List TokAt} (hs : s.size ≤ 4096) (h : cutS (bytesOf s) = .inl ts) : cutP s = (ts.map (toS s.size), 0, 0) := by
  unfold cutP
  rw [if_neg (by omega), h]
  simp only [toS, List.map_map]
  rfl
theorem cutP_code {s : ByteArray} (hs : s.size ≤ 4096) (h : (cutP s).2.2 = 0) : ∃ ts, cutS (bytesOf s) = .inl ts := by
  unfold cutP at h
  rw [if_neg (by omega)] at h
  cases hc : cutS (bytesOf s) with
  | inl ts => exact ⟨ts, rfl⟩
  | inr k => rw [hc] at h; exact absurd (show (60 : Int) = 0 from h) (by decide)
theorem rd_at {l : List S30} {i : Nat} (h : i < l.length) : rd_T30 l (i : Int) = l[i] := by
  unfold rd_T30
  rw [Int.toNat_natCast, List.getD_eq_getElem?_getD, List.getElem?_eq_getElem h]; rfl
theorem drop_suffix {b l : List Int} (h : b <:+ l) {m : Nat} (hm : m ≤ b.length) : l.drop (l.length - m) = b.drop (b.length - m) := by
  obtain ⟨a, rfl⟩ := h
  rw [List.length_append, List.drop_append, List.drop_eq_nil_of_le (by omega), List.nil_append]
  congr 1
  omega
/-- tokens from one of them on; their places; the last -/
theorem parts : ∀ (n : Nat) (l : List Int) (ts : List TokAt), l.length ≤ n → cutS l = .inl ts →
    (∀ (i : Nat) (h : i < ts.length), (ts[i]).2 ≤ l.length ∧ cutS (l.drop (l.length - (ts[i]).2)) = .inl (ts.drop i)) ∧
    (∀ (i : Nat) (h : i + 1 < ts.length), (ts[i + 1]).2 < (ts[i]).2) ∧ ts.getLast? = some ((6, [], 0), 0) := by
  intro n
  induction n using Nat.strongRecOn with
  | _ n ih =>
    intro l xs hl h
    have hcl := cut_left _ _ _ (Nat.le_refl _) h
    have hs := skipB_suffix false l
    have hcs := Ct.cutS_skip l
    have h0 := h
    rw [cutS_eq] at h
    cases hk : skipB false l with
    | nil =>
      rw [hk] at h
      injection h with h
      subst h
      refine ⟨fun i hi => ?_, fun i hi => ?_, rfl⟩
      · have e : i = 0 := by simp at hi; omega
        subst e
        refine ⟨Nat.zero_le _, ?_⟩
        show cutS (l.drop (l.length - 0)) = _
        rw [Nat.sub_zero, List.drop_length]; rfl
      · simp at hi
    | cons c r =>
      rw [hk] at h hs hcs
      simp only at h
      cases ho : oneT (c :: r) with
      | none => rw [ho] at h; cases h
      | some p =>
        obtain ⟨t, rest⟩ := p
        rw [ho] at h
        simp only at h
        have hrs := oneT_suffix c r t rest ho
        have hr := hrs.length_le
        have hsl := hs.length_le
        rw [List.length_cons] at hsl
        cases hc : cutS rest with
        | inr k => rw [hc] at h; cases h
        | inl us =>
          rw [hc] at h
          simp only [Sum.inl.injEq] at h
          obtain ⟨i1, i2, i3⟩ := ih rest.length (by omega) rest us (Nat.le_refl _) hc
          have hule := cut_left _ _ _ (Nat.le_refl _) hc
          have hsuf : rest <:+ l := (hrs.trans (List.suffix_cons c r)).trans hs
          subst h
          refine ⟨fun i hi => ?_, fun i hi => ?_, ?_⟩
          · cases i with
            | zero =>
              refine ⟨hsl, ?_⟩
              show cutS (l.drop (l.length - (r.length + 1))) = .inl ((t, r.length + 1) :: us)
              have e := drop_suffix hs (m := r.length + 1) (by simp)
              rw [e, List.length_cons, Nat.sub_self, List.drop_zero, hcs, h0]
            | succ i =>
              have hi' : i < us.length := by simpa using hi
              obtain ⟨a1, a2⟩ := i1 i hi'
              refine ⟨by show (us[i]).2 ≤ _; omega, ?_⟩
              show cutS (l.drop (l.length - (us[i]).2)) = .inl (us.drop i)
              rw [drop_suffix hsuf a1]
              exact a2
          · cases i with
            | zero =>
              have hi' : 0 < us.length := by simpa using hi
              have := hule us[0] (List.getElem_mem hi')
              show (us[0]).2 < r.length + 1
              omega
            | succ i => exact i2 i (by simpa using hi)
          · have hne := cutS_ne hc
            rw [List.getLast?_cons_of_ne_nil hne]
            exact i3
def sub (n : Nat) (t : S30) : S30 := ⟨t.f0, t.f1, t.f2, wrap64 (t.f3 - (n : Int))⟩
theorem loop_ev (fr : Nat) (Z Y : List S30) (hY : Y.length ≤ 5000) (hZ : Z.length ≤ 100000) : ∀ (n i : Nat) (X : List S30), Y.length - i ≤ n → i ≤ Y.length → X.length ≤ i → Z = X ++ (Y.drop i).map (sub fr) →
    Ev (fun k => boscagelaw06_TokenParts.l1 k true (fr : Int) Z 0 X Y (Y.length : Int) (i : Int)) true := by
  have hend : ∀ X : List S30, Z = X ++ (Y.drop Y.length).map (sub fr) → Ev (fun k => boscagelaw06_TokenParts.l1 k true (fr : Int) Z 0 X Y (Y.length : Int) (Y.length : Int)) true := by
    intro X hX
    rw [List.drop_length, List.map_nil, List.append_nil] at hX
    subst hX
    refine Ev.at1 ?_
    simp only [boscagelaw06_TokenParts.l1]
    exact Ev.neg (by omega) (Ev.pos (by trivial) (Ev.pos (by trivial) (Ev.bind (same_ev _ (by omega)) (Ev.done rfl))))
  intro n
  induction n with
  | zero =>
    intro i X h1 h2 h3 hX
    have e : i = Y.length := by omega
    rw [e] at hX ⊢; exact hend X hX
  | succ n ih =>
    intro i X h1 h2 h3 hX
    by_cases hlt : i < Y.length
    · have HW := Aside0.mk (w11 (i := i) (by omega))
      have hnext := ih (i + 1) (X ++ [sub fr Y[i]]) (by omega) (by omega) (by simp; omega) (by rw [hX, List.drop_eq_getElem_cons hlt, List.map_cons, List.append_assoc]; rfl)
      refine Ev.at1 ?_
      simp only [boscagelaw06_TokenParts.l1, rd_at hlt, HW.out]
      exact Ev.pos (by omega) (Ev.pos (by omega) (Ev.pos (by omega) (Ev.pos (by omega) hnext)))
    · have e : i = Y.length := by omega
      rw [e] at hX ⊢; exact hend X hX
theorem idx_in (a L : Int) (h0 : 0 < L) (h1 : L ≤ 100000) : 0 ≤ Int.tmod (wrap64 ((Int.tmod a L) + L)) L ∧ Int.tmod (wrap64 ((Int.tmod a L) + L)) L < L := by
  have h2 : -L < Int.tmod a L := Int.lt_tmod_of_pos a h0
  have h3 : Int.tmod a L < L := Int.tmod_lt_of_pos a h0
  rw [wrap_id (by omega) (by omega)]
  exact ⟨Int.tmod_nonneg L (by omega), Int.tmod_lt_of_pos _ h0⟩
theorem toS_f3 (n : Nat) (t : TokAt) : (toS n t).f3 = (n : Int) - (t.2 : Int) := rfl
theorem l0_ev (s : ByteArray) (hs : s.size ≤ 4096) (x1 : Int) (ts : List TokAt) (h : cutS (bytesOf s) = .inl ts) (hlen : ts.length ≤ 4097) : ∀ (n i : Nat), ts.length - i ≤ n → 1 ≤ i → i ≤ ts.length →
    Ev (fun k => boscagelaw06_TokenParts.l0 k s x1 true (ts.map (toS s.size)) (i : Int)) true := by
  obtain ⟨hp1, hp2, hp3⟩ := parts _ _ _ (Nat.le_refl _) h
  have hne := cutS_ne h
  have hpos : 0 < ts.length := List.length_pos_iff.2 hne
  have hml : (ts.map (toS s.size)).length = ts.length := List.length_map ..
  have hend : Ev (fun k => boscagelaw06_TokenParts.l0 k s x1 true (ts.map (toS s.size)) (ts.length : Int)) true := by
    obtain ⟨hj0, hj1⟩ := idx_in x1 (ts.length : Int) (by omega) (by omega)
    obtain ⟨j, hj⟩ : ∃ j : Nat, Int.tmod (wrap64 ((Int.tmod x1 (ts.length : Int)) + (ts.length : Int))) (ts.length : Int) = (j : Int) := ⟨(Int.tmod (wrap64 ((Int.tmod x1 (ts.length : Int)) + (ts.length : Int))) (ts.length : Int)).toNat, by omega⟩
    rw [hj] at hj0 hj1
    have hjl : j < ts.length := by omega
    obtain ⟨hle, hcut⟩ := hp1 j hjl
    rw [bytesOf_length] at hle hcut
    have hrd : rd_T30 (ts.map (toS s.size)) (j : Int) = toS s.size ts[j] := by rw [rd_at (by rw [hml]; exact hjl), List.getElem_map]
    have hf3 : (toS s.size ts[j]).f3 = ((s.size - (ts[j]).2 : Nat) : Int) := by rw [toS_f3]; omega
    have HJ := Aside0.mk hj
    clear hj
    refine Ev.at1 ?_
    simp only [boscagelaw06_TokenParts.l0, hml, HJ.out, hrd, hf3]
    refine Ev.neg (by omega) (Ev.neg (by omega) (Ev.pos (by omega) (Ev.pos (by omega) (Ev.neg (by omega) ?_))))
    have hgt : decide (((s.size - (ts[j]).2 : Nat) : Int) > (s.size : Int)) = false := decide_eq_false (by omega)
    simp only [hgt]
    refine Ev.at1 ?_
    simp only [boscagelaw06_TokenParts.j2]
    refine Ev.neg (by decide) (Ev.pos (by omega) (Ev.pos (by omega) ?_))
    have hZb : bytesOf (s.extract (s.size - (ts[j]).2) s.size) = (bytesOf s).drop (s.size - (ts[j]).2) := Ct.ext_bytes s _
    have hZs : (s.extract (s.size - (ts[j]).2) s.size).size = (ts[j]).2 := by rw [← bytesOf_length, hZb, List.length_drop, bytesOf_length]; omega
    have hZ := cutP_inl (s := s.extract (s.size - (ts[j]).2) s.size) (by omega) (by rw [hZb]; exact hcut)
    rw [hZs] at hZ
    simp only [Int.toNat_natCast, token_Cut.f, hZ, Option.bind_some, hml]
    refine Ev.pos (by omega) (Ev.pos (by omega) ?_)
    refine loop_ev (s.size - (ts[j]).2) _ _ ?_ ?_ _ 0 [] (Nat.le_refl _) (Nat.zero_le _) (Nat.zero_le _) ?_
    · rw [List.length_drop, hml]; omega
    · rw [List.length_map, List.length_drop]; omega
    · rw [List.drop_zero, List.nil_append, ← List.map_drop, List.map_map]
      refine List.map_congr_left fun p hp => ?_
      have hpl := cut_left _ _ _ (Nat.le_refl _) hcut p hp
      rw [List.length_drop, bytesOf_length] at hpl
      show toS _ p = sub _ (toS s.size p)
      unfold sub toS sOf Ct.toV
      simp only [S30.mk.injEq, true_and]
      rw [wrap_id (by omega) (by omega)]
      omega
  intro n
  induction n with
  | zero =>
    intro i h1 h2 h3
    have e : i = ts.length := by omega
    rw [e]; exact hend
  | succ n ih =>
    intro i h1 h2 h3
    by_cases hlt : i < ts.length
    · have HW := Aside0.mk (w11 (i := i) (by omega))
      have hw : wrap64 ((i : Int) - 1) = ((i - 1 : Nat) : Int) := by rw [wrap_id (by omega) (by omega)]; omega
      have HW2 := Aside0.mk hw
      clear hw
      have hr0 : rd_T30 (ts.map (toS s.size)) (i : Int) = toS s.size ts[i] := by rw [rd_at (by rw [hml]; exact hlt), List.getElem_map]
      have hr1 : rd_T30 (ts.map (toS s.size)) ((i - 1 : Nat) : Int) = toS s.size (ts[i - 1]'(by omega)) := by rw [rd_at (by rw [hml]; omega), List.getElem_map]
      have hdec := hp2 (i - 1) (by omega)
      have hi1 : i - 1 + 1 = i := by omega
      simp only [hi1] at hdec
      have hnext := ih (i + 1) (by omega) (by omega) (by omega)
      refine Ev.at1 ?_
      simp only [boscagelaw06_TokenParts.l0, hml, HW.out, HW2.out, hr0, hr1, toS_f3]
      exact Ev.pos (by omega) (Ev.pos (by omega) (Ev.pos (by omega) (Ev.pos (by omega) (Ev.neg (by omega) hnext))))
    · have e : i = ts.length := by omega
      rw [e]; exact hend
theorem tokenParts_pure (a0 : ByteArray) (a1 : Int) {q : Prop} (_ : q) : ∃ k, boscagelaw06_TokenParts.f k a0 a1 = some true := by
  refine Ev.rounds (g := fun k => boscagelaw06_TokenParts.f k a0 a1) ?_
  simp only [boscagelaw06_TokenParts.f, token_Cut.f, Option.bind_some]
  refine Ev.bind live_ev ?_
  by_cases hcode : (cutP a0).2.2 = 0
  · refine Ev.pos hcode ?_
    have hs : a0.size ≤ 4096 := by
      rcases Nat.lt_or_ge 4096 a0.size with h | h
      · unfold cutP at hcode
        rw [if_pos h] at hcode
        exact absurd (show (2 : Int) = 0 from hcode) (by decide)
      · exact h
    obtain ⟨ts, hts⟩ := cutP_code hs hcode
    have hp := cutP_inl hs hts
    have hlen := cutP_short a0
    rw [hp] at hlen ⊢
    simp only [List.length_map] at hlen
    have hne := cutS_ne hts
    have hpos : 0 < ts.length := List.length_pos_iff.2 hne
    obtain ⟨-, -, hlast⟩ := parts _ _ _ (Nat.le_refl _) hts
    have hml : (ts.map (toS a0.size)).length = ts.length := List.length_map ..
    have hw : wrap64 ((ts.length : Int) - 1) = ((ts.length - 1 : Nat) : Int) := by rw [wrap_id (by omega) (by omega)]; omega
    have HW := Aside0.mk hw
    clear hw
    have hl : ts[ts.length - 1]'(by omega) = ((6, [], 0), 0) := by
      rw [List.getLast?_eq_getElem?, List.getElem?_eq_getElem (by omega)] at hlast
      exact Option.some.inj hlast
    have hrd : rd_T30 (ts.map (toS a0.size)) ((ts.length - 1 : Nat) : Int) = ⟨6, ⟨#[]⟩, 0, (a0.size : Int)⟩ := by
      rw [rd_at (by rw [hml]; omega), List.getElem_map, hl]
      unfold toS sOf Ct.toV
      simp
      rfl
    simp only [hml, HW.out, hrd]
    refine Ev.neg (by omega) (Ev.pos (by omega) (Ev.pos (by omega) ?_))
    refine Ev.at1 ?_
    simp only [boscagelaw06_TokenParts.j0]
    refine Ev.neg ?_ ?_
    · rw [bs_toList]
      simp [bs]
    · exact l0_ev a0 hs a1 ts hts hlen _ 1 (Nat.le_refl _) (Nat.le_refl _) (by omega)
  · refine Ev.neg hcode (Ev.pos (by trivial) (Ev.done ?_))
    unfold cutP at hcode ⊢
    split
    · rfl
    · rename_i h
      rw [if_neg h] at hcode
      cases hc : cutS (bytesOf a0) with
      | inr k => rfl
      | inl ts => rw [hc] at hcode; exact absurd rfl hcode
end Go.Proofs.YtffaibjiiiochaaDoor.Pp
