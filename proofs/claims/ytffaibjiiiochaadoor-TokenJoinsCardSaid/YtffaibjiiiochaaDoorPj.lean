/- TokenJoins of layer 6: the plain law. -/
import Derived.Test.YtffaibjiiiochaaDoorQTAx8
import Derived.Test.YtffaibjiiiochaaDoorTj
set_option linter.unusedVariables false
set_option linter.unusedSimpArgs false
namespace Go.Proofs.YtffaibjiiiochaaDoor.Pj
open Go.RowKit Go.Proofs.YtffaibjiiiochaaDoorW.PrintWords Go.Proofs.YtffaibjiiiochaaDoor.Tk Go.Proofs.YtffaibjiiiochaaDoor.Pu Go.Proofs.YtffaibjiiiochaaDoor.QTA Go.Proofs.YtffaibjiiiochaaDoor.Tl Go.Proofs.YtffaibjiiiochaaDoor.Tj
theorem cutP_inl {s : ByteArray} {ts : List TokAt} (hs : s.size ≤ 4096) (h : cutS (bytesOf s) = .inl ts) : cutP s = (ts.map (toS s.size), 0, 0) := by
  unfold cutP
  rw [if_neg (by omega), h]
  simp only [toS, List.map_map]
  rfl
theorem cutP_code {s : ByteArray} (hs : s.size ≤ 4096) (h : (cutP s).2.2 = 0) : ∃ ts, cutS (bytesOf s) = .inl ts := by
  unfold cutP at h
  rw [if_neg (by omega)] at h
  cases hc : cutS (bytesOf s) with
  | inl ts => exact ⟨ts, rfl⟩
  | inr k => rw [hc] at h; exact absurd (show (60 : Int) = 0 from h) (by decide)
def adj (n : Nat) (t : S30) : S30 := ⟨t.f0, t.f1, t.f2, wrap64 (t.f3 + wrap64 ((n : Int) + 1))⟩
theorem rd_at {l : List S30} {i : Nat} (h : i < l.length) : rd_T30 l (i : Int) = l[i] := by
  unfold rd_T30
  rw [Int.toNat_natCast, List.getD_eq_getElem?_getD, List.getElem?_eq_getElem h]; rfl
theorem loop_ev (x0 : ByteArray) (Z Y : List S30) (hY : Y.length ≤ 5000) (hZ : Z.length ≤ 100000) : ∀ (n i : Nat) (X : List S30), Y.length - i ≤ n → i ≤ Y.length → X.length ≤ 5000 + i → Z = X ++ (Y.drop i).map (adj x0.size) →
    Ev (fun k => boscagelaw06_TokenJoins.l0 k x0 true Z 0 X Y (Y.length : Int) (i : Int)) true := by
  have hend : ∀ X : List S30, Z = X ++ (Y.drop Y.length).map (adj x0.size) → Ev (fun k => boscagelaw06_TokenJoins.l0 k x0 true Z 0 X Y (Y.length : Int) (Y.length : Int)) true := by
    intro X hX
    rw [List.drop_length, List.map_nil, List.append_nil] at hX
    subst hX
    refine Ev.at1 ?_
    simp only [boscagelaw06_TokenJoins.l0]
    exact Ev.neg (by omega) (Ev.pos (by trivial) (Ev.pos (by trivial) (Ev.bind (same_ev _ (by omega)) (Ev.done rfl))))
  intro n
  induction n with
  | zero =>
    intro i X h1 h2 h3 hX
    have e : i = Y.length := by omega
    rw [e] at hX ⊢; exact hend X hX
  | succ n ih =>
    intro i X h1 h2 h3 hX
    by_cases hlt : i < Y.length
    · have HW := Aside0.mk (w11 (i := i) (by omega))
      have hnext := ih (i + 1) (X ++ [adj x0.size Y[i]]) (by omega) (by omega) (by simp; omega) (by rw [hX, List.drop_eq_getElem_cons hlt, List.map_cons, List.append_assoc]; rfl)
      refine Ev.at1 ?_
      simp only [boscagelaw06_TokenJoins.l0, rd_at hlt, HW.out]
      exact Ev.pos (by omega) (Ev.pos (by omega) (Ev.pos (by omega) (Ev.pos (by omega) hnext)))
    · have e : i = Y.length := by omega
      rw [e] at hX ⊢; exact hend X hX
theorem j0_true (x0 x1 : ByteArray) (x6 x9 : List S30) : Ev (fun k => boscagelaw06_TokenJoins.j0 k x0 x1 true x6 x9 true) true := by
  refine Ev.at1 ?_
  simp only [boscagelaw06_TokenJoins.j0]
  exact Ev.pos (by trivial) (Ev.done rfl)
theorem bytes_join (a b : ByteArray) : bytesOf ((a ++ (⟨#[10]⟩ : ByteArray)) ++ b) = bytesOf a ++ 10 :: bytesOf b := by
  have h : ∀ x y : ByteArray, bytesOf (x ++ y) = bytesOf x ++ bytesOf y := fun x y => by
    unfold bytesOf
    simp [ByteArray.data_append]
  rw [h, h, List.append_assoc]; rfl
theorem tokenJoins_pure (a0 a1 : ByteArray) : ∃ k, boscagelaw06_TokenJoins.f k a0 a1 = some true := by
  refine Ev.rounds (g := fun k => boscagelaw06_TokenJoins.f k a0 a1) ?_
  simp only [boscagelaw06_TokenJoins.f, token_Cut.f, Option.bind_some]
  refine Ev.bind live_ev ?_
  by_cases he : (cutP a0).2.2 = 0
  · refine Ev.pos he ?_
    by_cases hf : (cutP a1).2.2 = 0
    · refine Ev.pos hf ?_
      by_cases hA : (a0.size : Int) > 2000
      · exact Ev.pos hA (j0_true _ _ _ _)
      · refine Ev.neg hA ?_
        by_cases hB : (a1.size : Int) > 2000
        · exact Ev.pos hB (j0_true _ _ _ _)
        · refine Ev.neg hB ?_
          obtain ⟨xs, hx⟩ := cutP_code (s := a0) (by omega) he
          obtain ⟨ys, hy⟩ := cutP_code (s := a1) (by omega) hf
          have hxp := cutP_inl (s := a0) (by omega) hx
          have hyp := cutP_inl (s := a1) (by omega) hy
          have hxl := cutP_short a0
          have hyl := cutP_short a1
          have hne := cutS_ne hx
          have hpos : 0 < xs.length := List.length_pos_iff.2 hne
          rw [hxp] at hxl
          rw [hyp] at hyl
          simp only [List.length_map] at hxl hyl
          have hz : cutS (bytesOf ((a0 ++ (⟨#[10]⟩ : ByteArray)) ++ a1)) = .inl (xs.dropLast.map (fun p => (p.1, p.2 + 1 + (bytesOf a1).length)) ++ ys) := by
            rw [bytes_join, cut_join _ _ _ _ (Nat.le_refl _) hx, hy]
          have hsz : ((a0 ++ (⟨#[10]⟩ : ByteArray)) ++ a1).size = a0.size + 1 + a1.size := by
            rw [← bytesOf_length, bytes_join, List.length_append, List.length_cons, bytesOf_length, bytesOf_length]; omega
          have hzp := cutP_inl (s := (a0 ++ (⟨#[10]⟩ : ByteArray)) ++ a1) (by omega) hz
          have h1 : (a0 ++ (⟨#[10]⟩ : ByteArray)).size = a0.size + 1 := by rw [ByteArray.size_append]; rfl
          have hb : (((xs.map (toS a0.size)).length : Int) == 0) = false := by rw [List.length_map]; simp; omega
          rw [hxp, hyp]
          simp only [hb]
          refine Ev.at1 ?_
          simp only [boscagelaw06_TokenJoins.j0]
          refine Ev.neg (by decide) (Ev.pos (by omega) (Ev.pos (by omega) ?_))
          rw [token_Cut.f, hzp]
          simp only [Option.bind_some]
          have hw : wrap64 (((xs.map (toS a0.size)).length : Int) - 1) = ((xs.length - 1 : Nat) : Int) := by
            rw [List.length_map, wrap_id (by omega) (by omega)]; omega
          have HW := Aside0.mk hw
          have hln : (xs.map (toS a0.size)).length = xs.length := List.length_map ..
          clear hw
          rw [HW.out]
          refine Ev.pos (by omega) (Ev.pos (by omega) ?_)
          simp only [Int.toNat_natCast, List.nil_append]
          have htk : (xs.map (toS a0.size)).take (xs.length - 1) = xs.dropLast.map (toS a0.size) := by
            rw [← List.map_take, List.dropLast_eq_take]
          rw [htk]
          refine Ev.pos (by rw [List.length_map, List.length_dropLast]; simp; omega) ?_
          refine loop_ev a0 _ _ (by rw [List.length_map]; omega) ?_ _ 0 _ (Nat.le_refl _) (Nat.zero_le _) ?_ ?_
          · rw [List.length_map, List.length_append, List.length_map, List.length_dropLast]; omega
          · rw [List.length_map, List.length_dropLast]; omega
          · rw [List.drop_zero, List.map_append, List.map_map, List.map_map]
            congr 1
            · refine List.map_congr_left fun p hp => ?_
              show toS _ (p.1, p.2 + 1 + (bytesOf a1).length) = toS a0.size p
              unfold toS sOf Ct.toV
              simp only [S30.mk.injEq, true_and]
              rw [hsz, bytesOf_length]; omega
            · refine List.map_congr_left fun p hp => ?_
              have hle := cut_left _ _ _ (Nat.le_refl _) hy p hp
              rw [bytesOf_length] at hle
              show toS _ p = adj a0.size (toS a1.size p)
              unfold adj toS sOf Ct.toV
              simp only [S30.mk.injEq, true_and]
              rw [hsz, wrap_id (n := (a0.size : Int) + 1) (by omega) (by omega), wrap_id (by omega) (by omega)]
              omega
    · exact Ev.neg hf (j0_true _ _ _ _)
  · exact Ev.neg he (j0_true _ _ _ _)
end Go.Proofs.YtffaibjiiiochaaDoor.Pj
