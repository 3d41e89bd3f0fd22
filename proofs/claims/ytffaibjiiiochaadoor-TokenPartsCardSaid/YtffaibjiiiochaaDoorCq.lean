/- The cutter of layer 6: Cut. -/
import Derived.Test.YtffaibjiiiochaaDoorCo
set_option linter.unusedVariables false
set_option linter.unusedSimpArgs false
namespace Go.Proofs.YtffaibjiiiochaaDoor.Ct
open Go.RowKit Go.Proofs.YtffaibjiiiochaaDoorW.PrintWords Go.Proofs.YtffaibjiiiochaaDoorW.PrintLast Go.Proofs.YtffaibjiiiochaaDoorW.PrintMore Go.Proofs.YtffaibjiiiochaaDoor.Tk
theorem skipB_idem : ∀ (b : Bool) (l : List Int), skipB false (skipB b l) = skipB b l
  | b, [] => by cases b <;> rfl
  | true, c :: r => by
    rw [skipB]
    split
    · exact skipB_idem false r
    · exact skipB_idem true r
  | false, c :: r => by
    rw [skipB]
    split
    · exact skipB_idem false r
    · rename_i h1
      split
      · exact skipB_idem true r
      · rename_i h2
        rw [skipB, if_neg h1, if_neg h2]
theorem cutS_skip (l : List Int) : cutS (skipB false l) = cutS l := by
  rw [cutS_eq l, cutS_eq (skipB false l), skipB_idem]
/-- tokens in front -/
def pre (ts : List TokAt) : List TokAt ⊕ Nat → List TokAt ⊕ Nat
  | .inr k => .inr k
  | .inl us => .inl (ts ++ us)
theorem pre_nil (o : List TokAt ⊕ Nat) : pre [] o = o := by cases o <;> rfl
theorem pre_cons (ts : List TokAt) (t : TokAt) (o : List TokAt ⊕ Nat) : pre ts (match o with | .inr k => .inr k | .inl us => .inl (t :: us)) = pre (ts ++ [t]) o := by
  cases o <;> simp [pre]
/-- as the program lays it; n: the statement's length -/
def toV (n : Nat) (t : TokAt) : TokV := (t.1.1, strOfNums t.1.2.1, t.1.2.2, (n : Int) - (t.2 : Int))
/-- what Cut comes to -/
def CutR (B : Nat) (s : ByteArray) (e : Ending) (w' : World) : Prop :=
  if 4096 < s.size then e = .returned (.tuple #[.slice none 0 0, .int .i64 0, .int .i64 2])
  else match cutS (bytesOf s) with
    | .inr k => e = .returned (.tuple #[.slice none 0 0, .int .i64 ((s.size : Int) - (k : Int)), .int .i64 60])
    | .inl ts => ∃ v, e = .returned (.tuple #[v, .int .i64 0, .int .i64 0]) ∧ Own B w' v (ts.map (toV s.size))
set_option maxHeartbeats 8000000 in
set_option maxRecDepth 100000 in
theorem Cut (s : ByteArray) (w : World) :
    Calls Tryd.prog 10 #[.string s] w fun e w' => CutR w.heap.size s e w' ∧ Below w.heap.size w w' := by
  by_cases hbig : 4096 < s.size
  · have hd : decide ((4096 : Int) < (s.size : Int)) = true := decide_eq_true (by omega)
    have HB := Aside0.mk hbig
    clear hbig
    go_enter Tryd.func10, Tryd.ntmps10
    go_wp2
    go_ret3
    refine ⟨?_, Below.refl _ _⟩
    unfold CutR
    rw [if_pos HB.out]
    rfl
  · have hd : decide ((4096 : Int) < (s.size : Int)) = false := decide_eq_false (by omega)
    have HS : Aside0 (s.size ≤ 1000000) := ⟨by omega⟩
    have HQ : Aside0 (∀ e w', (match cutS (bytesOf s) with
      | .inr k => e = .returned (.tuple #[.slice none 0 0, .int .i64 ((s.size : Int) - (k : Int)), .int .i64 60])
      | .inl ts => ∃ v, e = .returned (.tuple #[v, .int .i64 0, .int .i64 0]) ∧ Own w.heap.size w' v (ts.map (toV s.size))) → CutR w.heap.size s e w') := ⟨fun e w' h => by unfold CutR; rw [if_neg hbig]; exact h⟩
    clear hbig
    go_enter Tryd.func10, Tryd.ntmps10
    go_wp2_with fail
    have R0 : Ctr (w.alloc (.cells #[.string s, .int .i64 0, .slice none 0 0] 37)) w.heap.size s 0 (.slice none 0 0) := heap_alloc_new w _
    have O0 : Own w.heap.size (w.alloc (.cells #[.string s, .int .i64 0, .slice none 0 0] 37)) (.slice none 0 0) [] := World.ownsRow_nil _ _ _ _
    have B0 : Below w.heap.size w (w.alloc (.cells #[.string s, .int .i64 0, .slice none 0 0] 37)) := (Below.refl _ w).alloc (Nat.le_refl _) _
    refine (blanks w.heap.size w.heap.size s 0 _ _ (Nat.le_refl _) R0 HS.out (Nat.zero_le _)).mono ?_
    rintro e w1 ⟨rfl, at1, -, hle1, hdr1, R1, K1⟩
    rw [List.drop_zero] at hdr1
    have O1 := K1.own O0 R0
    have B1 := B0.trans K1.bl
    have HI : Aside0 (at1 ≤ s.size ∧ skipB false ((bytesOf s).drop at1) = (bytesOf s).drop at1 ∧ cutS (bytesOf s) = pre [] (cutS ((bytesOf s).drop at1))) := ⟨⟨hle1, by rw [hdr1, skipB_idem], by rw [pre_nil, hdr1, cutS_skip]⟩⟩
    have HW1 : Aside0 (Ctr w1 w.heap.size s at1 (.slice none 0 0) ∧ Own w.heap.size w1 (.slice none 0 0) [] ∧ Below w.heap.size w w1) := ⟨⟨R1, O1, B1⟩⟩
    clear hle1 hdr1 R1 K1 O1 B1 R0 O0 B0
    go_wp2_with fail
    go_loopg [] (s.size + 1) (fun gg wr => ∃ (at_ : Nat) (v : Value) (ts : List TokAt), Aside0 (at_ ≤ s.size) ∧ Aside0 (s.size + 1 - at_ ≤ gg) ∧ Aside0 (ts.length ≤ at_) ∧ Aside0 (skipB false ((bytesOf s).drop at_) = (bytesOf s).drop at_) ∧ Aside0 (cutS (bytesOf s) = pre ts (cutS ((bytesOf s).drop at_))) ∧ Aside0 (Ctr wr w.heap.size s at_ v) ∧ Aside0 (Own w.heap.size wr v (ts.map (toV s.size))) ∧ Aside0 (Below w.heap.size w wr))
    case atStart => exact ⟨at1, _, [], ⟨HI.out.1⟩, ⟨by omega⟩, ⟨Nat.zero_le _⟩, ⟨HI.out.2.1⟩, ⟨HI.out.2.2⟩, ⟨HW1.out.1⟩, ⟨HW1.out.2.1⟩, ⟨HW1.out.2.2⟩⟩
    case round =>
      clear HI HW1
      obtain ⟨at_, v, ts, ha1, hg, hll, hsk, he, HR, HO, HBl⟩ := hrel
      obtain ⟨c0, c1, c2, f0, f1, f2⟩ := HR.out.cells
      by_cases hlt : at_ < s.size
      · have hd1 : decide (at_ < s.size) = true := decide_eq_true hlt
        have HLT := Aside0.mk hlt
        clear hlt
        go_wp2_with fail
        refine (one w.heap.size w.heap.size s at_ v _ _ (Nat.le_refl _) HR.out HO.out HS.out HLT.out (by rw [List.length_map]; have := hll.out; have := ha1.out; have := HS.out; omega) HBl.out.size).mono ?_
        intro e w2 hg2
        obtain ⟨o, ho⟩ : ∃ o, o = oneT ((bytesOf s).drop at_) := ⟨_, rfl⟩
        rw [← ho] at hg2
        have HOo := Aside0.mk ho
        clear ho
        cases o with
        | none =>
          obtain ⟨hb2, rfl⟩ := hg2
          have HE : Aside0 (cutS (bytesOf s) = .inr (s.size - at_)) := ⟨by
            rw [he.out, cutS_eq, hsk.out]
            have h1 := drop_at HLT.out
            have h2 := HOo.out
            rw [h1] at h2 ⊢
            simp only
            rw [← h2]
            show Sum.inr _ = Sum.inr _
            rw [List.length_drop, bytesOf_length]
            congr 1
            have := HLT.out
            omega⟩
          have HB2 := Aside0.mk (HBl.out.trans hb2)
          clear hb2
          go_wp2
          go_ret3
          refine ⟨HQ.out _ _ ?_, HB2.out⟩
          rw [HE.out]
          have e1 : ((s.size : Int) - ((s.size - at_ : Nat) : Int)) = (at_ : Int) := by have := HLT.out; omega
          show _ = Ending.returned (.tuple #[.slice none 0 0, .int .i64 ((s.size : Int) - ((s.size - at_ : Nat) : Int)), .int .i64 60])
          rw [e1]
          rfl
        | some p =>
          obtain ⟨t, rest⟩ := p
          obtain ⟨hb2, rfl, at2, v2, hle2, hdr2, R2, O2⟩ := hg2
          have HG2 := Aside0.mk (And.intro hle2 (And.intro hdr2 (And.intro R2 (And.intro O2 (HBl.out.trans hb2)))))
          have hlt2 : at_ < at2 := by
            have h1 := drop_at HLT.out
            have h2 := HOo.out
            rw [h1] at h2
            have h3 := (oneT_suffix _ _ _ _ h2.symm).length_le
            rw [← hdr2, List.length_drop, List.length_drop, bytesOf_length] at h3
            have := HLT.out
            omega
          have HLT2 := Aside0.mk hlt2
          clear hle2 hdr2 R2 O2 hb2 hlt2 c0 c1 c2 f0 f1 f2
          go_wp2_with fail
          refine (blanks w.heap.size w.heap.size s at2 v2 _ (Nat.le_refl _) HG2.out.2.2.1 HS.out HG2.out.1).mono ?_
          rintro e w3 ⟨rfl, at3, hge3, hle3, hdr3, R3, K3⟩
          have HG3 := Aside0.mk (And.intro hge3 (And.intro hle3 (And.intro hdr3 (And.intro R3 (And.intro (K3.own HG2.out.2.2.2.1 HG2.out.2.2.1) (HG2.out.2.2.2.2.trans K3.bl))))))
          clear hge3 hle3 hdr3 R3 K3
          go_wp2
          go_roundg (s.size - at_)
          case measure => have := hg.out; have := HLT.out; omega
          case rel =>
            obtain ⟨g1, g2, g3, g4, g5, g6⟩ := HG3.out
            obtain ⟨k1, k2, -⟩ := HG2.out
            refine ⟨at3, v2, ts ++ [(t, s.size - at_)], ⟨g2⟩, ⟨by have := HLT2.out; omega⟩, ⟨by have := HLT2.out; have := hll.out; simp; omega⟩, ⟨by rw [g3, skipB_idem]⟩, ⟨?_⟩, ⟨g4⟩, ⟨?_⟩, ⟨g6⟩⟩
            · rw [he.out, ← pre_cons, g3, cutS_skip, k2, cutS_eq ((bytesOf s).drop at_), hsk.out]
              have h1 := drop_at HLT.out
              have h2 := HOo.out
              rw [h1] at h2 ⊢
              simp only
              rw [← h2]
              have h3 : ((bytesOf s).drop (at_ + 1)).length + 1 = s.size - at_ := by rw [List.length_drop, bytesOf_length]; have := HLT.out; omega
              simp only [h3]
              rfl
            · rw [List.map_append]
              have e1 : toV s.size (t, s.size - at_) = (t.1, strOfNums t.2.1, t.2.2, (at_ : Int)) := by
                unfold toV
                have := HLT.out
                simp only [Prod.mk.injEq, true_and]
                omega
              rw [List.map_cons, List.map_nil, e1]
              exact g5
      · have hd1 : decide (at_ < s.size) = false := decide_eq_false hlt
        have heq : at_ = s.size := by have := ha1.out; omega
        have HE : Aside0 (cutS (bytesOf s) = .inl (ts ++ [((6, [], 0), 0)])) := ⟨by
          rw [he.out, heq, drop_end (Nat.le_refl _)]
          rfl⟩
        have HAt := Aside0.mk heq
        clear hlt heq he
        go_wp2_with fail
        refine (add w.heap.size w.heap.size s.size s at_ v _ 6 0 0 _ _ (Nat.le_refl _) HR.out HO.out (by rw [List.length_map]; have := hll.out; have := ha1.out; have := HS.out; omega) HBl.out.size).mono ?_
        rintro e w2 ⟨rfl, v2, R2, O2, B2⟩
        have HO2 := Aside0.mk O2
        have HB2 := Aside0.mk (HBl.out.trans B2)
        clear O2 B2 c0 c1 c2 f0 f1 f2
        obtain ⟨c0, c1, c2, f0, f1, f2⟩ := R2.cells
        go_wp2
        go_ret3
        refine ⟨HQ.out _ _ ?_, HB2.out⟩
        rw [HE.out]
        refine ⟨v2, rfl, ?_⟩
        rw [List.map_append]
        have e1 : toV s.size ((6, [], 0), 0) = (6, ⟨#[]⟩, 0, (s.size : Int)) := by
          unfold toV
          simp
          rfl
        rw [List.map_cons, List.map_nil, e1]
        exact HO2.out
end Go.Proofs.YtffaibjiiiochaaDoor.Ct
