/- The cutting methods of layer 6 (part). -/
import Derived.Test.YtffaibjiiiochaaDoorCt
import Derived.Test.YtffaibjiiiochaaDoorCb
set_option linter.unusedVariables false
set_option linter.unusedSimpArgs false
namespace Go.Proofs.YtffaibjiiiochaaDoor.Ct
open Go.RowKit Go.Proofs.YtffaibjiiiochaaDoorW.PrintWords Go.Proofs.YtffaibjiiiochaaDoorW.PrintLast Go.Proofs.YtffaibjiiiochaaDoorW.PrintMore Go.Proofs.YtffaibjiiiochaaDoor.Tk
theorem str1_ne (c : Int) : ((strOfNums [c]).toList == [33, 61]) = false := by
  rw [Lib.toList_data]
  simp [strOfNums]
theorem str2_ne (c d : Int) (h : ¬ ((UInt8.ofNat c.toNat = 33) ∧ UInt8.ofNat d.toNat = 61)) : ((strOfNums [c, d]).toList == [33, 61]) = false := by
  rw [Lib.toList_data]
  simpa [strOfNums] using h
theorem str2_eq : ((strOfNums [33, 61]).toList == [33, 61]) = true := by
  rw [Lib.toList_data]
  rfl
theorem str_ne : (⟨#[60, 62]⟩ : ByteArray) = strOfNums [60, 62] := rfl
theorem ext_str {s : ByteArray} {k : Nat} {part rest : List Int} (h : (bytesOf s).drop k = part ++ rest) : s.extract k (k + part.length) = strOfNums part := by
  have h1 := str_of_bytes (s.extract k (k + part.length)).data.toList
  rw [ext_part h, Array.toArray_toList] at h1
  exact h1
set_option maxHeartbeats 8000000 in
set_option maxRecDepth 100000 in
theorem sign1_ (B g : Nat) (s : ByteArray) (at0 : Nat) (v : Value) (ts : List TokV) (w : World) (hB : B ≤ g) (R : Ctr w g s at0 v) (O : Own B w v ts) (hs : s.size ≤ 1000000) (ha : at0 < s.size) (hl : ts.length ≤ 1000000) (hBw : B ≤ w.heap.size)
    (hc : sign1 (peekS s at0) = true) :
    Calls Tryd.prog 34 #[.pointer (some ⟨g, 0, none⟩)] w fun e w' => Gave B g s at0 ts w ((signT ((bytesOf s).drop at0)).map fun p => ((5, p.1, 0), p.2)) e w' := by
  have HR := Aside0.mk R
  have HO := Aside0.mk O
  have Hs := Aside0.mk hs
  have Ha := Aside0.mk ha
  have HB := Aside0.mk hB
  have HL := Aside0.mk hl
  have HW := Aside0.mk hBw
  obtain ⟨c0, c1, c2, f0, f1, f2⟩ := R.cells
  have hw : IntKind.i64.wrap ((at0 : Int) + 1) = (at0 : Int) + 1 := IntWalk.i64_in _ (by omega)
  have p0 : (0 : Int) ≤ (at0 : Int) := by omega
  have p1 : (at0 : Int) < (s.size : Int) := by omega
  have q1 : (at0 : Int) ≤ (at0 : Int) + 1 := by omega
  have q2 : (at0 : Int) + 1 ≤ (s.size : Int) := by omega
  have hdr := drop_at ha
  have hpk := peekS_in ha
  have hstr : s.extract at0 (at0 + 1) = strOfNums [peekS s at0] := ext_str (part := [peekS s at0]) (by rw [hdr]; rfl)
  have HD := Aside0.mk hdr
  have hne := str1_ne (peekS s at0)
  have HH : Aside0 (Gave B g s at0 ts w ((signT ((bytesOf s).drop at0)).map fun p => ((5, p.1, 0), p.2)) = Gave B g s at0 ts w (some ((5, [peekS s at0], 0), (bytesOf s).drop (at0 + 1)))) := ⟨by
    rw [hdr]
    generalize peekS s at0 = c at *
    have h2 : c = 61 ∨ c = 43 ∨ c = 45 ∨ c = 42 ∨ c = 47 ∨ c = 37 ∨ c = 40 ∨ c = 41 ∨ c = 44 ∨ c = 46 ∨ c = 59 := by simpa [sign1, or_assoc] using hc
    rcases h2 with rfl | rfl | rfl | rfl | rfl | rfl | rfl | rfl | rfl | rfl | rfl <;> rfl⟩
  rw [HH.out]
  clear HH HD hdr R O hs hB hl hBw
  generalize peekS s at0 = c at *
  have h2 : c = 61 ∨ c = 43 ∨ c = 45 ∨ c = 42 ∨ c = 47 ∨ c = 37 ∨ c = 40 ∨ c = 41 ∨ c = 44 ∨ c = 46 ∨ c = 59 := by simpa [sign1, or_assoc] using hc
  clear hc
  rcases h2 with rfl | rfl | rfl | rfl | rfl | rfl | rfl | rfl | rfl | rfl | rfl
  all_goals
    go_enter Tryd.func34, Tryd.ntmps34
    go_wp2_with fail
    go_quiet (fail)
    go_wp2_with fail
    go_quiet (fail)
    go_wp2_with fail
    refine (add B g at0 s (at0 + 1) v ts 5 0 0 _ _ HB.out ((((HR.out.drewN _).to (at0 + 1)).drewN _)) (((((Kp.refl B g w).drewN _).set_ HB.out 1 _).drewN _).own HO.out HR.out) HL.out (Nat.le_trans HW.out ((((Kp.refl B g w).drewN _).set_ HB.out 1 _).drewN _).bl.size)).mono ?_
    rintro e w6 ⟨rfl, v6, hR6, hO6, hB6⟩
    go_wp2
    go_ret
    refine ⟨((((Kp.refl B g w).drewN _).set_ HB.out 1 _).drewN _).bl.trans hB6, rfl, at0 + 1, v6, Ha.out, rfl, hR6, hO6⟩
end Go.Proofs.YtffaibjiiiochaaDoor.Ct
