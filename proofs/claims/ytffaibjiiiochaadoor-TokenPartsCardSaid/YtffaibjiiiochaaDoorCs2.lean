/- The cutting methods of layer 6 (part). -/
import Derived.Test.YtffaibjiiiochaaDoorCt
import Derived.Test.YtffaibjiiiochaaDoorCs
set_option linter.unusedVariables false
set_option linter.unusedSimpArgs false
namespace Go.Proofs.YtffaibjiiiochaaDoor.Ct
open Go.RowKit Go.Proofs.YtffaibjiiiochaaDoorW.PrintWords Go.Proofs.YtffaibjiiiochaaDoorW.PrintLast Go.Proofs.YtffaibjiiiochaaDoorW.PrintMore Go.Proofs.YtffaibjiiiochaaDoor.Tk
set_option maxHeartbeats 8000000 in
set_option maxRecDepth 100000 in
theorem sign (B g : Nat) (s : ByteArray) (at0 : Nat) (v : Value) (ts : List TokV) (w : World) (hB : B ≤ g) (R : Ctr w g s at0 v) (O : Own B w v ts) (hs : s.size ≤ 1000000) (ha : at0 < s.size) (hl : ts.length ≤ 1000000) (hBw : B ≤ w.heap.size) :
    Calls Tryd.prog 34 #[.pointer (some ⟨g, 0, none⟩)] w fun e w' => Gave B g s at0 ts w ((signT ((bytesOf s).drop at0)).map fun p => ((5, p.1, 0), p.2)) e w' := by
  by_cases hc : sign1 (peekS s at0) = true
  · exact sign1_ B g s at0 v ts w hB R O hs ha hl hBw hc
  have HR := Aside0.mk R
  have HO := Aside0.mk O
  have Hs := Aside0.mk hs
  have Ha := Aside0.mk ha
  have HB := Aside0.mk hB
  have HL := Aside0.mk hl
  have HW := Aside0.mk hBw
  obtain ⟨c0, c1, c2, f0, f1, f2⟩ := R.cells
  have hw : IntKind.i64.wrap ((at0 : Int) + 1) = (at0 : Int) + 1 := IntWalk.i64_in _ (by omega)
  have hw2 : IntKind.i64.wrap ((at0 : Int) + 2) = (at0 : Int) + 2 := IntWalk.i64_in _ (by omega)
  have p0 : (0 : Int) ≤ (at0 : Int) := by omega
  have p1 : (at0 : Int) < (s.size : Int) := by omega
  have q1 : (at0 : Int) ≤ (at0 : Int) + 1 := by omega
  have q2 : (at0 : Int) + 1 ≤ (s.size : Int) := by omega
  have r1 : (at0 : Int) ≤ (at0 : Int) + 2 := by omega
  have hdr := drop_at ha
  have hpk := peekS_in ha
  have hstr : s.extract at0 (at0 + 1) = strOfNums [peekS s at0] := ext_str (part := [peekS s at0]) (by rw [hdr]; rfl)
  have hne := str1_ne (peekS s at0)
  have htwo : ∀ d : Int, d ≠ 0 → peekS s (at0 + 1) = d → at0 + 2 ≤ s.size ∧ (bytesOf s).drop (at0 + 1) = d :: (bytesOf s).drop (at0 + 2) ∧ s.extract at0 (at0 + 2) = strOfNums [peekS s at0, d] := by
    intro d hd hp
    have hl1 : at0 + 1 < s.size := by
      rcases Nat.lt_or_ge (at0 + 1) s.size with h' | h'
      · exact h'
      · rw [peekS_out h'] at hp; exact absurd hp.symm hd
    have e := drop_at hl1
    rw [hp] at e
    exact ⟨hl1, e, ext_str (part := [peekS s at0, d]) (by rw [hdr, e]; rfl)⟩
  have hhead := fun (x : Int) (hx : x ≠ 0) => @head_peek s (at0 + 1) x hx
  have HT := Aside0.mk htwo
  have HHd := Aside0.mk hhead
  clear R O hs hB hl hBw htwo hhead
  rw [hdr]
  clear hdr
  generalize hgen : peekS s at0 = c at *
  clear hgen
  by_cases h33 : c = 33
  · subst h33
    by_cases hn : peekS s (at0 + 1) = 61
    · obtain ⟨hl2, hdr2, hstr2⟩ := HT.out 61 (by decide) hn
      have r2 : (at0 : Int) + 2 ≤ (s.size : Int) := by omega
      have hne2 := str2_eq
      have HL2 := Aside0.mk hl2
      have HS : Aside0 (signT (33 :: (bytesOf s).drop (at0 + 1)) = some ([60, 62], (bytesOf s).drop (at0 + 2))) := ⟨by rw [hdr2]; rfl⟩
      have hm : (peekS s (at0 + 1) != 61) = false := by rw [hn]; rfl
      clear hn hdr2 hl2
      go_enter Tryd.func34, Tryd.ntmps34
      go_wp2_with fail
      go_quiet (fail)
      go_wp2_with fail
      refine (peek g s at0 1 v _ (HR.out.drewN _) Hs.out (Nat.le_of_lt Ha.out) (by decide)).mono ?_
      rintro e w1 ⟨rfl, nk, hw1⟩
      have HR1 : Aside0 (Ctr w1 g s at0 v) := ⟨by rw [hw1]; exact HR.out⟩
      have HK1 : Aside0 (Kp B g w w1) := ⟨by rw [hw1]; exact ((Kp.refl B g w).drewN _).drewN _⟩
      clear hw1 c0 c1 c2 f0 f1 f2
      obtain ⟨c0, c1, c2, f0, f1, f2⟩ := HR1.out.cells
      go_wp2_with fail
      go_quiet (fail)
      go_wp2_with fail
      refine (add B g at0 s (at0 + 2) v ts 5 0 0 _ _ HB.out ((HR1.out.to (at0 + 2)).drewN _) (((HK1.out.set_ HB.out 1 _).drewN _).own HO.out HR.out) HL.out (Nat.le_trans HW.out ((HK1.out.set_ HB.out 1 _).drewN _).bl.size)).mono ?_
      rintro e w6 ⟨rfl, v6, hR6, hO6, hB6⟩
      go_wp2
      go_ret
      rw [HS.out]
      refine ⟨((HK1.out.set_ HB.out 1 _).drewN _).bl.trans hB6, rfl, at0 + 2, v6, HL2.out, rfl, hR6, hO6⟩
    · have hh : ¬ ((bytesOf s).drop (at0 + 1)).head? = some 61 := fun h => hn ((HHd.out 61 (by decide)).1 h)
      have HS : Aside0 (signT (33 :: (bytesOf s).drop (at0 + 1)) = none) := ⟨by rw [signT, if_pos rfl, if_neg hh]⟩
      have hm : (peekS s (at0 + 1) != 61) = true := by simpa using hn
      clear hn hh
      go_enter Tryd.func34, Tryd.ntmps34
      go_wp2_with fail
      go_quiet (fail)
      go_wp2_with fail
      refine (peek g s at0 1 v _ (HR.out.drewN _) Hs.out (Nat.le_of_lt Ha.out) (by decide)).mono ?_
      rintro e w1 ⟨rfl, nk, hw1⟩
      have HR1 : Aside0 (Ctr w1 g s at0 v) := ⟨by rw [hw1]; exact HR.out⟩
      have HK1 : Aside0 (Kp B g w w1) := ⟨by rw [hw1]; exact ((Kp.refl B g w).drewN _).drewN _⟩
      clear hw1 c0 c1 c2 f0 f1 f2
      obtain ⟨c0, c1, c2, f0, f1, f2⟩ := HR1.out.cells
      go_wp2_with fail
      go_wp2
      go_ret
      rw [HS.out]
      exact ⟨HK1.out.bl, rfl⟩
  by_cases h124 : c = 124
  · subst h124
    by_cases hn : peekS s (at0 + 1) = 124
    · obtain ⟨hl2, hdr2, hstr2⟩ := HT.out 124 (by decide) hn
      have r2 : (at0 : Int) + 2 ≤ (s.size : Int) := by omega
      have hne2 := str2_ne 124 124 (by decide)
      have HL2 := Aside0.mk hl2
      have HS : Aside0 (signT (124 :: (bytesOf s).drop (at0 + 1)) = some ([124, 124], (bytesOf s).drop (at0 + 2))) := ⟨by rw [hdr2]; rfl⟩
      have hm : (peekS s (at0 + 1) != 124) = false := by rw [hn]; rfl
      clear hn hdr2 hl2 h33
      go_enter Tryd.func34, Tryd.ntmps34
      go_wp2_with fail
      go_quiet (fail)
      go_wp2_with fail
      refine (peek g s at0 1 v _ (HR.out.drewN _) Hs.out (Nat.le_of_lt Ha.out) (by decide)).mono ?_
      rintro e w1 ⟨rfl, nk, hw1⟩
      have HR1 : Aside0 (Ctr w1 g s at0 v) := ⟨by rw [hw1]; exact HR.out⟩
      have HK1 : Aside0 (Kp B g w w1) := ⟨by rw [hw1]; exact ((Kp.refl B g w).drewN _).drewN _⟩
      clear hw1 c0 c1 c2 f0 f1 f2
      obtain ⟨c0, c1, c2, f0, f1, f2⟩ := HR1.out.cells
      go_wp2_with fail
      go_quiet (fail)
      go_wp2_with fail
      refine (add B g at0 s (at0 + 2) v ts 5 0 0 _ _ HB.out ((HR1.out.to (at0 + 2)).drewN _) (((HK1.out.set_ HB.out 1 _).drewN _).own HO.out HR.out) HL.out (Nat.le_trans HW.out ((HK1.out.set_ HB.out 1 _).drewN _).bl.size)).mono ?_
      rintro e w6 ⟨rfl, v6, hR6, hO6, hB6⟩
      go_wp2
      go_ret
      rw [HS.out]
      refine ⟨((HK1.out.set_ HB.out 1 _).drewN _).bl.trans hB6, rfl, at0 + 2, v6, HL2.out, rfl, hR6, hO6⟩
    · have hh : ¬ ((bytesOf s).drop (at0 + 1)).head? = some 124 := fun h => hn ((HHd.out 124 (by decide)).1 h)
      have HS : Aside0 (signT (124 :: (bytesOf s).drop (at0 + 1)) = none) := ⟨by rw [signT, if_neg (by decide), if_pos rfl, if_neg hh]⟩
      have hm : (peekS s (at0 + 1) != 124) = true := by simpa using hn
      clear hn hh h33
      go_enter Tryd.func34, Tryd.ntmps34
      go_wp2_with fail
      go_quiet (fail)
      go_wp2_with fail
      refine (peek g s at0 1 v _ (HR.out.drewN _) Hs.out (Nat.le_of_lt Ha.out) (by decide)).mono ?_
      rintro e w1 ⟨rfl, nk, hw1⟩
      have HR1 : Aside0 (Ctr w1 g s at0 v) := ⟨by rw [hw1]; exact HR.out⟩
      have HK1 : Aside0 (Kp B g w w1) := ⟨by rw [hw1]; exact ((Kp.refl B g w).drewN _).drewN _⟩
      clear hw1 c0 c1 c2 f0 f1 f2
      obtain ⟨c0, c1, c2, f0, f1, f2⟩ := HR1.out.cells
      go_wp2_with fail
      go_wp2
      go_ret
      rw [HS.out]
      exact ⟨HK1.out.bl, rfl⟩
  by_cases h60 : c = 60
  · subst h60
    by_cases hn : peekS s (at0 + 1) = 62
    · obtain ⟨hl2, hdr2, hstr2⟩ := HT.out 62 (by decide) hn
      have r2 : (at0 : Int) + 2 ≤ (s.size : Int) := by omega
      have hne2 := str2_ne 60 62 (by decide)
      have HL2 := Aside0.mk hl2
      have HS : Aside0 (signT (60 :: (bytesOf s).drop (at0 + 1)) = some ([60, 62], (bytesOf s).drop (at0 + 2))) := ⟨by rw [hdr2]; rfl⟩
      have hm : (peekS s (at0 + 1) == 62) = true := by rw [hn]; rfl
      have hm2 : (peekS s (at0 + 1) == 61) = false := by rw [hn]; rfl
      clear hn hdr2 hl2 h33 h124
      go_enter Tryd.func34, Tryd.ntmps34
      go_wp2_with fail
      go_quiet (fail)
      go_wp2_with fail
      refine (peek g s at0 1 v _ (HR.out.drewN _) Hs.out (Nat.le_of_lt Ha.out) (by decide)).mono ?_
      rintro e w1 ⟨rfl, nk, hw1⟩
      have HR1 : Aside0 (Ctr w1 g s at0 v) := ⟨by rw [hw1]; exact HR.out⟩
      have HK1 : Aside0 (Kp B g w w1) := ⟨by rw [hw1]; exact ((Kp.refl B g w).drewN _).drewN _⟩
      clear hw1 c0 c1 c2 f0 f1 f2
      obtain ⟨c0, c1, c2, f0, f1, f2⟩ := HR1.out.cells
      go_wp2_with fail
      refine (peek g s at0 1 v _ HR1.out Hs.out (Nat.le_of_lt Ha.out) (by decide)).mono ?_
      rintro e w2 ⟨rfl, nk2, hw2_⟩
      have HR2 : Aside0 (Ctr w2 g s at0 v) := ⟨by rw [hw2_]; exact HR1.out⟩
      have HK2 : Aside0 (Kp B g w w2) := ⟨by rw [hw2_]; exact HK1.out.drewN _⟩
      clear hw2_ c0 c1 c2 f0 f1 f2
      obtain ⟨c0, c1, c2, f0, f1, f2⟩ := HR2.out.cells
      go_wp2_with fail
      go_quiet (fail)
      go_wp2_with fail
      refine (add B g at0 s (at0 + 2) v ts 5 0 0 _ _ HB.out ((HR2.out.to (at0 + 2)).drewN _) (((HK2.out.set_ HB.out 1 _).drewN _).own HO.out HR.out) HL.out (Nat.le_trans HW.out ((HK2.out.set_ HB.out 1 _).drewN _).bl.size)).mono ?_
      rintro e w6 ⟨rfl, v6, hR6, hO6, hB6⟩
      go_wp2
      go_ret
      rw [HS.out]
      refine ⟨((HK2.out.set_ HB.out 1 _).drewN _).bl.trans hB6, rfl, at0 + 2, v6, HL2.out, rfl, hR6, hO6⟩
    have hm : (peekS s (at0 + 1) == 62) = false := by simpa using hn
    have hh : ¬ ((bytesOf s).drop (at0 + 1)).head? = some 62 := fun h => hn ((HHd.out 62 (by decide)).1 h)
    by_cases hn2 : peekS s (at0 + 1) = 61
    · obtain ⟨hl2, hdr2, hstr2⟩ := HT.out 61 (by decide) hn2
      have r2 : (at0 : Int) + 2 ≤ (s.size : Int) := by omega
      have hne2 := str2_ne 60 61 (by decide)
      have HL2 := Aside0.mk hl2
      have HS : Aside0 (signT (60 :: (bytesOf s).drop (at0 + 1)) = some ([60, 61], (bytesOf s).drop (at0 + 2))) := ⟨by rw [hdr2]; rfl⟩
      have hm2 : (peekS s (at0 + 1) == 61) = true := by rw [hn2]; rfl
      clear hn hn2 hh hdr2 hl2 h33 h124
      go_enter Tryd.func34, Tryd.ntmps34
      go_wp2_with fail
      go_quiet (fail)
      go_wp2_with fail
      refine (peek g s at0 1 v _ (HR.out.drewN _) Hs.out (Nat.le_of_lt Ha.out) (by decide)).mono ?_
      rintro e w1 ⟨rfl, nk, hw1⟩
      have HR1 : Aside0 (Ctr w1 g s at0 v) := ⟨by rw [hw1]; exact HR.out⟩
      have HK1 : Aside0 (Kp B g w w1) := ⟨by rw [hw1]; exact ((Kp.refl B g w).drewN _).drewN _⟩
      clear hw1 c0 c1 c2 f0 f1 f2
      obtain ⟨c0, c1, c2, f0, f1, f2⟩ := HR1.out.cells
      go_wp2_with fail
      refine (peek g s at0 1 v _ HR1.out Hs.out (Nat.le_of_lt Ha.out) (by decide)).mono ?_
      rintro e w2 ⟨rfl, nk2, hw2_⟩
      have HR2 : Aside0 (Ctr w2 g s at0 v) := ⟨by rw [hw2_]; exact HR1.out⟩
      have HK2 : Aside0 (Kp B g w w2) := ⟨by rw [hw2_]; exact HK1.out.drewN _⟩
      clear hw2_ c0 c1 c2 f0 f1 f2
      obtain ⟨c0, c1, c2, f0, f1, f2⟩ := HR2.out.cells
      go_wp2_with fail
      go_quiet (fail)
      go_wp2_with fail
      refine (add B g at0 s (at0 + 2) v ts 5 0 0 _ _ HB.out ((HR2.out.to (at0 + 2)).drewN _) (((HK2.out.set_ HB.out 1 _).drewN _).own HO.out HR.out) HL.out (Nat.le_trans HW.out ((HK2.out.set_ HB.out 1 _).drewN _).bl.size)).mono ?_
      rintro e w6 ⟨rfl, v6, hR6, hO6, hB6⟩
      go_wp2
      go_ret
      rw [HS.out]
      refine ⟨((HK2.out.set_ HB.out 1 _).drewN _).bl.trans hB6, rfl, at0 + 2, v6, HL2.out, rfl, hR6, hO6⟩
    · have hm2 : (peekS s (at0 + 1) == 61) = false := by simpa using hn2
      have hh2 : ¬ ((bytesOf s).drop (at0 + 1)).head? = some 61 := fun h => hn2 ((HHd.out 61 (by decide)).1 h)
      have HS : Aside0 (signT (60 :: (bytesOf s).drop (at0 + 1)) = some ([60], (bytesOf s).drop (at0 + 1))) := ⟨by rw [signT, if_neg (by decide), if_neg (by decide), if_pos rfl, if_neg hh, if_neg hh2]⟩
      clear hn hn2 hh hh2 h33 h124
      go_enter Tryd.func34, Tryd.ntmps34
      go_wp2_with fail
      go_quiet (fail)
      go_wp2_with fail
      refine (peek g s at0 1 v _ (HR.out.drewN _) Hs.out (Nat.le_of_lt Ha.out) (by decide)).mono ?_
      rintro e w1 ⟨rfl, nk, hw1⟩
      have HR1 : Aside0 (Ctr w1 g s at0 v) := ⟨by rw [hw1]; exact HR.out⟩
      have HK1 : Aside0 (Kp B g w w1) := ⟨by rw [hw1]; exact ((Kp.refl B g w).drewN _).drewN _⟩
      clear hw1 c0 c1 c2 f0 f1 f2
      obtain ⟨c0, c1, c2, f0, f1, f2⟩ := HR1.out.cells
      go_wp2_with fail
      refine (peek g s at0 1 v _ HR1.out Hs.out (Nat.le_of_lt Ha.out) (by decide)).mono ?_
      rintro e w2 ⟨rfl, nk2, hw2_⟩
      have HR2 : Aside0 (Ctr w2 g s at0 v) := ⟨by rw [hw2_]; exact HR1.out⟩
      have HK2 : Aside0 (Kp B g w w2) := ⟨by rw [hw2_]; exact HK1.out.drewN _⟩
      clear hw2_ c0 c1 c2 f0 f1 f2
      obtain ⟨c0, c1, c2, f0, f1, f2⟩ := HR2.out.cells
      go_wp2_with fail
      go_quiet (fail)
      go_wp2_with fail
      refine (add B g at0 s (at0 + 1) v ts 5 0 0 _ _ HB.out ((HR2.out.to (at0 + 1)).drewN _) (((HK2.out.set_ HB.out 1 _).drewN _).own HO.out HR.out) HL.out (Nat.le_trans HW.out ((HK2.out.set_ HB.out 1 _).drewN _).bl.size)).mono ?_
      rintro e w6 ⟨rfl, v6, hR6, hO6, hB6⟩
      go_wp2
      go_ret
      rw [HS.out]
      refine ⟨((HK2.out.set_ HB.out 1 _).drewN _).bl.trans hB6, rfl, at0 + 1, v6, Ha.out, rfl, hR6, hO6⟩
  by_cases h62 : c = 62
  · subst h62
    by_cases hn : peekS s (at0 + 1) = 61
    · obtain ⟨hl2, hdr2, hstr2⟩ := HT.out 61 (by decide) hn
      have r2 : (at0 : Int) + 2 ≤ (s.size : Int) := by omega
      have hne2 := str2_ne 62 61 (by decide)
      have HL2 := Aside0.mk hl2
      have HS : Aside0 (signT (62 :: (bytesOf s).drop (at0 + 1)) = some ([62, 61], (bytesOf s).drop (at0 + 2))) := ⟨by rw [hdr2]; rfl⟩
      have hm : (peekS s (at0 + 1) == 61) = true := by rw [hn]; rfl
      clear hn hdr2 hl2 h33 h124 h60
      go_enter Tryd.func34, Tryd.ntmps34
      go_wp2_with fail
      go_quiet (fail)
      go_wp2_with fail
      refine (peek g s at0 1 v _ (HR.out.drewN _) Hs.out (Nat.le_of_lt Ha.out) (by decide)).mono ?_
      rintro e w1 ⟨rfl, nk, hw1⟩
      have HR1 : Aside0 (Ctr w1 g s at0 v) := ⟨by rw [hw1]; exact HR.out⟩
      have HK1 : Aside0 (Kp B g w w1) := ⟨by rw [hw1]; exact ((Kp.refl B g w).drewN _).drewN _⟩
      clear hw1 c0 c1 c2 f0 f1 f2
      obtain ⟨c0, c1, c2, f0, f1, f2⟩ := HR1.out.cells
      go_wp2_with fail
      go_quiet (fail)
      go_wp2_with fail
      refine (add B g at0 s (at0 + 2) v ts 5 0 0 _ _ HB.out ((HR1.out.to (at0 + 2)).drewN _) (((HK1.out.set_ HB.out 1 _).drewN _).own HO.out HR.out) HL.out (Nat.le_trans HW.out ((HK1.out.set_ HB.out 1 _).drewN _).bl.size)).mono ?_
      rintro e w6 ⟨rfl, v6, hR6, hO6, hB6⟩
      go_wp2
      go_ret
      rw [HS.out]
      refine ⟨((HK1.out.set_ HB.out 1 _).drewN _).bl.trans hB6, rfl, at0 + 2, v6, HL2.out, rfl, hR6, hO6⟩
    · have hh : ¬ ((bytesOf s).drop (at0 + 1)).head? = some 61 := fun h => hn ((HHd.out 61 (by decide)).1 h)
      have HS : Aside0 (signT (62 :: (bytesOf s).drop (at0 + 1)) = some ([62], (bytesOf s).drop (at0 + 1))) := ⟨by rw [signT, if_neg (by decide), if_neg (by decide), if_neg (by decide), if_pos rfl, if_neg hh]⟩
      have hm : (peekS s (at0 + 1) == 61) = false := by simpa using hn
      clear hn hh h33 h124 h60
      go_enter Tryd.func34, Tryd.ntmps34
      go_wp2_with fail
      go_quiet (fail)
      go_wp2_with fail
      refine (peek g s at0 1 v _ (HR.out.drewN _) Hs.out (Nat.le_of_lt Ha.out) (by decide)).mono ?_
      rintro e w1 ⟨rfl, nk, hw1⟩
      have HR1 : Aside0 (Ctr w1 g s at0 v) := ⟨by rw [hw1]; exact HR.out⟩
      have HK1 : Aside0 (Kp B g w w1) := ⟨by rw [hw1]; exact ((Kp.refl B g w).drewN _).drewN _⟩
      clear hw1 c0 c1 c2 f0 f1 f2
      obtain ⟨c0, c1, c2, f0, f1, f2⟩ := HR1.out.cells
      go_wp2_with fail
      go_quiet (fail)
      go_wp2_with fail
      refine (add B g at0 s (at0 + 1) v ts 5 0 0 _ _ HB.out ((HR1.out.to (at0 + 1)).drewN _) (((HK1.out.set_ HB.out 1 _).drewN _).own HO.out HR.out) HL.out (Nat.le_trans HW.out ((HK1.out.set_ HB.out 1 _).drewN _).bl.size)).mono ?_
      rintro e w6 ⟨rfl, v6, hR6, hO6, hB6⟩
      go_wp2
      go_ret
      rw [HS.out]
      refine ⟨((HK1.out.set_ HB.out 1 _).drewN _).bl.trans hB6, rfl, at0 + 1, v6, Ha.out, rfl, hR6, hO6⟩
  have HS : Aside0 (signT (c :: (bytesOf s).drop (at0 + 1)) = none) := ⟨by rw [signT, if_neg h33, if_neg h124, if_neg h60, if_neg h62, if_neg hc]⟩
  have e33 : (c == 33) = false := by simpa using h33
  have e124 : (c == 124) = false := by simpa using h124
  have e60 : (c == 60) = false := by simpa using h60
  have e62 : (c == 62) = false := by simpa using h62
  simp only [sign1, Bool.or_eq_true, not_or, Bool.not_eq_true] at hc
  obtain ⟨⟨⟨⟨⟨⟨⟨⟨⟨⟨k1, k2⟩, k3⟩, k4⟩, k5⟩, k6⟩, k7⟩, k8⟩, k9⟩, k10⟩, k11⟩ := hc
  clear h33 h124 h60 h62
  go_enter Tryd.func34, Tryd.ntmps34
  go_wp2_with fail
  go_quiet (fail)
  go_wp2
  go_ret
  rw [HS.out]
  exact ⟨pw_below_drewN (Below.refl B w) _, rfl⟩
end Go.Proofs.YtffaibjiiiochaaDoor.Ct
