/- The cutting methods of layer 6 (part). -/
import Derived.Test.YtffaibjiiiochaaDoorCt
set_option linter.unusedVariables false
set_option linter.unusedSimpArgs false
namespace Go.Proofs.YtffaibjiiiochaaDoor.Ct
open Go.RowKit Go.Proofs.YtffaibjiiiochaaDoorW.PrintWords Go.Proofs.YtffaibjiiiochaaDoorW.PrintLast Go.Proofs.YtffaibjiiiochaaDoorW.PrintMore Go.Proofs.YtffaibjiiiochaaDoor.Tk
set_option maxHeartbeats 4000000 in
set_option maxRecDepth 100000 in
theorem word (B g : Nat) (s : ByteArray) (at0 : Nat) (v : Value) (ts : List TokV) (w : World) (hB : B ≤ g) (R : Ctr w g s at0 v) (O : Own B w v ts) (hs : s.size ≤ 1000000) (ha : at0 ≤ s.size) (hl : ts.length ≤ 1000000) (hBw : B ≤ w.heap.size) :
    Calls Tryd.prog 31 #[.pointer (some ⟨g, 0, none⟩)] w fun e w' => Gave B g s at0 ts w (wordT ((bytesOf s).drop at0)) e w' := by
  have HR := Aside0.mk R
  have HO := Aside0.mk O
  have HR0 := Aside0.mk R
  have Hs := Aside0.mk hs
  have Ha := Aside0.mk ha
  have HB := Aside0.mk hB
  have HL := Aside0.mk hl
  have HW := Aside0.mk hBw
  obtain ⟨c0, c1, c2, f0, f1, f2⟩ := R.cells
  clear R O hs ha hB hl hBw
  go_enter Tryd.func31, Tryd.ntmps31
  go_wp2_with fail
  clear c0 c1 c2 f0 f1 f2
  go_loopg [] (s.size + 1) (fun gg wr => ∃ (at_ : Nat) (part : List Int), Aside0 (at_ ≤ s.size) ∧ Aside0 (s.size + 1 - at_ ≤ gg) ∧ Aside0 (at0 + part.length = at_) ∧ Aside0 (((bytesOf s).drop at0).takeWhile isLD = part ++ ((bytesOf s).drop at_).takeWhile isLD) ∧ Aside0 (((bytesOf s).drop at0).dropWhile isLD = ((bytesOf s).drop at_).dropWhile isLD) ∧ Aside0 (Ctr wr g s at_ v) ∧ Aside0 (Kp B g w wr))
  case atStart => exact ⟨at0, [], Ha, ⟨by omega⟩, ⟨rfl⟩, ⟨rfl⟩, ⟨rfl⟩, HR, ⟨Kp.refl B g w⟩⟩
  case round =>
    clear HR
    obtain ⟨at_, part, ha1, hg, hp, htw, hdw, HR, HK⟩ := hrel
    obtain ⟨c0, c1, c2, f0, f1, f2⟩ := HR.out.cells
    have hr := peekS_range s (at_ + 0)
    have hstep : isLD (peekS s at_) = true → at_ < s.size ∧ ((bytesOf s).drop at_).takeWhile isLD = peekS s at_ :: ((bytesOf s).drop (at_ + 1)).takeWhile isLD ∧ ((bytesOf s).drop at_).dropWhile isLD = ((bytesOf s).drop (at_ + 1)).dropWhile isLD := by
      intro h
      have hlt : at_ < s.size := by
        rcases Nat.lt_or_ge at_ s.size with h' | h'
        · exact h'
        · rw [peekS_out h'] at h; cases h
      rw [drop_at hlt, List.takeWhile_cons, List.dropWhile_cons, if_pos h, if_pos h]
      exact ⟨hlt, rfl, rfl⟩
    have hw : IntKind.i64.wrap ((at_ : Int) + 1) = (at_ : Int) + 1 := IntWalk.i64_in _ (by have := Hs.out; have := ha1.out; omega)
    by_cases hc : isL (peekS s (at_ + 0)) = true
    · have HS := Aside0.mk (hstep (by unfold isLD; rw [show isL (peekS s at_) = true from hc]; rfl))
      clear hstep
      go_wp2_with fail
      refine (peek g s at_ 0 v _ HR.out Hs.out ha1.out (by decide)).mono ?_
      rintro e w1 ⟨rfl, nk, rfl⟩
      go_wp2_with fail
      refine (letter _ _ hr.1 hr.2).mono ?_
      rintro e w1 ⟨rfl, rfl⟩
      rw [hc]
      go_wp2
      obtain ⟨hlt, h1, h2⟩ := HS.out
      go_roundg (s.size - at_)
      case measure => have := hg.out; omega
      case rel => exact ⟨at_ + 1, part ++ [peekS s at_], ⟨hlt⟩, ⟨by omega⟩, ⟨by rw [List.length_append]; have := hp.out; simp; omega⟩, ⟨by rw [htw.out, h1, List.append_assoc]; rfl⟩, ⟨by rw [hdw.out, h2]⟩, ⟨(HR.out.drewN _).to (at_ + 1)⟩, ⟨(HK.out.drewN _).set_ HB.out 1 _⟩⟩
    · have hc' : isL (peekS s (at_ + 0)) = false := by simpa using hc
      clear hc
      go_wp2_with fail
      refine (peek g s at_ 0 v _ HR.out Hs.out ha1.out (by decide)).mono ?_
      rintro e w1 ⟨rfl, nk, hw1⟩
      have HR1 : Aside0 (Ctr w1 g s at_ v) := ⟨by rw [hw1]; exact HR.out⟩
      have HK1 : Aside0 (Kp B g w w1) := ⟨by rw [hw1]; exact HK.out.drewN _⟩
      clear hw1 c0 c1 c2 f0 f1 f2 HK HR
      go_wp2_with fail
      refine (letter _ _ hr.1 hr.2).mono ?_
      rintro e w2 ⟨rfl, rfl⟩
      rw [hc']
      go_wp2_with fail
      refine (peek g s at_ 0 v _ HR1.out Hs.out ha1.out (by decide)).mono ?_
      rintro e w2 ⟨rfl, nk, hw1⟩
      have HR2 : Aside0 (Ctr w2 g s at_ v) := ⟨by rw [hw1]; exact HR1.out⟩
      have HK2 : Aside0 (Kp B g w w2) := ⟨by rw [hw1]; exact HK1.out.drewN _⟩
      clear hw1 HK1 HR1
      obtain ⟨c0, c1, c2, f0, f1, f2⟩ := HR2.out.cells
      go_wp2_with fail
      refine (digit _ _ hr.1 hr.2).mono ?_
      rintro e w3 ⟨rfl, rfl⟩
      by_cases hd : isD (peekS s (at_ + 0)) = true
      · have HS := Aside0.mk (hstep (by unfold isLD; rw [show isD (peekS s at_) = true from hd]; simp))
        clear hstep
        rw [hd]
        go_wp2
        obtain ⟨hlt, h1, h2⟩ := HS.out
        go_roundg (s.size - at_)
        case measure => have := hg.out; omega
        case rel => exact ⟨at_ + 1, part ++ [peekS s at_], ⟨hlt⟩, ⟨by omega⟩, ⟨by rw [List.length_append]; have := hp.out; simp; omega⟩, ⟨by rw [htw.out, h1, List.append_assoc]; rfl⟩, ⟨by rw [hdw.out, h2]⟩, ⟨(HR2.out).to (at_ + 1)⟩, ⟨(HK2.out).set_ HB.out 1 _⟩⟩
      · have hd' : isD (peekS s (at_ + 0)) = false := by simpa using hd
        rw [hd']
        clear hd hstep
        go_wp2_with fail
        have hLD : isLD (peekS s at_) = false := by unfold isLD; rw [show isL (peekS s at_) = false from hc', show isD (peekS s at_) = false from hd']; rfl
        obtain ⟨e1, e2⟩ : ((bytesOf s).drop at_).takeWhile isLD = [] ∧ ((bytesOf s).drop at_).dropWhile isLD = (bytesOf s).drop at_ := by
          by_cases h : at_ < s.size
          · rw [drop_at h, List.takeWhile_cons, List.dropWhile_cons, hLD]; exact ⟨rfl, rfl⟩
          · rw [drop_end (Nat.le_of_not_lt h)]; exact ⟨rfl, rfl⟩
        have HTW : Aside0 (((bytesOf s).drop at0).takeWhile isLD = part) := ⟨by rw [htw.out, e1, List.append_nil]⟩
        have HDW : Aside0 (((bytesOf s).drop at0).dropWhile isLD = (bytesOf s).drop at_) := ⟨by rw [hdw.out, e2]⟩
        clear e1 e2 htw hdw hLD hc' hd' hr
        have hsub : IntKind.i64.wrap ((at_ : Int) - (at0 : Int)) = (at_ : Int) - (at0 : Int) := IntWalk.i64_in _ (by have := Hs.out; have := ha1.out; have := Ha.out; omega)
        by_cases h32 : part.length ≤ 32
        · have hle : decide ((at_ : Int) - (at0 : Int) ≤ 32) = true := decide_eq_true (by have := hp.out; omega)
          have q0 : (0 : Int) ≤ (at0 : Int) := by omega
          have q1 : (at0 : Int) ≤ (at_ : Int) := by have := hp.out; omega
          have q2 : (at_ : Int) ≤ (s.size : Int) := by have := ha1.out; omega
          have hX := ext_part (s := s) (k := at0) (part := part) (rest := (bytesOf s).drop at_) (by rw [← HTW.out, ← HDW.out]; exact (List.takeWhile_append_dropWhile ..).symm)
          rw [hp.out] at hX
          have HZ := Aside0.mk (lower_part hX (fun x hx => by rw [← HTW.out] at hx; exact List.all_eq_true.1 List.all_takeWhile x hx))
          have hasc := lower_ascii hX (fun x hx => by rw [← HTW.out] at hx; exact List.all_eq_true.1 List.all_takeWhile x hx)
          have hsz : (s.extract at0 at_).size ≤ 140737488355328 := by have := Hs.out; rw [ByteArray.size_extract]; omega
          have HO3 : Aside0 (Own B w3 v ts) := ⟨HK2.out.own HO.out HR0.out⟩
          have HP := Aside0.mk hp.out
          clear hw hp hX
          go_region_held3 (fun w' => w'.cell? ⟨g, 0, none⟩ = some (.string s) ∧ w'.cell? ⟨g, 1, none⟩ = some (.int .i64 at_)) (first | go_keep)
            ((first | (go_at_call 47; refine (Tryd.strings_ToLower_ascii _ _ hsz hasc).mono ?_; rintro e w4 ⟨rfl, hb4⟩; rw [HZ.out]; have HR4 : Aside0 (Ctr w4 g s at_ v) := ⟨blk_below HR2.out.drew hb4⟩; have HO4 : Aside0 (Own B w4 v ts) := ⟨own_of_below (show Own B w3.drew v ts from HO3.out) hb4⟩; have HB4 : Aside0 (Below B w w4) := ⟨HK2.out.drew.bl.trans (hb4.mono (Nat.le_trans HW.out HK2.out.bl.size))⟩; obtain ⟨d0, d1, d2, g0, g1, g2⟩ := HR4.out.cells) | (go_at_call 19; refine (add B g at0 s at_ v ts 1 0 0 _ _ HB.out HR4.out HO4.out HL.out (Nat.le_trans HW.out HB4.out.size)).mono ?_; rintro e w6 ⟨rfl, v6, hR6, hO6, hB6⟩; obtain ⟨k0, k1, k2, l0, l1, l2⟩ := hR6.cells)))
          go_wp2
          go_ret
          refine ⟨HB4.out.trans hB6, ?_⟩
          have e : wordT ((bytesOf s).drop at0) = some ((1, part.map low, 0), (bytesOf s).drop at_) := by
            unfold wordT
            rw [show (fun c => isL c || isD c) = isLD from rfl, HTW.out, HDW.out, if_pos h32]
          rw [e]
          exact ⟨rfl, at_, v6, ha1.out, rfl, hR6, hO6⟩
        · have hle : decide ((at_ : Int) - (at0 : Int) ≤ 32) = false := decide_eq_false (by have := hp.out; omega)
          go_quiet (fail)
          go_wp2
          go_ret
          refine ⟨(HK2.out.drewN _).bl, ?_⟩
          have e : wordT ((bytesOf s).drop at0) = none := by
            unfold wordT
            rw [show (fun c => isL c || isD c) = isLD from rfl, HTW.out, if_neg h32]
          rw [e]
          rfl
end Go.Proofs.YtffaibjiiiochaaDoor.Ct
