/- The cutting methods of layer 6 (part). -/
import Derived.Test.YtffaibjiiiochaaDoorCt
set_option linter.unusedVariables false
set_option linter.unusedSimpArgs false
namespace Go.Proofs.YtffaibjiiiochaaDoor.Ct
open Go.RowKit Go.Proofs.YtffaibjiiiochaaDoorW.PrintWords Go.Proofs.YtffaibjiiiochaaDoorW.PrintLast Go.Proofs.YtffaibjiiiochaaDoorW.PrintMore Go.Proofs.YtffaibjiiiochaaDoor.Tk
set_option maxHeartbeats 4000000 in
set_option maxRecDepth 100000 in
theorem number (B g : Nat) (s : ByteArray) (at0 : Nat) (v : Value) (ts : List TokV) (w : World) (hB : B ≤ g) (R : Ctr w g s at0 v) (O : Own B w v ts) (hs : s.size ≤ 1000000) (ha : at0 ≤ s.size) (hl : ts.length ≤ 1000000) (hBw : B ≤ w.heap.size) :
    Calls Tryd.prog 32 #[.pointer (some ⟨g, 0, none⟩)] w fun e w' => Gave B g s at0 ts w ((numT 0 ((bytesOf s).drop at0)).map fun p => ((2, [], wrap64 p.1), p.2)) e w' := by
  have HR := Aside0.mk R
  have HO := Aside0.mk O
  have HR0 := Aside0.mk R
  have Hs := Aside0.mk hs
  have Ha := Aside0.mk ha
  have HB := Aside0.mk hB
  have HL := Aside0.mk hl
  have HW := Aside0.mk hBw
  obtain ⟨c0, c1, c2, f0, f1, f2⟩ := R.cells
  clear R O hs ha hB hl hBw
  go_enter Tryd.func32, Tryd.ntmps32
  go_wp2_with fail
  clear c0 c1 c2 f0 f1 f2
  go_loopg [4] (s.size + 1) (fun gg s4 wr => ∃ (at_ : Nat) (n : Int), s4 = .int .u64 n ∧ Aside0 (0 ≤ n ∧ n ≤ 9223372036854775808) ∧ Aside0 (at_ ≤ s.size) ∧ Aside0 (s.size + 1 - at_ ≤ gg) ∧ Aside0 (numT 0 ((bytesOf s).drop at0) = numT n ((bytesOf s).drop at_)) ∧ Aside0 (Ctr wr g s at_ v) ∧ Aside0 (Kp B g w wr))
  case atStart => exact ⟨at0, 0, rfl, ⟨by decide⟩, Ha, ⟨by omega⟩, ⟨rfl⟩, HR, ⟨Kp.refl B g w⟩⟩
  case round =>
    clear HR
    obtain ⟨at_, n, rfl, hn, ha1, hg, he, HR, HK⟩ := hrel
    obtain ⟨c0, c1, c2, f0, f1, f2⟩ := HR.out.cells
    have hr := peekS_range s (at_ + 0)
    have hw : IntKind.i64.wrap ((at_ : Int) + 1) = (at_ : Int) + 1 := IntWalk.i64_in _ (by have := Hs.out; have := ha1.out; omega)
    go_wp2_with fail
    refine (peek g s at_ 0 v _ HR.out Hs.out ha1.out (by decide)).mono ?_
    rintro e w1 ⟨rfl, nk, hw1⟩
    have HR1 : Aside0 (Ctr w1 g s at_ v) := ⟨by rw [hw1]; exact HR.out⟩
    have HK1 : Aside0 (Kp B g w w1) := ⟨by rw [hw1]; exact HK.out.drewN _⟩
    clear hw1 c0 c1 c2 f0 f1 f2 HK HR
    obtain ⟨c0, c1, c2, f0, f1, f2⟩ := HR1.out.cells
    go_wp2_with fail
    refine (digit _ _ hr.1 hr.2).mono ?_
    rintro e w2 ⟨rfl, rfl⟩
    by_cases hd : isD (peekS s (at_ + 0)) = true
    · rw [hd]
      have hd1 : isD (peekS s at_) = true := hd
      have hlt : at_ < s.size := by
        rcases Nat.lt_or_ge at_ s.size with h' | h'
        · exact h'
        · rw [peekS_out h'] at hd1; cases hd1
      have hd2 : 48 ≤ peekS s at_ ∧ peekS s at_ ≤ 57 := by simpa [isD] using hd1
      have hE := he.out
      rw [drop_at hlt, numT, if_pos hd1] at hE
      have hpk := peekS_in hlt
      have p0 : (0 : Int) ≤ (at_ : Int) := by omega
      have p1 : (at_ : Int) < (s.size : Int) := by omega
      have HE := Aside0.mk hE
      clear hE hd hd1 hr he
      generalize peekS s at_ = c at *
      have hw8 : IntKind.u8.wrap (c - 48) = c - 48 := IntWalk.u8_in _ (by omega)
      have hw64 : IntKind.u64.wrap (c - 48) = c - 48 := IntWalk.u64_in _ (by omega)
      have hws : IntKind.u64.wrap (9223372036854775808 - (c - 48)) = 9223372036854775808 - (c - 48) := IntWalk.u64_in _ (by omega)
      have hwq : IntKind.u64.wrap ((9223372036854775808 - (c - 48)).tdiv 10) = (9223372036854775808 - (c - 48)) / 10 := IntWalk.u64_quo _ _ (by omega)
      have hn' := hn.out
      by_cases hov : (9223372036854775808 - (c - 48)) / 10 < n
      · have hcmp : decide ((9223372036854775808 - (c - 48)) / 10 < n) = true := decide_eq_true hov
        have HE2 : Aside0 (numT 0 ((bytesOf s).drop at0) = none) := ⟨by rw [HE.out, if_pos hov]⟩
        clear HE hov hn'
        go_wp2_with fail
        go_quiet (fail)
        go_wp2
        go_ret
        refine ⟨(HK1.out.drewN _).bl, ?_⟩
        rw [HE2.out]
        rfl
      · have hcmp : decide ((9223372036854775808 - (c - 48)) / 10 < n) = false := decide_eq_false hov
        have HE2 : Aside0 (numT 0 ((bytesOf s).drop at0) = numT (n * 10 + (c - 48)) ((bytesOf s).drop (at_ + 1))) := ⟨by rw [HE.out, if_neg hov]⟩
        have hm1 : IntKind.u64.wrap (n * 10) = n * 10 := IntWalk.u64_in _ (by omega)
        have hm2 : IntKind.u64.wrap (n * 10 + (c - 48)) = n * 10 + (c - 48) := IntWalk.u64_in _ (by omega)
        have hn2 : Aside0 (0 ≤ n * 10 + (c - 48) ∧ n * 10 + (c - 48) ≤ 9223372036854775808) := ⟨by omega⟩
        clear HE hov hn'
        go_wp2_with fail
        go_quiet (fail)
        go_wp2
        go_roundg (s.size - at_)
        case measure => have := hg.out; omega
        case rel => exact ⟨at_ + 1, n * 10 + (c - 48), rfl, hn2, ⟨hlt⟩, ⟨by omega⟩, HE2, ⟨(HR1.out.drewN _).to (at_ + 1)⟩, ⟨(HK1.out.drewN _).set_ HB.out 1 _⟩⟩
    · have hd' : isD (peekS s (at_ + 0)) = false := by simpa using hd
      rw [hd']
      have hE : numT n ((bytesOf s).drop at_) = if isL (peekS s (at_ + 0)) = true then none else some (n, (bytesOf s).drop at_) := by
        by_cases h : at_ < s.size
        · rw [drop_at h, numT, if_neg (by rw [show isD (peekS s at_) = false from hd']; decide)]
          rfl
        · rw [drop_end (Nat.le_of_not_lt h), numT, peekS_out (show s.size ≤ at_ + 0 from Nat.le_of_not_lt h)]
          rfl
      rw [← he.out] at hE
      have HE := Aside0.mk hE
      clear hE he hd hd'
      go_wp2_with fail
      refine (peek g s at_ 0 v _ HR1.out Hs.out ha1.out (by decide)).mono ?_
      rintro e w3 ⟨rfl, nk, hw1⟩
      have HR3 : Aside0 (Ctr w3 g s at_ v) := ⟨by rw [hw1]; exact HR1.out⟩
      have HK3 : Aside0 (Kp B g w w3) := ⟨by rw [hw1]; exact HK1.out.drewN _⟩
      clear hw1 c0 c1 c2 f0 f1 f2 HK1 HR1
      obtain ⟨c0, c1, c2, f0, f1, f2⟩ := HR3.out.cells
      go_wp2_with fail
      refine (letter _ _ hr.1 hr.2).mono ?_
      rintro e w4 ⟨rfl, rfl⟩
      cases hL : isL (peekS s (at_ + 0)) with
      | true =>
        rw [hL, if_pos rfl] at HE
        go_wp2
        go_ret
        refine ⟨HK3.out.bl, ?_⟩
        rw [HE.out]
        rfl
      | false =>
        rw [hL, if_neg (by decide)] at HE
        clear hL
        have HO3 : Aside0 (Own B w4 v ts) := ⟨HK3.out.own HO.out HR0.out⟩
        go_wp2_with fail
        refine (add B g at0 s at_ v ts 2 _ 0 _ _ HB.out HR3.out HO3.out HL.out (Nat.le_trans HW.out HK3.out.bl.size)).mono ?_
        rintro e w6 ⟨rfl, v6, hR6, hO6, hB6⟩
        go_wp2
        go_ret
        refine ⟨HK3.out.bl.trans hB6, ?_⟩
        rw [HE.out]
        refine ⟨rfl, at_, v6, ha1.out, rfl, hR6, ?_⟩
        exact hO6
end Go.Proofs.YtffaibjiiiochaaDoor.Ct
