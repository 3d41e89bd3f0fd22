/- The cutter of layer 6: one and Cut. -/
import Derived.Test.YtffaibjiiiochaaDoorCw
import Derived.Test.YtffaibjiiiochaaDoorCn
import Derived.Test.YtffaibjiiiochaaDoorCx
import Derived.Test.YtffaibjiiiochaaDoorCy
import Derived.Test.YtffaibjiiiochaaDoorCs2
set_option linter.unusedVariables false
set_option linter.unusedSimpArgs false
namespace Go.Proofs.YtffaibjiiiochaaDoor.Ct
open Go.RowKit Go.Proofs.YtffaibjiiiochaaDoorW.PrintWords Go.Proofs.YtffaibjiiiochaaDoorW.PrintLast Go.Proofs.YtffaibjiiiochaaDoorW.PrintMore Go.Proofs.YtffaibjiiiochaaDoor.Tk
theorem orx : ∀ n : Fin 256, (Go.bits .or .u8 (n.val : Int) 32 == 120) = ((n.val : Int) == 120 || (n.val : Int) == 88) := by decide +kernel
theorem orx' {c : Int} (h0 : 0 ≤ c) (h1 : c ≤ 255) : (Go.bits .or .u8 c 32 == 120) = (c == 120 || c == 88) := by
  obtain ⟨n, rfl⟩ : ∃ n : Nat, c = n := ⟨c.toNat, by omega⟩
  exact orx ⟨n, by omega⟩
theorem Gave.from {B g : Nat} {s : ByteArray} {at0 : Nat} {ts : List TokV} {w w1 : World} {o : Option (Tok × List Int)} {e : Ending} {w2 : World} (hb : Below B w w1) (h : Gave B g s at0 ts w1 o e w2) : Gave B g s at0 ts w o e w2 := ⟨hb.trans h.1, h.2⟩
theorem Gave.ends {B g : Nat} {s : ByteArray} {at0 : Nat} {ts : List TokV} {w : World} {o : Option (Tok × List Int)} {e : Ending} {w2 : World} (h : Gave B g s at0 ts w o e w2) : e = .returned (.bool o.isSome) := by
  cases o with
  | none => exact h.2
  | some p => exact h.2.1
set_option maxHeartbeats 8000000 in
set_option maxRecDepth 100000 in
theorem one (B g : Nat) (s : ByteArray) (at0 : Nat) (v : Value) (ts : List TokV) (w : World) (hB : B ≤ g) (R : Ctr w g s at0 v) (O : Own B w v ts) (hs : s.size ≤ 1000000) (ha : at0 < s.size) (hl : ts.length ≤ 1000000) (hBw : B ≤ w.heap.size) :
    Calls Tryd.prog 18 #[.pointer (some ⟨g, 0, none⟩)] w fun e w' => Gave B g s at0 ts w (oneT ((bytesOf s).drop at0)) e w' := by
  have HR := Aside0.mk R
  have HO := Aside0.mk O
  have Hs := Aside0.mk hs
  have Ha := Aside0.mk ha
  have HB := Aside0.mk hB
  have HL := Aside0.mk hl
  have HW := Aside0.mk hBw
  obtain ⟨c0, c1, c2, f0, f1, f2⟩ := R.cells
  have p0 : (0 : Int) ≤ (at0 : Int) := by omega
  have p1 : (at0 : Int) < (s.size : Int) := by omega
  have hdr := drop_at ha
  have hpk := peekS_in ha
  have hrg := peekS_range s at0
  have hor := orx' hrg.1 hrg.2
  have HHd := Aside0.mk (fun (x : Int) (hx : x ≠ 0) => @head_peek s (at0 + 1) x hx)
  have HD := Aside0.mk hdr
  have HG := Aside0.mk hrg
  obtain ⟨c, hgc⟩ : ∃ c, c = peekS s at0 := ⟨_, rfl⟩
  rw [← hgc] at hpk hor hrg hdr HD HG
  have HGc := Aside0.mk hgc
  have HOr := Aside0.mk hor
  clear R O hs hB hl hBw hdr hrg hgc hor
  by_cases hx : (c = 120 ∨ c = 88) ∧ peekS s (at0 + 1) = 39
  · have hl1 : at0 + 1 < s.size := by
      rcases Nat.lt_or_ge (at0 + 1) s.size with h' | h'
      · exact h'
      · have := hx.2; rw [peekS_out h'] at this; cases this
    have HS : Aside0 (oneT ((bytesOf s).drop at0) = (blobT ((bytesOf s).drop (at0 + 2))).map fun p => ((4, p.1, 0), p.2)) := ⟨by
      rw [HD.out, oneT, if_pos ⟨hx.1, (HHd.out 39 (by decide)).2 hx.2⟩, drop_at hl1]; rfl⟩
    have e1 : (Go.bits .or .u8 c 32 == 120) = true := by rw [HOr.out]; simpa using hx.1
    have e2 : (peekS s (at0 + 1) == 39) = true := by rw [hx.2]; rfl
    have HL1 := Aside0.mk hl1
    rw [HS.out]
    clear hx hl1 HS
    go_enter Tryd.func18, Tryd.ntmps18
    go_wp2_with fail
    go_quiet (fail)
    go_wp2_with fail
    refine (peek g s at0 1 v _ (HR.out.drewN _) Hs.out (Nat.le_of_lt Ha.out) (by decide)).mono ?_
    rintro e w1 ⟨rfl, nk, hw1⟩
    have HR1 : Aside0 (Ctr w1 g s at0 v) := ⟨by rw [hw1]; exact HR.out⟩
    have HK1 : Aside0 (Kp B g w w1) := ⟨by rw [hw1]; exact ((Kp.refl B g w).drewN _).drewN _⟩
    clear hw1 c0 c1 c2 f0 f1 f2
    go_wp2_with fail
    refine (blob B g s at0 v ts _ HB.out HR1.out (HK1.out.own HO.out HR.out) Hs.out HL1.out HL.out (Nat.le_trans HW.out HK1.out.bl.size)).mono ?_
    intro e w2 hg
    obtain ⟨bb, hbb⟩ : ∃ bb, e = .returned (.bool bb) := ⟨_, hg.ends⟩
    subst hbb
    have HG2 := Aside0.mk (hg.from HK1.out.bl)
    clear hg
    go_wp2
    go_ret
    exact HG2.out
  · have HS0 : Aside0 (oneT ((bytesOf s).drop at0) = if isL c = true then wordT ((bytesOf s).drop at0) else if isD c = true then (numT 0 ((bytesOf s).drop at0)).map fun p => ((2, [], wrap64 p.1), p.2) else if c = 39 then (textT ((bytesOf s).drop (at0 + 1))).map fun p => ((3, p.1, 0), p.2) else (signT ((bytesOf s).drop at0)).map fun p => ((5, p.1, 0), p.2)) := ⟨by
      rw [HD.out, oneT, if_neg (fun h => hx ⟨h.1, (HHd.out 39 (by decide)).1 h.2⟩)]⟩
    rw [HS0.out]
    clear HS0
    -- the first test comes to no; then the world stands as it was
    have first : ∃ w1, Aside0 (Ctr w1 g s at0 v) ∧ Aside0 (Kp B g w w1) := ⟨w, HR, ⟨Kp.refl B g w⟩⟩
    clear first
    by_cases h120 : c = 120 ∨ c = 88
    · have e1 : (Go.bits .or .u8 c 32 == 120) = true := by rw [HOr.out]; simpa using h120
      have e2 : (peekS s (at0 + 1) == 39) = false := by simpa using fun h => hx ⟨h120, h⟩
      have hL : isL c = true := by rcases h120 with rfl | rfl <;> rfl
      rw [if_pos hL]
      have HLc := Aside0.mk hL
      clear hx h120 hL
      go_enter Tryd.func18, Tryd.ntmps18
      go_wp2_with fail
      go_quiet (fail)
      go_wp2_with fail
      refine (peek g s at0 1 v _ (HR.out.drewN _) Hs.out (Nat.le_of_lt Ha.out) (by decide)).mono ?_
      rintro e w1 ⟨rfl, nk, hw1⟩
      have HR1 : Aside0 (Ctr w1 g s at0 v) := ⟨by rw [hw1]; exact HR.out⟩
      have HK1 : Aside0 (Kp B g w w1) := ⟨by rw [hw1]; exact ((Kp.refl B g w).drewN _).drewN _⟩
      clear hw1 c0 c1 c2 f0 f1 f2
      go_wp2_with fail
      refine (letter _ _ HG.out.1 HG.out.2).mono ?_
      rintro e w2 ⟨rfl, rfl⟩
      rw [HLc.out]
      go_wp2_with fail
      refine (word B g s at0 v ts _ HB.out HR1.out (HK1.out.own HO.out HR.out) Hs.out (Nat.le_of_lt Ha.out) HL.out (Nat.le_trans HW.out HK1.out.bl.size)).mono ?_
      intro e w2 hg
      obtain ⟨bb, hbb⟩ : ∃ bb, e = .returned (.bool bb) := ⟨_, hg.ends⟩
      subst hbb
      have HG2 := Aside0.mk (hg.from HK1.out.bl)
      clear hg
      go_wp2
      go_ret
      exact HG2.out
    · have e1 : (Go.bits .or .u8 c 32 == 120) = false := by rw [HOr.out]; simpa using h120
      clear hx h120
      generalize hq : (if isL c = true then wordT ((bytesOf s).drop at0) else if isD c = true then (numT 0 ((bytesOf s).drop at0)).map fun p => ((2, [], wrap64 p.1), p.2) else if c = 39 then (textT ((bytesOf s).drop (at0 + 1))).map fun p => ((3, p.1, 0), p.2) else (signT ((bytesOf s).drop at0)).map fun p => ((5, p.1, 0), p.2)) = o
      have HQ := Aside0.mk hq
      clear hq
      go_enter Tryd.func18, Tryd.ntmps18
      go_wp2_with fail
      go_quiet (fail)
      go_wp2_with fail
      refine (letter _ _ HG.out.1 HG.out.2).mono ?_
      rintro e w1 ⟨rfl, hw1⟩
      have HR1 : Aside0 (Ctr w1 g s at0 v) := ⟨by rw [hw1]; exact HR.out⟩
      have HK1 : Aside0 (Kp B g w w1) := ⟨by rw [hw1]; exact ((Kp.refl B g w).drewN _)⟩
      clear hw1 c0 c1 c2 f0 f1 f2
      cases hL : isL c with
      | true =>
        rw [hL, if_pos rfl] at HQ
        clear hL
        go_wp2_with fail
        refine (word B g s at0 v ts _ HB.out HR1.out (HK1.out.own HO.out HR.out) Hs.out (Nat.le_of_lt Ha.out) HL.out (Nat.le_trans HW.out HK1.out.bl.size)).mono ?_
        intro e w2 hg
        obtain ⟨bb, hbb⟩ : ∃ bb, e = .returned (.bool bb) := ⟨_, hg.ends⟩
        subst hbb
        have HG2 := Aside0.mk (hg.from HK1.out.bl)
        clear hg
        go_wp2
        go_ret
        rw [HQ.out] at HG2
        exact HG2.out
      | false =>
        rw [hL, if_neg (by decide)] at HQ
        clear hL
        go_wp2_with fail
        refine (digit _ _ HG.out.1 HG.out.2).mono ?_
        rintro e w2 ⟨rfl, rfl⟩
        cases hD : isD c with
        | true =>
          rw [hD, if_pos rfl] at HQ
          clear hD
          go_wp2_with fail
          refine (number B g s at0 v ts _ HB.out HR1.out (HK1.out.own HO.out HR.out) Hs.out (Nat.le_of_lt Ha.out) HL.out (Nat.le_trans HW.out HK1.out.bl.size)).mono ?_
          intro e w2 hg
          obtain ⟨bb, hbb⟩ : ∃ bb, e = .returned (.bool bb) := ⟨_, hg.ends⟩
          subst hbb
          have HG2 := Aside0.mk (hg.from HK1.out.bl)
          clear hg
          go_wp2
          go_ret
          rw [HQ.out] at HG2
          exact HG2.out
        | false =>
          rw [hD, if_neg (by decide)] at HQ
          clear hD
          by_cases h39 : c = 39
          · have e3 : (c == 39) = true := by rw [h39]; rfl
            rw [if_pos h39] at HQ
            clear h39
            go_wp2_with fail
            refine (text B g s at0 v ts _ HB.out HR1.out (HK1.out.own HO.out HR.out) Hs.out Ha.out HL.out (Nat.le_trans HW.out HK1.out.bl.size)).mono ?_
            intro e w2 hg
            obtain ⟨bb, hbb⟩ : ∃ bb, e = .returned (.bool bb) := ⟨_, hg.ends⟩
            subst hbb
            have HG2 := Aside0.mk (hg.from HK1.out.bl)
            clear hg
            go_wp2
            go_ret
            rw [HQ.out] at HG2
            exact HG2.out
          · have e3 : (c == 39) = false := by simpa using h39
            rw [if_neg h39] at HQ
            clear h39
            go_wp2_with fail
            refine (sign B g s at0 v ts _ HB.out HR1.out (HK1.out.own HO.out HR.out) Hs.out Ha.out HL.out (Nat.le_trans HW.out HK1.out.bl.size)).mono ?_
            intro e w2 hg
            obtain ⟨bb, hbb⟩ : ∃ bb, e = .returned (.bool bb) := ⟨_, hg.ends⟩
            subst hbb
            have HG2 := Aside0.mk (hg.from HK1.out.bl)
            clear hg
            go_wp2
            go_ret
            rw [HQ.out] at HG2
            exact HG2.out
end Go.Proofs.YtffaibjiiiochaaDoor.Ct
