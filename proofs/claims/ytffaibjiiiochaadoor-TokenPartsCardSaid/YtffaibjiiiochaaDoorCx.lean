/- The cutting methods of layer 6 (part). -/
import Derived.Test.YtffaibjiiiochaaDoorCt
import Derived.Test.YtffaibjiiiochaaDoorCb
set_option linter.unusedVariables false
set_option linter.unusedSimpArgs false
namespace Go.Proofs.YtffaibjiiiochaaDoor.Ct
open Go.RowKit Go.Proofs.YtffaibjiiiochaaDoorW.PrintWords Go.Proofs.YtffaibjiiiochaaDoorW.PrintLast Go.Proofs.YtffaibjiiiochaaDoorW.PrintMore Go.Proofs.YtffaibjiiiochaaDoor.Tk
set_option maxHeartbeats 8000000 in
set_option maxRecDepth 100000 in
theorem text (B g : Nat) (s : ByteArray) (at0 : Nat) (v : Value) (ts : List TokV) (w : World) (hB : B ≤ g) (R : Ctr w g s at0 v) (O : Own B w v ts) (hs : s.size ≤ 1000000) (ha : at0 < s.size) (hl : ts.length ≤ 1000000) (hBw : B ≤ w.heap.size) :
    Calls Tryd.prog 33 #[.pointer (some ⟨g, 0, none⟩)] w fun e w' => Gave B g s at0 ts w ((textT ((bytesOf s).drop (at0 + 1))).map fun p => ((3, p.1, 0), p.2)) e w' := by
  have HR := Aside0.mk R
  have HO := Aside0.mk O
  have HR0 := Aside0.mk R
  have Hs := Aside0.mk hs
  have Ha := Aside0.mk ha
  have HB := Aside0.mk hB
  have HL := Aside0.mk hl
  have HW := Aside0.mk hBw
  obtain ⟨c0, c1, c2, f0, f1, f2⟩ := R.cells
  have hw : IntKind.i64.wrap ((at0 : Int) + 1) = (at0 : Int) + 1 := IntWalk.i64_in _ (by omega)
  have lg : g < w.heap.size := World.block_lt_of_cell? w _ c0
  have gn : g ≠ w.heap.size := by omega
  clear R O hs ha hB hl hBw
  go_enter Tryd.func33, Tryd.ntmps33
  go_wp2_with fail
  have HX : Aside0 (Bx g w.heap.size s v w (at0 + 1) [] ((w.setCell ⟨g, 1, none⟩ (.int .i64 ((at0 : Int) + 1))).alloc (.cells #[.pointer none, .slice none 0 0] 55))) := ⟨Bx.start1 HR.out (at0 + 1)⟩
  clear c0 c1 c2 f0 f1 f2 HR
  go_loopg [] (s.size + 1) (fun gg wr => ∃ (at_ : Nat) (l : List UInt8), Aside0 (at_ ≤ s.size) ∧ Aside0 (s.size + 1 - at_ ≤ gg) ∧ Aside0 (l.length ≤ at_) ∧ Aside0 (textT ((bytesOf s).drop (at0 + 1)) = ahead l (textT ((bytesOf s).drop at_))) ∧ Aside0 (Bx g w.heap.size s v w at_ l wr))
  case atStart => exact ⟨at0 + 1, [], Ha, ⟨by omega⟩, ⟨Nat.zero_le _⟩, ⟨by simp [ahead]⟩, HX⟩
  case round =>
    clear HX hw
    obtain ⟨at_, l, ha1, hg, hll, he, HX⟩ := hrel
    obtain ⟨c0, c1, c2, f0, f1, f2⟩ := HX.out.ct.cells
    by_cases hlt : at_ < s.size
    · have hd : decide (at_ < s.size) = true := decide_eq_true hlt
      have p0 : (0 : Int) ≤ (at_ : Int) := by omega
      have p1 : (at_ : Int) < (s.size : Int) := by omega
      have hw : IntKind.i64.wrap ((at_ : Int) + 1) = (at_ : Int) + 1 := IntWalk.i64_in _ (by have := Hs.out; omega)
      have hE := he.out
      have hpk := peekS_in hlt
      rw [drop_at hlt, ← hpk] at hE
      have HLT := Aside0.mk hlt
      obtain ⟨ch, hch⟩ : ∃ ch : UInt8, ch = s[at_]'hlt := ⟨_, rfl⟩
      rw [← hch] at hE hpk
      have hci : ((s[at_]'hlt).toNat : Int) = (ch.toNat : Int) := by rw [hch]
      clear he hpk
      by_cases hq : (ch.toNat : Int) = 39
      · have hqd : ((ch.toNat : Int) == 39) = true := by rw [hq]; rfl
        rw [hq] at hE
        by_cases hm : peekS s (at_ + 1) = 39
        · have hm' : (peekS s (at_ + 1) != 39) = false := by rw [hm]; rfl
          have hl1 : at_ + 1 < s.size := by
            rcases Nat.lt_or_ge (at_ + 1) s.size with h' | h'
            · exact h'
            · rw [peekS_out h'] at hm; cases hm
          have hp2 := peekS_in hl1
          rw [drop_at hl1, hm, textT_twice] at hE
          obtain ⟨c2h, hc2h⟩ : ∃ c2h : UInt8, c2h = s[at_ + 1]'hl1 := ⟨_, rfl⟩
          have hcj : ((s[at_ + 1]'hl1).toNat : Int) = (c2h.toNat : Int) := by rw [hc2h]
          rw [← hc2h, hm] at hp2
          rw [← hp2, ahead_snoc] at hE
          have HE := Aside0.mk hE
          have HL1 := Aside0.mk hl1
          have q0 : (0 : Int) ≤ (at_ : Int) + 1 := by omega
          have q1 : (at_ : Int) + 1 < (s.size : Int) := by omega
          have hw2 : IntKind.i64.wrap ((at_ : Int) + 1 + 1) = (at_ : Int) + 1 + 1 := IntWalk.i64_in _ (by have := Hs.out; omega)
          clear hE hm hq hp2
          go_wp2_with fail
          go_quiet (fail)
          go_wp2_with fail
          go_quiet (fail)
          go_wp2_with fail
          refine (peek g s at_ 1 v _ (HX.out.drewN _).ct Hs.out ha1.out (by decide)).mono ?_
          rintro e w1 ⟨rfl, nk, hw1⟩
          have HX1 : Aside0 (Bx g w.heap.size s v w (at_ + 1) l (w1.setCell ⟨g, 1, none⟩ (.int .i64 ((at_ : Int) + 1)))) := ⟨by rw [hw1]; exact ((HX.out.drewN _).drewN _).to (at_ + 1)⟩
          have HC : Aside0 (Ctr w1 g s at_ v) := ⟨by rw [hw1]; exact HX.out.ct⟩
          clear hw1 c0 c1 c2 f0 f1 f2 HX
          obtain ⟨c0, c1, c2, f0, f1, f2⟩ := HC.out.cells
          go_wp2_with fail
          generalize w1.setCell ⟨g, 1, none⟩ (.int .i64 ((at_ : Int) + 1)) = w3 at *
          clear c0 c1 c2 f0 f1 f2 HC
          obtain ⟨c0, c1, c2, f0, f1, f2⟩ := HX1.out.ct.cells
          go_region_held3 (fun w' => w'.cell? ⟨g, 0, none⟩ = some (.string s) ∧ w'.cell? ⟨g, 1, none⟩ = some (.int .i64 ((at_ : Int) + 1))) (first | go_keep)
            ((go_at_call 45; refine (Bld.WriteByte w.heap.size w.heap.size _ _ _ (HX1.out.drew.bd) (by rw [Lib.byteCells_length]; have := hll.out; have := ha1.out; have := Hs.out; omega) HX1.out.drew.bs).mono ?_; rintro e w4 ⟨rfl, hb4, hbl4, hok4⟩; have HX4 : Aside0 (Bx g w.heap.size s v w (at_ + 1) (l ++ [c2h]) w4) := ⟨HX1.out.drew.step (by rw [← bytes_snoc]; exact hb4) hbl4⟩; clear hb4 hbl4 hok4; obtain ⟨d0, d1, d2, g0, g1, g2⟩ := HX4.out.ct.cells))
          go_wp2
          go_roundg (s.size - (at_ + 1))
          case measure => have := hg.out; have := HL1.out; omega
          case rel => exact ⟨at_ + 1 + 1, l ++ [c2h], ⟨HL1.out⟩, ⟨by omega⟩, ⟨by have := hll.out; simp; omega⟩, HE, ⟨HX4.out.to (at_ + 1 + 1)⟩⟩
        · have hm' : (peekS s (at_ + 1) != 39) = true := by simpa using hm
          rw [textT_close (fun h => hm ((head_peek (by decide)).1 h))] at hE
          have HE := Aside0.mk hE
          clear hE hm hq
          go_wp2_with fail
          go_quiet (fail)
          go_wp2_with fail
          go_quiet (fail)
          go_wp2_with fail
          refine (peek g s at_ 1 v _ (HX.out.drewN _).ct Hs.out ha1.out (by decide)).mono ?_
          rintro e w1 ⟨rfl, nk, hw1⟩
          have HX1 : Aside0 (Bx g w.heap.size s v w at_ l w1) := ⟨by rw [hw1]; exact (HX.out.drewN _).drewN _⟩
          clear hw1 c0 c1 c2 f0 f1 f2 HX
          obtain ⟨c0, c1, c2, f0, f1, f2⟩ := HX1.out.ct.cells
          go_wp2_with fail
          refine (Tryd.Builder_String_any_f w.heap.size w.heap.size l _ (HX1.out.to (at_ + 1)).bd (HX1.out.to (at_ + 1)).bs).mono ?_
          rintro e w2 ⟨rfl, hb2, hbl2⟩
          have HX2 : Aside0 (Bx g w.heap.size s v w (at_ + 1) l w2) := ⟨(HX1.out.to (at_ + 1)).step hb2 hbl2⟩
          rw [str_of_bytes]
          clear hb2 hbl2 c0 c1 c2 f0 f1 f2 HX1
          go_wp2_with fail
          refine (add B g at0 s (at_ + 1) v ts 3 0 0 _ _ HB.out HX2.out.ct (HX2.out.own HO.out HR0.out) HL.out (Nat.le_trans HW.out HX2.out.bs)).mono ?_
          rintro e w6 ⟨rfl, v6, hR6, hO6, hB6⟩
          go_wp2
          go_ret
          refine ⟨(HX2.out.below HB.out).trans hB6, ?_⟩
          rw [HE.out]
          refine ⟨rfl, at_ + 1, v6, HLT.out, rfl, hR6, ?_⟩
          simpa using hO6
      · have hqd : ((ch.toNat : Int) == 39) = false := by simpa using hq
        rw [textT_other hq, ahead_snoc] at hE
        have HE := Aside0.mk hE
        clear hE hq
        go_wp2_with fail
        go_quiet (fail)
        go_wp2_with fail
        go_quiet (fail)
        go_wp2_with fail
        go_region_held3 (fun w' => w'.cell? ⟨g, 0, none⟩ = some (.string s) ∧ w'.cell? ⟨g, 1, none⟩ = some (.int .i64 (at_ : Int))) (first | go_keep)
          ((go_at_call 45; refine (Bld.WriteByte w.heap.size w.heap.size _ _ _ ((HX.out.drewN _).bd) (by rw [Lib.byteCells_length]; have := hll.out; have := ha1.out; have := Hs.out; omega) (HX.out.drewN _).bs).mono ?_; rintro e w4 ⟨rfl, hb4, hbl4, hok4⟩; have HX4 : Aside0 (Bx g w.heap.size s v w at_ (l ++ [ch]) w4) := ⟨(HX.out.drewN _).step (by rw [← bytes_snoc]; exact hb4) hbl4⟩; clear hb4 hbl4 hok4; obtain ⟨d0, d1, d2, g0, g1, g2⟩ := HX4.out.ct.cells))
        go_wp2
        go_roundg (s.size - at_)
        case measure => have := hg.out; have := HLT.out; omega
        case rel => exact ⟨at_ + 1, l ++ [ch], ⟨HLT.out⟩, ⟨by omega⟩, ⟨by have := hll.out; simp; omega⟩, HE, ⟨HX4.out.to (at_ + 1)⟩⟩
    · have hd : decide (at_ < s.size) = false := decide_eq_false hlt
      have HE : Aside0 (textT ((bytesOf s).drop (at0 + 1)) = none) := ⟨by rw [he.out, drop_end (Nat.le_of_not_lt hlt)]; rfl⟩
      clear he hlt
      go_wp2_with fail
      go_quiet (fail)
      go_wp2
      go_ret
      refine ⟨(HX.out.drewN _).below HB.out, ?_⟩
      rw [HE.out]
      rfl
end Go.Proofs.YtffaibjiiiochaaDoor.Ct
