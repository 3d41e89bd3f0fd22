/- The cutter of layer 6: peek, blanks, add, word, number, text, blob, sign, one, Cut, each walked once. -/
import Derived.Test.YtffaibjiiiochaaDoorProg
import Derived.Test.YtffaibjiiiochaaDoorWWords
import Derived.Test.YtffaibjiiiochaaDoorWLast
import Derived.Test.YtffaibjiiiochaaDoorWMore
import Derived.Test.YtffaibjiiiochaaDoorTk
import Derived.Test.YtffaibjiiiochaaDoorShelf
import Derived.LoopTactic
import Derived.Deep.DeepCutAuto
import Derived.Deep.LoopGhost
import Derived.Deep.QuietTactic
import Derived.BigQuiet
import Derived.Deep.RegionHeld3
import Derived.Deep.AppendLies
import Derived.Deep.RegionLaw
import Derived.Outline
import Derived.IntWalk
set_option linter.unusedVariables false
set_option linter.unusedSimpArgs false
namespace Go.Proofs.YtffaibjiiiochaaDoor.Ct
open Go.RowKit Go.Proofs.YtffaibjiiiochaaDoorW.PrintWords Go.Proofs.YtffaibjiiiochaaDoorW.PrintLast Go.Proofs.YtffaibjiiiochaaDoorW.PrintMore Go.Proofs.YtffaibjiiiochaaDoor.Tk
/-- the cutter's block -/
def Ctr (w : World) (g : Nat) (s : ByteArray) (at_ : Nat) (v : Value) : Prop := w.heap[g]? = some (.cells #[.string s, .int .i64 at_, v] 37 (0, 0))
theorem Ctr.cells {w : World} {g : Nat} {s : ByteArray} {at_ : Nat} {v : Value} (h : Ctr w g s at_ v) :
    w.cell? ⟨g, 0, none⟩ = some (.string s) ∧ w.cell? ⟨g, 1, none⟩ = some (.int .i64 at_) ∧ w.cell? ⟨g, 2, none⟩ = some v ∧
    w.frozen? ⟨g, 0, none⟩ = false ∧ w.frozen? ⟨g, 1, none⟩ = false ∧ w.frozen? ⟨g, 2, none⟩ = false :=
  ⟨(blk_cell h 0).trans rfl, (blk_cell h 1).trans rfl, (blk_cell h 2).trans rfl, blk_frozen h 0, blk_frozen h 1, blk_frozen h 2⟩
theorem Ctr.drew {w : World} {g : Nat} {s : ByteArray} {at_ : Nat} {v : Value} (h : Ctr w g s at_ v) : Ctr w.drew g s at_ v := h
theorem Ctr.drewN {w : World} {g : Nat} {s : ByteArray} {at_ : Nat} {v : Value} (h : Ctr w g s at_ v) (k : Nat) : Ctr (w.drewN k) g s at_ v := h
theorem Ctr.to {w : World} {g : Nat} {s : ByteArray} {at_ : Nat} {v : Value} (h : Ctr w g s at_ v) (m : Nat) : Ctr (w.setCell ⟨g, 1, none⟩ (.int .i64 m)) g s m v := blk_put h 1 _ rfl
theorem Ctr.out {w : World} {g : Nat} {s : ByteArray} {at_ : Nat} {v : Value} (h : Ctr w g s at_ v) (u : Value) : Ctr (w.setCell ⟨g, 2, none⟩ u) g s at_ u := blk_put h 2 _ rfl
/-- the byte so far behind; 0: there is none -/
def peekS (s : ByteArray) (k : Nat) : Int := (bytesOf s).getD k 0
theorem peekS_in {s : ByteArray} {k : Nat} (h : k < s.size) : ((s[k]'h).toNat : Int) = peekS s k := by
  unfold peekS
  have hl : k < (bytesOf s).length := by rw [bytesOf_length]; exact h
  rw [List.getD_eq_getElem?_getD, List.getElem?_eq_getElem hl]
  simp [bytesOf]
  rfl
theorem peekS_out {s : ByteArray} {k : Nat} (h : s.size ≤ k) : peekS s k = 0 := by
  unfold peekS
  rw [List.getD_eq_getElem?_getD, List.getElem?_eq_none (by rw [bytesOf_length]; exact h)]; rfl
/-- a token as the program lays it -/
abbrev TokV := Int × ByteArray × Int × Int
def cellsT : List TokV → List Value
  | [] => []
  | t :: r => .int .i64 t.1 :: .string t.2.1 :: .int .i64 t.2.2.1 :: .int .i64 t.2.2.2 :: cellsT r
theorem cellsT_snoc (t : TokV) : ∀ r : List TokV, cellsT (r ++ [t]) = cellsT r ++ [.int .i64 t.1, .string t.2.1, .int .i64 t.2.2.1, .int .i64 t.2.2.2]
  | [] => rfl
  | u :: r => by rw [List.cons_append, cellsT, cellsT_snoc t r, cellsT]; rfl
/-- the tokens that stand there: a row of the call's own -/
def Own (B : Nat) (w : World) (v : Value) (ts : List TokV) : Prop := w.ownsRow B 30 4 v ts.length (cellsT ts)
theorem info30 : (Tryd.prog.info? 30).map (fun i => (i.zero, i.size, i.bytes)) = some (some (.agg #[.int .i64 0, .string ⟨#[]⟩, .int .i64 0, .int .i64 0]), 4, 40) := by kernel_rfl
set_option maxHeartbeats 2000000 in
set_option maxRecDepth 100000 in
theorem peek (g : Nat) (s : ByteArray) (at_ n : Nat) (v : Value) (w : World) (R : Ctr w g s at_ v) (hs : s.size ≤ 1000000) (ha : at_ ≤ s.size) (hn : n ≤ 2) :
    Calls Tryd.prog 28 #[.pointer (some ⟨g, 0, none⟩), .int .i64 n] w fun e w' => e = .returned (.int .u8 (peekS s (at_ + n))) ∧ ∃ k, w' = w.drewN k := by
  obtain ⟨c0, c1, c2, f0, f1, f2⟩ := R.cells
  have hadd : IntKind.i64.wrap ((at_ : Int) + (n : Int)) = (at_ : Int) + (n : Int) := IntWalk.i64_in _ (by omega)
  by_cases h : at_ + n < s.size
  · have hlt : decide ((at_ : Int) + (n : Int) < (s.size : Int)) = true := decide_eq_true (by omega)
    have p0 : (0 : Int) ≤ (at_ : Int) + (n : Int) := by omega
    have p1 : (at_ : Int) + (n : Int) < (s.size : Int) := by omega
    go_enter Tryd.func28, Tryd.ntmps28
    go_wp2_with fail
    go_quiet (fail)
    go_wp2
    go_quiet (fail)
    go_wp2
    go_ret
    exact ⟨congrArg (fun x => Ending.returned (.int .u8 x)) (peekS_in h), _, World.drewN_drewN ..⟩
  · have hlt : decide ((at_ : Int) + (n : Int) < (s.size : Int)) = false := decide_eq_false (by omega)
    go_enter Tryd.func28, Tryd.ntmps28
    go_wp2_with fail
    go_quiet (fail)
    go_wp2
    go_ret
    exact ⟨congrArg (fun x => Ending.returned (.int .u8 x)) (peekS_out (Nat.le_of_not_lt h)).symm, _, rfl⟩
set_option maxHeartbeats 4000000 in
set_option maxRecDepth 100000 in
theorem add (B g from_ : Nat) (s : ByteArray) (at_ : Nat) (v : Value) (ts : List TokV) (k i a0 : Int) (x : ByteArray) (w : World) (hB : B ≤ g) (R : Ctr w g s at_ v) (O : Own B w v ts) (hl : ts.length ≤ 1000000) (hBw : B ≤ w.heap.size) :
    Calls Tryd.prog 19 #[.pointer (some ⟨g, 0, none⟩), .int .i64 from_, .agg #[.int .i64 k, .string x, .int .i64 i, .int .i64 a0]] w fun e w' =>
      e = .returned (.bool true) ∧ ∃ v', Ctr w' g s at_ v' ∧ Own B w' v' (ts ++ [(k, x, i, (from_ : Int))]) ∧ Below B w w' := by
  obtain ⟨i0, hi0, hz0, hz1, hz2⟩ := info_parts info30
  obtain ⟨c0, c1, c2, f0, f1, f2⟩ := R.cells
  have lg : g < w.heap.size := World.block_lt_of_cell? w _ c0
  have hne : some g ≠ v.ownBlock := own_ne O R (by decide)
  have hnew : some w.heap.size ≠ v.ownBlock := own_ne_new O 0
  have hown : (w.alloc (.cells #[.int .i64 k, .string x, .int .i64 i, .int .i64 from_] 30)).ownsRow B 30 4 v ts.length (cellsT ts) := World.ownsRow.alloc O _
  have gn : g ≠ w.heap.size := by omega
  go_enter Tryd.func19, Tryd.ntmps19
  go_wp2_with fail
  go_region_law ((refine step_append_lies _ (by rfl) _ _ _ (by rfl) B 30 i0 _ 4 40 Tryd.underlying23 hi0 hz0 hz1 hz2 rfl (by omega) v ts.length (cellsT ts) (by rfl) ((hown.drew).alloc _) ⟨w.heap.size + 1, 0, none⟩ 1 1 [.int .i64 k, .string x, .int .i64 i, .int .i64 from_] (by rfl) (by rfl) (World.news_of_block (cs := #[.int .i64 k, .string x, .int .i64 i, .int .i64 from_]) (t := 30) (fr := (0, 0)) (by show ((w.alloc _).alloc _).heap[w.heap.size + 1]? = _; simpa using heap_alloc_new (w.alloc (.cells #[.int .i64 k, .string x, .int .i64 i, .int .i64 from_] 30)) _)) (by simp [Value.oneCell']) (by omega) (by unfold maxLen; omega) (by omega) (by simp; omega) (w.heap.size + 2) (by simp) ?_; intro gg cap w1 hown1 hgrow hat hlt; have hb1 : w1.heap[g]? = some (.cells #[.string s, .int .i64 at_, v] 37 (0, 0)) := (hgrow.block g (by simp; omega) hne).trans (blk_alloc (blk_alloc R _) _); have d2 : w1.cell? ⟨g, 2, none⟩ = some v := (blk_cell hb1 2).trans rfl; have e2 := blk_frozen hb1 2))
  all_goals go_wp2
  all_goals go_ret
  all_goals refine ⟨rfl, _, blk_put hb1 2 _ rfl, ?_, ?_⟩
  all_goals first
    | (show World.ownsRow _ B 30 4 _ (ts ++ [(k, x, i, (from_ : Int))]).length (cellsT (ts ++ [(k, x, i, (from_ : Int))]))
       rw [List.length_append, cellsT_snoc]
       exact own_setCell hown1 (own_ne hown1 hb1 (by decide)) _)
    | exact ((below_drew (((Below.refl B w).alloc hBw _).alloc (by simp; omega) _)).grown hgrow (by simp; omega) (own_base O)).setCell hB _
/-- nothing else has turned -/
structure Kp (B g : Nat) (w w' : World) : Prop where
  kb : KeepBut w w' g none
  bl : Below B w w'
theorem Kp.refl (B g : Nat) (w : World) : Kp B g w w := ⟨KeepBut.refl w g none, Below.refl B w⟩
theorem Kp.trans {B g : Nat} {w w1 w2 : World} (h : Kp B g w w1) (k : Kp B g w1 w2) : Kp B g w w2 := ⟨h.kb.trans k.kb (.inl rfl), h.bl.trans k.bl⟩
theorem Kp.drew {B g : Nat} {w w1 : World} (h : Kp B g w w1) : Kp B g w w1.drew := ⟨keep_drew h.kb, below_drew h.bl⟩
theorem Kp.drewN {B g : Nat} {w w1 : World} (h : Kp B g w w1) (n : Nat) : Kp B g w (w1.drewN n) := ⟨keep_drewN h.kb n, pw_below_drewN h.bl n⟩
theorem Kp.set_ {B g : Nat} {w w1 : World} (h : Kp B g w w1) (hB : B ≤ g) (j : Nat) (u : Value) : Kp B g w (w1.setCell ⟨g, j, none⟩ u) := ⟨h.kb.set_ j u, h.bl.setCell hB _⟩
theorem drop_at {s : ByteArray} {k : Nat} (h : k < s.size) : (bytesOf s).drop k = peekS s k :: (bytesOf s).drop (k + 1) := by
  have hl : k < (bytesOf s).length := by rw [bytesOf_length]; exact h
  unfold peekS
  rw [List.drop_eq_getElem_cons hl, List.getD_eq_getElem?_getD, List.getElem?_eq_getElem hl]; rfl
theorem drop_end {s : ByteArray} {k : Nat} (h : s.size ≤ k) : (bytesOf s).drop k = [] := List.drop_eq_nil_of_le (by rw [bytesOf_length]; exact h)
theorem peekS_range (s : ByteArray) (k : Nat) : 0 ≤ peekS s k ∧ peekS s k ≤ 255 := by
  by_cases h : k < s.size
  · rw [← peekS_in h]; have := (s[k]'h).toNat_lt; omega
  · rw [peekS_out (Nat.le_of_not_lt h)]; decide
theorem idx_skip : ∀ l : List UInt8, (Lib.indexByte l 10 = -1 ∧ skipB true (l.map fun b => (b.toNat : Int)) = []) ∨ ∃ n : Nat, Lib.indexByte l 10 = n ∧ n < l.length ∧ skipB true (l.map fun b => (b.toNat : Int)) = skipB false ((l.map fun b => (b.toNat : Int)).drop (n + 1))
  | [] => .inl ⟨rfl, rfl⟩
  | b :: l => by
    by_cases hb : b = 10
    · subst hb
      exact .inr ⟨0, rfl, by simp, rfl⟩
    · have h1 : (b == 10) = false := by simpa using hb
      have h2 : ¬ (b.toNat : Int) = 10 := by
        intro h
        have h3 : b.toNat = (10 : UInt8).toNat := by show b.toNat = 10; omega
        exact hb (UInt8.toNat_inj.1 h3)
      rw [List.map_cons, Lib.indexByte, h1, skipB, if_neg h2]
      rcases idx_skip l with ⟨e1, e2⟩ | ⟨n, e1, e2, e3⟩
      · exact .inl ⟨by rw [e1]; rfl, e2⟩
      · refine .inr ⟨n + 1, ?_, by simp; omega, ?_⟩
        · have : ((n : Int) == -1) = false := by simp <;> omega
          rw [e1, this]; rfl
        · rw [e3, List.drop_succ_cons]
theorem ext_bytes (s : ByteArray) (k : Nat) : ((s.extract k s.size).data.toList.map fun b => (b.toNat : Int)) = (bytesOf s).drop k := by
  unfold bytesOf
  rw [← List.map_drop]
  congr 1
  have : s.data.size = s.size := rfl
  simp [ByteArray.data_extract, Array.toList_extract, List.extract_eq_take_drop, List.take_of_length_le, this]
theorem head_peek {s : ByteArray} {k : Nat} {x : Int} (hx : x ≠ 0) : ((bytesOf s).drop k).head? = some x ↔ peekS s k = x := by
  by_cases h : k < s.size
  · rw [drop_at h]; simp
  · rw [drop_end (Nat.le_of_not_lt h), peekS_out (Nat.le_of_not_lt h)]
    simp; omega
set_option maxHeartbeats 4000000 in
set_option maxRecDepth 100000 in
theorem blanks (B g : Nat) (s : ByteArray) (at0 : Nat) (v : Value) (w : World) (hB : B ≤ g) (R : Ctr w g s at0 v) (hs : s.size ≤ 1000000) (ha : at0 ≤ s.size) :
    Calls Tryd.prog 17 #[.pointer (some ⟨g, 0, none⟩)] w fun e w' => e = .returned (.tuple #[]) ∧ ∃ at1, at0 ≤ at1 ∧ at1 ≤ s.size ∧ (bytesOf s).drop at1 = skipB false ((bytesOf s).drop at0) ∧ Ctr w' g s at1 v ∧ Kp B g w w' := by
  have HR := Aside0.mk R
  have Hs := Aside0.mk hs
  have Ha := Aside0.mk ha
  have HB := Aside0.mk hB
  clear R hs ha hB
  go_enter Tryd.func17, Tryd.ntmps17
  go_wp2_with fail
  go_step3
  go_wp2_with fail
  go_step3
  go_wp2_with fail
  go_loopg [] (s.size + 1) (fun gg wr => ∃ (at_ : Nat), Aside0 (at0 ≤ at_) ∧ Aside0 (at_ ≤ s.size) ∧ Aside0 (s.size + 1 - at_ ≤ gg) ∧ Aside0 (skipB false ((bytesOf s).drop at_) = skipB false ((bytesOf s).drop at0)) ∧ Aside0 (Ctr wr g s at_ v) ∧ Aside0 (Kp B g w wr))
  case atStart => exact ⟨at0, ⟨Nat.le_refl _⟩, Ha, ⟨by omega⟩, ⟨rfl⟩, HR, ⟨Kp.refl B g w⟩⟩
  case round =>
    clear HR
    obtain ⟨at_, ha0, ha1, hg, he, HR, HK⟩ := hrel
    obtain ⟨c0, c1, c2, f0, f1, f2⟩ := HR.out.cells
    by_cases hlt : at_ < s.size
    · have hd : decide (at_ < s.size) = true := decide_eq_true hlt
      have p0 : (0 : Int) ≤ (at_ : Int) := by omega
      have p1 : (at_ : Int) < (s.size : Int) := by omega
      have hw : IntKind.i64.wrap ((at_ : Int) + 1) = ((at_ + 1 : Nat) : Int) := by rw [IntWalk.i64_in _ (by have := Hs.out; omega)]; rfl
      have hdr := drop_at hlt
      have hpk := peekS_in hlt
      have HL := Aside0.mk hlt
      have HE := Aside0.mk he.out
      have HD := Aside0.mk hdr
      rw [hdr] at HE
      clear hdr he
      generalize peekS s at_ = c at *
      by_cases hb : isB c = true
      · have hb' : c = 32 ∨ c = 9 ∨ c = 10 ∨ c = 13 := by simpa [isB, or_assoc] using hb
        have hsk := HE.out
        rw [skipB, if_pos hb] at hsk
        have HE2 := Aside0.mk hsk
        clear HE hb hsk
        rcases hb' with rfl | rfl | rfl | rfl
        all_goals
          go_wp2_with fail
          go_quiet (fail)
          go_wp2_with fail
          go_quiet (fail)
          go_wp2
          go_roundg (s.size - at_)
          case measure => have := hg.out; have := HL.out; omega
          case rel => exact ⟨at_ + 1, ⟨by have := ha0.out; omega⟩, ⟨HL.out⟩, ⟨by omega⟩, HE2, ⟨(HR.out.drewN _).to (at_ + 1)⟩, ⟨(HK.out.drewN _).set_ HB.out 1 _⟩⟩
      · by_cases h45 : c = 45
        · subst h45
          have HE2 := HE.out
          rw [skipB, if_neg hb] at HE2
          have hp1 := @head_peek s (at_ + 1) 45 (by decide)
          have hr1 := peekS_range s (at_ + 1)
          by_cases hm : peekS s (at_ + 1) = 45
          · rw [if_pos ⟨rfl, hp1.2 hm⟩] at HE2
            have HE3 := Aside0.mk HE2
            have hne : (peekS s (at_ + 1) != 45) = false := by simpa using hm
            clear HE2 HE hp1 hr1 hm hb
            go_wp2_with fail
            go_quiet (fail)
            go_wp2_with fail
            go_quiet (fail)
            go_wp2_with fail
            refine (peek g s at_ 1 v _ (HR.out.drewN _) Hs.out ha1.out (by decide)).mono ?_
            rintro e w1 ⟨rfl, nk, hw1⟩
            have HR1 : Aside0 (Ctr w1 g s at_ v) := ⟨by rw [hw1]; exact HR.out⟩
            have HK1 : Aside0 (Kp B g w w1) := ⟨by rw [hw1]; exact (HK.out.drewN _).drewN _⟩
            clear hw1 c0 c1 c2 f0 f1 f2 HK HR
            obtain ⟨c0, c1, c2, f0, f1, f2⟩ := HR1.out.cells
            go_wp2_with fail
            obtain ⟨n, hn⟩ : ∃ n, n = Lib.indexByte (s.extract at_ s.size).data.toList 10 := ⟨_, rfl⟩
            have hix := idx_skip (s.extract at_ s.size).data.toList
            rw [← hn] at hix
            have p2 : (at_ : Int) ≤ (s.size : Int) := by omega
            go_quiet ((go_at_call 29; refine (Tryd.strings_IndexByte _ _ _).mono ?_; rintro e w2 ⟨rfl, rfl⟩; exact ⟨congrArg (fun x => Ending.returned (.int .i64 x)) hn.symm, _, rfl⟩))
            clear hn
            rcases hix with ⟨e1, e2⟩ | ⟨m, e1, e2, e3⟩
            · subst e1
              go_wp2
              rw [Exit.noGoto_normal]
              go_end0
              rw [ext_bytes, HD.out, skipB, if_neg (by decide), HE3.out] at e2
              exact ⟨rfl, s.size, by have := Ha.out; omega, Nat.le_refl _, by rw [e2]; exact drop_end (Nat.le_refl _), (HR1.out.drewN _).to s.size, (HK1.out.drewN _).set_ HB.out 1 _⟩
            · subst e1
              have hm0 : decide ((m : Int) < 0) = false := decide_eq_false (by omega)
              have hms : at_ + m < s.size := by
                have : (s.extract at_ s.size).data.toList.length = s.size - at_ := by simp
                omega
              have ha2 : IntKind.i64.wrap ((at_ : Int) + (m : Int)) = (at_ : Int) + (m : Int) := IntWalk.i64_in _ (by have := Hs.out; omega)
              have ha3 : IntKind.i64.wrap ((at_ : Int) + (m : Int) + 1) = (at_ : Int) + (m : Int) + 1 := IntWalk.i64_in _ (by have := Hs.out; omega)
              have HMS := Aside0.mk hms
              clear hms
              go_wp2
              rw [ext_bytes, HD.out, skipB, if_neg (by decide), HE3.out] at e3
              rw [← HD.out, List.drop_drop] at e3
              go_roundg (s.size - (at_ + m))
              case measure => have := hg.out; have := HL.out; have := HMS.out; omega
              case rel => exact ⟨at_ + m + 1, ⟨by have := ha0.out; omega⟩, HMS, ⟨by omega⟩, ⟨by rw [e3]; congr 2⟩, ⟨((HR1.out.drewN _).to (at_ + m)).to (at_ + m + 1)⟩, ⟨((HK1.out.drewN _).set_ HB.out 1 _).set_ HB.out 1 _⟩⟩
          · rw [if_neg (fun h => hm (hp1.1 h.2))] at HE2
            have HE3 := Aside0.mk HE2
            have hne : (peekS s (at_ + 1) != 45) = true := by simpa using hm
            clear HE2 HE hp1 hr1 hm hb
            go_wp2_with fail
            go_quiet (fail)
            go_wp2_with fail
            go_quiet (fail)
            go_wp2_with fail
            refine (peek g s at_ 1 v _ (HR.out.drewN _) Hs.out ha1.out (by decide)).mono ?_
            rintro e w1 ⟨rfl, nk, rfl⟩
            go_wp2
            rw [Exit.noGoto_normal]
            go_end0
            exact ⟨rfl, at_, ha0.out, ha1.out, HD.out.trans HE3.out, HR.out, (HK.out.drewN _)⟩
        · have HE2 := HE.out
          rw [skipB, if_neg hb, if_neg (fun h => h45 h.1)] at HE2
          have HE3 := Aside0.mk HE2
          have hb' : ¬ (c = 32 ∨ c = 9 ∨ c = 10 ∨ c = 13) := by simpa [isB, or_assoc] using hb
          have e32 : (c == 32) = false := by simp; omega
          have e9 : (c == 9) = false := by simp; omega
          have e10 : (c == 10) = false := by simp; omega
          have e13 : (c == 13) = false := by simp; omega
          have e45 : (c == 45) = false := by simp; omega
          clear HE2 HE hb' hb h45
          go_wp2_with fail
          go_quiet (fail)
          go_wp2_with fail
          go_quiet (fail)
          go_wp2
          rw [Exit.noGoto_normal]
          go_end0
          exact ⟨rfl, at_, ha0.out, ha1.out, HD.out.trans HE3.out, HR.out, HK.out.drewN _⟩
    · have hd : decide (at_ < s.size) = false := decide_eq_false hlt
      have he2 := Aside0.mk (show at_ = s.size by have := ha1.out; omega)
      clear hlt
      go_wp2_with fail
      go_quiet (fail)
      go_wp2
      rw [Exit.noGoto_normal]
      go_end0
      exact ⟨rfl, at_, ha0.out, ha1.out, by rw [← he.out, he2.out, drop_end (Nat.le_refl _)]; rfl, HR.out, HK.out.drewN _⟩
theorem or32 : ∀ n : Fin 256, isL (n.val : Int) = ((decide (97 ≤ Go.bits .or .u8 (n.val : Int) 32) && decide (Go.bits .or .u8 (n.val : Int) 32 ≤ 122)) || (n.val : Int) == 95) := by decide +kernel
theorem or32' {c : Int} (h0 : 0 ≤ c) (h1 : c ≤ 255) : isL c = ((decide (97 ≤ Go.bits .or .u8 c 32) && decide (Go.bits .or .u8 c 32 ≤ 122)) || c == 95) := by
  obtain ⟨n, rfl⟩ : ∃ n : Nat, c = n := ⟨c.toNat, by omega⟩
  exact or32 ⟨n, by omega⟩
set_option maxHeartbeats 2000000 in
set_option maxRecDepth 100000 in
theorem letter (c : Int) (w : World) (h0 : 0 ≤ c) (h1 : c ≤ 255) : Calls Tryd.prog 22 #[.int .u8 c] w fun e w' => e = .returned (.bool (isL c)) ∧ w' = w := by
  rw [or32' h0 h1]
  by_cases a : 97 ≤ Go.bits .or .u8 c 32
  · by_cases b : Go.bits .or .u8 c 32 ≤ 122
    · have ha : decide (97 ≤ Go.bits .or .u8 c 32) = true := decide_eq_true a
      have hb : decide (Go.bits .or .u8 c 32 ≤ 122) = true := decide_eq_true b
      go_enter Tryd.func22, Tryd.ntmps22
      go_wp2
      go_ret
      exact ⟨by first | rfl | (rw [ha, hb]; rfl) | (rw [ha]; rfl), rfl⟩
    · have ha : decide (97 ≤ Go.bits .or .u8 c 32) = true := decide_eq_true a
      have hb : decide (Go.bits .or .u8 c 32 ≤ 122) = false := decide_eq_false b
      go_enter Tryd.func22, Tryd.ntmps22
      go_wp2
      go_ret
      exact ⟨by first | rfl | (rw [ha, hb]; rfl) | (rw [ha]; rfl), rfl⟩
  · have ha : decide (97 ≤ Go.bits .or .u8 c 32) = false := decide_eq_false a
    go_enter Tryd.func22, Tryd.ntmps22
    go_wp2
    go_ret
    exact ⟨by first | rfl | (rw [ha]; rfl), rfl⟩
set_option maxHeartbeats 2000000 in
set_option maxRecDepth 100000 in
theorem digit (c : Int) (w : World) (h0 : 0 ≤ c) (h1 : c ≤ 255) : Calls Tryd.prog 23 #[.int .u8 c] w fun e w' => e = .returned (.bool (isD c)) ∧ w' = w := by
  unfold isD
  by_cases a : 48 ≤ c
  · have ha : decide (48 ≤ c) = true := decide_eq_true a
    go_enter Tryd.func23, Tryd.ntmps23
    go_wp2
    go_ret
    exact ⟨by first | rfl | (rw [ha]; rfl), rfl⟩
  · have ha : decide (48 ≤ c) = false := decide_eq_false a
    go_enter Tryd.func23, Tryd.ntmps23
    go_wp2
    go_ret
    exact ⟨by first | rfl | (rw [ha]; rfl), rfl⟩
/-- a letter or a digit -/
def isLD (c : Int) : Bool := isL c || isD c
/-- what a cutting method comes to: nothing, or one token more and the place behind it -/
def Gave (B g : Nat) (s : ByteArray) (at0 : Nat) (ts : List TokV) (w : World) (o : Option (Tok × List Int)) (e : Ending) (w' : World) : Prop :=
  Below B w w' ∧ match o with
    | none => e = .returned (.bool false)
    | some (t, rest) => e = .returned (.bool true) ∧ ∃ at1 v', at1 ≤ s.size ∧ (bytesOf s).drop at1 = rest ∧ Ctr w' g s at1 v' ∧ Own B w' v' (ts ++ [(t.1, strOfNums t.2.1, t.2.2, (at0 : Int))])
theorem low_byte : ∀ b : Fin 256, isLD (b.val : Int) = true → (Lib.lowerB (UInt8.ofNat b.val)) = UInt8.ofNat (low (b.val : Int)).toNat ∧ b.val < 128 := by decide +kernel
theorem low_byte' (b : UInt8) (h : isLD (b.toNat : Int) = true) : Lib.lowerB b = UInt8.ofNat (low (b.toNat : Int)).toNat ∧ b.toNat < 128 := by
  have := low_byte ⟨b.toNat, b.toNat_lt⟩ h
  simpa using this
theorem ext_part {s : ByteArray} {k : Nat} {part rest : List Int} (h : (bytesOf s).drop k = part ++ rest) : ((s.extract k (k + part.length)).data.toList.map fun b => (b.toNat : Int)) = part := by
  have e : ((s.extract k (k + part.length)).data.toList.map fun b => (b.toNat : Int)) = ((bytesOf s).drop k).take part.length := by
    unfold bytesOf
    rw [← List.map_drop, ← List.map_take]
    congr 1
    simp [ByteArray.data_extract, Array.toList_extract, List.extract_eq_take_drop]
  rw [e, h, List.take_left']
  rfl
theorem lower_part {X : ByteArray} {part : List Int} (h : (X.data.toList.map fun b => (b.toNat : Int)) = part) (hp : ∀ x ∈ part, isLD x = true) : (⟨(Lib.toLowerA X.data.toList).toArray⟩ : ByteArray) = strOfNums (part.map low) := by
  subst h
  unfold strOfNums Lib.toLowerA
  rw [List.map_map, List.map_map]
  congr 2
  exact List.map_congr_left fun b hb => (low_byte' b (hp _ (List.mem_map.2 ⟨b, hb, rfl⟩))).1
theorem lower_ascii {X : ByteArray} {part : List Int} (h : (X.data.toList.map fun b => (b.toNat : Int)) = part) (hp : ∀ x ∈ part, isLD x = true) : ∀ (j : Nat) (b : UInt8), X.data.toList[j]? = some b → b.toNat < 128 := by
  subst h
  intro j b hj
  exact (low_byte' b (hp _ (List.mem_map.2 ⟨b, List.mem_of_getElem? hj, rfl⟩))).2
theorem own_of_below {B : Nat} {w w1 : World} {v : Value} {ts : List TokV} (h : Own B w v ts) (hb : Below w.heap.size w w1) : Own B w1 v ts := by
  refine ⟨h.1, ?_⟩
  rcases h.2 with h0 | ⟨g, cap, cur, hv, hB, hg, r⟩
  · exact .inl h0
  · exact .inr ⟨g, cap, cur, hv, hB, blk_below hg hb, r⟩
theorem Kp.own {B g : Nat} {w w1 : World} (h : Kp B g w w1) {s : ByteArray} {at_ : Nat} {v : Value} {ts : List TokV} (O : Own B w v ts) (R : Ctr w g s at_ v) : Own B w1 v ts := by
  refine h.kb.own O (Ne.symm (own_ne O R (by decide))) ?_
  cases v.ownBlock with
  | none => exact .inl rfl
  | some b => exact .inr (by simp)
end Go.Proofs.YtffaibjiiiochaaDoor.Ct
