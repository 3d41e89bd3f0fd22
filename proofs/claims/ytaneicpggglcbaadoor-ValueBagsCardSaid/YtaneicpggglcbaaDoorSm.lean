/- slices.SortStableFunc at api.Row, walked: swapRange, rotate, insertionSort, symMerge, stable (over the plain text So). -/
import Derived.Test.YtaneicpggglcbaaDoorProg
import Derived.Test.YtaneicpggglcbaaDoorWWords
import Derived.Test.YtaneicpggglcbaaDoorSo
import Derived.LoopTactic
import Derived.Deep.LoopGhost
import Derived.Deep.DeepCutAuto
import Derived.Deep.QuietTactic
import Derived.BigQuiet
import Derived.BigRegion
import Derived.Shelf.SlicesE.Kit
import Derived.Sort.Row
import Derived.Sort.WalkA
import Derived.Outline
import Derived.Shelf.RegionOpenPlain
import Derived.IntWalk
set_option linter.unusedVariables false
set_option linter.unusedSimpArgs false
namespace Go.Proofs.YtaneicpggglcbaaDoor.Sm
open Go.RowKit Go.Proofs.YtaneicpggglcbaaDoorW.PrintWords
open Go.Sort hiding Below
open Go.Proofs.YtaneicpggglcbaaDoor.So
variable {α : Type} [Inhabited α] {enc : α → Value} {w0 W W' : World} {blk off : Nat} {dk d0 : Array α}
/-- below w0's end the world is w0 with the row holding dk -/
def SB (enc : α → Value) (w0 : World) (blk off : Nat) (dk : Array α) (W : World) : Prop := RowKit.Below w0.heap.size (putRow enc w0 blk off dk) W
structure Row (enc : α → Value) (w0 : World) (blk off : Nat) (d0 : Array α) : Prop where
  hO : OneCell enc
  hH : Holds enc w0 blk off d0
  hblk : blk < w0.heap.size
theorem SB.start (R : Row enc w0 blk off d0) : SB enc w0 blk off d0 w0 := by
  unfold SB
  rw [putRow_self _ _ _ _ _ R.hH]
  exact RowKit.Below.refl _ _
theorem SB.drew (h : SB enc w0 blk off dk W) : SB enc w0 blk off dk W.drew := RowKit.Below.drew h
theorem SB.le (h : SB enc w0 blk off dk W) : w0.heap.size ≤ W.heap.size := by
  have := RowKit.Below.size h
  rwa [size_putRow] at this
theorem SB.below (h : SB enc w0 blk off dk W) (hb : RowKit.Below w0.heap.size W W') : SB enc w0 blk off dk W' := RowKit.Below.trans h hb
theorem SB.call (h : SB enc w0 blk off dk W) (hb : RowKit.Below W.heap.size W W') : SB enc w0 blk off dk W' := h.below (hb.mono h.le)
theorem SB.holds (h : SB enc w0 blk off dk W) (R : Row enc w0 blk off d0) (hs : dk.size = d0.size) : Holds enc W blk off dk := by
  intro j hj
  have := holds_putRow enc w0 blk off d0 dk R.hH hs j hj
  refine ⟨(RowKit.Below.cell h (p := ⟨blk, off + j, none⟩) R.hblk).trans this.1, (RowKit.Below.frozen h (p := ⟨blk, off + j, none⟩) R.hblk).trans this.2⟩
theorem SB.c1 (h : SB enc w0 blk off dk W) (R : Row enc w0 blk off d0) (hs : dk.size = d0.size) (i : Nat) (hi : i < dk.size) : W.cell? ⟨blk, off + i, none⟩ = some (enc dk[i]!) := (h.holds R hs i hi).1
theorem SB.f1 (h : SB enc w0 blk off dk W) (R : Row enc w0 blk off d0) (hs : dk.size = d0.size) (i : Nat) (hi : i < dk.size) : W.frozen? ⟨blk, off + i, none⟩ = false := (h.holds R hs i hi).2
theorem SB.c2 (h : SB enc w0 blk off dk W) (R : Row enc w0 blk off d0) (hs : dk.size = d0.size) (i j : Nat) (hi : i < dk.size) (hj : j < dk.size) (v : Value) :
    ∃ u, (W.setCell ⟨blk, off + i, none⟩ v).cell? ⟨blk, off + j, none⟩ = some u := by
  by_cases e : i = j
  · subst e; exact ⟨v, World.cell?_setCell_same _ _ _ (h.c1 R hs i hi)⟩
  · exact ⟨_, (World.cell?_setCell_other _ _ _ _ (by intro e'; simp only [Addr.mk.injEq] at e'; omega)).trans (h.c1 R hs j hj)⟩
theorem below_setCell2 {B : Nat} {a b : World} (h : RowKit.Below B a b) (p : Addr) (u : Value) : RowKit.Below B (a.setCell p u) (b.setCell p u) := by
  refine ⟨h.os, h.tape, h.output, by simpa [World.setCell] using h.size, fun k hk => ?_⟩
  have := h.block k hk
  simp only [World.setCell, Array.getElem?_modify]
  rw [this]
theorem SB.swapped (h : SB enc w0 blk off dk W) (i j : Nat) (hi : i < dk.size) (hj : j < dk.size) :
    SB enc w0 blk off (swp dk i j) ((W.setCell ⟨blk, off + i, none⟩ (enc dk[j]!)).setCell ⟨blk, off + j, none⟩ (enc dk[i]!)).drew := by
  refine SB.drew ?_
  unfold SB
  rw [← putRow_swp _ _ _ _ _ _ _ hi hj]
  exact below_setCell2 (below_setCell2 h _ _) _ _
/-- what is asked of the comparison (function 24) -/
def CmpOk (enc : α → Value) (cf : α → α → Int) (blk off size : Nat) (w0 : World) : Prop :=
  ∀ (dk : Array α) (W : World), dk.size = size → SB enc w0 blk off dk W → ∀ x y : α, Calls Tryd.prog 24 #[enc x, enc y] W fun e w' => e = .returned (.int .i64 (cf x y)) ∧ RowKit.Below W.heap.size W w'
/-- a world of the sort's, under a name -/
structure LW (enc : α → Value) (w0 : World) (blk off : Nat) (dk : Array α) where
  w : World
  h : SB enc w0 blk off dk w
theorem wp_region_lw {id : Nat} {Q : Exit → Act → World → Prop} {a : Act} {w : World} {l : List Oper} (hB : Region.lexB .any l.toArray = true) (hS : SB enc w0 blk off dk w)
    (h : wpQuiet Tryd.prog l.toArray (fun w' => ∃ p : LW enc w0 blk off dk, w' = p.w) (fun a' => ∀ w', (∃ p : LW enc w0 blk off dk, w' = p.w) → Q .normal a' w') l a) : (Code.region id l.toArray true).wp Tryd.prog Q a w :=
  wp_region_quiet (C := fun w' => ∃ p : LW enc w0 blk off dk, w' = p.w) (by kernel_rfl) hB ⟨⟨w.drew, hS.drew⟩, rfl⟩ (by simpa using h)
theorem lw_of {f : FuncId} {args : Array Value} {v : Value} {p : LW enc w0 blk off dk} (h : Calls Tryd.prog f args p.w fun e w' => e = .returned v ∧ RowKit.Below p.w.heap.size p.w w') :
    Calls Tryd.prog f args p.w fun e w'' => e = .returned v ∧ ∃ p' : LW enc w0 blk off dk, w'' = p'.w :=
  h.mono fun _ w'' ⟨he, hb⟩ => ⟨he, ⟨w'', p.h.call hb⟩, rfl⟩
def ltOf (cf : α → α → Int) (x y : α) : Bool := decide (cf x y < 0)
theorem wrN {x : Int} {n : Nat} (h : x = (n : Int)) (h2 : n < 9223372036854775808) : IntKind.i64.wrap x = (n : Int) := by
  subst h
  rw [IntKind.wrap_i64]
  omega
theorem wr64 {x : Int} {n : Nat} (h : x = (n : Int)) (h2 : n < 9223372036854775808) : wrap64 x = (n : Int) := by
  subst h
  unfold wrap64
  omega
variable {cf : α → α → Int}
set_option maxHeartbeats 4000000 in
set_option maxRecDepth 1000000 in
theorem swapRange_s (enc : α → Value) (blk off cap a b n : Nat) (d0 d : Array α) (w0 w : World) (R : Row enc w0 blk off d0) (hs : d.size = d0.size) (S : SB enc w0 blk off d w) (h1 : a + n ≤ b) (h2 : b + n ≤ d.size) (hsz : d.size < 4611686018427387904) :
    Calls Tryd.prog 96 #[.slice (some ⟨blk, off, none⟩) d.size cap, .int .i64 a, .int .i64 b, .int .i64 n, .func (.func 24) #[] #[]] w fun e w' => e = .returned (.tuple #[]) ∧ SB enc w0 blk off (So.swapRange d a b n) w' := by
  have hcl0 := R.hO.cells
  simp only [Value.cells] at hcl0
  have hst := R.hO.store Tryd.prog
  have S0 := Aside0.mk S
  clear S
  go_enter Tryd.func96, Tryd.ntmps96
  go_wp2
  go_loopg [10] n (fun gg v10 wr => ∃ (k : Nat) (dk : Array α), v10 = .int .i64 k ∧ Aside0 (k ≤ n) ∧ Aside0 (n - k ≤ gg) ∧ Aside0 (dk = So.swapRange d a b k) ∧ Aside0 (SB enc w0 blk off dk wr))
  case atStart => exact ⟨0, d, rfl, ⟨Nat.zero_le _⟩, ⟨Nat.le_refl _⟩, ⟨rfl⟩, S0⟩
  case round =>
    clear S0
    obtain ⟨k, dk, rfl, hk, hg, hd, S1⟩ := hrel
    have hds : dk.size = d.size := by rw [hd.out, So.swapRange_size]
    by_cases hlt : k < n
    · have hlz : (k : Int) < (n : Int) := by omega
      obtain ⟨iN, hi⟩ : ∃ q, q = a + k := ⟨_, rfl⟩
      obtain ⟨jN, hj⟩ : ∃ q, q = b + k := ⟨_, rfl⟩
      have ra : IntKind.i64.wrap ((a : Int) + (k : Int)) = (iN : Int) := by rw [IntKind.wrap_i64]; omega
      have rb : IntKind.i64.wrap ((b : Int) + (k : Int)) = (jN : Int) := by rw [IntKind.wrap_i64]; omega
      have ba : (iN : Int) < (d.size : Int) := by omega
      have bb : (jN : Int) < (d.size : Int) := by omega
      have pa : (0 : Int) ≤ (iN : Int) := Int.natCast_nonneg _
      have pb : (0 : Int) ≤ (jN : Int) := Int.natCast_nonneg _
      have HI := Aside0.mk hi
      have HJ := Aside0.mk hj
      have hia : iN < dk.size := by omega
      have hja : jN < dk.size := by omega
      have S3 := Aside0.mk (S1.out.swapped iN jN hia hja)
      have c1 := S1.out.c1 R (hds.trans hs) iN hia
      have c2 := S1.out.c1 R (hds.trans hs) jN hja
      have f1 := S1.out.f1 R (hds.trans hs) iN hia
      have f2 := S1.out.f1 R (hds.trans hs) jN hja
      obtain ⟨u, c3⟩ := S1.out.c2 R (hds.trans hs) iN jN hia hja (enc dk[jN]!)
      have D3 : Aside0 (swp dk iN jN = So.swapRange d a b (k + 1)) := ⟨by rw [So.swapRange, ← hd.out, hi, hj]⟩
      have hlt' := Aside0.mk hlt
      have hn : IntKind.i64.wrap ((k : Int) + 1) = ((k + 1 : Nat) : Int) := by rw [IntKind.wrap_i64]; omega
      generalize dk[iN]! = x at c1 S3
      generalize dk[jN]! = y at c2 c3 S3
      clear hlt hi hj
      go_wp2_with fail
      go_region
      all_goals (
        clear c1 c2 c3 f1 f2
        generalize ((wr.setCell ⟨blk, off + iN, none⟩ (enc y)).setCell ⟨blk, off + jN, none⟩ (enc x)).drew = w3 at S3 ⊢
        go_wp2
        go_roundg (n - (k + 1))
        case measure => have := hlt'.out; have := hg.out; omega
        case rel => exact ⟨k + 1, _, rfl, ⟨hlt'.out⟩, ⟨Nat.le_refl _⟩, D3, S3⟩)
    · have hlz : ¬ (k : Int) < (n : Int) := by omega
      have hkn : k = n := by have := hk.out; omega
      have hE : Aside0 (dk = So.swapRange d a b n) := ⟨by rw [hd.out, hkn]⟩
      clear hkn hlt
      go_wp2
      go_end0
      refine ⟨rfl, ?_⟩
      rw [← hE.out]
      exact S1.out
theorem rot_end (m : Nat) : ∀ (f i : Nat) (d : Array α), So.rotLoop m f i i d = So.swapRange d (m - i) m i
  | 0, i, d => rfl
  | f + 1, i, d => by rw [So.rotLoop, if_pos rfl]
theorem rotLoop_size (m : Nat) : ∀ (f i j : Nat) (d : Array α), (So.rotLoop m f i j d).size = d.size
  | 0, i, j, d => So.swapRange_size _ _ _ _
  | f + 1, i, j, d => by
    rw [So.rotLoop]
    split
    · exact So.swapRange_size _ _ _ _
    · split <;> rw [rotLoop_size m f, So.swapRange_size]
set_option maxHeartbeats 4000000 in
set_option maxRecDepth 1000000 in
theorem rotate_s (enc : α → Value) (blk off cap a m b : Nat) (d0 d : Array α) (w0 w : World) (R : Row enc w0 blk off d0) (hs : d.size = d0.size) (S : SB enc w0 blk off d w) (h1 : a < m) (h2 : m < b) (h3 : b ≤ d.size) (hsz : d.size < 4611686018427387904) :
    Calls Tryd.prog 88 #[.slice (some ⟨blk, off, none⟩) d.size cap, .int .i64 a, .int .i64 m, .int .i64 b, .func (.func 24) #[] #[]] w fun e w' => e = .returned (.tuple #[]) ∧ SB enc w0 blk off (So.rotLoop m (b - a) (m - a) (b - m) d) w' := by
  have S0 := Aside0.mk S
  have R0 := Aside0.mk R
  have HS := Aside0.mk hs
  clear S R hs
  have e1 : IntKind.i64.wrap ((m : Int) - (a : Int)) = ((m - a : Nat) : Int) := wrN (by omega) (by omega)
  have e2 : IntKind.i64.wrap ((b : Int) - (m : Int)) = ((b - m : Nat) : Int) := wrN (by omega) (by omega)
  obtain ⟨i0, hi0⟩ : ∃ q, q = m - a := ⟨_, rfl⟩
  obtain ⟨j0, hj0⟩ : ∃ q, q = b - m := ⟨_, rfl⟩
  rw [← hi0] at e1 ⊢
  rw [← hj0] at e2 ⊢
  obtain ⟨F, hF⟩ : ∃ q, q = b - a := ⟨_, rfl⟩
  rw [← hF]
  have hfi : i0 + j0 ≤ F + 1 := by omega
  have hi1 : 0 < i0 := by omega
  have hj1 : 0 < j0 := by omega
  have him : i0 ≤ m := by omega
  have hjm : m + j0 ≤ d.size := by omega
  clear hi0 hj0 hF h1 h2 h3
  go_enter Tryd.func88, Tryd.ntmps88
  go_wp2
  go_loopg [10, 11] (i0 + j0) (fun gg v10 v11 wr => ∃ (i j f : Nat) (dk : Array α), v10 = .int .i64 i ∧ v11 = .int .i64 j ∧ Aside0 (i + j ≤ gg) ∧ Aside0 (0 < i ∧ 0 < j ∧ i ≤ m ∧ m + j ≤ d.size ∧ i + j ≤ f + 1) ∧ Aside0 (dk.size = d.size) ∧ Aside0 (So.rotLoop m f i j dk = So.rotLoop m F i0 j0 d) ∧ Aside0 (SB enc w0 blk off dk wr))
  case atStart => exact ⟨i0, j0, F, d, rfl, rfl, ⟨Nat.le_refl _⟩, ⟨hi1, hj1, him, hjm, hfi⟩, ⟨rfl⟩, ⟨rfl⟩, S0⟩
  case round =>
    clear S0 e1 e2 hfi hi1 hj1 him hjm
    obtain ⟨i, j, f, dk, rfl, rfl, hg, hn, hds, hd, S1⟩ := hrel
    by_cases he : i = j
    · subst he
      have ei : IntKind.i64.wrap ((m : Int) - (i : Int)) = ((m - i : Nat) : Int) := wrN (by have := hn.out; omega) (by have := hn.out; omega)
      have C := swapRange_s enc blk off cap (m - i) m i d0 dk w0 wr R0.out (hds.out.trans HS.out) S1.out (by have := hn.out; omega) (by have := hn.out; have := hds.out; omega) (by rw [hds.out]; exact hsz)
      rw [hds.out] at C
      go_wp2_with fail
      refine C.mono ?_
      rintro e w' ⟨rfl, S'⟩
      have S2 := Aside0.mk S'
      clear S' C
      go_wp2
      go_end0
      refine ⟨rfl, ?_⟩
      rw [← hd.out, rot_end]
      exact S2.out
    · have hne : ((i : Int) != (j : Int)) = true := by simp; omega
      have hne' : ((i : Int) == (j : Int)) = false := by simp; omega
      have hne2 : ¬ (i : Int) = (j : Int) := by omega
      obtain ⟨f', hf'⟩ : ∃ q, f = q + 1 := ⟨f - 1, by have := hn.out; omega⟩
      subst hf'
      by_cases hlt : j < i
      · have hlz : (j : Int) < (i : Int) := by omega
        have ei : IntKind.i64.wrap ((m : Int) - (i : Int)) = ((m - i : Nat) : Int) := wrN (by have := hn.out; omega) (by have := hn.out; omega)
        have ej : IntKind.i64.wrap ((i : Int) - (j : Int)) = ((i - j : Nat) : Int) := wrN (by omega) (by have := hn.out; omega)
        have hd2 : Aside0 (So.rotLoop m f' (i - j) j (So.swapRange dk (m - i) m j) = So.rotLoop m F i0 j0 d) := ⟨by rw [← hd.out, So.rotLoop, if_neg he, if_pos hlt]⟩
        have C := swapRange_s enc blk off cap (m - i) m j d0 dk w0 wr R0.out (hds.out.trans HS.out) S1.out (by have := hn.out; omega) (by have := hn.out; have := hds.out; omega) (by rw [hds.out]; exact hsz)
        rw [hds.out] at C
        have L := Aside0.mk hlt
        clear hlt he
        go_wp2_with fail
        refine C.mono ?_
        rintro e w' ⟨rfl, S'⟩
        have S2 := Aside0.mk S'
        clear S' C
        go_wp2
        go_roundg (i - j + j)
        case measure => have := hg.out; have := hn.out; have := L.out; omega
        case rel => exact ⟨i - j, j, f', _, rfl, rfl, ⟨Nat.le_refl _⟩, ⟨by have := hn.out; have := L.out; omega⟩, ⟨by rw [So.swapRange_size]; exact hds.out⟩, hd2, S2⟩
      · have hlz : ¬ (j : Int) < (i : Int) := by omega
        have ei : IntKind.i64.wrap ((m : Int) - (i : Int)) = ((m - i : Nat) : Int) := wrN (by have := hn.out; omega) (by have := hn.out; omega)
        have ej : IntKind.i64.wrap ((j : Int) - (i : Int)) = ((j - i : Nat) : Int) := wrN (by omega) (by have := hn.out; omega)
        have em0 : IntKind.i64.wrap ((m : Int) + (j : Int)) = ((m + j : Nat) : Int) := wrN (by have := hn.out; omega) (by have := hn.out; omega)
        have em1 : IntKind.i64.wrap (((m + j : Nat) : Int) - (i : Int)) = ((m + j - i : Nat) : Int) := wrN (by have := hn.out; omega) (by have := hn.out; omega)
        have em2 : IntKind.i64.wrap ((m : Int) + (j : Int) - (i : Int)) = ((m + j - i : Nat) : Int) := wrN (by have := hn.out; omega) (by have := hn.out; omega)
        have hd2 : Aside0 (So.rotLoop m f' i (j - i) (So.swapRange dk (m - i) (m + j - i) i) = So.rotLoop m F i0 j0 d) := ⟨by rw [← hd.out, So.rotLoop, if_neg he, if_neg hlt]⟩
        have C := swapRange_s enc blk off cap (m - i) (m + j - i) i d0 dk w0 wr R0.out (hds.out.trans HS.out) S1.out (by have := hn.out; omega) (by have := hn.out; have := hds.out; omega) (by rw [hds.out]; exact hsz)
        rw [hds.out] at C
        have L : Aside0 (i < j) := ⟨by omega⟩
        clear hlt he
        go_wp2_with fail
        refine C.mono ?_
        rintro e w' ⟨rfl, S'⟩
        have S2 := Aside0.mk S'
        clear S' C
        go_wp2
        go_roundg (i + (j - i))
        case measure => have := hg.out; have := hn.out; have := L.out; omega
        case rel => exact ⟨i, j - i, f', _, rfl, rfl, ⟨Nat.le_refl _⟩, ⟨by have := hn.out; have := L.out; omega⟩, ⟨by rw [So.swapRange_size]; exact hds.out⟩, hd2, S2⟩
set_option maxHeartbeats 16000000 in
set_option maxRecDepth 1000000 in
theorem insertion_s (enc : α → Value) (cf : α → α → Int) (blk off cap a b : Nat) (d0 d : Array α) (w0 w : World) (hcmp : CmpOk enc cf blk off d0.size w0) (R : Row enc w0 blk off d0) (hs : d.size = d0.size) (S : SB enc w0 blk off d w) (hab : a ≤ b) (hb : b ≤ d.size) (hsz : d.size < 4611686018427387904) :
    Calls Tryd.prog 76 #[.slice (some ⟨blk, off, none⟩) d.size cap, .int .i64 a, .int .i64 b, .func (.func 24) #[] #[]] w fun e w' => e = .returned (.tuple #[]) ∧ SB enc w0 blk off (Sort.insertionSort (ltOf cf) d a b) w' := by
  have hcl0 := R.hO.cells
  simp only [Value.cells] at hcl0
  have hst := R.hO.store Tryd.prog
  have HC := Aside0.mk hcmp
  have S0 := Aside0.mk S
  have HS := Aside0.mk hs
  have HAB := Aside0.mk hab
  have HB := Aside0.mk hb
  clear S hcmp hs hab hb
  go_enter Tryd.func76, Tryd.ntmps76
  go_wp2
  go_loopg [8] (b - a) (fun g1 vi wr => ∃ (i : Nat) (dk : Array α), vi = .int .i64 i ∧ Aside0 (a < i ∧ i ≤ b + 1 ∧ b + 1 - i ≤ g1 + 1) ∧ Aside0 (dk.size = d.size) ∧ Aside0 (SB enc w0 blk off dk wr) ∧ Aside0 (insOuter (ltOf cf) a b i dk = insOuter (ltOf cf) a b (a + 1) d))
  case atStart => exact ⟨a + 1, d, by congr 1; refine wr64 (by omega) ?_; have := HAB.out; have := HB.out; omega, ⟨by have := HAB.out; omega⟩, ⟨rfl⟩, S0, ⟨rfl⟩⟩
  case round =>
    clear S0
    obtain ⟨i, dk, rfl, hn, hsk, S1, HO⟩ := hrel
    by_cases hlt : i < b
    · have hltz : (i : Int) < (b : Int) := by omega
      have HL := Aside0.mk hlt
      clear hlt
      go_wp2
      go_loopg [9] i (fun g2 vj wr2 => ∃ (j : Nat) (dj : Array α), vj = .int .i64 j ∧ Aside0 (a ≤ j ∧ j ≤ i ∧ j ≤ g2) ∧ Aside0 (dj.size = d.size) ∧ Aside0 (SB enc w0 blk off dj wr2) ∧ Aside0 (insInner (ltOf cf) a j dj = insInner (ltOf cf) a i dk))
      case atStart => exact ⟨i, dk, rfl, ⟨by have := hn.out; omega⟩, hsk, S1, ⟨rfl⟩⟩
      case round =>
        clear S1
        obtain ⟨j, dj, rfl, hj, hsj, SJ, HI⟩ := hrel
        have OUT : Aside0 ((j ≤ a ∨ (ltOf cf) dj[j]! dj[j - 1]! = false) → insOuter (ltOf cf) a b (i + 1) dj = insOuter (ltOf cf) a b (a + 1) d) := ⟨fun hs => by
          rw [← HO.out, insOuter_go _ _ _ _ _ HL.out, ← HI.out, insInner_stop _ _ _ _ hs]⟩
        by_cases hja : a < j
        · obtain ⟨jp, hjp⟩ : ∃ q, j = q + 1 := ⟨j - 1, by omega⟩
          subst hjp
          have hjad : decide (((jp + 1 : Nat) : Int) > (a : Int)) = true := decide_eq_true (by omega)
          have hjaz : (a : Int) < ((jp + 1 : Nat) : Int) := by omega
          obtain ⟨iN, hi⟩ : ∃ q, q = jp + 1 := ⟨_, rfl⟩
          have e1 : IntKind.i64.wrap (((jp + 1 : Nat) : Int) - 1) = (jp : Int) := wrN (by omega) (by have := hj.out; have := hn.out; have := HL.out; have := HB.out; omega)
          rw [← hi] at hjad hjaz e1 ⊢
          have i1 : iN < dj.size := by have := hj.out; have := HL.out; have := HB.out; have := hsj.out; omega
          have i2 : jp < dj.size := by omega
          have ba : (iN : Int) < (d.size : Int) := by have := hsj.out; omega
          have bb : (jp : Int) < (d.size : Int) := by have := hsj.out; omega
          have pa : (0 : Int) ≤ (iN : Int) := Int.natCast_nonneg _
          have pb : (0 : Int) ≤ (jp : Int) := Int.natCast_nonneg _
          have l1 : ∀ p : LW enc w0 blk off dj, p.w.cell? ⟨blk, off + iN, none⟩ = some (enc dj[iN]!) := fun p => p.h.c1 R (hsj.out.trans HS.out) iN i1
          have l2 : ∀ p : LW enc w0 blk off dj, p.w.cell? ⟨blk, off + jp, none⟩ = some (enc dj[jp]!) := fun p => p.h.c1 R (hsj.out.trans HS.out) jp i2
          have hc : ∀ p : LW enc w0 blk off dj, Calls Tryd.prog 24 #[enc dj[iN]!, enc dj[jp]!] p.w fun e w' => e = .returned (.int .i64 (cf dj[iN]! dj[jp]!)) ∧ RowKit.Below p.w.heap.size p.w w' := fun p => HC.out dj p.w (hsj.out.trans HS.out) p.h _ _
          have HI' := Aside0.mk hi
          have HJA := Aside0.mk hja
          have I1 := Aside0.mk i1
          have I2 := Aside0.mk i2
          clear hi hja i1 i2
          cases hlv : (ltOf cf) dj[iN]! dj[jp]! with
          | true =>
            have hv : cf dj[iN]! dj[jp]! < 0 := of_decide_eq_true hlv
            have HLV := Aside0.mk hlv
            clear hlv
            obtain ⟨x, hx⟩ : ∃ x, x = dj[iN]! := ⟨_, rfl⟩
            obtain ⟨y, hy⟩ : ∃ x, x = dj[jp]! := ⟨_, rfl⟩
            rw [← hx] at l1 hc hv
            rw [← hy] at l2 hc hv
            have HX := Aside0.mk hx
            have HY := Aside0.mk hy
            clear hx hy
            have hd : decide (cf x y < 0) = true := decide_eq_true hv
            go_wp2_with fail
            have : Nonempty (LW enc w0 blk off dj) := ⟨⟨wr, SJ.out⟩⟩
            refine wp_region_lw (by kernel_rfl) SJ.out ?_
            repeat (quiet_step (first | (go_at_call 24; exact lw_of (hc _)) | exact lw_of (hc _)))
            refine wpQuiet_nil ?_
            intro _ hw'
            obtain ⟨p, hw''⟩ := hw'
            subst hw''
            have S2 := Aside0.mk p.h
            clear l1 l2 hc
            generalize p.w = w2 at S2 ⊢
            clear p
            have c1 := S2.out.c1 R (hsj.out.trans HS.out) iN I1.out
            have c2 := S2.out.c1 R (hsj.out.trans HS.out) jp I2.out
            have f1 := S2.out.f1 R (hsj.out.trans HS.out) iN I1.out
            have f2 := S2.out.f1 R (hsj.out.trans HS.out) jp I2.out
            have S3 := Aside0.mk (S2.out.swapped iN jp I1.out I2.out)
            rw [← HX.out] at c1 S3
            rw [← HY.out] at c2 S3
            obtain ⟨u, c3⟩ := S2.out.c2 R (hsj.out.trans HS.out) iN jp I1.out I2.out (enc y)
            go_wp2_with fail
            go_region
            all_goals (
              clear c1 c2 c3 f1 f2
              generalize ((w2.setCell ⟨blk, off + iN, none⟩ (enc y)).setCell ⟨blk, off + jp, none⟩ (enc x)).drew = w3 at S3 ⊢
              go_wp2
              go_roundg jp
              case measure => have := hj.out; omega
              case rel =>
                refine ⟨jp, _, rfl, ⟨by have := hj.out; have := HJA.out; omega⟩, ⟨by rw [size_swp]; exact hsj.out⟩, S3, ⟨?_⟩⟩
                rw [← HI.out, HI'.out]
                have q := insInner_go (lt := ltOf cf) a (jp + 1) dj HJA.out (by simp only [Nat.add_sub_cancel]; rw [← HI'.out]; exact HLV.out)
                simp only [Nat.add_sub_cancel] at q
                exact q.symm)
          | false =>
            have hv : ¬ cf dj[iN]! dj[jp]! < 0 := of_decide_eq_false hlv
            have HLV := Aside0.mk hlv
            clear hlv
            obtain ⟨x, hx⟩ : ∃ x, x = dj[iN]! := ⟨_, rfl⟩
            obtain ⟨y, hy⟩ : ∃ x, x = dj[jp]! := ⟨_, rfl⟩
            rw [← hx] at l1 hc hv
            rw [← hy] at l2 hc hv
            have HX := Aside0.mk hx
            have HY := Aside0.mk hy
            clear hx hy
            have hd : decide (cf x y < 0) = false := decide_eq_false hv
            go_wp2_with fail
            have : Nonempty (LW enc w0 blk off dj) := ⟨⟨wr, SJ.out⟩⟩
            refine wp_region_lw (by kernel_rfl) SJ.out ?_
            repeat (quiet_step (first | (go_at_call 24; exact lw_of (hc _)) | exact lw_of (hc _)))
            refine wpQuiet_nil ?_
            intro _ hw'
            obtain ⟨p, hw''⟩ := hw'
            subst hw''
            have S2 := Aside0.mk p.h
            clear l1 l2 hc
            generalize p.w = w2 at S2 ⊢
            clear p
            go_wp2
            go_roundg (b - (i + 1))
            case measure => have := hn.out; omega
            case rel => exact ⟨i + 1, dj, by first | rfl | (congr 1; refine wr64 (by omega) ?_; have := HL.out; have := HB.out; omega), ⟨by have := hn.out; have := HL.out; omega⟩, hsj, S2, ⟨OUT.out (Or.inr (by simp only [Nat.add_sub_cancel]; rw [← HI'.out]; exact HLV.out))⟩⟩
        · have hjad : decide ((j : Int) > (a : Int)) = false := decide_eq_false (by omega)
          have hjaz : ¬ (a : Int) < (j : Int) := by omega
          have hja' : j ≤ a := by omega
          have HJ := Aside0.mk hja'
          clear hja'
          go_wp2_with fail
          have hm : Tryd.prog.follows .mixedOrders = true := by kernel_rfl
          go_big_region_o
          have S2 := Aside0.mk SJ.out.drew
          clear SJ
          generalize wr.drew = w2 at S2 ⊢
          go_wp2
          go_roundg (b - (i + 1))
          case measure => have := hn.out; omega
          case rel => exact ⟨i + 1, dj, by first | rfl | (congr 1; refine wr64 (by omega) ?_; have := HL.out; have := HB.out; omega), ⟨by have := hn.out; have := HL.out; omega⟩, hsj, S2, ⟨OUT.out (Or.inl HJ.out)⟩⟩
    · have hltz : ¬ (i : Int) < (b : Int) := by omega
      have hE : Aside0 (dk = Sort.insertionSort (ltOf cf) d a b) := ⟨by unfold Sort.insertionSort; rw [← HO.out, insOuter_stop _ _ _ _ _ hlt]⟩
      clear hlt
      go_wp2
      go_end0
      refine ⟨rfl, ?_⟩
      rw [← hE.out]
      exact S1.out
end Go.Proofs.YtaneicpggglcbaaDoor.Sm
