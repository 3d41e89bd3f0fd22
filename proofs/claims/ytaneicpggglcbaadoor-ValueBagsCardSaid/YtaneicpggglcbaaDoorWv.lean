/- value.Text's inner walk: (*strings.Builder).String in a block of the writer's, and (*writer).value: what it writes. -/
import Derived.Test.YtaneicpggglcbaaDoorBld
import Derived.Test.YtaneicpggglcbaaDoorShelf
import Derived.Shelf.Strings.BuilderK
import Derived.Lib.BufferKept
import Derived.StillTailTactics
import Derived.Deep.RegionHeld3
import Derived.Lib.ItoaLen
import Derived.Lib.AppendIntMem
import Derived.LoopTactic
import Derived.Deep.DeepCutAuto
import Derived.Deep.LoopGhost
set_option linter.unusedVariables false
set_option linter.unusedSimpArgs false
namespace Go.Proofs.YtaneicpggglcbaaDoor.Wv
open Go.RowKit
/-- each quote twice -/
def dblL (l : List UInt8) : List UInt8 := l.flatMap fun x => if x = 39 then [39, 39] else [x]
theorem dblL_cons (x : UInt8) (l : List UInt8) : dblL (x :: l) = (if x = 39 then [39, 39] else [x]) ++ dblL l := by simp [dblL]
theorem dblL_length : ∀ l, (dblL l).length ≤ 2 * l.length
  | [] => Nat.le_refl _
  | x :: l => by
    have := dblL_length l
    rw [dblL_cons, List.length_append, List.length_cons]
    split <;> simp <;> omega
theorem rk : ∀ l : List UInt8, Lib.replaceK [39] [39, 39] (Lib.count l [39]) l = dblL l
  | [] => by rw [Lib.count_miss rfl]; rfl
  | x :: l => by
    have ih := rk l
    rw [dblL_cons]
    by_cases hx : x = 39
    · subst hx
      have hi : Lib.index (39 :: l) [39] = (0 : Nat) := by simp [Lib.index]
      rw [Lib.count_hit (by simp) hi, Nat.add_comm 1, Lib.replaceK_hit _ _ _ _ 0 hi]
      simpa using ih
    · have hi : Lib.index (x :: l) [39] = if Lib.index l [39] == -1 then -1 else Lib.index l [39] + 1 := by
        rw [Lib.index, if_neg (by simpa using fun h => hx h.symm)]
      rw [if_neg hx]
      by_cases hm : Lib.index l [39] = -1
      · rw [if_pos (by simpa using hm)] at hi
        rw [Lib.count_miss hm] at ih
        rw [Lib.count_miss hi, ← ih]
        rfl
      · have hge := Lib.index_ge l [39]
        obtain ⟨i, hiN⟩ : ∃ i : Nat, Lib.index l [39] = i := ⟨(Lib.index l [39]).toNat, by omega⟩
        rw [if_neg (by simpa using hm), hiN] at hi
        have hi' : Lib.index (x :: l) [39] = ((i + 1 : Nat) : Int) := by rw [hi]; omega
        rw [Lib.count_hit (by simp) hiN, Nat.add_comm 1, Lib.replaceK_hit _ _ _ _ i hiN] at ih
        rw [Lib.count_hit (by simp) hi', Nat.add_comm 1, Lib.replaceK_hit _ _ _ _ (i + 1) hi', ← ih]
        simp [show i + 1 + 1 = (i + 1) + 1 from rfl, List.drop_succ_cons]
theorem replaceAll_quote (l : List UInt8) : Lib.replaceAll l [39] [39, 39] = dblL l := by
  have e : Lib.replaceNum l [39] (-1) = Lib.count l [39] := by unfold Lib.replaceNum; rw [if_pos (.inl (by decide))]
  show Lib.replace l [39] [39, 39] (-1) = _
  unfold Lib.replace
  rw [if_neg (by decide), e]
  exact rk l
/-- what the library's contracts ask of the world -/
def OkW (w : World) : Prop := (∃ m, w.cell? ⟨0, 0, none⟩ = some (.int .i64 m)) ∧ Lib.TabIs Tryd.prog w "internal/strconv.uint64pow10" .u64 Lib.pow10Tab
theorem tab_below {n : String} {g : Nat} {k : IntKind} {zs : List Int} {w w' : World} (hg : Tryd.prog.globalNamed n = some g) (h : Lib.TabIs Tryd.prog w n k zs) (hb : Below w.heap.size w w') : Lib.TabIs Tryd.prog w' n k zs := by
  unfold Lib.TabIs World.var? at h ⊢
  rw [hg] at h ⊢
  simp only [Option.bind_some] at h ⊢
  have hlt : g < w.heap.size := by
    rcases Nat.lt_or_ge g w.heap.size with h' | h'
    · exact h'
    · rw [Array.getElem?_eq_none h'] at h; cases h
  rw [hb.block g hlt]
  exact h
theorem OkW.below {w w' : World} (h : OkW w) (hb : Below w.heap.size w w') : OkW w' := by
  obtain ⟨⟨m, hm⟩, ht⟩ := h
  refine ⟨⟨m, ?_⟩, tab_below (g := 1) (by kernel_rfl) ht hb⟩
  rw [hb.cell (World.block_lt_of_cell? w _ hm)]
  exact hm
theorem OkW.alloc {w : World} (h : OkW w) (o : Obj) : OkW (w.alloc o) := h.below ((Below.refl _ w).alloc (Nat.le_refl _) o)
theorem OkW.drew {w : World} (h : OkW w) : OkW w.drew := h.below (Below.drew (Below.refl _ w))

theorem sizeB : (Tryd.prog.info? 52).map (fun i => i.size) = some 2 := by kernel_rfl
theorem cellsByte : Tryd.prog.cellsOf 5 = 1 := by kernel_rfl

set_option maxHeartbeats 1000000 in
set_option maxRecDepth 100000 in
theorem String (B b : Nat) (l : List UInt8) (w : World) (h : Lib.IsBuilderF 54 5 B b (Lib.byteCells l) w) (h0 : l ≠ []) :
    Calls Tryd.prog 37 #[.pointer (some ⟨b, 0, none⟩)] w fun e w' => e = .returned (.string ⟨l.toArray⟩) ∧ Below B w w' := by
  obtain ⟨p, hp, hAt⟩ : ∃ p, (p = .pointer none ∨ p = .pointer (some ⟨b, 0, none⟩)) ∧ Lib.BuilderAtF 54 5 B b p (Lib.byteCells l) w := by
    rcases h with h | h
    · exact ⟨_, .inl rfl, h⟩
    · exact ⟨_, .inr rfl, h⟩
  obtain ⟨hB, v, hbk, hown, hne⟩ := hAt
  have hl0 : l.length ≠ 0 := by simpa using h0
  rw [Lib.byteCells_length] at hown
  obtain ⟨g, cap, cur, fz, rfl, hbg, hg, hfz, hnc, hcm, hcs, htake⟩ : ∃ g cap cur fz, v = .slice (some ⟨g, 0, none⟩) l.length cap ∧ B ≤ g ∧ w.heap[g]? = some (.cells cur 5 fz) ∧ fz.2 ≤ l.length * 1 ∧ l.length ≤ cap ∧ cap ≤ maxLen ∧ cur.size = cap * 1 ∧ cur.toList.take (l.length * 1) = Lib.byteCells l := by
    rcases hown.2 with ⟨_, hz⟩ | ⟨g, cap, cur, fz, hv, r⟩
    · exact absurd hz hl0
    · exact ⟨g, cap, cur, fz, hv, r⟩
  have c1 : w.drew.cell? ⟨b, 1, none⟩ = some (.slice (some ⟨g, 0, none⟩) l.length cap) := by
    have : w.drew.heap[b]? = some (.cells #[p, .slice (some ⟨g, 0, none⟩) l.length cap] 54 (0, 0)) := hbk
    rw [Lib.cell_of_heap this]; rfl
  have hSD : (Builtin.unsafeSliceData_ #[50] 78 #[.slice (some ⟨g, 0, none⟩) l.length cap]).run Tryd.prog w.drew = .ok (.pointer (some ⟨g, 0, none⟩)) w.drew :=
    Lib.run_unsafeSliceData_row _ _ _ _ _ _ (by omega)
  have hUS : (Builtin.unsafeString_ #[78, 3] 9 #[.pointer (some ⟨g, 0, none⟩), .int .i64 l.length]).run Tryd.prog w.drew = .ok (.string ⟨l.toArray⟩) (w.drew.freeze ⟨g, 0, none⟩ l.length) := by
    refine Lib.run_unsafeString_row w.drew 78 3 9 5 Tryd.underlying78 cellsByte g cur.size (by have hg' : w.drew.heap[g]? = some (.cells cur 5 fz) := hg; simp [World.shape?, hg']) l h0 (by omega) (by unfold maxLen at hcm; omega) ?_
    intro j x hx
    have := hown.cells (g := g) rfl j (.int .u8 x.toNat) (by simp [Lib.byteCells, hx])
    exact this
  have mixed : Tryd.prog.follows Departure.mixedOrders = true := by kernel_rfl
  go_enter Tryd.func37, Tryd.ntmps37
  go_wp2
  go_region_o
  all_goals (go_wp2; go_ret; exact ⟨rfl, Lib.below_freeze (Below.drew (Below.refl B w)) (p := ⟨g, 0, none⟩) hbg _⟩)
/-- set aside from the walk's simp -/
structure Asd (p : Prop) : Prop where
  out : p
theorem below_then {B : Nat} {w w1 w2 : World} (h : Below B w w1) (hB : B ≤ w1.heap.size) (k : Below w1.heap.size w1 w2) : Below B w w2 :=
  h.trans ⟨k.os, k.tape, k.output, k.size, fun i hi => k.block i (Nat.lt_of_lt_of_le hi hB)⟩
/-- a builder that has grown by nothing else than its own bytes since w0 -/
def St (B b : Nat) (w0 : World) (l : List UInt8) (w : World) : Prop := Lib.IsBuilderF 54 5 B b (Lib.byteCells l) w ∧ Below B w0 w ∧ Lib.OthersKept 5 (some b) w0 w
theorem St.lt {B b : Nat} {w0 : World} {l : List UInt8} {w : World} (h : St B b w0 l w) : b < w.heap.size ∧ B ≤ b := by
  rcases h.1 with h | h
  · exact ⟨h.lt, h.1⟩
  · exact ⟨h.lt, h.1⟩
theorem St.size {B b : Nat} {w0 : World} {l : List UInt8} {w : World} (h : St B b w0 l w) : B ≤ w.heap.size := Nat.le_of_lt (Nat.lt_of_le_of_lt h.lt.2 h.lt.1)
theorem St.drew {B b : Nat} {w0 : World} {l : List UInt8} {w : World} (h : St B b w0 l w) : St B b w0 l w.drew := ⟨h.1, Below.drew h.2.1, h.2.2.drew⟩
theorem St.alloc {B b : Nat} {w0 : World} {l : List UInt8} {w : World} (h : St B b w0 l w) (o : Obj) : St B b w0 l (w.alloc o) := ⟨h.1.alloc o, h.2.1.alloc h.size o, h.2.2.alloc o⟩
theorem at_below {T e : TypeId} {B b : Nat} {p : Value} {bs : List Value} {W W' : World} (h : Lib.BuilderAtF T e B b p bs W) (hb : Below W.heap.size W W') : Lib.BuilderAtF T e B b p bs W' := by
  have hlt := h.lt
  obtain ⟨hB, v, hv, hown, hne⟩ := h
  exact ⟨hB, v, (hb.block b hlt).trans hv, hown.kept (row := none) ⟨hb.os, hb.tape, hb.output, hb.size, fun k hk _ => hb.block k hk⟩ (Classical.em _), hne⟩
theorem bf_below {T e : TypeId} {B b : Nat} {bs : List Value} {W W' : World} (h : Lib.IsBuilderF T e B b bs W) (hb : Below W.heap.size W W') : Lib.IsBuilderF T e B b bs W' :=
  h.elim (fun x => .inl (at_below x hb)) (fun x => .inr (at_below x hb))
theorem St.below {B b : Nat} {w0 : World} {l : List UInt8} {w w' : World} (h : St B b w0 l w) (hb : Below w.heap.size w w') : St B b w0 l w' := ⟨bf_below h.1 hb, below_then h.2.1 h.size hb, h.2.2.below hb⟩
theorem St.step {B b : Nat} {w0 : World} {l l' : List UInt8} {w w' : World} (h : St B b w0 l w) (h1 : Lib.IsBuilderF 54 5 B b (Lib.byteCells l') w') (h2 : Below B w w') (h3 : Lib.OthersKept 5 (some b) w w') : St B b w0 l' w' := ⟨h1, h.2.1.trans h2, h.2.2.trans h3⟩
theorem St.refl {B b : Nat} {l : List UInt8} {w : World} (h : Lib.IsBuilderF 54 5 B b (Lib.byteCells l) w) : St B b w l w := ⟨h, Below.refl B w, Lib.OthersKept.refl 5 _ w⟩
/-- a block of a value's cells stays -/
theorem kept3 {b g : Nat} {w w' : World} {c : Array Value} (h : Lib.OthersKept 5 (some b) w w') (hg : w.heap[g]? = some (.cells c 27 (0, 0))) (hne : g ≠ b) : w'.heap[g]? = some (.cells c 27 (0, 0)) :=
  h g _ hg (fun e => hne (Option.some.inj e)) (fun c fz e => by cases e)
theorem wstr (B b : Nat) (w0 : World) (l : List UInt8) (s : ByteArray) (w : World) (h : St B b w0 l w) (hlen : l.length + s.size ≤ 140737488355328) :
    Calls Tryd.prog 40 #[.pointer (some ⟨b, 0, none⟩), .string s] w fun e w' => e = .returned (.tuple #[.int .i64 s.size, .nilIface]) ∧ St B b w0 (l ++ s.data.toList) w' ∧ Lib.OthersKept 5 (some b) w w' ∧ Below B w w' := by
  refine (Bld.WriteString B b _ s w h.1 (by rw [Lib.byteCells_length]; exact hlen) h.size).mono ?_
  rintro e w' ⟨rfl, h1, h2, h3⟩
  have e : Lib.byteCells l ++ Lib.strCells s = Lib.byteCells (l ++ s.data.toList) := by simp [Lib.byteCells, Lib.strCells]
  rw [e] at h1
  exact ⟨rfl, h.step h1 h2 h3, h3, h2⟩
theorem wbyte (B b : Nat) (w0 : World) (l : List UInt8) (c : UInt8) (w : World) (h : St B b w0 l w) (hlen : l.length + 1 ≤ 140737488355328) :
    Calls Tryd.prog 39 #[.pointer (some ⟨b, 0, none⟩), .int .u8 c.toNat] w fun e w' => e = .returned .nilIface ∧ St B b w0 (l ++ [c]) w' ∧ Lib.OthersKept 5 (some b) w w' ∧ Below B w w' := by
  refine (Bld.WriteByte B b _ c.toNat w h.1 (by rw [Lib.byteCells_length]; exact hlen) h.size).mono ?_
  rintro e w' ⟨rfl, h1, h2, h3⟩
  have e : Lib.byteCells l ++ [.int .u8 c.toNat] = Lib.byteCells (l ++ [c]) := by simp [Lib.byteCells]
  rw [e] at h1
  exact ⟨rfl, h.step h1 h2 h3, h3, h2⟩
def hexD (n : Nat) : UInt8 := (ByteArray.mk #[48, 49, 50, 51, 52, 53, 54, 55, 56, 57, 97, 98, 99, 100, 101, 102]).data.toList.getD n 0
def hexL (l : List UInt8) : List UInt8 := l.flatMap fun x => [hexD (x.toNat / 16), hexD (x.toNat % 16)]
/-- a value's text -/
def textL (k i : Int) (s : ByteArray) : List UInt8 :=
  if k = 0 then [78, 85, 76, 76] else if k = 1 then (if i = 1 then [84, 82, 85, 69] else [70, 65, 76, 83, 69]) else if k = 2 then Lib.itoa i
  else if k = 3 then 39 :: (dblL s.data.toList ++ [39]) else if k = 4 then 120 :: 39 :: (hexL s.data.toList ++ [39]) else []
set_option maxHeartbeats 2000000 in
set_option maxRecDepth 100000 in
theorem value0 (B b : Nat) (l : List UInt8) (i : Int) (s : ByteArray) (w : World) (h : Lib.IsBuilderF 54 5 B b (Lib.byteCells l) w) (hlen : l.length + 40 ≤ 140737488355328) :
    Calls Tryd.prog 36 #[.pointer (some ⟨b, 0, none⟩), .agg #[.int .i64 0, .int .i64 i, .string s]] w fun e w' => e = .returned (.tuple #[]) ∧ St B b w (l ++ textL 0 i s) w' := by
  have HS := (St.refl h).alloc (.cells #[.int .i64 0, .int .i64 i, .string s] 27)
  go_enter Tryd.func36, Tryd.ntmps36
  go_wp2_with fail
  refine (wstr B b w l ⟨#[78, 85, 76, 76]⟩ _ HS (by show l.length + 4 ≤ _; omega)).mono ?_
  rintro e w1 ⟨rfl, h1, _⟩
  go_wp2
  go_end0
  exact ⟨rfl, h1⟩
set_option maxHeartbeats 400000 in
set_option maxRecDepth 100000 in
theorem fmt (n : Int) (w : World) (hok : OkW w) (h0 : -9223372036854775808 ≤ n) (h1 : n ≤ 9223372036854775807) :
    Calls Tryd.prog 53 #[.int .i64 n, .int .i64 10] w fun e w' => e = .returned (.string ⟨(Lib.itoa n).toArray⟩) ∧ Below w.heap.size w w' := by
  go_enter Tryd.func53, Tryd.ntmps53
  go_wp2_with (go_at_call 63; refine (Tryd.internal_strconv_FormatInt_10 n h0 h1 _ hok.2).mono ?_)
  rintro e w' ⟨rfl, k, os, rfl⟩
  go_wp2
  go_ret
  exact ⟨rfl, Lib.below_grow _ w (Nat.le_refl _) k os⟩
theorem alloc3 (w : World) (k i : Int) (s : ByteArray) : (w.alloc (.cells #[.int .i64 k, .int .i64 i, .string s] 27)).heap[w.heap.size]? = some (.cells #[.int .i64 k, .int .i64 i, .string s] 27 (0, 0)) := heap_alloc_new w _
theorem cell3 {w : World} {g : Nat} {k i : Int} {s : ByteArray} (h : w.heap[g]? = some (.cells #[.int .i64 k, .int .i64 i, .string s] 27 (0, 0))) :
    w.cell? ⟨g, 0, none⟩ = some (.int .i64 k) ∧ w.cell? ⟨g, 1, none⟩ = some (.int .i64 i) ∧ w.cell? ⟨g, 2, none⟩ = some (.string s) := by
  refine ⟨?_, ?_, ?_⟩ <;> (rw [Lib.cell_of_heap h]; rfl)
/-- what a region that draws holds to -/
abbrev S2 (B b g : Nat) (w0 : World) (k i : Int) (s : ByteArray) (w : World) : Prop :=
  w.cell? ⟨g, 0, none⟩ = some (.int .i64 k) ∧ w.cell? ⟨g, 1, none⟩ = some (.int .i64 i) ∧ w.cell? ⟨g, 2, none⟩ = some (.string s) ∧ Asd (w.heap[g]? = some (.cells #[.int .i64 k, .int .i64 i, .string s] 27 (0, 0)) ∧ g ≠ b ∧ OkW w)
theorem S2.mk' {B b g : Nat} {w0 : World} {k i : Int} {s : ByteArray} {w : World} (h : w.heap[g]? = some (.cells #[.int .i64 k, .int .i64 i, .string s] 27 (0, 0))) (hne : g ≠ b) (hok : OkW w) : S2 B b g w0 k i s w :=
  ⟨(cell3 h).1, (cell3 h).2.1, (cell3 h).2.2, ⟨h, hne, hok⟩⟩
theorem S2.drew {B b g : Nat} {w0 : World} {k i : Int} {s : ByteArray} {w : World} (h : S2 B b g w0 k i s w) : S2 B b g w0 k i s w.drew := S2.mk' h.2.2.2.out.1 h.2.2.2.out.2.1 h.2.2.2.out.2.2.drew
theorem S2.below {B b g : Nat} {w0 : World} {k i : Int} {s : ByteArray} {w w' : World} (h : S2 B b g w0 k i s w) (hb : Below w.heap.size w w') : S2 B b g w0 k i s w' := by
  have hg := h.2.2.2.out.1
  have hlt : g < w.heap.size := by
    rcases Nat.lt_or_ge g w.heap.size with h' | h'
    · exact h'
    · rw [Array.getElem?_eq_none h'] at hg; cases hg
  exact S2.mk' ((hb.block g hlt).trans hg) h.2.2.2.out.2.1 (h.2.2.2.out.2.2.below hb)
theorem OkW.lt {w : World} (h : OkW w) : 2 ≤ w.heap.size := by
  obtain ⟨_, ht⟩ := h
  unfold Lib.TabIs World.var? at ht
  rw [show Tryd.prog.globalNamed "internal/strconv.uint64pow10" = some 1 by kernel_rfl] at ht
  simp only [Option.bind_some] at ht
  rcases Nat.lt_or_ge 1 w.heap.size with h' | h'
  · exact h'
  · rw [Array.getElem?_eq_none h'] at ht; cases ht
theorem OkW.belowB {B : Nat} {w w' : World} (h : OkW w) (hB : 2 ≤ B) (hb : Below B w w') : OkW w' := by
  obtain ⟨⟨m, hm⟩, ht⟩ := h
  refine ⟨⟨m, ?_⟩, ?_⟩
  · rw [hb.cell (show 0 < B by omega)]
    exact hm
  · unfold Lib.TabIs World.var? at ht ⊢
    rw [show Tryd.prog.globalNamed "internal/strconv.uint64pow10" = some 1 by kernel_rfl] at ht ⊢
    simp only [Option.bind_some] at ht ⊢
    rw [hb.block 1 (show 1 < B by omega)]
    exact ht
theorem S2.kept {B b g : Nat} {w0 : World} {k i : Int} {s : ByteArray} {w w' : World} (h : S2 B b g w0 k i s w) (hk : Lib.OthersKept 5 (some b) w w') (hB : 2 ≤ B) (hb : Below B w w') : S2 B b g w0 k i s w' :=
  S2.mk' (kept3 hk h.2.2.2.out.1 h.2.2.2.out.2.1) h.2.2.2.out.2.1 (h.2.2.2.out.2.2.belowB hB hb)
set_option maxHeartbeats 2000000 in
set_option maxRecDepth 100000 in
theorem value2 (B b : Nat) (l : List UInt8) (i : Int) (s : ByteArray) (w : World) (h : Lib.IsBuilderF 54 5 B b (Lib.byteCells l) w) (hlen : l.length + 40 ≤ 140737488355328) (hB2 : 2 ≤ B) (hok : OkW w) (h0 : -9223372036854775808 ≤ i) (h1 : i ≤ 9223372036854775807) :
    Calls Tryd.prog 36 #[.pointer (some ⟨b, 0, none⟩), .agg #[.int .i64 2, .int .i64 i, .string s]] w fun e w' => e = .returned (.tuple #[]) ∧ St B b w (l ++ textL 2 i s) w' := by
  have HS := Asd.mk ((St.refl h).alloc (.cells #[.int .i64 2, .int .i64 i, .string s] 27))
  have HZ : S2 B b w.heap.size w 2 i s (w.alloc (.cells #[.int .i64 2, .int .i64 i, .string s] 27)) := S2.mk' (alloc3 w 2 i s) (Nat.ne_of_gt (St.refl h).lt.1) (hok.alloc _)
  have hL := Lib.itoa_length_le i h0 h1
  go_enter Tryd.func36, Tryd.ntmps36
  go_upto_region 7 with fail
  generalize w.alloc (.cells #[.int .i64 2, .int .i64 i, .string s] 27) = w1 at *
  generalize w.heap.size = g at HZ ⊢
  go_region_held3 (S2 B b g w 2 i s)
    (((with_reducible repeat (first | refine S2.drew ?_)); first | with_reducible exact HZ | with_reducible exact Asd.out (by assumption)))
    (first | (go_at_call 53; refine (fmt i _ (HZ.drew.2.2.2.out.2.2) h0 h1).mono ?_; rintro e w3 ⟨rfl, hb3⟩; have hs3 : Asd (S2 B b g w 2 i s w3) := ⟨HZ.drew.below hb3⟩; have ht3 := Asd.mk (HS.out.drew.below hb3)) | (go_at_call 40; refine (wstr B b w l ⟨(Lib.itoa i).toArray⟩ _ ht3.out (by show l.length + (Lib.itoa i).toArray.size ≤ _; rw [List.size_toArray]; omega)).mono ?_; rintro e w4 ⟨rfl, h4, hk4, hb4⟩; have hs4 : Asd (S2 B b g w 2 i s w4) := ⟨hs3.out.kept hk4 hB2 hb4⟩))
  go_wp2
  go_end0
  exact ⟨rfl, h4⟩
set_option maxHeartbeats 2000000 in
set_option maxRecDepth 100000 in
theorem idx0 (W : World) : (Instr.index 74 (.agg #[.string ⟨#[70, 65, 76, 83, 69]⟩, .string ⟨#[84, 82, 85, 69]⟩]) (.int .i64 0)).run Tryd.prog W = .ok (.string ⟨#[70, 65, 76, 83, 69]⟩) W := by kernel_rfl
theorem idx1 (W : World) : (Instr.index 74 (.agg #[.string ⟨#[70, 65, 76, 83, 69]⟩, .string ⟨#[84, 82, 85, 69]⟩]) (.int .i64 1)).run Tryd.prog W = .ok (.string ⟨#[84, 82, 85, 69]⟩) W := by kernel_rfl
set_option maxHeartbeats 2000000 in
set_option maxRecDepth 100000 in
theorem value1 (B b : Nat) (l : List UInt8) (i : Int) (s : ByteArray) (w : World) (h : Lib.IsBuilderF 54 5 B b (Lib.byteCells l) w) (hlen : l.length + 40 ≤ 140737488355328) (hB2 : 2 ≤ B) (hok : OkW w) (hi : i = 0 ∨ i = 1) :
    Calls Tryd.prog 36 #[.pointer (some ⟨b, 0, none⟩), .agg #[.int .i64 1, .int .i64 i, .string s]] w fun e w' => e = .returned (.tuple #[]) ∧ St B b w (l ++ textL 1 i s) w' := by
  have HS := Asd.mk ((St.refl h).alloc (.cells #[.int .i64 1, .int .i64 i, .string s] 27))
  have HZ : S2 B b w.heap.size w 1 i s (w.alloc (.cells #[.int .i64 1, .int .i64 i, .string s] 27)) := S2.mk' (alloc3 w 1 i s) (Nat.ne_of_gt (St.refl h).lt.1) (hok.alloc _)
  rcases hi with rfl | rfl
  · have hidx := idx0
    go_enter Tryd.func36, Tryd.ntmps36
    go_upto_region 5 with fail
    generalize w.alloc (.cells #[.int .i64 1, .int .i64 0, .string s] 27) = w1 at *
    generalize w.heap.size = g at HZ ⊢
    go_region_held3 (S2 B b g w 1 0 s)
      (((with_reducible repeat (first | refine S2.drew ?_)); first | with_reducible exact HZ | with_reducible exact Asd.out (by assumption)))
      (first | (go_at_call 40; refine (wstr B b w l ⟨#[70, 65, 76, 83, 69]⟩ _ HS.out.drew (by show l.length + 5 ≤ _; omega)).mono ?_; rintro e w4 ⟨rfl, h4, hk4, hb4⟩; have hs4 : Asd (S2 B b g w 1 0 s w4) := ⟨HZ.drew.kept hk4 hB2 hb4⟩))
    go_wp2
    go_end0
    exact ⟨rfl, h4⟩
  · have hidx := idx1
    go_enter Tryd.func36, Tryd.ntmps36
    go_upto_region 5 with fail
    generalize w.alloc (.cells #[.int .i64 1, .int .i64 1, .string s] 27) = w1 at *
    generalize w.heap.size = g at HZ ⊢
    go_region_held3 (S2 B b g w 1 1 s)
      (((with_reducible repeat (first | refine S2.drew ?_)); first | with_reducible exact HZ | with_reducible exact Asd.out (by assumption)))
      (first | (go_at_call 40; refine (wstr B b w l ⟨#[84, 82, 85, 69]⟩ _ HS.out.drew (by show l.length + 4 ≤ _; omega)).mono ?_; rintro e w4 ⟨rfl, h4, hk4, hb4⟩; have hs4 : Asd (S2 B b g w 1 1 s w4) := ⟨HZ.drew.kept hk4 hB2 hb4⟩))
    go_wp2
    go_end0
    exact ⟨rfl, h4⟩
/-- strings.ReplaceAll at the quote -/
theorem quote (s : ByteArray) (w : World) (hok : OkW w) (hs : s.size ≤ 1000000000) :
    Calls Tryd.prog 54 #[.string s, .string ⟨#[39]⟩, .string ⟨#[39, 39]⟩] w fun e w' => e = .returned (.string ⟨(dblL s.data.toList).toArray⟩) ∧ Below w.heap.size w w' := by
  obtain ⟨m, hm⟩ := hok.1
  have hc := Lib.countB_le ⟨#[39]⟩ (by decide) s.size s (Nat.le_refl _)
  refine (Tryd.strings_ReplaceAll s ⟨#[39]⟩ ⟨#[39, 39]⟩ m w (by omega) hm (by decide) (by show s.size + Lib.countB s ⟨#[39]⟩ * 2 ≤ _; omega)).mono ?_
  rintro e w' ⟨rfl, hb⟩
  refine ⟨?_, hb⟩
  have := replaceAll_quote s.data.toList
  show Ending.returned (.string ⟨(Lib.replaceAll s.data.toList [39] [39, 39]).toArray⟩) = _
  rw [this]
theorem one39 : (⟨#[39]⟩ : ByteArray).size = 1 := rfl
theorem cat1 (d : ByteArray) : ((⟨#[39]⟩ : ByteArray) ++ d).size = 1 + d.size := by rw [ByteArray.size_append, one39]
theorem cat2 (d : ByteArray) : ((⟨#[39]⟩ : ByteArray) ++ d ++ ⟨#[39]⟩).size = 1 + d.size + 1 := by rw [ByteArray.size_append, cat1, one39]
theorem dsz (s d : ByteArray) (hd : d = ⟨(dblL s.data.toList).toArray⟩) : d.size ≤ 2 * s.size := by
  have hL := dblL_length s.data.toList
  have h1 : d.size = (dblL s.data.toList).length := by rw [hd]; exact List.size_toArray ..
  have h2 : s.data.toList.length = s.size := Array.length_toList
  omega
theorem tx (i : Int) (s : ByteArray) (d : ByteArray) (hd : d = ⟨(dblL s.data.toList).toArray⟩) : ((⟨#[39]⟩ : ByteArray) ++ d ++ ⟨#[39]⟩).data.toList = textL 3 i s := by
  subst hd
  unfold textL
  rw [if_neg (by decide), if_neg (by decide), if_neg (by decide), if_pos rfl, ByteArray.data_append, ByteArray.data_append, Array.toList_append, Array.toList_append]
  rfl
set_option maxHeartbeats 2000000 in
set_option maxRecDepth 100000 in
theorem value3 (B b : Nat) (l : List UInt8) (i : Int) (s : ByteArray) (w : World) (h : Lib.IsBuilderF 54 5 B b (Lib.byteCells l) w) (hlen : l.length + 2 * s.size + 40 ≤ 140737488355328) (hs : s.size ≤ 1000000000) (hB2 : 2 ≤ B) (hok : OkW w) :
    Calls Tryd.prog 36 #[.pointer (some ⟨b, 0, none⟩), .agg #[.int .i64 3, .int .i64 i, .string s]] w fun e w' => e = .returned (.tuple #[]) ∧ St B b w (l ++ textL 3 i s) w' := by
  have HS := Asd.mk ((St.refl h).alloc (.cells #[.int .i64 3, .int .i64 i, .string s] 27))
  have HZ : S2 B b w.heap.size w 3 i s (w.alloc (.cells #[.int .i64 3, .int .i64 i, .string s] 27)) := S2.mk' (alloc3 w 3 i s) (Nat.ne_of_gt (St.refl h).lt.1) (hok.alloc _)
  obtain ⟨d, hd⟩ : ∃ d : ByteArray, d = ⟨(dblL s.data.toList).toArray⟩ := ⟨_, rfl⟩
  have hds := dsz s d hd
  have hc1 : ¬ 9223372036854775807 < 1 + d.size := by omega
  have hc2 : ¬ 9223372036854775807 < 1 + d.size + 1 := by omega
  have hq := fun (W : World) (hk : OkW W) => quote s W hk hs
  rw [← hd] at hq
  have e3 := Asd.mk (tx i s d hd)
  have HW : Asd (∀ W, St B b w l W → Calls Tryd.prog 40 #[.pointer (some ⟨b, 0, none⟩), .string ((⟨#[39]⟩ : ByteArray) ++ d ++ (⟨#[39]⟩ : ByteArray))] W fun e w' => (∃ v, e = .returned v) ∧ St B b w (l ++ textL 3 i s) w' ∧ Lib.OthersKept 5 (some b) W w' ∧ Below B W w') := ⟨fun W hW => by
    refine (wstr B b w l ((⟨#[39]⟩ : ByteArray) ++ d ++ (⟨#[39]⟩ : ByteArray)) W hW (by rw [cat2]; omega)).mono ?_
    rintro e w' ⟨rfl, h1, h2⟩
    rw [e3.out] at h1
    exact ⟨⟨_, rfl⟩, h1, h2⟩⟩
  have HZ := Asd.mk HZ
  have hq := Asd.mk hq
  have hB2 := Asd.mk hB2
  clear h hlen hs hok hd hds e3
  go_enter Tryd.func36, Tryd.ntmps36
  go_upto_region 9 with fail
  generalize w.alloc (.cells #[.int .i64 3, .int .i64 i, .string s] 27) = w1 at *
  generalize w.heap.size = g at HZ ⊢
  go_region_held3 (S2 B b g w 3 i s)
    (((with_reducible repeat (first | refine S2.drew ?_)); first | with_reducible exact HZ.out | with_reducible exact Asd.out (by assumption)))
    (first | (go_at_call 54; refine (hq.out _ (HZ.out.drew.2.2.2.out.2.2)).mono ?_; rintro e w3 ⟨rfl, hb3⟩; have hs3 : Asd (S2 B b g w 3 i s w3) := ⟨HZ.out.drew.below hb3⟩; have ht3 := Asd.mk (HS.out.drew.below hb3)) | (go_at_call 40; refine (HW.out _ ht3.out).mono ?_; rintro e w4 ⟨⟨v4, rfl⟩, h4, hk4, hb4⟩; have hs4 : Asd (S2 B b g w 3 i s w4) := ⟨hs3.out.kept hk4 hB2.out hb4⟩))
  go_wp2
  go_end0
  exact ⟨rfl, h4⟩
theorem hexD_lt (n : Nat) (h : n < 16) : (ByteArray.mk #[48, 49, 50, 51, 52, 53, 54, 55, 56, 57, 97, 98, 99, 100, 101, 102]).data.toList[n]? = some (hexD n) := by
  unfold hexD
  rw [List.getD_eq_getElem?_getD]
  have : n < (ByteArray.mk #[48, 49, 50, 51, 52, 53, 54, 55, 56, 57, 97, 98, 99, 100, 101, 102]).data.toList.length := h
  rw [List.getElem?_eq_getElem this]
  rfl
theorem hexL_length : ∀ l, (hexL l).length = 2 * l.length
  | [] => rfl
  | x :: l => by
    have := hexL_length l
    simp only [hexL, List.flatMap_cons, List.length_append, List.length_cons, List.length_nil] at this ⊢
    omega
theorem hexL_snoc (l : List UInt8) (x : UInt8) : hexL (l ++ [x]) = hexL l ++ [hexD (x.toNat / 16)] ++ [hexD (x.toNat % 16)] := by simp [hexL]
theorem band (y : UInt8) : bits BinOp.and IntKind.u8 ((y.toNat : Nat) : Int) 15 = ((y.toNat : Nat) : Int) % 16 := by
  have h : y.toNat < 256 := y.toNat_lt
  generalize y.toNat = n at *
  have : ∀ n : Fin 256, bits BinOp.and IntKind.u8 ((n.val : Nat) : Int) 15 = ((n.val : Nat) : Int) % 16 := by decide +kernel
  exact this ⟨n, h⟩
theorem sidxk (s : ByteArray) (kd : IntKind) (k : Nat) (h : k < s.size) (W : World) : (Instr.index 9 (.string s) (.int kd k)).run Tryd.prog W = .ok (.int .u8 (s.data.toList.getD k 0).toNat) W := by
  have e : s.data.toList.getD k 0 = s[k]'h := by
    rw [List.getD_eq_getElem?_getD, List.getElem?_eq_getElem (by rw [Array.length_toList]; exact h)]
    rfl
  rw [e, run_index_string W 9 s kd k Tryd.underlying9, dif_pos ⟨Int.natCast_nonneg k, by omega⟩]
  rfl
theorem sidx (s : ByteArray) (k : Nat) (h : k < s.size) (W : World) : (Instr.index 9 (.string s) (.int .i64 k)).run Tryd.prog W = .ok (.int .u8 (s.data.toList.getD k 0).toNat) W := sidxk s .i64 k h W
theorem digit (z : Int) (n : Nat) (hz : z = n) (hn : n < 16) (W : World) : (Instr.index 9 (.string ⟨#[48, 49, 50, 51, 52, 53, 54, 55, 56, 57, 97, 98, 99, 100, 101, 102]⟩) (.int .u8 z)).run Tryd.prog W = .ok (.int .u8 (hexD n).toNat) W := by
  subst hz
  exact sidxk ⟨#[48, 49, 50, 51, 52, 53, 54, 55, 56, 57, 97, 98, 99, 100, 101, 102]⟩ .u8 n hn W
set_option maxHeartbeats 4000000 in
set_option maxRecDepth 100000 in
theorem value4 (B b : Nat) (l : List UInt8) (i : Int) (s : ByteArray) (w : World) (h : Lib.IsBuilderF 54 5 B b (Lib.byteCells l) w) (hlen : l.length + 2 * s.size + 40 ≤ 140737488355328) (hs : s.size ≤ 1000000000) (hB2 : 2 ≤ B) (hok : OkW w) :
    Calls Tryd.prog 36 #[.pointer (some ⟨b, 0, none⟩), .agg #[.int .i64 4, .int .i64 i, .string s]] w fun e w' => e = .returned (.tuple #[]) ∧ St B b w (l ++ textL 4 i s) w' := by
  have HS := Asd.mk ((St.refl h).alloc (.cells #[.int .i64 4, .int .i64 i, .string s] 27))
  have HZ : Asd (S2 B b w.heap.size w 4 i s (w.alloc (.cells #[.int .i64 4, .int .i64 i, .string s] 27))) := Asd.mk (S2.mk' (alloc3 w 4 i s) (Nat.ne_of_gt (St.refl h).lt.1) (hok.alloc _))
  have HSZ := Asd.mk (And.intro hs hlen)
  have HB2 := Asd.mk hB2
  clear hs hlen hB2
  go_enter Tryd.func36, Tryd.ntmps36
  go_upto_region 11 with fail
  generalize w.alloc (.cells #[.int .i64 4, .int .i64 i, .string s] 27) = w1 at *
  generalize w.heap.size = g at HZ ⊢
  go_wp2_with fail
  refine (wstr B b w l ⟨#[120, 39]⟩ _ HS.out (by have := HSZ.out.2; show l.length + 2 ≤ _; omega)).mono ?_
  rintro e w2 ⟨rfl, h2, hk2, hb2⟩
  have HZ2 := Asd.mk (HZ.out.kept hk2 HB2.out hb2)
  have HS2 := Asd.mk h2
  clear h2 hk2 hb2 HZ HS h hok
  obtain ⟨hx0, hx1, hx2, -⟩ := HZ2.out
  go_wp2
  go_loopg [4, 52] s.size (fun gg _ s52 wr => ∃ kk : Nat, Asd (kk ≤ s.size) ∧ Asd (s.size - kk ≤ gg) ∧ s52 = .int .i64 kk ∧ Asd (St B b w (l ++ [120, 39] ++ hexL (s.data.toList.take kk)) wr) ∧ Asd (S2 B b g w 4 i s wr))
  case atStart => exact ⟨0, ⟨Nat.zero_le _⟩, ⟨Nat.le_refl _⟩, rfl, ⟨by simpa [hexL] using HS2.out⟩, HZ2⟩
  case round =>
    obtain ⟨kk, hkk, hg, rfl, HT, HU⟩ := hrel
    clear hx0 hx1 hx2
    obtain ⟨hx0, hx1, hx2, -⟩ := HU.out
    by_cases hlt : kk < s.size
    · have hI := sidx s kk hlt
      have htk : Asd (hexL (s.data.toList.take (kk + 1)) = hexL (s.data.toList.take kk) ++ [hexD ((s.data.toList.getD kk 0).toNat / 16)] ++ [hexD ((s.data.toList.getD kk 0).toNat % 16)]) := ⟨by
        have hl' : kk < s.data.toList.length := by rw [Array.length_toList]; exact hlt
        rw [List.take_succ_eq_append_getElem hl', hexL_snoc, List.getD_eq_getElem?_getD, List.getElem?_eq_getElem hl', Option.getD_some]⟩
      generalize s.data.toList.getD kk 0 = y at hI htk
      have hlt' : y.toNat < 256 := y.toNat_lt
      have hD1 := digit ((y.toNat : Int) / 16) (y.toNat / 16) (by omega) (by omega)
      have hD2 := digit ((y.toNat : Int) % 16) (y.toNat % 16) (by omega) (by omega)
      have hb := band y
      have hll : Asd ((l ++ [120, 39] ++ hexL (s.data.toList.take kk)).length + 2 ≤ 140737488355328 ∧ (l ++ [120, 39] ++ hexL (s.data.toList.take kk) ++ [hexD (y.toNat / 16)]).length + 1 ≤ 140737488355328) := ⟨by
        have h1 := HSZ.out.2
        have h2 : (s.data.toList.take kk).length ≤ kk := List.length_take_le _ _
        simp only [List.length_append, hexL_length, List.length_cons, List.length_nil]
        omega⟩
      have hw : Asd (wrap64 ((kk : Int) + 1) = ((kk + 1 : Nat) : Int)) := ⟨by have := HSZ.out.1; unfold wrap64; omega⟩
      have p1 : (kk : Int) < (s.size : Int) := by omega
      have hlt := Asd.mk hlt
      clear hlt'
      go_upto_region 15 with fail
      go_cut [64] (fun v64 w' => Asd (St B b w (l ++ [120, 39] ++ hexL (s.data.toList.take kk) ++ [hexD (y.toNat / 16)]) w') ∧ Asd (S2 B b g w 4 i s w'))
      case first =>
        go_region_held3 (S2 B b g w 4 i s)
          (((with_reducible repeat (first | refine S2.drew ?_)); first | with_reducible exact HU.out | with_reducible exact Asd.out (by assumption)))
          (first | (go_at_call 39; refine (wbyte B b w _ _ _ HT.out.drew (by have := hll.out.1; omega)).mono ?_; rintro e w4 ⟨rfl, h4, hk4, hb4⟩; have hs4 : Asd (S2 B b g w 4 i s w4) := ⟨HU.out.drew.kept hk4 HB2.out hb4⟩))
        all_goals (go_wp2_with fail; go_meet; exact ⟨⟨h4⟩, hs4⟩)
      case rest =>
      obtain ⟨HT1, HU1⟩ := hcut
      clear HT HU hx0 hx1 hx2
      obtain ⟨hx0, hx1, hx2, -⟩ := HU1.out
      go_upto_region 16 with fail
      go_region_held3 (S2 B b g w 4 i s)
        (((with_reducible repeat (first | refine S2.drew ?_)); first | with_reducible exact HU1.out | with_reducible exact Asd.out (by assumption)))
        (first | (go_at_call 39; refine (wbyte B b w _ _ _ HT1.out.drew (by have := hll.out.2; omega)).mono ?_; rintro e w4 ⟨rfl, h4, hk4, hb4⟩; have hs4 : Asd (S2 B b g w 4 i s w4) := ⟨HU1.out.drew.kept hk4 HB2.out hb4⟩; replace h4 := Asd.mk h4))
      clear HT1 HU1 hx0 hx1 hx2
      go_wp2
      go_roundg (s.size - (kk + 1))
      case measure => have := hlt.out; have := hg.out; omega
      case rel =>
        refine ⟨kk + 1, ⟨hlt.out⟩, ⟨Nat.le_refl _⟩, ?_, ⟨?_⟩, hs4⟩
        · rw [hw.out]
        · have h3 := h4.out
          rw [List.append_assoc, List.append_assoc, ← List.append_assoc (hexL _), ← htk.out] at h3
          exact h3
    · have hltz : ¬ (kk : Int) < (s.size : Int) := by omega
      have hk : Asd (kk = s.size) := ⟨by have := hkk.out; omega⟩
      clear hlt
      go_wp2_with fail
      refine (wbyte B b w _ 39 _ HT.out (by
        have h1 := HSZ.out.2
        have h2 : (s.data.toList.take kk).length ≤ kk := List.length_take_le _ _
        have h3 := hkk.out
        simp only [List.length_append, hexL_length, List.length_cons, List.length_nil]
        omega)).mono ?_
      rintro e w4 ⟨rfl, h4, hk4, hb4⟩
      have h4 := Asd.mk h4
      go_wp2
      go_end0
      refine ⟨rfl, ?_⟩
      have e : l ++ [120, 39] ++ hexL (s.data.toList.take kk) ++ [39] = l ++ textL 4 i s := by
        rw [hk.out, List.take_of_length_le (by rw [Array.length_toList]; exact Nat.le_refl _)]
        simp [textL]
      rw [← e]
      exact h4.out
/-- (*writer).value: what a value that may be is written as -/
theorem value (B b : Nat) (l : List UInt8) (k i : Int) (s : ByteArray) (w : World) (h : Lib.IsBuilderF 54 5 B b (Lib.byteCells l) w) (hlen : l.length + 2 * s.size + 40 ≤ 140737488355328) (hs : s.size ≤ 1000000000) (hB2 : 2 ≤ B) (hok : OkW w)
    (h0 : -9223372036854775808 ≤ i) (h1 : i ≤ 9223372036854775807) (hk : k = 0 ∨ k = 1 ∨ k = 2 ∨ k = 3 ∨ k = 4) (hi : k = 1 → i = 0 ∨ i = 1) :
    Calls Tryd.prog 36 #[.pointer (some ⟨b, 0, none⟩), .agg #[.int .i64 k, .int .i64 i, .string s]] w fun e w' => e = .returned (.tuple #[]) ∧ St B b w (l ++ textL k i s) w' := by
  rcases hk with rfl | rfl | rfl | rfl | rfl
  · exact value0 B b l i s w h (by omega)
  · exact value1 B b l i s w h (by omega) hB2 hok (hi rfl)
  · exact value2 B b l i s w h (by omega) hB2 hok h0 h1
  · exact value3 B b l i s w h hlen hs hB2 hok
  · exact value4 B b l i s w h hlen hs hB2 hok
end Go.Proofs.YtaneicpggglcbaaDoor.Wv
