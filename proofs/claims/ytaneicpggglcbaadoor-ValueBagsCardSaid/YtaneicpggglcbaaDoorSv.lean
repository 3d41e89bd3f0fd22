/- Rows of rows of layer 1: value.Sorted, slices.EqualFunc, value.SameBag, boscageref01.Sorted, walked (over Sp and the printed family QVT). -/
import Derived.Test.YtaneicpggglcbaaDoorSp
import Derived.Test.YtaneicpggglcbaaDoorQVTx6
import Derived.Lib.SliceRun
set_option linter.unusedVariables false
set_option linter.unusedSimpArgs false
namespace Go.Proofs.YtaneicpggglcbaaDoor.Sv
open Go.RowKit Go.Proofs.YtaneicpggglcbaaDoorW.PrintWords Go.Proofs.YtaneicpggglcbaaDoorW.PrintLast Go.Proofs.YtaneicpggglcbaaDoorW.PrintMore
open Go.Sort hiding Below
open Go.Proofs.YtaneicpggglcbaaDoor.QVT
open Go.Proofs.YtaneicpggglcbaaDoor.Sm (CmpOk SB Row ltOf stable_s)
/-- a header that reads a row -/
def Hd (w : World) (v : Value) (c : List S27) : Prop := ∃ A cap, v = .slice A c.length cap ∧ c.length ≤ cap ∧ Kd.C k27 w A c.length c
theorem Hd.below {w w1 : World} {v : Value} {c : List S27} (h : Hd w v c) (hb : Below w.heap.size w w1) : Hd w1 v c := by
  obtain ⟨A, cap, e, hl, hc⟩ := h
  exact ⟨A, cap, e, hl, Kd.C_below hc hb⟩
theorem Hd.nil (w : World) : Hd w (.slice none 0 0) [] := ⟨none, 0, rfl, Nat.le_refl _, rfl, by decide, fun h => absurd h (by decide)⟩
/-- a row with its header, as it stands in the world wb -/
structure El (wb : World) where
  v : Value
  c : List S27
  h : Hd wb v c
instance (wb : World) : Inhabited (El wb) := ⟨⟨.slice none 0 0, [], Hd.nil wb⟩⟩
def encE {wb : World} (x : El wb) : Value := x.v
def cfE {wb : World} (x y : El wb) : Int := cmpL x.c y.c
theorem one_encE {wb : World} : OneCell (encE (wb := wb)) := fun x => by
  obtain ⟨A, cap, e, _⟩ := x.h
  unfold encE
  rw [e]; rfl
theorem below_putRow {α : Type} [Inhabited α] (enc : α → Value) (w : World) (B blk off : Nat) (d : Array α) (h : B ≤ blk) : RowKit.Below B w (putRow enc w blk off d) :=
  ⟨rfl, rfl, rfl, by simp, fun k hk => by
    unfold putRow mapBlock
    rw [Array.getElem?_modify, if_neg (by omega)]⟩
theorem SB.old {α : Type} [Inhabited α] {enc : α → Value} {wb w0 W : World} {blk off : Nat} {dk : Array α} (h : SB enc w0 blk off dk W) (hb : RowKit.Below wb.heap.size wb w0) (hblk : wb.heap.size ≤ blk) : RowKit.Below wb.heap.size wb W :=
  (hb.trans (below_putRow enc w0 _ blk off dk hblk)).trans (RowKit.Below.mono h (Nat.le_trans hb.size (Nat.le_refl _)))
theorem cmp_ok {wb w0 : World} (blk off size : Nat) (hb : RowKit.Below wb.heap.size wb w0) (hblk : wb.heap.size ≤ blk) : CmpOk (encE (wb := wb)) cfE blk off size w0 := by
  intro dk W hs S x y
  obtain ⟨A0, c0, e0, hl0, hC0⟩ := x.h.below (SB.old S hb hblk)
  obtain ⟨A1, c1, e1, hl1, hC1⟩ := y.h.below (SB.old S hb hblk)
  unfold encE
  rw [e0, e1]
  refine (value_CompareRows.calls A0 c0 x.c A1 c1 y.c (cfE x y) W hC0 hl0 hC1 hl1 ?_).mono ?_
  · unfold value_CompareRows.f cfE
    rw [if_pos ⟨hC0.2.1, hC1.2.1⟩]
  · rintro e w' ⟨rfl, h⟩
    exact ⟨rfl, h⟩
/-- the cells of a list of rows -/
def Cells {wb : World} (w : World) (A : Option Addr) (d : Array (El wb)) : Prop := 0 < d.size → ∃ ad, A = some ad ∧ ∀ j, j < d.size → w.cell? (ad.add j) = some (encE d[j]!)
theorem Cells.below {wb w w1 : World} {A : Option Addr} {d : Array (El wb)} (h : Cells w A d) (hb : RowKit.Below w.heap.size w w1) : Cells w1 A d := fun hp => by
  obtain ⟨ad, e, hc⟩ := h hp
  refine ⟨ad, e, fun j hj => ?_⟩
  have q := hc j hj
  have hlt : (ad.add j).block < w.heap.size := World.block_lt_of_cell? w _ q
  rw [RowKit.Below.cell hb hlt]; exact q
theorem els {w : World} {A : Option Addr} {l : List (List S27)} (h : Kd.C (Kd.slice 27 k27) w A l.length l) : ∃ d : Array (El w), d.toList.map El.c = l ∧ Cells w A d := by
  have one : ∀ j : Fin l.length, ∃ x : El w, x.c = l[j.1] ∧ ∀ ad, A = some ad → w.cell? (ad.add j.1) = some x.v := by
    intro j
    obtain ⟨ad, e, hc⟩ := h.2.2 (by have := j.2; omega)
    obtain ⟨c, hcl, ⟨A1, c1, hce, hl1, hC1⟩, hcell⟩ := hc j.1 l[j.1] (List.getElem?_eq_getElem j.2)
    refine ⟨⟨_, _, A1, c1, rfl, hl1, hC1⟩, rfl, fun ad' e' => ?_⟩
    rw [e] at e'
    cases e'
    have := hcell 0 (.slice A1 l[j.1].length c1) (by rw [hce]; rfl)
    simpa [Kd.slice] using this
  refine ⟨Array.ofFn fun j : Fin l.length => Classical.choose (one j), ?_, fun hp => ?_⟩
  · apply List.ext_getElem
    · simp
    · intro i h1 h2
      simp only [List.getElem_map, Array.getElem_toList, Array.getElem_ofFn]
      exact (Classical.choose_spec (one ⟨i, h2⟩)).1
  · obtain ⟨ad, e, _⟩ := h.2.2 (by simpa using hp)
    refine ⟨ad, e, fun j hj => ?_⟩
    have hj' : j < l.length := by simpa using hj
    rw [getElem!_pos _ j hj]
    simp only [Array.getElem_ofFn]
    exact (Classical.choose_spec (one ⟨j, hj'⟩)).2 ad e
theorem info23 : (Tryd.prog.info? 23).map (fun i => (i.zero, i.size, i.bytes)) = some (some (.slice none 0 0), 1, 24) := by kernel_rfl
/-- a list of rows of the call's own -/
def Own {wb : World} (w : World) (base : Nat) (v : Value) (d : Array (El wb)) : Prop := w.ownsRow base 23 1 v d.size (d.toList.map encE)
theorem Own.below {wb w w1 : World} {base : Nat} {v : Value} {d : Array (El wb)} (h : Own w base v d) (hb : RowKit.Below w.heap.size w w1) : Own w1 base v d := pw_own_below h hb
theorem Own.slice {wb w : World} {base : Nat} {v : Value} {d : Array (El wb)} (h : Own w base v d) : ∃ A c, v = .slice A d.size c ∧ d.size ≤ c ∧ Cells w A d := by
  obtain ⟨h1, h2⟩ := h
  rcases h2 with ⟨rfl, hn⟩ | ⟨g, cap, cur, rfl, hg, hh, hcap, hmax, hsz, ht⟩
  · exact ⟨none, 0, by rw [hn], by omega, fun hp => by omega⟩
  · refine ⟨some ⟨g, 0, none⟩, cap, rfl, hcap, fun hp => ⟨_, rfl, fun j hj => ?_⟩⟩
    have e : (cur.toList.take (d.size * 1))[j]? = some (encE d[j]!) := by
      rw [ht, List.getElem?_map, List.getElem?_eq_getElem (by simpa using hj)]
      simp [getElem!_pos d j hj]
    rw [List.getElem?_take] at e
    have hj2 : j < d.size * 1 := by omega
    rw [if_pos hj2, Array.getElem?_toList] at e
    rw [Addr.add_lit, Nat.zero_add]
    exact (blk_cell hh j).trans e
theorem Own.to_C {wb w : World} {base : Nat} {v : Value} {d : Array (El wb)} (h : Own w base v d) (hb : RowKit.Below wb.heap.size wb w) (hm : d.size ≤ 9223372036854775807) :
    ∃ A c, v = .slice A d.size c ∧ d.size ≤ c ∧ Kd.C (Kd.slice 27 k27) w A d.size (d.toList.map El.c) := by
  obtain ⟨A, c, e, hl, hc⟩ := h.slice
  refine ⟨A, c, e, hl, by simp, hm, fun hp => ?_⟩
  obtain ⟨ad, ea, hcell⟩ := hc hp
  refine ⟨ad, ea, fun j p hj => ?_⟩
  have hjl : j < d.size := by have := (List.getElem?_eq_some_iff.1 hj).1; simpa using this
  have hp' : p = d[j]!.c := by
    rw [List.getElem?_map, List.getElem?_eq_getElem (by simpa using hjl)] at hj
    simp only [Option.map_some, Option.some.injEq] at hj
    rw [← hj, getElem!_pos d j hjl]; simp
  subst hp'
  obtain ⟨A1, c1, e1, hl1, hC1⟩ := d[j]!.h.below hb
  refine ⟨[d[j]!.v], rfl, ⟨A1, c1, by rw [e1], hl1, hC1⟩, fun i u hu => ?_⟩
  match i, hu with
  | 0, hu =>
    simp only [List.getElem?_cons_zero, Option.some.injEq] at hu
    subst hu
    have := hcell j hjl
    simpa [Kd.slice, encE] using this
set_option maxHeartbeats 4000000 in
set_option maxRecDepth 1000000 in
theorem clone_s {wb : World} (A : Option Addr) (cap : Nat) (d : Array (El wb)) (w : World) (hn : d.size ≤ 1000000000) (hc : Cells w A d) :
    Calls Tryd.prog 61 #[.slice A d.size cap] w fun e w' => ∃ v, e = .returned v ∧ Own w' w.heap.size v d ∧ Below w.heap.size w w' := by
  obtain ⟨i0, hi, hzz⟩ := Option.map_eq_some_iff.1 info23
  simp only [Prod.mk.injEq] at hzz
  obtain ⟨hz0, hz1, hz2⟩ := hzz
  have HC := Aside0.mk hc
  clear hc
  cases A with
  | none =>
    have h0 : d.size = 0 := by
      rcases Nat.eq_zero_or_pos d.size with h | h
      · exact h
      · obtain ⟨ad, e, _⟩ := HC.out h
        cases e
    have hd : d = #[] := Array.eq_empty_of_size_eq_zero h0
    rw [h0]
    go_enter Tryd.func61, Tryd.ntmps61
    have q22 : ∀ (w : World) (a : Option Addr) (n c n' c' : Nat), (binOp .eql 71 (.slice a n c) (.slice none n' c')).run Tryd.prog w = .ok (.bool a.isNone) w := fun w a n c n' c' => Lib.run_eql_slice_nil w 71 23 a n c n' c' (by kernel_rfl)
    go_wp2
    go_ret
    exact ⟨_, rfl, by subst hd; exact own_nil _ _ _ _, Below.refl _ _⟩
  | some ad =>
    have hl : (d.toList.map encE).length = d.size * 1 := by simp
    have h1 : ∀ u ∈ d.toList.map (encE (wb := wb)), u.oneCell' = true := by
      intro u hu
      obtain ⟨x, _, rfl⟩ := List.mem_map.1 hu
      exact one_encE x
    go_enter Tryd.func61, Tryd.ntmps61
    have q22 : ∀ (w : World) (a : Option Addr) (n c n' c' : Nat), (binOp .eql 71 (.slice a n c) (.slice none n' c')).run Tryd.prog w = .ok (.bool a.isNone) w := fun w a n c n' c' => Lib.run_eql_slice_nil w 71 23 a n c n' c' (by kernel_rfl)
    go_wp2_with (at_builtin; refine wpList_append_own _ rfl _ _ 71 rfl w.heap.size 23 i0 (.slice none 0 0) 1 24 (by kernel_rfl) hi hz0 hz1 hz2 rfl (by decide) _ _ _ rfl (World.ownsRow_made w #[] 0 (Nat.le_refl _) (Nat.zero_le _) (by simp)) ad d.size cap (d.toList.map encE) rfl ?qc1 ?qc2 ?qc3 ?qc4 ?qc5 ?qc6 ?_)
    case qc1 => exact hl
    case qc2 =>
      intro j u hj
      have hjl : j < d.size := by have := (List.getElem?_eq_some_iff.1 hj).1; simpa using this
      obtain ⟨ad', e', hcell⟩ := HC.out (by omega)
      cases e'
      rw [List.getElem?_map, List.getElem?_eq_getElem (by simpa using hjl)] at hj
      simp only [Option.map_some, Option.some.injEq] at hj
      refine Lib.cell?_alloc_some _ ?_
      rw [hcell j hjl, ← hj, getElem!_pos d j hjl]; simp
    case qc3 => exact h1
    case qc4 => rw [Nat.zero_add]; simp only [maxLen]; omega
    case qc5 => rw [Nat.zero_add]; omega
    case qc6 => simp
    intro v' w1 hown hgrow hnil
    have HO := Aside0.mk hown
    have HG := Aside0.mk hgrow
    clear hown hgrow hnil
    go_wp2
    go_ret
    refine ⟨_, rfl, ?_, ?_⟩
    · exact HO.out
    · exact ((Below.refl _ w).alloc (Nat.le_refl _) _).grown HG.out (by simp) (by intro k hk; simp [Value.ownBlock] at hk; omega)
theorem putCells_own {α : Type} [Inhabited α] (enc : α → Value) (d : Array α) (cur : Array Value) (n : Nat) (hn : n = d.size) (hc : n ≤ cur.size) :
    (putCells enc 0 d cur).size = cur.size ∧ (putCells enc 0 d cur).toList.take (n * 1) = d.toList.map enc := by
  refine ⟨by simp [putCells], ?_⟩
  apply List.ext_getElem?
  intro i
  rw [List.getElem?_take]
  by_cases hi : i < n
  · rw [if_pos (by omega), Array.getElem?_toList, List.getElem?_map, List.getElem?_eq_getElem (by simp; omega)]
    unfold putCells
    rw [Array.getElem?_mapIdx, Array.getElem?_eq_getElem (by omega)]
    simp only [Option.map_some, Nat.zero_le, Nat.zero_add, true_and, Nat.sub_zero]
    rw [if_pos (by omega), getElem!_pos d i (by omega)]
    simp
  · rw [if_neg (by omega), List.getElem?_eq_none (by simp; omega)]
theorem Own.sorted {wb w0 W : World} {base g cap : Nat} {d d' : Array (El wb)} (h : Own w0 base (.slice (some ⟨g, 0, none⟩) d.size cap) d) (S : SB encE w0 g 0 d' W) (hs : d'.size = d.size) : Own W base (.slice (some ⟨g, 0, none⟩) d'.size cap) d' := by
  obtain ⟨h1, h2⟩ := h
  refine ⟨by simp, ?_⟩
  rcases h2 with ⟨h2, _⟩ | ⟨g', cap', cur, hv, hg, hh, hcap, hmax, hsz, ht⟩
  · cases h2
  · injection hv with hv1 hv2 hv3
    injection hv1 with hv1
    injection hv1 with hv1
    subst hv1 hv3
    obtain ⟨p1, p2⟩ := putCells_own encE d' cur d'.size rfl (by omega)
    refine .inr ⟨g, cap, putCells encE 0 d' cur, rfl, hg, ?_, by omega, hmax, by rw [p1, hsz], p2⟩
    have hlt : g < w0.heap.size := (Array.getElem?_eq_some_iff.1 hh).1
    rw [RowKit.Below.block S g hlt]
    unfold putRow mapBlock
    rw [Array.getElem?_modify, if_pos rfl, hh]; rfl
/-- what is asked of the order: it is one, and only a row itself stands where it stands -/
theorem holds_own {wb w : World} {base g cap : Nat} {d : Array (El wb)} (h : Own w base (.slice (some ⟨g, 0, none⟩) d.size cap) d) : Holds encE w g 0 d := by
  obtain ⟨h1, h2⟩ := h
  rcases h2 with ⟨h2, _⟩ | ⟨g', cap', cur, hv, hg, hh, hcap, hmax, hsz, ht⟩
  · cases h2
  · injection hv with hv1 hv2 hv3
    injection hv1 with hv1
    injection hv1 with hv1
    subst hv1 hv3
    intro j hj
    have e : (cur.toList.take (d.size * 1))[j]? = some (encE d[j]!) := by
      rw [ht, List.getElem?_map, List.getElem?_eq_getElem (by simpa using hj)]
      simp [getElem!_pos d j hj]
    rw [List.getElem?_take] at e
    have hj2 : j < d.size * 1 := by omega
    rw [if_pos hj2, Array.getElem?_toList] at e
    rw [Nat.zero_add]
    exact ⟨(blk_cell hh j).trans e, blk_frozen hh j⟩
/-- sorted, of the same rows -/
structure Srt {wb : World} (d d' : Array (El wb)) : Prop where
  size : d'.size = d.size
  perm : d'.toList.Perm d.toList
  ord : SortedIn (ltOf (cfE (wb := wb))) 0 d'.size d'
set_option maxHeartbeats 4000000 in
set_option maxRecDepth 1000000 in
theorem ins_nil (w : World) : Calls Tryd.prog 76 #[.slice none 0 0, .int .i64 0, .int .i64 0, .func (.func 24) #[] #[]] w fun e w' => e = .returned (.tuple #[]) ∧ w' = w := by
  go_enter Tryd.func76, Tryd.ntmps76
  go_wp2
  go_loopg [8] 0 (fun gg v wr => v = .int .i64 1 ∧ wr = w)
  case atStart => exact ⟨rfl, rfl⟩
  case round =>
    obtain ⟨rfl, rfl⟩ := hrel
    go_wp2
    go_end0
    exact ⟨rfl, rfl⟩
set_option maxHeartbeats 4000000 in
set_option maxRecDepth 1000000 in
theorem stable_nil (w : World) : Calls Tryd.prog 67 #[.slice none 0 0, .int .i64 0, .func (.func 24) #[] #[]] w fun e w' => e = .returned (.tuple #[]) ∧ w' = w := by
  go_enter Tryd.func67, Tryd.ntmps67
  go_wp2
  go_loopg [7, 8] 0 (fun gg va vb wr => va = .int .i64 0 ∧ vb = .int .i64 20 ∧ wr = w)
  case atStart => exact ⟨rfl, rfl, rfl⟩
  case round =>
    obtain ⟨rfl, rfl, rfl⟩ := hrel
    have C := ins_nil wr
    go_wp2_with fail
    refine C.mono ?_
    rintro e w' ⟨rfl, rfl⟩
    clear C
    go_wp2
    go_loopg [6] 0 (fun gg v wr => v = .int .i64 20 ∧ wr = w')
    case atStart => exact ⟨rfl, rfl⟩
    case round =>
      obtain ⟨rfl, rfl⟩ := hrel
      go_wp2
      go_end0
      exact ⟨rfl, rfl⟩
set_option maxHeartbeats 4000000 in
set_option maxRecDepth 1000000 in
theorem sortStable_s {wb : World} (hS : SWO (ltOf (cfE (wb := wb)))) (v : Value) (d : Array (El wb)) (w : World) (base : Nat) (hO : Own w base v d) (hb : RowKit.Below wb.heap.size wb w) (hbase : wb.heap.size ≤ base) (hn : d.size ≤ 1000000000) :
    Calls Tryd.prog 62 #[v, .func (.func 24) #[] #[]] w fun e w' => e = .returned (.tuple #[]) ∧ ∃ d', Srt d d' ∧ Own w' base v d' ∧ Below base w w' := by
  rcases hO.2 with ⟨rfl, h0⟩ | ⟨g, cap, cur, rfl, hg, hh, hcap, hmax, hsz, ht⟩
  · have hd : d = #[] := Array.eq_empty_of_size_eq_zero h0
    subst hd
    have C := stable_nil w
    clear hO
    go_enter Tryd.func62, Tryd.ntmps62
    go_wp2_with fail
    refine C.mono ?_
    rintro e w' ⟨rfl, rfl⟩
    clear C
    go_wp2
    go_end0
    exact ⟨rfl, #[], ⟨rfl, List.Perm.refl _, fun i j h1 h2 h3 => absurd h3 (Nat.not_lt_zero _)⟩, own_nil _ _ _ _, Below.refl _ _⟩
  · have hlt : g < w.heap.size := (Array.getElem?_eq_some_iff.1 hh).1
    have R : Row encE w g 0 d := ⟨one_encE, holds_own hO, hlt⟩
    have C := stable_s hS encE g 0 cap d w (cmp_ok g 0 d.size hb (by omega)) R (by omega)
    clear hh ht hsz
    go_enter Tryd.func62, Tryd.ntmps62
    go_wp2_with fail
    refine C.mono ?_
    rintro e w' ⟨rfl, d', P, O, S⟩
    have hs : d'.size = d.size := P.1
    have PO := Aside0.mk P
    have OO := Aside0.mk O
    have SO := Aside0.mk S
    clear P O S C
    go_wp2
    go_end0
    refine ⟨rfl, d', ⟨hs, ?_, by rw [hs]; exact OO.out⟩, ?_, ?_⟩
    · have := PO.out.2.2
      rw [Array.extract_size] at this
      have e : d'.extract 0 d.size = d' := by rw [← hs]; exact Array.extract_size
      rw [e] at this
      exact this
    · have := Own.sorted hO SO.out hs
      rw [hs] at this
      exact this
    · exact (below_putRow encE w base g 0 d' hg).trans (RowKit.Below.mono SO.out (by omega))
set_option maxHeartbeats 4000000 in
set_option maxRecDepth 1000000 in
theorem order_s {wb : World} (hS : SWO (ltOf (cfE (wb := wb)))) (A : Option Addr) (cap : Nat) (d : Array (El wb)) (w : World) (hn : d.size ≤ 1000000000) (hc : Cells w A d) (hb : RowKit.Below wb.heap.size wb w) :
    Calls Tryd.prog 48 #[.slice A d.size cap, .func (.func 24) #[] #[]] w fun e w' => ∃ v d', e = .returned v ∧ Srt d d' ∧ Own w' w.heap.size v d' ∧ Below w.heap.size w w' := by
  have C := clone_s A cap d w hn hc
  clear hc
  go_enter Tryd.func48, Tryd.ntmps48
  go_wp2_with fail
  refine C.mono ?_
  rintro e w1 ⟨v, rfl, hO, hB⟩
  have C2 := sortStable_s hS v d w1 w.heap.size hO (hb.trans (RowKit.Below.mono hB hb.size)) hb.size hn
  have HB := Aside0.mk hB
  clear C hO hB hb
  go_wp2_with fail
  refine C2.mono ?_
  rintro e w2 ⟨rfl, d', S, O, B⟩
  have SO := Aside0.mk S
  have OO := Aside0.mk O
  have BO := Aside0.mk B
  clear C2 S O B
  go_wp2
  go_ret
  exact ⟨_, d', rfl, SO.out, OO.out, HB.out.trans BO.out⟩
set_option maxHeartbeats 4000000 in
set_option maxRecDepth 1000000 in
theorem sorted_s {wb : World} (hS : SWO (ltOf (cfE (wb := wb)))) (A : Option Addr) (cap : Nat) (d : Array (El wb)) (w : World) (hn : d.size ≤ 1000000000) (hc : Cells w A d) (hb : RowKit.Below wb.heap.size wb w) :
    Calls Tryd.prog 26 #[.slice A d.size cap] w fun e w' => ∃ v d', e = .returned v ∧ Srt d d' ∧ Own w' w.heap.size v d' ∧ Below w.heap.size w w' := by
  have C := order_s hS A cap d w hn hc hb
  clear hc hb
  go_enter Tryd.func26, Tryd.ntmps26
  go_wp2_with fail
  refine C.mono ?_
  rintro e w1 ⟨v, d', rfl, S, O, B⟩
  have SO := Aside0.mk S
  have OO := Aside0.mk O
  have BO := Aside0.mk B
  clear C S O B
  go_wp2
  go_ret
  exact ⟨_, d', rfl, SO.out, OO.out, BO.out⟩
/-! slices.Equal of two rows -/
noncomputable instance : DecidableEq S27 := fun a b => Classical.propDecidable _
theorem bytes_eq {a b : ByteArray} (h : a.toList = b.toList) : a = b := by
  rw [ByteArray.toList_eq, ByteArray.toList_eq] at h
  cases a; cases b; simp only at h; rw [Array.toList_inj.1 h]
theorem eq_l0 (l0 l1 : List S27) (hl : l0.length = l1.length) (hm : l0.length ≤ 9223372036854775807) : ∀ (n i k : Nat), n + i = l0.length → n < k → api_Value_52.l0 k l0 l1 (l0.length : Int) (i : Int) = some (decide (l0.drop i = l1.drop i))
  | 0, i, 0, h, hk => by omega
  | 0, i, k + 1, h, hk => by
    have e : i = l0.length := by omega
    rw [api_Value_52.l0, if_neg (by omega), List.drop_eq_nil_of_le (by omega), List.drop_eq_nil_of_le (by omega)]
    rfl
  | n + 1, i, 0, h, hk => by omega
  | n + 1, i, k + 1, h, hk => by
    have h0 : i < l0.length := by omega
    have h1 : i < l1.length := by omega
    have hw : wrap64 ((i : Int) + 1) = ((i + 1 : Nat) : Int) := by unfold wrap64; omega
    rw [api_Value_52.l0, if_pos (by omega), if_pos (by omega), if_pos (by omega), if_pos (by omega), hw, eq_l0 l0 l1 hl hm n (i + 1) k (by omega) (by omega)]
    rw [drop_rd l0 i h0, drop_rd l1 i h1]
    generalize rd_T27 l0 (i : Int) = a
    generalize rd_T27 l1 (i : Int) = b
    obtain ⟨a0, a1, a2⟩ := a
    obtain ⟨b0, b1, b2⟩ := b
    by_cases e0 : a0 = b0
    · by_cases e1 : a1 = b1
      · by_cases e2 : a2 = b2
        · simp [e0, e1, e2]
        · have e3 : a2.toList ≠ b2.toList := fun h => e2 (bytes_eq h)
          simp [e0, e1, e2, e3]
      · simp [e0, e1]
    · simp [e0]
theorem eqR_ev (l0 l1 : List S27) (hm : l0.length ≤ 9223372036854775807) : api_Value_52.f (l0.length + 1) l0 l1 = some (decide (l0 = l1)) := by
  unfold api_Value_52.f
  by_cases hl : l0.length = l1.length
  · rw [if_pos (by omega)]
    have := eq_l0 l0 l1 hl hm l0.length 0 (l0.length + 1) (by omega) (by omega)
    simpa using this
  · rw [if_neg (by omega)]
    have : l0 ≠ l1 := fun e => hl (by rw [e])
    simp [this]
theorem eqRow_s {wb w : World} (x y : El wb) (hb : RowKit.Below wb.heap.size wb w) : Calls Tryd.prog 51 #[encE x, encE y] w fun e w' => e = .returned (.bool (decide (x.c = y.c))) ∧ Below w.heap.size w w' := by
  obtain ⟨A0, c0, e0, hl0, hC0⟩ := x.h.below hb
  obtain ⟨A1, c1, e1, hl1, hC1⟩ := y.h.below hb
  have C := api_Value_52.calls (x.c.length + 1) A0 c0 x.c A1 c1 y.c (decide (x.c = y.c)) w hC0 hl0 hC1 hl1 (eqR_ev _ _ hC0.2.1)
  unfold encE
  rw [e0, e1]
  generalize decide (x.c = y.c) = r at C ⊢
  clear hC0 hC1 e0 e1 hb hl0 hl1
  go_enter Tryd.func51, Tryd.ntmps51
  go_wp2_with fail
  refine C.mono ?_
  rintro e w1 ⟨rfl, hb1⟩
  have HB := Aside0.mk hb1
  clear C hb1
  go_wp2
  go_ret
  exact ⟨rfl, HB.out.below⟩
/-- all the rows, one by one, are the same -/
noncomputable def same {wb : World} (d1 d2 : Array (El wb)) (i : Nat) : Bool := decide ((d1.toList.map El.c).drop i = (d2.toList.map El.c).drop i)
theorem map_drop {wb : World} (d : Array (El wb)) (i : Nat) (h : i < d.size) : (d.toList.map El.c).drop i = d[i]!.c :: (d.toList.map El.c).drop (i + 1) := by
  rw [List.drop_eq_getElem_cons (by simpa using h)]
  simp [getElem!_pos d i h]
theorem same_next {wb : World} (d1 d2 : Array (El wb)) (i : Nat) (h1 : i < d1.size) (h2 : i < d2.size) : same d1 d2 i = (decide (d1[i]!.c = d2[i]!.c) && same d1 d2 (i + 1)) := by
  unfold same
  rw [map_drop d1 i h1, map_drop d2 i h2]
  simp
set_option maxHeartbeats 4000000 in
set_option maxRecDepth 1000000 in
theorem equalFunc_s {wb : World} (A A' : Option Addr) (cap cap' : Nat) (d1 d2 : Array (El wb)) (w : World) (hn : d1.size = d2.size) (hm : d1.size ≤ 1000000000) (hc : Cells w A d1) (hc' : Cells w A' d2) (hb : RowKit.Below wb.heap.size wb w) :
    Calls Tryd.prog 50 #[.slice A d1.size cap, .slice A' d2.size cap', .func (.func 51) #[] #[]] w fun e w' => e = .returned (.bool (same d1 d2 0)) ∧ Below w.heap.size w w' := by
  have HC := Aside0.mk hc
  have HC' := Aside0.mk hc'
  have HB := Aside0.mk hb
  have B0 := Aside0.mk (Below.refl w.heap.size w)
  clear hc hc' hb
  obtain ⟨n, hnn⟩ : ∃ q, q = d1.size := ⟨_, rfl⟩
  have h2 : d2.size = n := by omega
  rw [h2, ← hnn]
  have N1 := Aside0.mk hnn
  have N2 := Aside0.mk h2
  have hm' : n ≤ 1000000000 := by omega
  clear hn hm hnn h2
  go_enter Tryd.func50, Tryd.ntmps50
  go_wp2
  go_loopg [17] n (fun gg v wr => ∃ i : Nat, v = .int .i64 i ∧ Aside0 (i ≤ n ∧ n - i ≤ gg) ∧ Aside0 (same d1 d2 0 = same d1 d2 i) ∧ Aside0 (Below w.heap.size w wr))
  case atStart => exact ⟨0, rfl, ⟨by omega⟩, ⟨rfl⟩, B0⟩
  case round =>
    clear B0
    obtain ⟨i, rfl, hi, hs, B1⟩ := hrel
    by_cases hlt : i < n
    · have hltz : (i : Int) < (n : Int) := by omega
      have p0 : (0 : Int) ≤ (i : Int) := Int.natCast_nonneg _
      have LT := Aside0.mk hlt
      obtain ⟨ad, rfl, hcell⟩ := HC.out (by have := N1.out; omega)
      obtain ⟨ad', rfl, hcell'⟩ := HC'.out (by have := N2.out; omega)
      have c1 : wr.cell? (ad.add i) = some (encE d1[i]!) := by
        have q := hcell i (by have := N1.out; omega)
        rw [RowKit.Below.cell B1.out (World.block_lt_of_cell? _ _ q)]; exact q
      have c2 : wr.cell? (ad'.add i) = some (encE d2[i]!) := by
        have q := hcell' i (by have := N2.out; omega)
        rw [RowKit.Below.cell B1.out (World.block_lt_of_cell? _ _ q)]; exact q
      have C := eqRow_s d1[i]! d2[i]! (HB.out.trans (RowKit.Below.mono B1.out HB.out.size))
      have HN := Aside0.mk (same_next d1 d2 i (by have := N1.out; omega) (by have := N2.out; omega))
      clear hlt hcell hcell'
      obtain ⟨r, hr⟩ : ∃ r, r = decide (d1[i]!.c = d2[i]!.c) := ⟨_, rfl⟩
      rw [← hr] at C HN
      have ew : IntKind.i64.wrap ((i : Int) + 1) = ((i + 1 : Nat) : Int) := by rw [IntKind.wrap_i64]; omega
      have EW := Aside0.mk ew
      clear hr ew
      have st1 := fun (a : Addr) (m : Mode) (w : World) => one_encE.store Tryd.prog d1[i]! a m w
      generalize encE d1[i]! = x at *
      generalize encE d2[i]! = y at *
      go_wp2_with fail
      refine C.mono ?_
      rintro e w1 ⟨rfl, hb1⟩
      have B2 := Aside0.mk (B1.out.trans (RowKit.Below.mono hb1 B1.out.size))
      clear C hb1 c1 c2 st1
      cases r with
      | true =>
        have ew := EW.out
        go_wp2_with fail
        clear ew
        go_roundg (n - (i + 1))
        case measure => have := hi.out; have := LT.out; omega
        case rel => exact ⟨i + 1, by first | rfl | congr 1, ⟨by have := hi.out; have := LT.out; omega⟩, ⟨by rw [hs.out, HN.out, Bool.true_and]⟩, B2⟩
      | false =>
        have HF : Aside0 (same d1 d2 0 = false) := ⟨by rw [hs.out, HN.out, Bool.false_and]⟩
        clear HN hs
        go_wp2_with fail
        go_ret
        exact ⟨by rw [HF.out]; rfl, B2.out⟩
    · have hltz : ¬ (i : Int) < (n : Int) := by omega
      have HF : Aside0 (same d1 d2 0 = true) := ⟨by
        rw [hs.out]
        unfold same
        rw [List.drop_eq_nil_of_le (by have := N1.out; have := hi.out; simp; omega), List.drop_eq_nil_of_le (by have := N2.out; have := hi.out; simp; omega)]
        simp⟩
      clear hlt hs
      go_wp2
      go_ret
      exact ⟨by rw [HF.out]; rfl, B1.out⟩
set_option maxHeartbeats 4000000 in
set_option maxRecDepth 1000000 in
theorem sameBag_s {wb : World} (hS : SWO (ltOf (cfE (wb := wb)))) (A A' : Option Addr) (cap cap' : Nat) (d1 d2 : Array (El wb)) (w : World) (hm : d1.size ≤ 1000000000) (hm2 : d2.size ≤ 1000000000) (hc : Cells w A d1) (hc' : Cells w A' d2) (hb : RowKit.Below wb.heap.size wb w) :
    Calls Tryd.prog 29 #[.slice A d1.size cap, .slice A' d2.size cap'] w fun e w' => ∃ r, e = .returned (.bool r) ∧ Below w.heap.size w w' ∧ ((d1.size ≠ d2.size ∧ r = false) ∨ (d1.size = d2.size ∧ ∃ s1 s2, Srt d1 s1 ∧ Srt d2 s2 ∧ r = same s1 s2 0)) := by
  have HC' := Aside0.mk hc'
  have HB := Aside0.mk hb
  by_cases hn : d1.size = d2.size
  · have C1 := sorted_s hS A cap d1 w hm hc hb
    obtain ⟨n, hnn⟩ : ∃ q, q = d1.size := ⟨_, rfl⟩
    have N1 := Aside0.mk hnn
    have N2 : Aside0 (d2.size = n) := ⟨by omega⟩
    have hm' : n ≤ 1000000000 := by omega
    rw [N2.out]
    rw [← hnn] at C1 ⊢
    have hd : ((n : Int) == (n : Int)) = true := by simp
    clear hn hm hm2 hnn hc hc' hb
    go_enter Tryd.func29, Tryd.ntmps29
    go_wp2_with fail
    refine C1.mono ?_
    rintro e w1 ⟨v1, s1, rfl, S1, O1, B1⟩
    have SO1 := Aside0.mk S1
    have OO1 := Aside0.mk O1
    have BO1 := Aside0.mk B1
    clear C1 S1 O1 B1
    have C2 := sorted_s hS A' cap' d2 w1 (by rw [N2.out]; exact hm') (HC'.out.below BO1.out) (HB.out.trans (RowKit.Below.mono BO1.out HB.out.size))
    rw [N2.out] at C2
    go_wp2_with fail
    refine C2.mono ?_
    rintro e w2 ⟨v2, s2, rfl, S2, O2, B2⟩
    have SO2 := Aside0.mk S2
    have BO2 := Aside0.mk (BO1.out.trans (RowKit.Below.mono B2 BO1.out.size))
    obtain ⟨A1, c1, rfl, hl1, hc1⟩ := (OO1.out.below B2).slice
    obtain ⟨A2, c2, rfl, hl2, hc2⟩ := O2.slice
    clear C2 S2 O2 B2 OO1
    have z1 : s1.size = n := by rw [SO1.out.size, N1.out]
    have z2 : s2.size = n := by rw [SO2.out.size, N2.out]
    have C3 := equalFunc_s A1 A2 c1 c2 s1 s2 w2 (by omega) (by omega) hc1 hc2 (HB.out.trans (RowKit.Below.mono BO2.out HB.out.size))
    rw [z1, z2] at C3 ⊢
    clear hl1 hl2 hc1 hc2 z1 z2
    go_wp2_with fail
    refine C3.mono ?_
    rintro e w3 ⟨rfl, B3⟩
    have BO3 := Aside0.mk (BO2.out.trans (RowKit.Below.mono B3 BO2.out.size))
    clear C3 B3
    go_wp2
    go_ret
    exact ⟨_, rfl, BO3.out, .inr ⟨by first | trivial | rw [← N1.out], s1, s2, SO1.out, SO2.out, rfl⟩⟩
  · have hd : ((d1.size : Int) == (d2.size : Int)) = false := by simp; omega
    have hd2 : ¬ (d1.size : Int) = (d2.size : Int) := by omega
    have HN := Aside0.mk hn
    clear hn hc hc' hb
    go_enter Tryd.func29, Tryd.ntmps29
    go_wp2
    go_ret
    exact ⟨_, rfl, Below.refl _ _, .inl ⟨HN.out, rfl⟩⟩
end Go.Proofs.YtaneicpggglcbaaDoor.Sv
