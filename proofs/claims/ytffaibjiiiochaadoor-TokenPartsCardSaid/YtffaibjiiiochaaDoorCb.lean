/- The cutting methods of layer 6 (part). -/
import Derived.Test.YtffaibjiiiochaaDoorCt
import Derived.Test.YtffaibjiiiochaaDoorBld
set_option linter.unusedVariables false
set_option linter.unusedSimpArgs false
namespace Go.Proofs.YtffaibjiiiochaaDoor.Ct
open Go.RowKit Go.Proofs.YtffaibjiiiochaaDoorW.PrintWords Go.Proofs.YtffaibjiiiochaaDoorW.PrintLast Go.Proofs.YtffaibjiiiochaaDoorW.PrintMore Go.Proofs.YtffaibjiiiochaaDoor.Tk
/-- a builder beside the cutter: since w only the cutter's own cells have turned below, and what it holds -/
structure Bx (g b : Nat) (s : ByteArray) (v : Value) (w : World) (at_ : Nat) (l : List UInt8) (wr : World) : Prop where
  bd : Lib.IsBuilderF 55 5 w.heap.size b (Lib.byteCells l) wr
  ct : Ctr wr g s at_ v
  kp : ∀ k, k < w.heap.size → k ≠ g → wr.heap[k]? = w.heap[k]?
  bs : w.heap.size ≤ wr.heap.size
  st : wr.os = w.os ∧ wr.tape = w.tape ∧ wr.output = w.output
  lg : g < w.heap.size
theorem atF_set {B b g : Nat} {p : Value} {bs : List Value} {w : World} (h : Lib.BuilderAtF 55 5 B b p bs w) (hg : g < B) (j : Nat) (u : Value) : Lib.BuilderAtF 55 5 B b p bs (w.setCell ⟨g, j, none⟩ u) := by
  obtain ⟨hB, v, hb, hown, hne⟩ := h
  refine ⟨hB, v, (Below.heap_setCell _ _ _ _ (by show b ≠ g; omega)).trans hb, ?_, hne⟩
  refine hown.kept (row := some g) ⟨rfl, rfl, rfl, by simp [World.setCell], fun k _ hk => Below.heap_setCell _ _ _ _ (fun e => hk (by simp [e]))⟩ (.inr ?_)
  intro e
  have := hown.lt g e
  omega
theorem Bx.drewN {g b : Nat} {s : ByteArray} {v : Value} {w : World} {at_ : Nat} {l : List UInt8} {wr : World} (h : Bx g b s v w at_ l wr) (n : Nat) : Bx g b s v w at_ l (wr.drewN n) := ⟨h.bd, h.ct, h.kp, h.bs, h.st, h.lg⟩
theorem Bx.drew {g b : Nat} {s : ByteArray} {v : Value} {w : World} {at_ : Nat} {l : List UInt8} {wr : World} (h : Bx g b s v w at_ l wr) : Bx g b s v w at_ l wr.drew := ⟨h.bd, h.ct, h.kp, h.bs, h.st, h.lg⟩
theorem Bx.to {g b : Nat} {s : ByteArray} {v : Value} {w : World} {at_ : Nat} {l : List UInt8} {wr : World} (h : Bx g b s v w at_ l wr) (m : Nat) : Bx g b s v w m l (wr.setCell ⟨g, 1, none⟩ (.int .i64 m)) :=
  ⟨h.bd.elim (fun x => .inl (atF_set x h.lg 1 _)) (fun x => .inr (atF_set x h.lg 1 _)), h.ct.to m, fun k hk hne => (Below.heap_setCell _ _ _ _ (by exact hne)).trans (h.kp k hk hne), by simpa [World.setCell] using h.bs, h.st, h.lg⟩
theorem Bx.step {g b : Nat} {s : ByteArray} {v : Value} {w : World} {at_ : Nat} {l l' : List UInt8} {wr w2 : World} (h : Bx g b s v w at_ l wr) (h1 : Lib.IsBuilderF 55 5 w.heap.size b (Lib.byteCells l') w2) (h2 : Below w.heap.size wr w2) : Bx g b s v w at_ l' w2 :=
  ⟨h1, (h2.block g h.lg).trans h.ct, fun k hk hne => (h2.block k hk).trans (h.kp k hk hne), Nat.le_trans h.bs h2.size, ⟨h2.os.trans h.st.1, h2.tape.trans h.st.2.1, h2.output.trans h.st.2.2⟩, h.lg⟩
theorem Bx.own {B g b : Nat} {s : ByteArray} {v : Value} {w : World} {at_ at0 : Nat} {l : List UInt8} {wr : World} (h : Bx g b s v w at_ l wr) {ts : List TokV} (O : Own B w v ts) (R : Ctr w g s at0 v) : Own B wr v ts := by
  refine ⟨O.1, ?_⟩
  have hne := own_ne O R (by decide)
  rcases O.2 with h0 | ⟨g', cap, cur, hv, hB, hg, r⟩
  · exact .inl h0
  · refine .inr ⟨g', cap, cur, hv, hB, ?_, r⟩
    have hlt : g' < w.heap.size := by
      rcases Nat.lt_or_ge g' w.heap.size with h' | h'
      · exact h'
      · simp [Array.getElem?_eq_none h'] at hg
    refine (h.kp g' hlt ?_).trans hg
    intro e
    apply hne
    rw [hv, e]
    rfl
theorem Bx.below {B g b : Nat} {s : ByteArray} {v : Value} {w : World} {at_ : Nat} {l : List UInt8} {wr : World} (h : Bx g b s v w at_ l wr) (hB : B ≤ g) : Below B w wr :=
  ⟨h.st.1, h.st.2.1, h.st.2.2, h.bs, fun k hk => h.kp k (by have := h.lg; omega) (by omega)⟩
theorem Bx.start {g : Nat} {s : ByteArray} {v : Value} {w : World} {at_ : Nat} (R : Ctr w g s at_ v) (n : Nat) : Bx g w.heap.size s v w at_ [] ((w.drewN n).alloc (.cells #[.pointer none, .slice none 0 0] 55)) :=
  have lg : g < w.heap.size := World.block_lt_of_cell? w _ R.cells.1
  ⟨Lib.IsBuilderF.of (Lib.fresh_isBuilder 55 5 (w.drewN n)), blk_alloc (w := w.drewN n) R _, fun k hk _ => Lib.alloc_old (w.drewN n) _ k hk, by simp, ⟨rfl, rfl, rfl⟩, lg⟩
theorem Bx.start1 {g : Nat} {s : ByteArray} {v : Value} {w : World} {at_ : Nat} (R : Ctr w g s at_ v) (m : Nat) : Bx g w.heap.size s v w m [] ((w.setCell ⟨g, 1, none⟩ (.int .i64 m)).alloc (.cells #[.pointer none, .slice none 0 0] 55)) := by
  have lg : g < w.heap.size := World.block_lt_of_cell? w _ R.cells.1
  have e : (w.setCell ⟨g, 1, none⟩ (.int .i64 m)).heap.size = w.heap.size := by simp [World.setCell]
  have h := Lib.IsBuilderF.of (Lib.fresh_isBuilder 55 5 (w.setCell ⟨g, 1, none⟩ (.int .i64 m)))
  rw [e] at h
  exact ⟨h, blk_alloc (R.to m) _, fun k hk hne => (Lib.alloc_old _ _ k (by rw [e]; exact hk)).trans (Below.heap_setCell _ _ _ _ (by exact hne)), by simp [e], ⟨rfl, rfl, rfl⟩, lg⟩
theorem bytes_snoc (l : List UInt8) (c : UInt8) : Lib.byteCells l ++ [.int .u8 (c.toNat : Int)] = Lib.byteCells (l ++ [c]) := by simp [Lib.byteCells]
theorem str_of_bytes (l : List UInt8) : (⟨l.toArray⟩ : ByteArray) = strOfNums (l.map fun b => (b.toNat : Int)) := by
  unfold strOfNums
  rw [List.map_map]
  congr 2
  rw [List.map_congr_left (g := id) (fun b _ => by simp)]
  simp
theorem textT_close {r : List Int} (h : r.head? ≠ some 39) : textT (39 :: r) = some ([], r) := by
  cases r with
  | nil => rfl
  | cons d r =>
    have hd : ¬ d = 39 := by simpa using h
    rw [textT, if_pos rfl, if_neg hd]
theorem textT_twice (r : List Int) : textT (39 :: 39 :: r) = (textT r).map fun p => (39 :: p.1, p.2) := by rw [textT, if_pos rfl, if_pos rfl]
theorem textT_other {c : Int} {r : List Int} (h : c ≠ 39) : textT (c :: r) = (textT r).map fun p => (c :: p.1, p.2) := by
  cases r with
  | nil => show textT [c] = none; simp [textT, h]
  | cons d r => rw [textT, if_neg h]
/-- more in front -/
def ahead (l : List UInt8) (o : Option (List Int × List Int)) : Option (List Int × List Int) := o.map fun p => ((l.map fun b => (b.toNat : Int)) ++ p.1, p.2)
theorem ahead_snoc (l : List UInt8) (c : UInt8) (o : Option (List Int × List Int)) : ahead l (o.map fun p => ((c.toNat : Int) :: p.1, p.2)) = ahead (l ++ [c]) o := by
  cases o <;> simp [ahead]
end Go.Proofs.YtffaibjiiiochaaDoor.Ct
