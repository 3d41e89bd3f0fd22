/- Opening a law's arguments: a Value, a list of Values, as the printed walks read them. -/
import Derived.Test.YtaneicpggglcbaaDoorQVTx0
import Derived.WalkKit
import Derived.ProofKit
import Derived.OpenShut
import Derived.SizedLaws
import Derived.Deep.Slices
import Derived.Deep.Strs
import Derived.Lib.SmallJoins
set_option linter.unusedVariables false
set_option linter.unusedSimpArgs false
set_option maxRecDepth 100000
namespace Go.Proofs.YtaneicpggglcbaaDoor.Rw
open Go.RowKit Go.Proofs.YtaneicpggglcbaaDoorW.PrintWords Go.Proofs.YtaneicpggglcbaaDoor.QVT Go.Deep Go.ChangeShapes Go.WideShapes Go.ChangeAt
open Go.ChangeMaps (open_string shut_string)

def OkV (x : S27) : Prop := (Lit.int .i64 x.f0).wf = true ∧ (Lit.int .i64 x.f1).wf = true ∧ x.f2.size ≤ 140737488351232
theorem cellsV : Tryd.prog.cellsOf 27 = 3 := by kernel_rfl
theorem cellsI0 : Tryd.prog.cellsOf 3 = 1 := by kernel_rfl
theorem cellsI1 : Tryd.prog.cellsOf 2 = 1 := by kernel_rfl
theorem cellsS : Tryd.prog.cellsOf 9 = 1 := by kernel_rfl
theorem bytesV : Tryd.prog.bytesOf 27 = 32 := by kernel_rfl

section
variable {H : Type} {enc : TypeId × Value → H} {W : World} {base : Nat} {spare : Nat → Bool} {held : Bool}
theorem cells_value {n : Nat} {cs : List Value} {y : DataW H × List MemPlace} (h : DataW.trod enc Tryd.prog W base spare held n 27 cs = some y) (hw : ∀ k ∈ y.1.weights Tryd.prog 27, k ≤ reachBytes) :
    ∃ x : S27, cs = [.int .i64 x.f0, .int .i64 x.f1, .string x.f2] ∧ OkV x := by
  obtain ⟨y0, y1, y2, m, rfl, hl, h0, h1, h2⟩ := trod_struct3 Tryd.underlying27 h
  rw [cellsV] at hl
  match cs, hl with
  | [c0, c1, c2], _ =>
    rw [cellsI0] at h0
    rw [cellsI1] at h1
    rw [cellsS] at h2
    obtain ⟨a, e0, rfl, wa⟩ := DataW.trod_int Tryd.underlying3 h0
    obtain ⟨b, e1, rfl, wb⟩ := DataW.trod_int Tryd.underlying2 h1
    obtain ⟨s, e2, rfl, ws⟩ := DataW.trod_string Tryd.underlying9 h2
    have hs : s.data.toList.length ≤ reachBytes := hw _ (by simp [DataW.weights, Tryd.underlying27, DataW.weightsEach])
    simp at e0 e1 e2
    subst e0 e1 e2
    refine ⟨⟨a, b, s⟩, rfl, wa, wb, ?_⟩
    rw [Array.length_toList] at hs
    exact hs
theorem open_value {r : Reach} {b0 : Nat} {v : Value} {d : DataW H} {ps : List MemPlace} (hv : Value.okWide Tryd.prog W r b0 27 v) (h : DataW.Trod enc Tryd.prog W base spare held 27 v d ps) (hw : ∀ k ∈ d.weights Tryd.prog 27, k ≤ reachBytes) :
    ∃ x : S27, v = .agg #[.int .i64 x.f0, .int .i64 x.f1, .string x.f2] ∧ OkV x := by
  obtain ⟨cs, rfl, hsz⟩ := okWide_struct Tryd.underlying27 hv
  obtain ⟨n, hn⟩ := h
  obtain ⟨x, hx, ok⟩ := cells_value hn hw
  refine ⟨x, ?_, ok⟩
  have : cs.toList = [.int .i64 x.f0, .int .i64 x.f1, .string x.f2] := hx
  rw [← Array.toList_inj.1 (show cs.toList = (#[Value.int .i64 x.f0, .int .i64 x.f1, .string x.f2] : Array Value).toList from this)]
theorem mem_weightsAll {e : TypeId} {l : List (DataW H)} {d : DataW H} (hd : d ∈ l) {k : Nat} (hk : k ∈ d.weights Tryd.prog e) : k ∈ DataW.weightsAll Tryd.prog e l := by
  induction l with
  | nil => cases hd
  | cons x l ih =>
    rw [DataW.weightsAll, List.mem_append]
    rcases List.mem_cons.1 hd with rfl | hd
    · exact .inl hk
    · exact .inr (ih hd)
theorem open_values {T : TypeId} (ht : Tryd.prog.underlying T = some (.slice 27)) {r : Reach} {b0 : Nat} {v : Value} {d : DataW H} {ps : List MemPlace} (hv : Value.okWide Tryd.prog W r b0 T v) (h : DataW.Trod enc Tryd.prog W base spare held T v d ps) (hw : ∀ k ∈ d.weights Tryd.prog T, k ≤ reachBytes) :
    ∃ (a : Option Addr) (cap : Nat) (l : List S27), v = .slice a l.length cap ∧ l.length ≤ cap ∧ l.length * 32 ≤ 140737488351232 ∧ Kd.C k27 W a l.length l ∧ ∀ x ∈ l, OkV x := by
  obtain ⟨n, hn⟩ := h
  obtain ⟨a0, len, cap, rfl⟩ := okWide_slice ht hv
  rcases open_slice ht hn with ⟨hcs, _⟩ | ⟨a, len', cap', m, n', D, Pl, hcs, hb, hl, hm, hmm, hx, he⟩
  · simp [Value.cells] at hcs
    obtain ⟨rfl, rfl, rfl⟩ := hcs
    exact ⟨none, 0, [], rfl, Nat.le_refl _, by simp, ⟨rfl, by simp, fun h => absurd h (by simp)⟩, by simp⟩
  · simp [Value.cells] at hcs
    obtain ⟨rfl, rfl, rfl⟩ := hcs
    simp only [Prod.mk.injEq] at hx
    obtain ⟨rfl, _⟩ := hx
    have hlm : len ≤ m := by rw [hmm]; split <;> omega
    have hwt : ∀ k, k ∈ DataW.weights Tryd.prog T (.slice ((List.range len).map D) ((List.range (m - len)).map fun j => D (len + j))) → k ≤ reachBytes := hw
    simp only [DataW.weights, ht] at hwt
    have hlen : len * 32 ≤ 140737488351232 := by
      have := hwt _ (List.mem_cons_self)
      rw [bytesV] at this
      simp only [List.length_map, List.length_range] at this
      have h2 : len * 32 ≤ (len + (m - len)) * 32 := Nat.mul_le_mul_right _ (by omega)
      exact Nat.le_trans h2 this
    have each : ∀ i, i < len → ∃ x : S27, (∀ j u, [Value.int .i64 x.f0, .int .i64 x.f1, .string x.f2][j]? = some u → W.cell? (a.add (i * 3 + j)) = some u) ∧ OkV x := by
      intro i hi
      obtain ⟨cs', h1, h2⟩ := he i (by omega)
      rw [cellsV] at h1
      obtain ⟨_, hlen, hcell⟩ := World.cells?_some h1
      obtain ⟨x, rfl, ok⟩ := cells_value h2 (fun k hk => hwt k (List.mem_cons_of_mem _ (List.mem_append_left _ (mem_weightsAll (List.mem_map.2 ⟨i, List.mem_range.2 hi, rfl⟩) hk))))
      refine ⟨x, fun j u hu => ?_, ok⟩
      have hj : j < 3 := by
        have := (List.getElem?_eq_some_iff.1 hu).1
        simpa using this
      have := hcell j (by simpa using hj)
      rw [Deep.add_add] at this
      rw [this, ← hu]
    have : Inhabited S27 := ⟨z27⟩
    obtain ⟨X, hX⟩ := choose_lt each
    refine ⟨some a, cap, (List.range len).map X, by simp, by simpa using hl, by simpa using hlen, ⟨by simp, ?_, fun _ => ⟨a, rfl, fun j p hj => ?_⟩⟩, ?_⟩
    · simp only [List.length_map, List.length_range]; omega
    · rw [List.getElem?_map] at hj
      obtain ⟨i, hi, rfl⟩ := Option.map_eq_some_iff.1 hj
      obtain ⟨h1, h2⟩ := List.getElem?_eq_some_iff.1 hi
      rw [List.length_range] at h1
      rw [List.getElem_range] at h2
      subst h2
      exact ⟨_, rfl, k27_mk W (X j), (hX j h1).1⟩
    · intro x hx
      obtain ⟨i, hi, rfl⟩ := List.mem_map.1 hx
      exact (hX i (List.mem_range.1 hi)).2
end
end Go.Proofs.YtaneicpggglcbaaDoor.Rw
