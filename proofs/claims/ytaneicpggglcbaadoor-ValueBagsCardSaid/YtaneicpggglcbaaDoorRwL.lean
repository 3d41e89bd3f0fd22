/- Lists of rows that came in, opened (words of the row texts; over Rw). -/
import Derived.Test.YtaneicpggglcbaaDoorRwT
import Derived.Test.YtaneicpggglcbaaDoorVs
set_option linter.unusedVariables false
set_option linter.unusedSimpArgs false
namespace Go.Proofs.YtaneicpggglcbaaDoor.Rw
open Go.RowKit Go.Proofs.YtaneicpggglcbaaDoorW.PrintWords Go.Proofs.YtaneicpggglcbaaDoor.QVT Go.Deep Go.ChangeShapes Go.WideShapes Go.ChangeAt
open Go.ChangeMaps (open_string shut_string)
theorem cellsR : Tryd.prog.cellsOf 23 = 1 := by kernel_rfl
theorem bytesR : Tryd.prog.bytesOf 23 = 24 := by kernel_rfl
section
variable {H : Type} {enc : TypeId × Value → H} {W : World} {base : Nat} {spare : Nat → Bool} {held : Bool}
theorem cells_values {n : Nat} {cs : List Value} {y : DataW H × List MemPlace} (h : DataW.trod enc Tryd.prog W base spare held n 23 cs = some y) (hw : ∀ k ∈ y.1.weights Tryd.prog 23, k ≤ reachBytes) :
    ∃ (a : Option Addr) (cap : Nat) (l : List S27), cs = [.slice a l.length cap] ∧ l.length ≤ cap ∧ l.length * 32 ≤ 140737488351232 ∧ Kd.C k27 W a l.length l ∧ ∀ x ∈ l, OkV x := by
  rcases open_slice Tryd.underlying23 h with ⟨rfl, _⟩ | ⟨a, len, cap, m, n', D, Pl, rfl, hb, hl, hm, hmm, hx, he⟩
  · exact ⟨none, 0, [], rfl, Nat.le_refl _, by simp, ⟨rfl, by simp, fun h => absurd h (by simp)⟩, by simp⟩
  · subst hx
    have hlm : len ≤ m := by rw [hmm]; split <;> omega
    have hwt : ∀ k, k ∈ DataW.weights Tryd.prog 23 (.slice ((List.range len).map D) ((List.range (m - len)).map fun j => D (len + j))) → k ≤ reachBytes := hw
    simp only [DataW.weights, Tryd.underlying23] at hwt
    have hlen : len * 32 ≤ 140737488351232 := by
      have := hwt _ (List.mem_cons_self)
      rw [bytesV] at this
      simp only [List.length_map, List.length_range] at this
      have h2 : len * 32 ≤ (len + (m - len)) * 32 := Nat.mul_le_mul_right _ (by omega)
      exact Nat.le_trans h2 this
    have each : ∀ i, i < len → ∃ x : S27, (∀ j u, [Value.int .i64 x.f0, .int .i64 x.f1, .string x.f2][j]? = some u → W.cell? (a.add (i * 3 + j)) = some u) ∧ OkV x := by
      intro i hi
      obtain ⟨cs', h1, h2⟩ := he i (by omega)
      rw [cellsV] at h1
      obtain ⟨_, hlen, hcell⟩ := World.cells?_some h1
      obtain ⟨x, rfl, ok⟩ := cells_value h2 (fun k hk => hwt k (List.mem_cons_of_mem _ (List.mem_append_left _ (mem_weightsAll (List.mem_map.2 ⟨i, List.mem_range.2 hi, rfl⟩) hk))))
      refine ⟨x, fun j u hu => ?_, ok⟩
      have hj : j < 3 := by
        have := (List.getElem?_eq_some_iff.1 hu).1
        simpa using this
      have := hcell j (by simpa using hj)
      rw [Deep.add_add] at this
      rw [this, ← hu]
    have : Inhabited S27 := ⟨z27⟩
    obtain ⟨X, hX⟩ := choose_lt each
    refine ⟨some a, cap, (List.range len).map X, by simp, by simpa using hl, by simpa using hlen, ⟨by simp, ?_, fun _ => ⟨a, rfl, fun j p hj => ?_⟩⟩, ?_⟩
    · simp only [List.length_map, List.length_range]; omega
    · rw [List.getElem?_map] at hj
      obtain ⟨i, hi, rfl⟩ := Option.map_eq_some_iff.1 hj
      obtain ⟨h1, h2⟩ := List.getElem?_eq_some_iff.1 hi
      rw [List.length_range] at h1
      rw [List.getElem_range] at h2
      subst h2
      exact ⟨_, rfl, k27_mk W (X j), (hX j h1).1⟩
    · intro x hx
      obtain ⟨i, hi, rfl⟩ := List.mem_map.1 hx
      exact (hX i (List.mem_range.1 hi)).2
set_option maxRecDepth 100000 in
theorem open_rows {T : TypeId} (ht : Tryd.prog.underlying T = some (.slice 23)) {r : Reach} {b0 : Nat} {v : Value} {d : DataW H} {ps : List MemPlace} (hv : Value.okWide Tryd.prog W r b0 T v) (h : DataW.Trod enc Tryd.prog W base spare held T v d ps) (hw : ∀ k ∈ d.weights Tryd.prog T, k ≤ reachBytes) :
    ∃ (a : Option Addr) (cap : Nat) (l : List (List S27)), v = .slice a l.length cap ∧ l.length ≤ cap ∧ Sv.OkL l ∧ Kd.C (Kd.slice 27 k27) W a l.length l := by
  obtain ⟨n, hn⟩ := h
  obtain ⟨a0, len, cap, rfl⟩ := okWide_slice ht hv
  rcases open_slice ht hn with ⟨hcs, _⟩ | ⟨a, len', cap', m, n', D, Pl, hcs, hb, hl, hm, hmm, hx, he⟩
  · simp [Value.cells] at hcs
    obtain ⟨rfl, rfl, rfl⟩ := hcs
    exact ⟨none, 0, [], rfl, Nat.le_refl _, ⟨Nat.zero_le _, fun r hr => by cases hr⟩, ⟨rfl, Nat.zero_le _, fun h => absurd h (by simp)⟩⟩
  · simp [Value.cells] at hcs
    obtain ⟨rfl, rfl, rfl⟩ := hcs
    simp only [Prod.mk.injEq] at hx
    obtain ⟨rfl, _⟩ := hx
    have hlm : len ≤ m := by rw [hmm]; split <;> omega
    have hwt : ∀ k, k ∈ DataW.weights Tryd.prog T (.slice ((List.range len).map D) ((List.range (m - len)).map fun j => D (len + j))) → k ≤ reachBytes := hw
    simp only [DataW.weights, ht] at hwt
    have hlen : len * 24 ≤ 140737488351232 := by
      have := hwt _ (List.mem_cons_self)
      rw [bytesR] at this
      simp only [List.length_map, List.length_range] at this
      have h2 : len * 24 ≤ (len + (m - len)) * 24 := Nat.mul_le_mul_right _ (by omega)
      exact Nat.le_trans h2 this
    have each : ∀ i, i < len → ∃ x : List S27, (∃ a1 c1, W.cell? (a.add i) = some (.slice a1 x.length c1) ∧ x.length ≤ c1 ∧ Kd.C k27 W a1 x.length x) ∧ x.length * 32 ≤ 140737488351232 ∧ ∀ z ∈ x, OkV z := by
      intro i hi
      obtain ⟨cs', h1, h2⟩ := he i (by omega)
      rw [cellsR] at h1
      obtain ⟨_, hlen, hcell⟩ := World.cells?_some h1
      obtain ⟨a1, c1, x, rfl, w1, w2, w3, w4⟩ := cells_values h2 (fun k hk => hwt k (List.mem_cons_of_mem _ (List.mem_append_left _ (mem_weightsAll (List.mem_map.2 ⟨i, List.mem_range.2 hi, rfl⟩) hk))))
      refine ⟨x, ⟨a1, c1, ?_, w1, w3⟩, w2, w4⟩
      have := hcell 0 (by simp)
      rw [Deep.add_add] at this
      simpa using this
    obtain ⟨X, hX⟩ := choose_lt each
    refine ⟨some a, cap, (List.range len).map X, by simp, by simpa using hl, ⟨by simp only [List.length_map, List.length_range]; omega, ?_⟩, ⟨by simp, ?_, fun _ => ⟨a, rfl, fun j p hj => ?_⟩⟩⟩
    · intro r hr
      obtain ⟨i, hi, rfl⟩ := List.mem_map.1 hr
      exact (hX i (List.mem_range.1 hi)).2
    · simp only [List.length_map, List.length_range]; omega
    · rw [List.getElem?_map] at hj
      obtain ⟨i, hi, rfl⟩ := Option.map_eq_some_iff.1 hj
      obtain ⟨h1, h2⟩ := List.getElem?_eq_some_iff.1 hi
      rw [List.length_range] at h1
      rw [List.getElem_range] at h2
      subst h2
      obtain ⟨⟨a1, c1, q1, q2, q3⟩, _, _⟩ := hX j h1
      refine ⟨[.slice a1 (X j).length c1], rfl, ⟨a1, c1, rfl, q2, q3⟩, fun i u hu => ?_⟩
      match i, hu with
      | 0, hu =>
        simp only [List.getElem?_cons_zero, Option.some.injEq] at hu
        subst hu
        simpa [Kd.slice] using q1
end
end Go.Proofs.YtaneicpggglcbaaDoor.Rw
