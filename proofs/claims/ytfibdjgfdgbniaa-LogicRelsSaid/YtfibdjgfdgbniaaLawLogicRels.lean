-- the row of the law LogicRels, out of its plain law and its walk (wip/row.py)
import Derived.Test.YtfibdjgfdgbniaaRows
import Derived.Test.YtfibdjgfdgbniaaRw
import Derived.Test.YtfibdjgfdgbniaaQLGx10
import Derived.Test.YtfibdjgfdgbniaaPureLogicRels
import Derived.WalkKit
import Derived.ProofKit
import Derived.OpenShut
import Derived.ShutString
import Derived.ChangeOld
import Derived.Below
import Derived.SizedLaws
namespace Go.Proofs.Ytfibdjgfdgbniaa.logicRels
open Go.ChangeShapes Go.WideShapes Go.ChangeAt Go.RowKit
open Go.ChangeMaps (open_string shut_string)
set_option linter.unusedVariables false
theorem own : ownKnob Try.prog.godebug = none := by kernel_rfl
theorem laidOut : laidOutB Try.prog = true := by kernel_rfl
set_option maxRecDepth 100000 in
theorem lifted (os : Os) (started : os.Started) (H : Type) (enc : TypeId × Value → H) :
    ReturnsInHanded {} Try.checked os 3 .any (Rows.logicRelsSpec.pre6 enc Try.prog Try.f3 Rows.logicRelsRow.domain false) (Rows.logicRelsSpec.post enc Try.prog Try.f3 false true false false) := by
  refine returnsInHanded_of_change_sized (C := Try.checked) own started (by kernel_rfl) Try.func3
    (ChangeSpec.witness6 (enc := enc) (C := Try.checked) false ⟨#[], #[.string ByteArray.empty, .agg #[.int .i64 0, .int .i64 0, .string ByteArray.empty], .agg #[.int .i64 0, .int .i64 0, .string ByteArray.empty], .slice none 0 0], []⟩ 8 (by kernel_rfl) (by kernel_rfl) (by kernel_rfl) (by kernel_rfl)) ?_
  intro W base args ds gs before hval0 hW hcnd hsz0 _
  have hsz : (DataW.weightsEach Try.prog (Try.f3.params.toList ++ Rows.logicRelsSpec.plain.varTypes Try.prog) (ds ++ gs)).all (· ≤ reachBytes) = true := hsz0
  have hval : ∀ (j : Nat) t v, Try.f3.params[j]? = some t → args[j]? = some v → Value.okWide Try.prog W .any base t v := hval0
  have hW' := hW
  obtain ⟨p, q, hA0, hV, rfl, hfz, hnd⟩ := hW
  have hA : DataW.TrodAll enc Try.prog W 0 (fun _ => true) true Try.f3.params.toList args.toList ds p := hA0
  rw [Try.params3] at hA hval hsz
  obtain ⟨v0, vs0, d0, ds0, p0, q0, hargs, rfl, rfl, h0, r0⟩ := trodAll_cons hA
  obtain ⟨v1, vs1, d1, ds1, p1, q1, rfl, rfl, rfl, h1, r1⟩ := trodAll_cons r0
  obtain ⟨v2, vs2, d2, ds2, p2, q2, rfl, rfl, rfl, h2, r2⟩ := trodAll_cons r1
  obtain ⟨v3, vs3, d3, ds3, p3, q3, rfl, rfl, rfl, h3, r3⟩ := trodAll_cons r2
  obtain ⟨rfl, rfl, rfl⟩ := trodAll_nil r3
  obtain rfl : args = #[v0, v1, v2, v3] := by cases args; simp_all
  obtain ⟨rfl, rfl⟩ := trodVars_none hV
  obtain ⟨a0, rfl, rfl, rfl, y0⟩ := open_string Try.underlying9 (hval 0 9 v0 rfl rfl) h0
  have w0 : a0.size ≤ 140737488351232 := by
    have z := sized_string hsz (j := 0) (t := 9) rfl rfl
    rw [Array.length_toList] at z
    exact z
  have k1 := h1
  have lt1 : ∀ x ∈ p1, x.block < W.heap.size := by obtain ⟨m, hm⟩ := k1; exact DataW.trod_lt m _ _ _ hm
  have g1 : ∀ k ∈ d1.weights Try.prog 23, k ≤ reachBytes := fun k hk => by
    have z := List.all_eq_true.1 hsz k (DataW.weights_mem_each (j := 1) (t := 23) rfl rfl k hk)
    simpa using z
  obtain ⟨x1, rfl, w1⟩ := Rw.open_value (hval 1 23 v1 rfl rfl) k1 g1
  have k2 := h2
  have lt2 : ∀ x ∈ p2, x.block < W.heap.size := by obtain ⟨m, hm⟩ := k2; exact DataW.trod_lt m _ _ _ hm
  have g2 : ∀ k ∈ d2.weights Try.prog 23, k ≤ reachBytes := fun k hk => by
    have z := List.all_eq_true.1 hsz k (DataW.weights_mem_each (j := 2) (t := 23) rfl rfl k hk)
    simpa using z
  obtain ⟨x2, rfl, w2⟩ := Rw.open_value (hval 2 23 v2 rfl rfl) k2 g2
  have k3 := h3
  have lt3 : ∀ x ∈ p3, x.block < W.heap.size := by obtain ⟨m, hm⟩ := k3; exact DataW.trod_lt m _ _ _ hm
  have g3 : ∀ k ∈ d3.weights Try.prog 24, k ≤ reachBytes := fun k hk => by
    have z := List.all_eq_true.1 hsz k (DataW.weights_mem_each (j := 3) (t := 24) rfl rfl k hk)
    simpa using z
  obtain ⟨A3, c3, l3, rfl, hc3, hb3, hr3, w3⟩ := Rw.open_values Try.underlying24 (hval 3 24 v3 rfl rfl) k3 g3
  clear hA0 hval0 hsz0 hsz
  obtain ⟨k, hk⟩ := Lg.logicRels_pure a0 x1 x2 l3 w1 w2 w3
  refine (QLG.boscagelaw02_LogicRels.calls k a0 x1.f0 x1.f1 x1.f2 x2.f0 x2.f1 x2.f2 A3 c3 l3 true W hr3 hc3 hk rfl).mono fun e W' ⟨he, bel⟩ => ?_
  subst he
  exact ⟨_, rfl, _, _, _, [], _, [], hW', trodAll_mk1 (shut_bool Try.underlying4 _), (trodAll_cons_mk (shut_string Try.underlying9 y0) (trodAll_cons_mk (Below.trod laidOut (by kernel_rfl) (of_decide_eq_true (by kernel_rfl)) k1 bel lt1) (trodAll_cons_mk (Below.trod laidOut (by kernel_rfl) (of_decide_eq_true (by kernel_rfl)) k2 bel lt2) (trodAll_cons_mk (Below.trod laidOut (by kernel_rfl) (of_decide_eq_true (by kernel_rfl)) k3 bel lt3) trodAll_mk0)))), rfl, bel.frame _, fun h => by cases h⟩
theorem over : Rows.logicRelsRow.holds Try.pinned (OpenSpec.ofChange Rows.logicRelsSpec) :=
  OpenClaim.holds_of_wide 3 Try.f3 rfl rfl rfl rfl rfl rfl rfl ⟨rfl, rfl, rfl, rfl, rfl⟩ rfl rfl rfl rfl rfl (by kernel_rfl) Try.func3 (by kernel_rfl)
    (of_decide_eq_true (by kernel_rfl)) (by unfold Func.isWrapper; first | (rw [if_pos (by decide +kernel)]; kernel_rfl) | (rw [if_neg (by decide +kernel)]; exact ⟨rfl, rfl⟩))
    (fun os started H enc _ => lifted os started H enc)
theorem proved : Rows.LogicRelsSaid := over
#print axioms proved
end Go.Proofs.Ytfibdjgfdgbniaa.logicRels
namespace Go.Proofs.Ytfibdjgfdgbniaa
/-- The row, under a short name, for the claim. -/
theorem logicRels_holds : Rows.LogicRelsSaid := logicRels.proved
end Go.Proofs.Ytfibdjgfdgbniaa
