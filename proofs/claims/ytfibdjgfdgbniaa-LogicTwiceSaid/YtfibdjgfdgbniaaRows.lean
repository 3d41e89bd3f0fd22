/-
  No cell of these rows narrows 'for every input' (looked for: loops, veiled, ifaces, maps, wideKeys, modest, calm, conditions, laid).
  DERIVED. THE GIVEN ROWS OF THIS SEAT. 5 by the template 'for every input the law returns true; each argument reads behind the call as it read before'; 0 by the template 'total and deterministic' (their statements: YtfibdjgfdgbniaaTotals.lean).
  GIVEN WITH THE SEED: the statements are not yours to turn. If you find one false, say at which input.
  Laid BY PROGRAM, IN A SANDBOX (cutbox-rows.mjs): the forced cells as the released guide's own fill.sh prints them over the translation c7854055fc37cc7d… (all of the seat's roots in one cut). By AI agents, Wed Nov 11 2026. No macro, syntax, notation, axiom, sorry.
-/
import Derived.Test.YtfibdjgfdgbniaaChecked
import GoSem.Claim
import GoSem.ClaimJoined
import GoSem.ClaimMapViews
import Derived.JoinedTies
import Derived.KernelRfl
namespace Go.Proofs.Ytfibdjgfdgbniaa
/- THE CELL 'sum', in the pinned program and in every row, IS THE sha256 OF THE DUMP (.gsa) THAT YtfibdjgfdgbniaaProg.lean LOADS. Nothing in Lean hashes anything: it is a label: what it is worth is what the hold of that sum in a sandbox is worth. -/
noncomputable def Try.pinned : Pinned := { name := "ytfibdjgfdgbniaa", sum := "c7854055fc37cc7d3341924ed0529a52fce04dab115f56ac987852fd9d58fa7e", checked := Try.checked }
namespace Rows
def none {H : Type} : Left H := { results := [], args := [] }

/-- 'boscagelaw02.LogicRels': WHATEVER THE INPUT: true; the input reads as it did. -/
def logicRelsSpec : ChangeSpec := { name := "logicRels", fn := fun _ => fun
  | [d1, d2, d3, d4] => { results := [.lit (.bool true)], args := [d1, d2, d3, d4] }
  | _ => none }
def logicRelsRow : OpenClaim := { program := "ytfibdjgfdgbniaa", sum := "c7854055fc37cc7d3341924ed0529a52fce04dab115f56ac987852fd9d58fa7e", func := "boscage/boscagelaw02.LogicRels", spec := "logicRels", inPlace := ["internal/bytealg.abigen_runtime_cmpstring"], apart := false }
def LogicRelsSaid : Prop := logicRelsRow.holds Try.pinned (OpenSpec.ofChange logicRelsSpec)

/-- ITS FALSE NEIGHBOUR: 'it returns false'. Refute it at one input. -/
def logicRelsWrong : ChangeSpec := { name := "logicRels", fn := fun _ => fun
  | [d1, d2, d3, d4] => { results := [.lit (.bool false)], args := [d1, d2, d3, d4] }
  | _ => none }
def LogicRelsWrongFalsely : Prop := logicRelsRow.holds Try.pinned (OpenSpec.ofChange logicRelsWrong)

/-- 'boscagelaw02.LogicIn': WHATEVER THE INPUT: true; the input reads as it did. -/
def logicInSpec : ChangeSpec := { name := "logicIn", fn := fun _ => fun
  | [d1, d2] => { results := [.lit (.bool true)], args := [d1, d2] }
  | _ => none }
def logicInRow : OpenClaim := { program := "ytfibdjgfdgbniaa", sum := "c7854055fc37cc7d3341924ed0529a52fce04dab115f56ac987852fd9d58fa7e", func := "boscage/boscagelaw02.LogicIn", spec := "logicIn", inPlace := ["internal/bytealg.abigen_runtime_cmpstring"], apart := false }
def LogicInSaid : Prop := logicInRow.holds Try.pinned (OpenSpec.ofChange logicInSpec)

/-- ITS FALSE NEIGHBOUR: 'it returns false'. Refute it at one input. -/
def logicInWrong : ChangeSpec := { name := "logicIn", fn := fun _ => fun
  | [d1, d2] => { results := [.lit (.bool false)], args := [d1, d2] }
  | _ => none }
def LogicInWrongFalsely : Prop := logicInRow.holds Try.pinned (OpenSpec.ofChange logicInWrong)

/-- 'boscagelaw02.LogicMorgan': WHATEVER THE INPUT: true; the input reads as it did. -/
def logicMorganSpec : ChangeSpec := { name := "logicMorgan", fn := fun _ => fun
  | [d1, d2] => { results := [.lit (.bool true)], args := [d1, d2] }
  | _ => none }
def logicMorganRow : OpenClaim := { program := "ytfibdjgfdgbniaa", sum := "c7854055fc37cc7d3341924ed0529a52fce04dab115f56ac987852fd9d58fa7e", func := "boscage/boscagelaw02.LogicMorgan", spec := "logicMorgan", inPlace := ["internal/bytealg.abigen_runtime_cmpstring"], apart := false }
def LogicMorganSaid : Prop := logicMorganRow.holds Try.pinned (OpenSpec.ofChange logicMorganSpec)

/-- ITS FALSE NEIGHBOUR: 'it returns false'. Refute it at one input. -/
def logicMorganWrong : ChangeSpec := { name := "logicMorgan", fn := fun _ => fun
  | [d1, d2] => { results := [.lit (.bool false)], args := [d1, d2] }
  | _ => none }
def LogicMorganWrongFalsely : Prop := logicMorganRow.holds Try.pinned (OpenSpec.ofChange logicMorganWrong)

/-- 'boscagelaw02.LogicOne': WHATEVER THE INPUT: true; the input reads as it did. -/
def logicOneSpec : ChangeSpec := { name := "logicOne", fn := fun _ => fun
  | [d1, d2] => { results := [.lit (.bool true)], args := [d1, d2] }
  | _ => none }
def logicOneRow : OpenClaim := { program := "ytfibdjgfdgbniaa", sum := "c7854055fc37cc7d3341924ed0529a52fce04dab115f56ac987852fd9d58fa7e", func := "boscage/boscagelaw02.LogicOne", spec := "logicOne", inPlace := ["internal/bytealg.abigen_runtime_cmpstring"], apart := false }
def LogicOneSaid : Prop := logicOneRow.holds Try.pinned (OpenSpec.ofChange logicOneSpec)

/-- ITS FALSE NEIGHBOUR: 'it returns false'. Refute it at one input. -/
def logicOneWrong : ChangeSpec := { name := "logicOne", fn := fun _ => fun
  | [d1, d2] => { results := [.lit (.bool false)], args := [d1, d2] }
  | _ => none }
def LogicOneWrongFalsely : Prop := logicOneRow.holds Try.pinned (OpenSpec.ofChange logicOneWrong)

/-- 'boscagelaw02.LogicTwice': WHATEVER THE INPUT: true; the input reads as it did. -/
def logicTwiceSpec : ChangeSpec := { name := "logicTwice", fn := fun _ => fun
  | [d1, d2, d3] => { results := [.lit (.bool true)], args := [d1, d2, d3] }
  | _ => none }
def logicTwiceRow : OpenClaim := { program := "ytfibdjgfdgbniaa", sum := "c7854055fc37cc7d3341924ed0529a52fce04dab115f56ac987852fd9d58fa7e", func := "boscage/boscagelaw02.LogicTwice", spec := "logicTwice", inPlace := ["internal/bytealg.abigen_runtime_cmpstring"], apart := false }
def LogicTwiceSaid : Prop := logicTwiceRow.holds Try.pinned (OpenSpec.ofChange logicTwiceSpec)

/-- ITS FALSE NEIGHBOUR: 'it returns false'. Refute it at one input. -/
def logicTwiceWrong : ChangeSpec := { name := "logicTwice", fn := fun _ => fun
  | [d1, d2, d3] => { results := [.lit (.bool false)], args := [d1, d2, d3] }
  | _ => none }
def LogicTwiceWrongFalsely : Prop := logicTwiceRow.holds Try.pinned (OpenSpec.ofChange logicTwiceWrong)

/- THE SECOND FORM. 'bulk': how many values and letters a reading holds, each counted each time it is reached (what is shared counts as often as it is met; a slice's spare places count too). A statement '..UptoSaid' is the law's where the arguments, and the package variables that the reading takes, are together of bulk at most 1048576: NARROWER than '..Said'. Prove '..Said' where nothing that the law and all that it calls make is longer than what came in: it says more and counts as full. Else prove '..UptoSaid'. A law counts once. -/
mutual
def uptoBulk {H : Type} : DataW H → Nat
  | .lit (.string bytes) => bytes.length + 1
  | .lit _ => 1
  | .nil => 1
  | .ptr d => uptoBulk d + 1
  | .slice elems spare => uptoBulkAll elems + uptoBulkAll spare + 1
  | .agg parts => uptoBulkAll parts + 1
  | .iface _ d => uptoBulk d + 1
  | .map entries => uptoBulkEntries entries + 1
  | .held _ => 1
def uptoBulkAll {H : Type} : List (DataW H) → Nat
  | [] => 0
  | d :: r => uptoBulk d + uptoBulkAll r
def uptoBulkEntries {H : Type} : List (Lit × DataW H) → Nat
  | [] => 0
  | x :: r => uptoBulkEntry x + uptoBulkEntries r
def uptoBulkEntry {H : Type} : Lit × DataW H → Nat
  | (.string bytes, d) => bytes.length + uptoBulk d + 1
  | (_, d) => uptoBulk d + 1
 end
def uptoSmall : (H : Type) → List (DataW H) → Bool := fun _ ds => decide (uptoBulkAll ds ≤ 1048576)
def OpenSpec.upto (s : _root_.Go.ChangeSpec) : _root_.Go.OpenSpec := { _root_.Go.OpenSpec.ofChange s with cond := some uptoSmall }

/-- 'boscagelaw02.LogicRels', WHERE WHAT IT READS IS OF BULK AT MOST 1048576: true; the input reads as it did. -/
def logicRelsUptoRow : OpenClaim := { program := "ytfibdjgfdgbniaa", sum := "c7854055fc37cc7d3341924ed0529a52fce04dab115f56ac987852fd9d58fa7e", func := "boscage/boscagelaw02.LogicRels", spec := "logicRels", inPlace := ["internal/bytealg.abigen_runtime_cmpstring"], apart := false, narrowed := true }
def LogicRelsUptoSaid : Prop := logicRelsUptoRow.holds Try.pinned (OpenSpec.upto logicRelsSpec)

/-- 'boscagelaw02.LogicIn', WHERE WHAT IT READS IS OF BULK AT MOST 1048576: true; the input reads as it did. -/
def logicInUptoRow : OpenClaim := { program := "ytfibdjgfdgbniaa", sum := "c7854055fc37cc7d3341924ed0529a52fce04dab115f56ac987852fd9d58fa7e", func := "boscage/boscagelaw02.LogicIn", spec := "logicIn", inPlace := ["internal/bytealg.abigen_runtime_cmpstring"], apart := false, narrowed := true }
def LogicInUptoSaid : Prop := logicInUptoRow.holds Try.pinned (OpenSpec.upto logicInSpec)

/-- 'boscagelaw02.LogicMorgan', WHERE WHAT IT READS IS OF BULK AT MOST 1048576: true; the input reads as it did. -/
def logicMorganUptoRow : OpenClaim := { program := "ytfibdjgfdgbniaa", sum := "c7854055fc37cc7d3341924ed0529a52fce04dab115f56ac987852fd9d58fa7e", func := "boscage/boscagelaw02.LogicMorgan", spec := "logicMorgan", inPlace := ["internal/bytealg.abigen_runtime_cmpstring"], apart := false, narrowed := true }
def LogicMorganUptoSaid : Prop := logicMorganUptoRow.holds Try.pinned (OpenSpec.upto logicMorganSpec)

/-- 'boscagelaw02.LogicOne', WHERE WHAT IT READS IS OF BULK AT MOST 1048576: true; the input reads as it did. -/
def logicOneUptoRow : OpenClaim := { program := "ytfibdjgfdgbniaa", sum := "c7854055fc37cc7d3341924ed0529a52fce04dab115f56ac987852fd9d58fa7e", func := "boscage/boscagelaw02.LogicOne", spec := "logicOne", inPlace := ["internal/bytealg.abigen_runtime_cmpstring"], apart := false, narrowed := true }
def LogicOneUptoSaid : Prop := logicOneUptoRow.holds Try.pinned (OpenSpec.upto logicOneSpec)

/-- 'boscagelaw02.LogicTwice', WHERE WHAT IT READS IS OF BULK AT MOST 1048576: true; the input reads as it did. -/
def logicTwiceUptoRow : OpenClaim := { program := "ytfibdjgfdgbniaa", sum := "c7854055fc37cc7d3341924ed0529a52fce04dab115f56ac987852fd9d58fa7e", func := "boscage/boscagelaw02.LogicTwice", spec := "logicTwice", inPlace := ["internal/bytealg.abigen_runtime_cmpstring"], apart := false, narrowed := true }
def LogicTwiceUptoSaid : Prop := logicTwiceUptoRow.holds Try.pinned (OpenSpec.upto logicTwiceSpec)

end Rows
end Go.Proofs.Ytfibdjgfdgbniaa
