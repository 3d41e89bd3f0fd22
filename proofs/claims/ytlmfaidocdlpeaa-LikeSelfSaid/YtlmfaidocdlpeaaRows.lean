/-
  No cell of these rows narrows 'for every input' (looked for: loops, veiled, ifaces, maps, wideKeys, modest, calm, conditions, laid).
  DERIVED. THE GIVEN ROWS OF THIS SEAT. 4 by the template 'for every input the law returns true; each argument reads behind the call as it read before'; 0 by the template 'total and deterministic' (their statements: YtlmfaidocdlpeaaTotals.lean).
  GIVEN WITH THE SEED: the statements are not yours to turn. If you find one false, say at which input.
  Laid BY PROGRAM, IN A SANDBOX (cutbox-rows.mjs): the forced cells as the released guide's own fill.sh prints them over the translation 85a45704b483c979… (all of the seat's roots in one cut). By AI agents, Wed Nov 11 2026. No macro, syntax, notation, axiom, sorry.
-/
import Derived.Test.YtlmfaidocdlpeaaChecked
import GoSem.Claim
import GoSem.ClaimJoined
import GoSem.ClaimMapViews
import Derived.JoinedTies
import Derived.KernelRfl
namespace Go.Proofs.Ytlmfaidocdlpeaa
/- THE CELL 'sum', in the pinned program and in every row, IS THE sha256 OF THE DUMP (.gsa) THAT YtlmfaidocdlpeaaProg.lean LOADS. Nothing in Lean hashes anything: it is a label: what it is worth is what the hold of that sum in a sandbox is worth. -/
noncomputable def Try.pinned : Pinned := { name := "ytlmfaidocdlpeaa", sum := "85a45704b483c979a434157c306775f451416775ebd608914a604ce3a0aba4f0", checked := Try.checked }
namespace Rows
def none {H : Type} : Left H := { results := [], args := [] }

/-- 'boscagelaw04.LikeTells': WHATEVER THE INPUT: true; the input reads as it did. -/
def likeTellsSpec : ChangeSpec := { name := "likeTells", fn := fun _ => fun
  | [d1, d2] => { results := [.lit (.bool true)], args := [d1, d2] }
  | _ => none }
def likeTellsRow : OpenClaim := { program := "ytlmfaidocdlpeaa", sum := "85a45704b483c979a434157c306775f451416775ebd608914a604ce3a0aba4f0", func := "boscage/boscagelaw04.LikeTells", spec := "likeTells", inPlace := ["internal/bytealg.IndexByteString", "internal/abi.NoEscape"], apart := false }
def LikeTellsSaid : Prop := likeTellsRow.holds Try.pinned (OpenSpec.ofChange likeTellsSpec)

/-- ITS FALSE NEIGHBOUR: 'it returns false'. Refute it at one input. -/
def likeTellsWrong : ChangeSpec := { name := "likeTells", fn := fun _ => fun
  | [d1, d2] => { results := [.lit (.bool false)], args := [d1, d2] }
  | _ => none }
def LikeTellsWrongFalsely : Prop := likeTellsRow.holds Try.pinned (OpenSpec.ofChange likeTellsWrong)

/-- 'boscagelaw04.LikeSelf': WHATEVER THE INPUT: true; the input reads as it did. -/
def likeSelfSpec : ChangeSpec := { name := "likeSelf", fn := fun _ => fun
  | [d1, d2] => { results := [.lit (.bool true)], args := [d1, d2] }
  | _ => none }
def likeSelfRow : OpenClaim := { program := "ytlmfaidocdlpeaa", sum := "85a45704b483c979a434157c306775f451416775ebd608914a604ce3a0aba4f0", func := "boscage/boscagelaw04.LikeSelf", spec := "likeSelf", inPlace := ["internal/bytealg.IndexByteString", "internal/abi.NoEscape"], apart := false }
def LikeSelfSaid : Prop := likeSelfRow.holds Try.pinned (OpenSpec.ofChange likeSelfSpec)

/-- ITS FALSE NEIGHBOUR: 'it returns false'. Refute it at one input. -/
def likeSelfWrong : ChangeSpec := { name := "likeSelf", fn := fun _ => fun
  | [d1, d2] => { results := [.lit (.bool false)], args := [d1, d2] }
  | _ => none }
def LikeSelfWrongFalsely : Prop := likeSelfRow.holds Try.pinned (OpenSpec.ofChange likeSelfWrong)

/-- 'boscagelaw04.LikeCuts': WHATEVER THE INPUT: true; the input reads as it did. -/
def likeCutsSpec : ChangeSpec := { name := "likeCuts", fn := fun _ => fun
  | [d1, d2, d3] => { results := [.lit (.bool true)], args := [d1, d2, d3] }
  | _ => none }
def likeCutsRow : OpenClaim := { program := "ytlmfaidocdlpeaa", sum := "85a45704b483c979a434157c306775f451416775ebd608914a604ce3a0aba4f0", func := "boscage/boscagelaw04.LikeCuts", spec := "likeCuts", inPlace := ["internal/bytealg.IndexByteString", "internal/abi.NoEscape"], apart := false }
def LikeCutsSaid : Prop := likeCutsRow.holds Try.pinned (OpenSpec.ofChange likeCutsSpec)

/-- ITS FALSE NEIGHBOUR: 'it returns false'. Refute it at one input. -/
def likeCutsWrong : ChangeSpec := { name := "likeCuts", fn := fun _ => fun
  | [d1, d2, d3] => { results := [.lit (.bool false)], args := [d1, d2, d3] }
  | _ => none }
def LikeCutsWrongFalsely : Prop := likeCutsRow.holds Try.pinned (OpenSpec.ofChange likeCutsWrong)

/-- 'boscagelaw04.LikeCounts': WHATEVER THE INPUT: true; the input reads as it did. -/
def likeCountsSpec : ChangeSpec := { name := "likeCounts", fn := fun _ => fun
  | [d1, d2, d3] => { results := [.lit (.bool true)], args := [d1, d2, d3] }
  | _ => none }
def likeCountsRow : OpenClaim := { program := "ytlmfaidocdlpeaa", sum := "85a45704b483c979a434157c306775f451416775ebd608914a604ce3a0aba4f0", func := "boscage/boscagelaw04.LikeCounts", spec := "likeCounts", inPlace := ["internal/bytealg.IndexByteString", "internal/abi.NoEscape"], apart := false }
def LikeCountsSaid : Prop := likeCountsRow.holds Try.pinned (OpenSpec.ofChange likeCountsSpec)

/-- ITS FALSE NEIGHBOUR: 'it returns false'. Refute it at one input. -/
def likeCountsWrong : ChangeSpec := { name := "likeCounts", fn := fun _ => fun
  | [d1, d2, d3] => { results := [.lit (.bool false)], args := [d1, d2, d3] }
  | _ => none }
def LikeCountsWrongFalsely : Prop := likeCountsRow.holds Try.pinned (OpenSpec.ofChange likeCountsWrong)

/- THE SECOND FORM. 'bulk': how many values and letters a reading holds, each counted each time it is reached (what is shared counts as often as it is met; a slice's spare places count too). A statement '..UptoSaid' is the law's where the arguments, and the package variables that the reading takes, are together of bulk at most 1048576: NARROWER than '..Said'. Prove '..Said' where nothing that the law and all that it calls make is longer than what came in: it says more and counts as full. Else prove '..UptoSaid'. A law counts once. -/
mutual
def uptoBulk {H : Type} : DataW H → Nat
  | .lit (.string bytes) => bytes.length + 1
  | .lit _ => 1
  | .nil => 1
  | .ptr d => uptoBulk d + 1
  | .slice elems spare => uptoBulkAll elems + uptoBulkAll spare + 1
  | .agg parts => uptoBulkAll parts + 1
  | .iface _ d => uptoBulk d + 1
  | .map entries => uptoBulkEntries entries + 1
  | .held _ => 1
def uptoBulkAll {H : Type} : List (DataW H) → Nat
  | [] => 0
  | d :: r => uptoBulk d + uptoBulkAll r
def uptoBulkEntries {H : Type} : List (Lit × DataW H) → Nat
  | [] => 0
  | x :: r => uptoBulkEntry x + uptoBulkEntries r
def uptoBulkEntry {H : Type} : Lit × DataW H → Nat
  | (.string bytes, d) => bytes.length + uptoBulk d + 1
  | (_, d) => uptoBulk d + 1
 end
def uptoSmall : (H : Type) → List (DataW H) → Bool := fun _ ds => decide (uptoBulkAll ds ≤ 1048576)
def OpenSpec.upto (s : _root_.Go.ChangeSpec) : _root_.Go.OpenSpec := { _root_.Go.OpenSpec.ofChange s with cond := some uptoSmall }

/-- 'boscagelaw04.LikeTells', WHERE WHAT IT READS IS OF BULK AT MOST 1048576: true; the input reads as it did. -/
def likeTellsUptoRow : OpenClaim := { program := "ytlmfaidocdlpeaa", sum := "85a45704b483c979a434157c306775f451416775ebd608914a604ce3a0aba4f0", func := "boscage/boscagelaw04.LikeTells", spec := "likeTells", inPlace := ["internal/bytealg.IndexByteString", "internal/abi.NoEscape"], apart := false, narrowed := true }
def LikeTellsUptoSaid : Prop := likeTellsUptoRow.holds Try.pinned (OpenSpec.upto likeTellsSpec)

/-- 'boscagelaw04.LikeSelf', WHERE WHAT IT READS IS OF BULK AT MOST 1048576: true; the input reads as it did. -/
def likeSelfUptoRow : OpenClaim := { program := "ytlmfaidocdlpeaa", sum := "85a45704b483c979a434157c306775f451416775ebd608914a604ce3a0aba4f0", func := "boscage/boscagelaw04.LikeSelf", spec := "likeSelf", inPlace := ["internal/bytealg.IndexByteString", "internal/abi.NoEscape"], apart := false, narrowed := true }
def LikeSelfUptoSaid : Prop := likeSelfUptoRow.holds Try.pinned (OpenSpec.upto likeSelfSpec)

/-- 'boscagelaw04.LikeCuts', WHERE WHAT IT READS IS OF BULK AT MOST 1048576: true; the input reads as it did. -/
def likeCutsUptoRow : OpenClaim := { program := "ytlmfaidocdlpeaa", sum := "85a45704b483c979a434157c306775f451416775ebd608914a604ce3a0aba4f0", func := "boscage/boscagelaw04.LikeCuts", spec := "likeCuts", inPlace := ["internal/bytealg.IndexByteString", "internal/abi.NoEscape"], apart := false, narrowed := true }
def LikeCutsUptoSaid : Prop := likeCutsUptoRow.holds Try.pinned (OpenSpec.upto likeCutsSpec)

/-- 'boscagelaw04.LikeCounts', WHERE WHAT IT READS IS OF BULK AT MOST 1048576: true; the input reads as it did. -/
def likeCountsUptoRow : OpenClaim := { program := "ytlmfaidocdlpeaa", sum := "85a45704b483c979a434157c306775f451416775ebd608914a604ce3a0aba4f0", func := "boscage/boscagelaw04.LikeCounts", spec := "likeCounts", inPlace := ["internal/bytealg.IndexByteString", "internal/abi.NoEscape"], apart := false, narrowed := true }
def LikeCountsUptoSaid : Prop := likeCountsUptoRow.holds Try.pinned (OpenSpec.upto likeCountsSpec)

end Rows
end Go.Proofs.Ytlmfaidocdlpeaa
