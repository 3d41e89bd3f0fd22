/- Small words for the printed walks: a text held against the empty one, in the walk's spellings. -/
import Derived.Test.YtaneicpggglcbaaDoorProg
namespace Go.Proofs.YtaneicpggglcbaaDoor.Pre
theorem ne1 (l : List UInt8) : l.isEmpty = !(l != []) := by cases l <;> rfl
theorem ne2 (l : List UInt8) : (!(l != [])) = l.isEmpty := by cases l <;> rfl
theorem ne3 (l : List UInt8) : (!l.isEmpty) = (l != []) := by cases l <;> rfl
theorem ne4 (l : List UInt8) : (l != []) = !l.isEmpty := by cases l <;> rfl
theorem ne5 (l : List UInt8) : l.isEmpty = (l == []) := by cases l <;> rfl
theorem ne6 (l : List UInt8) : (l == []) = l.isEmpty := by cases l <;> rfl
end Go.Proofs.YtaneicpggglcbaaDoor.Pre
