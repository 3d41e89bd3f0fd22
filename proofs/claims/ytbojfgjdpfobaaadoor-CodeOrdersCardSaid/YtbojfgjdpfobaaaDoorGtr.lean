/- '>' of two strings: a law that the walk lacks. -/
import Derived.Test.YtbojfgjdpfobaaaDoorWWords
set_option linter.unusedSimpArgs false
namespace Go.Proofs.YtbojfgjdpfobaaaDoor.Pre
theorem less_total : ∀ x y : List UInt8, (!(Op.bytesLess x y || x == y)) = Op.bytesLess y x
  | [], [] => rfl
  | [], _ :: _ => rfl
  | _ :: _, [] => rfl
  | a :: x, b :: y => by
    have ih := less_total x y
    rw [Op.bytesLess, Op.bytesLess]
    by_cases h1 : a < b
    · have h2 : ¬ b < a := UInt8.not_lt.2 (UInt8.le_of_lt h1)
      have h3 : (b == a) = false := beq_eq_false_iff_ne.2 (UInt8.ne_of_lt h1).symm
      simp [h1, h2, h3]
    · by_cases h2 : a = b
      · subst h2
        rw [← ih]
        simp [UInt8.lt_irrefl]
      · have h3 : b < a := UInt8.lt_of_le_of_ne (UInt8.not_lt.1 h1) (Ne.symm h2)
        have h4 : (a == b) = false := beq_eq_false_iff_ne.2 h2
        simp [h1, h3, h2]
/-- '>' of two strings -/
theorem gtr_str (x y : ByteArray) (t : TypeId) : Go.binOp .gtr t (.string x) (.string y) = pure (.bool (Op.bytesLess y.toList x.toList)) := by
  rw [← less_total]; rfl
end Go.Proofs.YtbojfgjdpfobaaaDoor.Pre
