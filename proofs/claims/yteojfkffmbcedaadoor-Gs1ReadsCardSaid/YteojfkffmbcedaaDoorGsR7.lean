/-
  Chapter 14: the reference's index, all and Format, walked.
  Condition: at most a thousand million elements.
-/
import Derived.Test.YteojfkffmbcedaaDoorGsR6
import Derived.Test.YteojfkffmbcedaaDoorGsWA
namespace Go.Proofs.YteojfkffmbcedaaDoor
set_option linter.unusedVariables false
open Go.RowKit

theorem upto_cons (c b : UInt8) (l : List UInt8) : Gs.upto c (b :: l) = if b = c then [] else b :: Gs.upto c l := rfl



theorem flat_take_le (xs : List Gs.El) (k : Nat) : ((xs.take k).flatMap Gs.fmtE).length ≤ (xs.flatMap Gs.fmtE).length := by
  have : xs.flatMap Gs.fmtE = (xs.take k).flatMap Gs.fmtE ++ (xs.drop k).flatMap Gs.fmtE := by rw [← List.flatMap_append, List.take_append_drop]
  rw [this, List.length_append]; omega

end Go.Proofs.YteojfkffmbcedaaDoor
