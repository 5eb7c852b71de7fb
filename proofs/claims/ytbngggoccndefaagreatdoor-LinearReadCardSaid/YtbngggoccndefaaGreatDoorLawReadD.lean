/-
  LinearRead returns true for every input, and leaves its argument as it was.
  The frame follows the kit's toy of a law over a listed variable; the walk is in the texts that are imported.
-/
import Derived.Test.YtbngggoccndefaaGreatDoorCards
import Derived.Test.YtbngggoccndefaaGreatDoorTie
import Derived.WalkKit
import Derived.ProofKit
import Derived.OpenShut
import Derived.ShutString
import Derived.ChangeOld
import Derived.Below
import Derived.Deep.DeepHandedRow
import Derived.Deep.DeepWitnessRowRef
import Derived.SevenTiedAt
import Derived.LaidMore
import Derived.Lay
import Derived.Stop.Joined
namespace Go.Proofs.YtbngggoccndefaaGreatDoor.linearRead
open Go.ChangeShapes Go.WideShapes Go.ChangeAt Go.RowKit
open Go.ChangeMaps (open_string shut_string)
set_option linter.unusedVariables false

theorem k3 : false = Rows.linearReadRow.goesBy Tryz.pinned.checked.prog := by kernel_rfl
end Go.Proofs.YtbngggoccndefaaGreatDoor.linearRead
