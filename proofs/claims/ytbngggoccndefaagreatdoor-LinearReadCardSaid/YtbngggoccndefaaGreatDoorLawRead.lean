/-
  LinearRead returns true for every input, and leaves its argument as it was.
  The frame follows the kit's toy of a law over a listed variable; the walk is in the texts that are imported.
-/
import Derived.Test.YtbngggoccndefaaGreatDoorCards
import Derived.Test.YtbngggoccndefaaGreatDoorTie
import Derived.Test.YtbngggoccndefaaGreatDoorLawReadB
import Derived.Test.YtbngggoccndefaaGreatDoorLawReadD
import Derived.WalkKit
import Derived.ProofKit
import Derived.OpenShut
import Derived.ShutString
import Derived.ChangeOld
import Derived.Below
import Derived.Deep.DeepHandedRow
import Derived.Deep.DeepWitnessRowRef
import Derived.SevenTiedAt
import Derived.LaidMore
import Derived.Lay
import Derived.Stop.Joined
namespace Go.Proofs.YtbngggoccndefaaGreatDoor.linearRead
open Go.ChangeShapes Go.WideShapes Go.ChangeAt Go.RowKit
open Go.ChangeMaps (open_string shut_string)
set_option linter.unusedVariables false

/-- The card: the row's statement, its listed variables tied to the program's text. -/
theorem card : Rows.LinearReadCardSaid :=
  Claim7.holds_tied_plain_at .later [] _ _ _ _ said (fun _ h => by cases h) k1 (fun _ h => by cases h) linearRead_row_tie rfl ⟨rfl, rfl⟩ (by kernel_rfl) rfl plain k3
#print axioms card
end Go.Proofs.YtbngggoccndefaaGreatDoor.linearRead
