/-
LinearVote returns true for every input.
-/
import Derived.Test.YtbngggoccndefaaGreatDoorLawVoteB
import Derived.Test.YtbngggoccndefaaGreatDoorLawVoteD
namespace Go.Proofs.YtbngggoccndefaaGreatDoor.linearVote
open Go.ChangeShapes Go.WideShapes Go.ChangeAt Go.RowKit
open Go.ChangeMaps (open_string shut_string)
set_option linter.unusedVariables false
theorem card:Rows.LinearVoteCardSaid:=
 Claim7.holds_tied_plain_at .later [] _ _ _ _ said (fun _ h=>by cases h) k1 (fun _ h=>by cases h) linearVote_row_tie rfl ⟨rfl,rfl⟩ (by kernel_rfl) rfl plain k3
#print axioms card
end Go.Proofs.YtbngggoccndefaaGreatDoor.linearVote
