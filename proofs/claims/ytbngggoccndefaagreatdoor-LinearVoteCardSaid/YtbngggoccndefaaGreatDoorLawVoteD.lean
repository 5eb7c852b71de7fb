/-
LinearVote returns true for every input.
-/
import Derived.Test.YtbngggoccndefaaGreatDoorCards
import Derived.Test.YtbngggoccndefaaGreatDoorTie
import Derived.WalkKit
import Derived.ProofKit
import Derived.SevenTiedAt
namespace Go.Proofs.YtbngggoccndefaaGreatDoor.linearVote
open Go.RowKit
theorem k3:false=Rows.linearVoteRow.goesBy Tryz.pinned.checked.prog:=by kernel_rfl
end Go.Proofs.YtbngggoccndefaaGreatDoor.linearVote
