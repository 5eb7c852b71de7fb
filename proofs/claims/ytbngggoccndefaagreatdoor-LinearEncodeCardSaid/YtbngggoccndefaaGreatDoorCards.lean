/-
  DERIVED. GIVEN WITH THE SEED: THE CARDS: each row of YtbngggoccndefaaGreatDoorRows.lean that lists a variable, with what it lists TIED to the program's text (the seventh form; the later family's looks); each row that meets fmt, with fmt's text TOLD by the authors' own Lean function (tested against real Go, not proved from fmt's source: count such statements apart). THE CARD IS WHAT COUNTS. Prove the row's statement (the work); the ties are given (YtbngggoccndefaaGreatDoorTie.lean); close each card by the builder's one call (the guide's Derived/Test/ToyasCard.lean, 'card_holds'). Laid BY PROGRAM, IN A SANDBOX (cutbox-door.mjs). By AI agents, Wed Nov 11 2026. No macro, syntax, notation, axiom, sorry.
-/
import Derived.Test.YtbngggoccndefaaGreatDoorRows
import GoSem.ClaimSeven
namespace Go.Proofs.YtbngggoccndefaaGreatDoor
namespace Rows

/-- THE TIED CARD OF 'barscanlaw15.LinearEncode'. -/
def linearEncodeCard : Claim7 := { stood := { row := linearEncodeRow, standIns := [], harness := (true, "8d345bced3f82674d84dcf97db04eb67404b1b9cd5d768b24d5de318d69bc690"), looks := true }, kinds := [], alts := [], laidByText := true, laidKinds := [.listed, .data], laidTests := true, laidLooks := .later }
def LinearEncodeCardSaid : Prop := Claim7.holds Tryz.pinned (.plain (OpenSpec.ofChange linearEncodeSpec)) linearEncodeCard

/-- THE TIED CARD OF 'barscanlaw15.LinearDecode'. -/
def linearDecodeCard : Claim7 := { stood := { row := linearDecodeRow, standIns := [], harness := (true, "8d345bced3f82674d84dcf97db04eb67404b1b9cd5d768b24d5de318d69bc690"), looks := true }, kinds := [], alts := [], laidByText := true, laidKinds := [.listed, .data], laidTests := true, laidLooks := .later }
def LinearDecodeCardSaid : Prop := Claim7.holds Tryz.pinned (.plain (OpenSpec.ofChange linearDecodeSpec)) linearDecodeCard

/-- THE TIED CARD OF 'barscanlaw15.LinearRead'. -/
def linearReadCard : Claim7 := { stood := { row := linearReadRow, standIns := [], harness := (true, "8d345bced3f82674d84dcf97db04eb67404b1b9cd5d768b24d5de318d69bc690"), looks := true }, kinds := [], alts := [], laidByText := true, laidKinds := [.listed, .data], laidTests := true, laidLooks := .later }
def LinearReadCardSaid : Prop := Claim7.holds Tryz.pinned (.plain (OpenSpec.ofChange linearReadSpec)) linearReadCard

/-- THE TIED CARD OF 'barscanlaw15.LinearRoundTrip'. -/
def linearRoundTripCard : Claim7 := { stood := { row := linearRoundTripRow, standIns := [], harness := (true, "8d345bced3f82674d84dcf97db04eb67404b1b9cd5d768b24d5de318d69bc690"), looks := true }, kinds := [], alts := [], laidByText := true, laidKinds := [.listed, .data], laidTests := true, laidLooks := .later }
def LinearRoundTripCardSaid : Prop := Claim7.holds Tryz.pinned (.plain (OpenSpec.ofChange linearRoundTripSpec)) linearRoundTripCard

/-- THE TIED CARD OF 'barscanlaw15.LinearScale'. -/
def linearScaleCard : Claim7 := { stood := { row := linearScaleRow, standIns := [], harness := (true, "8d345bced3f82674d84dcf97db04eb67404b1b9cd5d768b24d5de318d69bc690"), looks := true }, kinds := [], alts := [], laidByText := true, laidKinds := [.listed, .data], laidTests := true, laidLooks := .later }
def LinearScaleCardSaid : Prop := Claim7.holds Tryz.pinned (.plain (OpenSpec.ofChange linearScaleSpec)) linearScaleCard

/-- THE TIED CARD OF 'barscanlaw15.LinearVote'. -/
def linearVoteCard : Claim7 := { stood := { row := linearVoteRow, standIns := [], harness := (true, "8d345bced3f82674d84dcf97db04eb67404b1b9cd5d768b24d5de318d69bc690"), looks := true }, kinds := [], alts := [], laidByText := true, laidKinds := [.listed, .data], laidTests := true, laidLooks := .later }
def LinearVoteCardSaid : Prop := Claim7.holds Tryz.pinned (.plain (OpenSpec.ofChange linearVoteSpec)) linearVoteCard

/-- THE SECOND FORM's CARD OF 'barscanlaw15.LinearEncode'. -/
def linearEncodeUptoCard : Claim7 := { stood := { row := linearEncodeUptoRow, standIns := [], harness := (true, "8d345bced3f82674d84dcf97db04eb67404b1b9cd5d768b24d5de318d69bc690"), looks := true }, kinds := [], alts := [], laidByText := true, laidKinds := [.listed, .data], laidTests := true, laidLooks := .later }
def LinearEncodeUptoCardSaid : Prop := Claim7.holds Tryz.pinned (.plain (OpenSpec.upto linearEncodeSpec)) linearEncodeUptoCard

/-- THE SECOND FORM's CARD OF 'barscanlaw15.LinearDecode'. -/
def linearDecodeUptoCard : Claim7 := { stood := { row := linearDecodeUptoRow, standIns := [], harness := (true, "8d345bced3f82674d84dcf97db04eb67404b1b9cd5d768b24d5de318d69bc690"), looks := true }, kinds := [], alts := [], laidByText := true, laidKinds := [.listed, .data], laidTests := true, laidLooks := .later }
def LinearDecodeUptoCardSaid : Prop := Claim7.holds Tryz.pinned (.plain (OpenSpec.upto linearDecodeSpec)) linearDecodeUptoCard

/-- THE SECOND FORM's CARD OF 'barscanlaw15.LinearRead'. -/
def linearReadUptoCard : Claim7 := { stood := { row := linearReadUptoRow, standIns := [], harness := (true, "8d345bced3f82674d84dcf97db04eb67404b1b9cd5d768b24d5de318d69bc690"), looks := true }, kinds := [], alts := [], laidByText := true, laidKinds := [.listed, .data], laidTests := true, laidLooks := .later }
def LinearReadUptoCardSaid : Prop := Claim7.holds Tryz.pinned (.plain (OpenSpec.upto linearReadSpec)) linearReadUptoCard

/-- THE SECOND FORM's CARD OF 'barscanlaw15.LinearRoundTrip'. -/
def linearRoundTripUptoCard : Claim7 := { stood := { row := linearRoundTripUptoRow, standIns := [], harness := (true, "8d345bced3f82674d84dcf97db04eb67404b1b9cd5d768b24d5de318d69bc690"), looks := true }, kinds := [], alts := [], laidByText := true, laidKinds := [.listed, .data], laidTests := true, laidLooks := .later }
def LinearRoundTripUptoCardSaid : Prop := Claim7.holds Tryz.pinned (.plain (OpenSpec.upto linearRoundTripSpec)) linearRoundTripUptoCard

/-- THE SECOND FORM's CARD OF 'barscanlaw15.LinearScale'. -/
def linearScaleUptoCard : Claim7 := { stood := { row := linearScaleUptoRow, standIns := [], harness := (true, "8d345bced3f82674d84dcf97db04eb67404b1b9cd5d768b24d5de318d69bc690"), looks := true }, kinds := [], alts := [], laidByText := true, laidKinds := [.listed, .data], laidTests := true, laidLooks := .later }
def LinearScaleUptoCardSaid : Prop := Claim7.holds Tryz.pinned (.plain (OpenSpec.upto linearScaleSpec)) linearScaleUptoCard

/-- THE SECOND FORM's CARD OF 'barscanlaw15.LinearVote'. -/
def linearVoteUptoCard : Claim7 := { stood := { row := linearVoteUptoRow, standIns := [], harness := (true, "8d345bced3f82674d84dcf97db04eb67404b1b9cd5d768b24d5de318d69bc690"), looks := true }, kinds := [], alts := [], laidByText := true, laidKinds := [.listed, .data], laidTests := true, laidLooks := .later }
def LinearVoteUptoCardSaid : Prop := Claim7.holds Tryz.pinned (.plain (OpenSpec.upto linearVoteSpec)) linearVoteUptoCard
end Rows
end Go.Proofs.YtbngggoccndefaaGreatDoor
