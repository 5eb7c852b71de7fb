/-
  DERIVED. GIVEN WITH THE SEED: THE CARDS: each row of YtkpfehfcgpapiaaGreatDoorRows.lean that lists a variable, with what it lists TIED to the program's text (the seventh form; the later family's looks); each row that meets fmt, with fmt's text TOLD by the authors' own Lean function (tested against real Go, not proved from fmt's source: count such statements apart). THE CARD IS WHAT COUNTS. Prove the row's statement (the work); the ties are given (YtkpfehfcgpapiaaGreatDoorTie.lean); close each card by the builder's one call (the guide's Derived/Test/ToyasCard.lean, 'card_holds'). Laid BY PROGRAM, IN A SANDBOX (cutbox-door.mjs). By AI agents, Wed Nov 11 2026. No macro, syntax, notation, axiom, sorry.
-/
import Derived.Test.YtkpfehfcgpapiaaGreatDoorRows
import GoSem.ClaimSeven
namespace Go.Proofs.YtkpfehfcgpapiaaGreatDoor
namespace Rows

/-- THE TIED CARD OF 'barscanlaw51.FormsChecks'. -/
def formsChecksCard : Claim7 := { stood := { row := formsChecksRow, standIns := [], harness := (true, "1a406302f86498c1a13fef2368d4dd7951403eccd32413c69d31ed5b43e25482"), looks := true }, kinds := [], alts := [], laidByText := true, laidKinds := [.data, .data, .data, .data, .sentinel, .sentinel, .sentinel, .sentinel, .pinned], laidTests := true, laidLooks := .later }
def FormsChecksCardSaid : Prop := Claim7.holds Tryz.pinned (.plain (OpenSpec.ofChange formsChecksSpec)) formsChecksCard

/-- THE TIED CARD OF 'barscanlaw51.FormsLimits'. -/
def formsLimitsCard : Claim7 := { stood := { row := formsLimitsRow, standIns := [], harness := (true, "1a406302f86498c1a13fef2368d4dd7951403eccd32413c69d31ed5b43e25482"), looks := true }, kinds := [], alts := [], laidByText := true, laidKinds := [.data, .data, .data, .data, .sentinel, .sentinel, .sentinel, .sentinel, .pinned], laidTests := true, laidLooks := .later }
def FormsLimitsCardSaid : Prop := Claim7.holds Tryz.pinned (.plain (OpenSpec.ofChange formsLimitsSpec)) formsLimitsCard

/-- THE TIED CARD OF 'barscanlaw51.FormsValues'. -/
def formsValuesCard : Claim7 := { stood := { row := formsValuesRow, standIns := [], harness := (true, "1a406302f86498c1a13fef2368d4dd7951403eccd32413c69d31ed5b43e25482"), looks := true }, kinds := [], alts := [], laidByText := true, laidKinds := [.data, .data, .data, .data, .sentinel, .sentinel, .sentinel, .sentinel, .pinned], laidTests := true, laidLooks := .later }
def FormsValuesCardSaid : Prop := Claim7.holds Tryz.pinned (.plain (OpenSpec.ofChange formsValuesSpec)) formsValuesCard

/-- THE TIED CARD OF 'barscanlaw51.FormsVerifies'. -/
def formsVerifiesCard : Claim7 := { stood := { row := formsVerifiesRow, standIns := [], harness := (true, "1a406302f86498c1a13fef2368d4dd7951403eccd32413c69d31ed5b43e25482"), looks := true }, kinds := [], alts := [], laidByText := true, laidKinds := [.data, .data, .data, .data, .sentinel, .sentinel, .sentinel, .sentinel, .pinned], laidTests := true, laidLooks := .later }
def FormsVerifiesCardSaid : Prop := Claim7.holds Tryz.pinned (.plain (OpenSpec.ofChange formsVerifiesSpec)) formsVerifiesCard

/-- THE TIED CARD OF 'barscanlaw51.FormsExtracts'. -/
def formsExtractsCard : Claim7 := { stood := { row := formsExtractsRow, standIns := [], harness := (true, "1a406302f86498c1a13fef2368d4dd7951403eccd32413c69d31ed5b43e25482"), looks := true }, kinds := [], alts := [], laidByText := true, laidKinds := [.data, .data, .data, .data, .sentinel, .sentinel, .sentinel, .sentinel, .pinned], laidTests := true, laidLooks := .later }
def FormsExtractsCardSaid : Prop := Claim7.holds Tryz.pinned (.plain (OpenSpec.ofChange formsExtractsSpec)) formsExtractsCard

/-- THE TIED CARD OF 'barscanlaw51.FormsRepairs'. -/
def formsRepairsCard : Claim7 := { stood := { row := formsRepairsRow, standIns := [], harness := (true, "1a406302f86498c1a13fef2368d4dd7951403eccd32413c69d31ed5b43e25482"), looks := true }, kinds := [], alts := [], laidByText := true, laidKinds := [.data, .data, .data, .data, .sentinel, .sentinel, .sentinel, .sentinel, .pinned], laidTests := true, laidLooks := .later }
def FormsRepairsCardSaid : Prop := Claim7.holds Tryz.pinned (.plain (OpenSpec.ofChange formsRepairsSpec)) formsRepairsCard

/-- THE TIED CARD OF 'barscanlaw51.FormsRoundTrip'. -/
def formsRoundTripCard : Claim7 := { stood := { row := formsRoundTripRow, standIns := [], harness := (true, "1a406302f86498c1a13fef2368d4dd7951403eccd32413c69d31ed5b43e25482"), looks := true }, kinds := [], alts := [], laidByText := true, laidKinds := [.data, .data, .data, .data, .sentinel, .sentinel, .sentinel, .sentinel, .pinned], laidTests := true, laidLooks := .later }
def FormsRoundTripCardSaid : Prop := Claim7.holds Tryz.pinned (.plain (OpenSpec.ofChange formsRoundTripSpec)) formsRoundTripCard

/-- THE TIED CARD OF 'barscanlaw51.FormsIssues'. -/
def formsIssuesCard : Claim7 := { stood := { row := formsIssuesRow, standIns := [], harness := (true, "1a406302f86498c1a13fef2368d4dd7951403eccd32413c69d31ed5b43e25482"), looks := true }, kinds := [], alts := [], laidByText := true, laidKinds := [.data, .data, .data, .data, .sentinel, .sentinel, .sentinel, .sentinel, .pinned], laidTests := true, laidLooks := .later }
def FormsIssuesCardSaid : Prop := Claim7.holds Tryz.pinned (.plain (OpenSpec.ofChange formsIssuesSpec)) formsIssuesCard

/-- THE TIED CARD OF 'barscanlaw51.FormsRestores'. -/
def formsRestoresCard : Claim7 := { stood := { row := formsRestoresRow, standIns := [], harness := (true, "1a406302f86498c1a13fef2368d4dd7951403eccd32413c69d31ed5b43e25482"), looks := true }, kinds := [], alts := [], laidByText := true, laidKinds := [.data, .data, .data, .data, .sentinel, .sentinel, .sentinel, .sentinel, .pinned], laidTests := true, laidLooks := .later }
def FormsRestoresCardSaid : Prop := Claim7.holds Tryz.pinned (.plain (OpenSpec.ofChange formsRestoresSpec)) formsRestoresCard

/-- THE TIED CARD OF 'barscanlaw51.FormsCalendar'. -/
def formsCalendarCard : Claim7 := { stood := { row := formsCalendarRow, standIns := [], harness := (true, "1a406302f86498c1a13fef2368d4dd7951403eccd32413c69d31ed5b43e25482"), looks := true }, kinds := [], alts := [], laidByText := true, laidKinds := [.data, .data, .data, .data, .sentinel, .sentinel, .sentinel, .sentinel, .pinned], laidTests := true, laidLooks := .later }
def FormsCalendarCardSaid : Prop := Claim7.holds Tryz.pinned (.plain (OpenSpec.ofChange formsCalendarSpec)) formsCalendarCard

/-- THE TIED CARD OF 'barscanlaw51.FormsLines'. -/
def formsLinesCard : Claim7 := { stood := { row := formsLinesRow, standIns := [], harness := (true, "1a406302f86498c1a13fef2368d4dd7951403eccd32413c69d31ed5b43e25482"), looks := true }, kinds := [], alts := [], laidByText := true, laidKinds := [.data, .data, .data, .data, .sentinel, .sentinel, .sentinel, .sentinel, .pinned], laidTests := true, laidLooks := .later }
def FormsLinesCardSaid : Prop := Claim7.holds Tryz.pinned (.plain (OpenSpec.ofChange formsLinesSpec)) formsLinesCard

/-- THE SECOND FORM's CARD OF 'barscanlaw51.FormsChecks'. -/
def formsChecksUptoCard : Claim7 := { stood := { row := formsChecksUptoRow, standIns := [], harness := (true, "1a406302f86498c1a13fef2368d4dd7951403eccd32413c69d31ed5b43e25482"), looks := true }, kinds := [], alts := [], laidByText := true, laidKinds := [.data, .data, .data, .data, .sentinel, .sentinel, .sentinel, .sentinel, .pinned], laidTests := true, laidLooks := .later }
def FormsChecksUptoCardSaid : Prop := Claim7.holds Tryz.pinned (.plain (OpenSpec.upto formsChecksSpec)) formsChecksUptoCard

/-- THE SECOND FORM's CARD OF 'barscanlaw51.FormsLimits'. -/
def formsLimitsUptoCard : Claim7 := { stood := { row := formsLimitsUptoRow, standIns := [], harness := (true, "1a406302f86498c1a13fef2368d4dd7951403eccd32413c69d31ed5b43e25482"), looks := true }, kinds := [], alts := [], laidByText := true, laidKinds := [.data, .data, .data, .data, .sentinel, .sentinel, .sentinel, .sentinel, .pinned], laidTests := true, laidLooks := .later }
def FormsLimitsUptoCardSaid : Prop := Claim7.holds Tryz.pinned (.plain (OpenSpec.upto formsLimitsSpec)) formsLimitsUptoCard

/-- THE SECOND FORM's CARD OF 'barscanlaw51.FormsValues'. -/
def formsValuesUptoCard : Claim7 := { stood := { row := formsValuesUptoRow, standIns := [], harness := (true, "1a406302f86498c1a13fef2368d4dd7951403eccd32413c69d31ed5b43e25482"), looks := true }, kinds := [], alts := [], laidByText := true, laidKinds := [.data, .data, .data, .data, .sentinel, .sentinel, .sentinel, .sentinel, .pinned], laidTests := true, laidLooks := .later }
def FormsValuesUptoCardSaid : Prop := Claim7.holds Tryz.pinned (.plain (OpenSpec.upto formsValuesSpec)) formsValuesUptoCard

/-- THE SECOND FORM's CARD OF 'barscanlaw51.FormsVerifies'. -/
def formsVerifiesUptoCard : Claim7 := { stood := { row := formsVerifiesUptoRow, standIns := [], harness := (true, "1a406302f86498c1a13fef2368d4dd7951403eccd32413c69d31ed5b43e25482"), looks := true }, kinds := [], alts := [], laidByText := true, laidKinds := [.data, .data, .data, .data, .sentinel, .sentinel, .sentinel, .sentinel, .pinned], laidTests := true, laidLooks := .later }
def FormsVerifiesUptoCardSaid : Prop := Claim7.holds Tryz.pinned (.plain (OpenSpec.upto formsVerifiesSpec)) formsVerifiesUptoCard

/-- THE SECOND FORM's CARD OF 'barscanlaw51.FormsExtracts'. -/
def formsExtractsUptoCard : Claim7 := { stood := { row := formsExtractsUptoRow, standIns := [], harness := (true, "1a406302f86498c1a13fef2368d4dd7951403eccd32413c69d31ed5b43e25482"), looks := true }, kinds := [], alts := [], laidByText := true, laidKinds := [.data, .data, .data, .data, .sentinel, .sentinel, .sentinel, .sentinel, .pinned], laidTests := true, laidLooks := .later }
def FormsExtractsUptoCardSaid : Prop := Claim7.holds Tryz.pinned (.plain (OpenSpec.upto formsExtractsSpec)) formsExtractsUptoCard

/-- THE SECOND FORM's CARD OF 'barscanlaw51.FormsRepairs'. -/
def formsRepairsUptoCard : Claim7 := { stood := { row := formsRepairsUptoRow, standIns := [], harness := (true, "1a406302f86498c1a13fef2368d4dd7951403eccd32413c69d31ed5b43e25482"), looks := true }, kinds := [], alts := [], laidByText := true, laidKinds := [.data, .data, .data, .data, .sentinel, .sentinel, .sentinel, .sentinel, .pinned], laidTests := true, laidLooks := .later }
def FormsRepairsUptoCardSaid : Prop := Claim7.holds Tryz.pinned (.plain (OpenSpec.upto formsRepairsSpec)) formsRepairsUptoCard

/-- THE SECOND FORM's CARD OF 'barscanlaw51.FormsRoundTrip'. -/
def formsRoundTripUptoCard : Claim7 := { stood := { row := formsRoundTripUptoRow, standIns := [], harness := (true, "1a406302f86498c1a13fef2368d4dd7951403eccd32413c69d31ed5b43e25482"), looks := true }, kinds := [], alts := [], laidByText := true, laidKinds := [.data, .data, .data, .data, .sentinel, .sentinel, .sentinel, .sentinel, .pinned], laidTests := true, laidLooks := .later }
def FormsRoundTripUptoCardSaid : Prop := Claim7.holds Tryz.pinned (.plain (OpenSpec.upto formsRoundTripSpec)) formsRoundTripUptoCard

/-- THE SECOND FORM's CARD OF 'barscanlaw51.FormsIssues'. -/
def formsIssuesUptoCard : Claim7 := { stood := { row := formsIssuesUptoRow, standIns := [], harness := (true, "1a406302f86498c1a13fef2368d4dd7951403eccd32413c69d31ed5b43e25482"), looks := true }, kinds := [], alts := [], laidByText := true, laidKinds := [.data, .data, .data, .data, .sentinel, .sentinel, .sentinel, .sentinel, .pinned], laidTests := true, laidLooks := .later }
def FormsIssuesUptoCardSaid : Prop := Claim7.holds Tryz.pinned (.plain (OpenSpec.upto formsIssuesSpec)) formsIssuesUptoCard

/-- THE SECOND FORM's CARD OF 'barscanlaw51.FormsRestores'. -/
def formsRestoresUptoCard : Claim7 := { stood := { row := formsRestoresUptoRow, standIns := [], harness := (true, "1a406302f86498c1a13fef2368d4dd7951403eccd32413c69d31ed5b43e25482"), looks := true }, kinds := [], alts := [], laidByText := true, laidKinds := [.data, .data, .data, .data, .sentinel, .sentinel, .sentinel, .sentinel, .pinned], laidTests := true, laidLooks := .later }
def FormsRestoresUptoCardSaid : Prop := Claim7.holds Tryz.pinned (.plain (OpenSpec.upto formsRestoresSpec)) formsRestoresUptoCard

/-- THE SECOND FORM's CARD OF 'barscanlaw51.FormsCalendar'. -/
def formsCalendarUptoCard : Claim7 := { stood := { row := formsCalendarUptoRow, standIns := [], harness := (true, "1a406302f86498c1a13fef2368d4dd7951403eccd32413c69d31ed5b43e25482"), looks := true }, kinds := [], alts := [], laidByText := true, laidKinds := [.data, .data, .data, .data, .sentinel, .sentinel, .sentinel, .sentinel, .pinned], laidTests := true, laidLooks := .later }
def FormsCalendarUptoCardSaid : Prop := Claim7.holds Tryz.pinned (.plain (OpenSpec.upto formsCalendarSpec)) formsCalendarUptoCard

/-- THE SECOND FORM's CARD OF 'barscanlaw51.FormsLines'. -/
def formsLinesUptoCard : Claim7 := { stood := { row := formsLinesUptoRow, standIns := [], harness := (true, "1a406302f86498c1a13fef2368d4dd7951403eccd32413c69d31ed5b43e25482"), looks := true }, kinds := [], alts := [], laidByText := true, laidKinds := [.data, .data, .data, .data, .sentinel, .sentinel, .sentinel, .sentinel, .pinned], laidTests := true, laidLooks := .later }
def FormsLinesUptoCardSaid : Prop := Claim7.holds Tryz.pinned (.plain (OpenSpec.upto formsLinesSpec)) formsLinesUptoCard
end Rows
end Go.Proofs.YtkpfehfcgpapiaaGreatDoor
