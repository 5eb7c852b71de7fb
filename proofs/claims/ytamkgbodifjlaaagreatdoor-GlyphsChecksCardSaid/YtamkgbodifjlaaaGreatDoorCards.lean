/-
  DERIVED. GIVEN WITH THE SEED: THE CARDS: each row of YtamkgbodifjlaaaGreatDoorRows.lean that lists a variable, with what it lists TIED to the program's text (the seventh form; the later family's looks); each row that meets fmt, with fmt's text TOLD by the authors' own Lean function (tested against real Go, not proved from fmt's source: count such statements apart). THE CARD IS WHAT COUNTS. Prove the row's statement (the work); the ties are given (YtamkgbodifjlaaaGreatDoorTie.lean); close each card by the builder's one call (the guide's Derived/Test/ToyasCard.lean, 'card_holds'). Laid BY PROGRAM, IN A SANDBOX (cutbox-door.mjs). By AI agents, Wed Nov 11 2026. No macro, syntax, notation, axiom, sorry.
-/
import Derived.Test.YtamkgbodifjlaaaGreatDoorRows
import GoSem.ClaimSeven
namespace Go.Proofs.YtamkgbodifjlaaaGreatDoor
namespace Rows

/-- THE TIED CARD OF 'barscanlaw48.GlyphsLines'. -/
def glyphsLinesCard : Claim7 := { stood := { row := glyphsLinesRow, standIns := [], harness := (true, "66588ab82c19ba9f4163ca469f0f0ae5ad6d627158ab8694d853be0a9aabf9d4"), looks := false }, kinds := [], alts := [], laidByText := true, laidKinds := [.data, .pinned], laidTests := true, laidLooks := .later }
def GlyphsLinesCardSaid : Prop := Claim7.holds Tryz.pinned (.plain (OpenSpec.ofChange glyphsLinesSpec)) glyphsLinesCard

/-- THE TIED CARD OF 'barscanlaw48.GlyphsMatches'. -/
def glyphsMatchesCard : Claim7 := { stood := { row := glyphsMatchesRow, standIns := [], harness := (true, "66588ab82c19ba9f4163ca469f0f0ae5ad6d627158ab8694d853be0a9aabf9d4"), looks := false }, kinds := [], alts := [], laidByText := true, laidKinds := [.data, .pinned], laidTests := true, laidLooks := .later }
def GlyphsMatchesCardSaid : Prop := Claim7.holds Tryz.pinned (.plain (OpenSpec.ofChange glyphsMatchesSpec)) glyphsMatchesCard

/-- THE TIED CARD OF 'barscanlaw48.GlyphsReadings'. -/
def glyphsReadingsCard : Claim7 := { stood := { row := glyphsReadingsRow, standIns := [], harness := (true, "66588ab82c19ba9f4163ca469f0f0ae5ad6d627158ab8694d853be0a9aabf9d4"), looks := false }, kinds := [], alts := [], laidByText := true, laidKinds := [.data, .pinned], laidTests := true, laidLooks := .later }
def GlyphsReadingsCardSaid : Prop := Claim7.holds Tryz.pinned (.plain (OpenSpec.ofChange glyphsReadingsSpec)) glyphsReadingsCard

/-- THE TIED CARD OF 'barscanlaw48.GlyphsReads'. -/
def glyphsReadsCard : Claim7 := { stood := { row := glyphsReadsRow, standIns := [], harness := (true, "66588ab82c19ba9f4163ca469f0f0ae5ad6d627158ab8694d853be0a9aabf9d4"), looks := false }, kinds := [], alts := [], laidByText := true, laidKinds := [.data, .pinned], laidTests := true, laidLooks := .later }
def GlyphsReadsCardSaid : Prop := Claim7.holds Tryz.pinned (.plain (OpenSpec.ofChange glyphsReadsSpec)) glyphsReadsCard

/-- THE TIED CARD OF 'barscanlaw48.GlyphsRobust'. -/
def glyphsRobustCard : Claim7 := { stood := { row := glyphsRobustRow, standIns := [], harness := (true, "66588ab82c19ba9f4163ca469f0f0ae5ad6d627158ab8694d853be0a9aabf9d4"), looks := false }, kinds := [], alts := [], laidByText := true, laidKinds := [.data, .pinned], laidTests := true, laidLooks := .later }
def GlyphsRobustCardSaid : Prop := Claim7.holds Tryz.pinned (.plain (OpenSpec.ofChange glyphsRobustSpec)) glyphsRobustCard

/-- THE TIED CARD OF 'barscanlaw48.GlyphsCorrects'. -/
def glyphsCorrectsCard : Claim7 := { stood := { row := glyphsCorrectsRow, standIns := [], harness := (true, "66588ab82c19ba9f4163ca469f0f0ae5ad6d627158ab8694d853be0a9aabf9d4"), looks := false }, kinds := [], alts := [], laidByText := true, laidKinds := [.data, .pinned], laidTests := true, laidLooks := .later }
def GlyphsCorrectsCardSaid : Prop := Claim7.holds Tryz.pinned (.plain (OpenSpec.ofChange glyphsCorrectsSpec)) glyphsCorrectsCard

/-- THE TIED CARD OF 'barscanlaw48.GlyphsChecks'. -/
def glyphsChecksCard : Claim7 := { stood := { row := glyphsChecksRow, standIns := [], harness := (true, "66588ab82c19ba9f4163ca469f0f0ae5ad6d627158ab8694d853be0a9aabf9d4"), looks := false }, kinds := [], alts := [], laidByText := true, laidKinds := [.data, .pinned], laidTests := true, laidLooks := .later }
def GlyphsChecksCardSaid : Prop := Claim7.holds Tryz.pinned (.plain (OpenSpec.ofChange glyphsChecksSpec)) glyphsChecksCard

/-- THE TIED CARD OF 'barscanlaw48.GlyphsCopies'. -/
def glyphsCopiesCard : Claim7 := { stood := { row := glyphsCopiesRow, standIns := [], harness := (true, "66588ab82c19ba9f4163ca469f0f0ae5ad6d627158ab8694d853be0a9aabf9d4"), looks := false }, kinds := [], alts := [], laidByText := true, laidKinds := [.data, .pinned], laidTests := true, laidLooks := .later }
def GlyphsCopiesCardSaid : Prop := Claim7.holds Tryz.pinned (.plain (OpenSpec.ofChange glyphsCopiesSpec)) glyphsCopiesCard

/-- THE SECOND FORM's CARD OF 'barscanlaw48.GlyphsLines'. -/
def glyphsLinesUptoCard : Claim7 := { stood := { row := glyphsLinesUptoRow, standIns := [], harness := (true, "66588ab82c19ba9f4163ca469f0f0ae5ad6d627158ab8694d853be0a9aabf9d4"), looks := false }, kinds := [], alts := [], laidByText := true, laidKinds := [.data, .pinned], laidTests := true, laidLooks := .later }
def GlyphsLinesUptoCardSaid : Prop := Claim7.holds Tryz.pinned (.plain (OpenSpec.upto glyphsLinesSpec)) glyphsLinesUptoCard

/-- THE SECOND FORM's CARD OF 'barscanlaw48.GlyphsMatches'. -/
def glyphsMatchesUptoCard : Claim7 := { stood := { row := glyphsMatchesUptoRow, standIns := [], harness := (true, "66588ab82c19ba9f4163ca469f0f0ae5ad6d627158ab8694d853be0a9aabf9d4"), looks := false }, kinds := [], alts := [], laidByText := true, laidKinds := [.data, .pinned], laidTests := true, laidLooks := .later }
def GlyphsMatchesUptoCardSaid : Prop := Claim7.holds Tryz.pinned (.plain (OpenSpec.upto glyphsMatchesSpec)) glyphsMatchesUptoCard

/-- THE SECOND FORM's CARD OF 'barscanlaw48.GlyphsReadings'. -/
def glyphsReadingsUptoCard : Claim7 := { stood := { row := glyphsReadingsUptoRow, standIns := [], harness := (true, "66588ab82c19ba9f4163ca469f0f0ae5ad6d627158ab8694d853be0a9aabf9d4"), looks := false }, kinds := [], alts := [], laidByText := true, laidKinds := [.data, .pinned], laidTests := true, laidLooks := .later }
def GlyphsReadingsUptoCardSaid : Prop := Claim7.holds Tryz.pinned (.plain (OpenSpec.upto glyphsReadingsSpec)) glyphsReadingsUptoCard

/-- THE SECOND FORM's CARD OF 'barscanlaw48.GlyphsReads'. -/
def glyphsReadsUptoCard : Claim7 := { stood := { row := glyphsReadsUptoRow, standIns := [], harness := (true, "66588ab82c19ba9f4163ca469f0f0ae5ad6d627158ab8694d853be0a9aabf9d4"), looks := false }, kinds := [], alts := [], laidByText := true, laidKinds := [.data, .pinned], laidTests := true, laidLooks := .later }
def GlyphsReadsUptoCardSaid : Prop := Claim7.holds Tryz.pinned (.plain (OpenSpec.upto glyphsReadsSpec)) glyphsReadsUptoCard

/-- THE SECOND FORM's CARD OF 'barscanlaw48.GlyphsRobust'. -/
def glyphsRobustUptoCard : Claim7 := { stood := { row := glyphsRobustUptoRow, standIns := [], harness := (true, "66588ab82c19ba9f4163ca469f0f0ae5ad6d627158ab8694d853be0a9aabf9d4"), looks := false }, kinds := [], alts := [], laidByText := true, laidKinds := [.data, .pinned], laidTests := true, laidLooks := .later }
def GlyphsRobustUptoCardSaid : Prop := Claim7.holds Tryz.pinned (.plain (OpenSpec.upto glyphsRobustSpec)) glyphsRobustUptoCard

/-- THE SECOND FORM's CARD OF 'barscanlaw48.GlyphsCorrects'. -/
def glyphsCorrectsUptoCard : Claim7 := { stood := { row := glyphsCorrectsUptoRow, standIns := [], harness := (true, "66588ab82c19ba9f4163ca469f0f0ae5ad6d627158ab8694d853be0a9aabf9d4"), looks := false }, kinds := [], alts := [], laidByText := true, laidKinds := [.data, .pinned], laidTests := true, laidLooks := .later }
def GlyphsCorrectsUptoCardSaid : Prop := Claim7.holds Tryz.pinned (.plain (OpenSpec.upto glyphsCorrectsSpec)) glyphsCorrectsUptoCard

/-- THE SECOND FORM's CARD OF 'barscanlaw48.GlyphsChecks'. -/
def glyphsChecksUptoCard : Claim7 := { stood := { row := glyphsChecksUptoRow, standIns := [], harness := (true, "66588ab82c19ba9f4163ca469f0f0ae5ad6d627158ab8694d853be0a9aabf9d4"), looks := false }, kinds := [], alts := [], laidByText := true, laidKinds := [.data, .pinned], laidTests := true, laidLooks := .later }
def GlyphsChecksUptoCardSaid : Prop := Claim7.holds Tryz.pinned (.plain (OpenSpec.upto glyphsChecksSpec)) glyphsChecksUptoCard

/-- THE SECOND FORM's CARD OF 'barscanlaw48.GlyphsCopies'. -/
def glyphsCopiesUptoCard : Claim7 := { stood := { row := glyphsCopiesUptoRow, standIns := [], harness := (true, "66588ab82c19ba9f4163ca469f0f0ae5ad6d627158ab8694d853be0a9aabf9d4"), looks := false }, kinds := [], alts := [], laidByText := true, laidKinds := [.data, .pinned], laidTests := true, laidLooks := .later }
def GlyphsCopiesUptoCardSaid : Prop := Claim7.holds Tryz.pinned (.plain (OpenSpec.upto glyphsCopiesSpec)) glyphsCopiesUptoCard
end Rows
end Go.Proofs.YtamkgbodifjlaaaGreatDoor
