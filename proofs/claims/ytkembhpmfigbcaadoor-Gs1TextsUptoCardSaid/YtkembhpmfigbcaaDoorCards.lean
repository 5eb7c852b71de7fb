/-
  DERIVED. GIVEN WITH THE SEED: THE CARDS: each row of YtkembhpmfigbcaaDoorRows.lean that lists a variable, with what it lists TIED to the program's text (the seventh form; the later family's looks); each row that meets fmt, with fmt's text TOLD by the authors' own Lean function (tested against real Go, not proved from fmt's source: count such statements apart). THE CARD IS WHAT COUNTS. Prove the row's statement (the work); the ties are given (YtkembhpmfigbcaaDoorTie.lean); close each card by the builder's one call (the guide's Derived/Test/ToyasCard.lean, 'card_holds'). Laid BY PROGRAM, IN A SANDBOX (cutbox-door.mjs). By AI agents, Wed Nov 11 2026. No macro, syntax, notation, axiom, sorry.
-/
import Derived.Test.YtkembhpmfigbcaaDoorRows
import GoSem.ClaimSeven
namespace Go.Proofs.YtkembhpmfigbcaaDoor
namespace Rows

/-- THE TIED CARD OF 'barscanlaw14.Gs1Verifies'. -/
def gs1VerifiesCard : Claim7 := { stood := { row := gs1VerifiesRow, standIns := [], harness := (true, "15f2c96b6f845b9c4b7986aead8f2bb9dbf8d0e7920a1a534b734adcc6e71d2a"), looks := false }, kinds := [], alts := [], laidByText := true, laidKinds := [.listed, .data], laidTests := true, laidLooks := .later }
def Gs1VerifiesCardSaid : Prop := Claim7.holds Tryd.pinned (.plain (OpenSpec.ofChange gs1VerifiesSpec)) gs1VerifiesCard

/-- THE TIED CARD OF 'barscanlaw14.Gs1Texts'. -/
def gs1TextsCard : Claim7 := { stood := { row := gs1TextsRow, standIns := [], harness := (true, "15f2c96b6f845b9c4b7986aead8f2bb9dbf8d0e7920a1a534b734adcc6e71d2a"), looks := false }, kinds := [], alts := [], laidByText := true, laidKinds := [.listed, .data], laidTests := true, laidLooks := .later }
def Gs1TextsCardSaid : Prop := Claim7.holds Tryd.pinned (.plain (OpenSpec.ofChange gs1TextsSpec)) gs1TextsCard

/-- THE TIED CARD OF 'barscanlaw14.Gs1Reads'. -/
def gs1ReadsCard : Claim7 := { stood := { row := gs1ReadsRow, standIns := [], harness := (true, "15f2c96b6f845b9c4b7986aead8f2bb9dbf8d0e7920a1a534b734adcc6e71d2a"), looks := false }, kinds := [], alts := [], laidByText := true, laidKinds := [.listed, .data], laidTests := true, laidLooks := .later }
def Gs1ReadsCardSaid : Prop := Claim7.holds Tryd.pinned (.plain (OpenSpec.ofChange gs1ReadsSpec)) gs1ReadsCard

/-- THE TIED CARD OF 'barscanlaw14.Gs1RoundTrip'. -/
def gs1RoundTripCard : Claim7 := { stood := { row := gs1RoundTripRow, standIns := [], harness := (true, "15f2c96b6f845b9c4b7986aead8f2bb9dbf8d0e7920a1a534b734adcc6e71d2a"), looks := false }, kinds := [], alts := [], laidByText := true, laidKinds := [.listed, .data], laidTests := true, laidLooks := .later }
def Gs1RoundTripCardSaid : Prop := Claim7.holds Tryd.pinned (.plain (OpenSpec.ofChange gs1RoundTripSpec)) gs1RoundTripCard

/-- THE TIED CARD OF 'barscanlaw14.Gs1Canonical'. -/
def gs1CanonicalCard : Claim7 := { stood := { row := gs1CanonicalRow, standIns := [], harness := (true, "15f2c96b6f845b9c4b7986aead8f2bb9dbf8d0e7920a1a534b734adcc6e71d2a"), looks := false }, kinds := [], alts := [], laidByText := true, laidKinds := [.listed, .data], laidTests := true, laidLooks := .later }
def Gs1CanonicalCardSaid : Prop := Claim7.holds Tryd.pinned (.plain (OpenSpec.ofChange gs1CanonicalSpec)) gs1CanonicalCard

/-- THE TIED CARD OF 'barscanlaw14.Gs1Separators'. -/
def gs1SeparatorsCard : Claim7 := { stood := { row := gs1SeparatorsRow, standIns := [], harness := (true, "15f2c96b6f845b9c4b7986aead8f2bb9dbf8d0e7920a1a534b734adcc6e71d2a"), looks := false }, kinds := [], alts := [], laidByText := true, laidKinds := [.listed, .data], laidTests := true, laidLooks := .later }
def Gs1SeparatorsCardSaid : Prop := Claim7.holds Tryd.pinned (.plain (OpenSpec.ofChange gs1SeparatorsSpec)) gs1SeparatorsCard

/-- THE TIED CARD OF 'barscanlaw14.Gs1Detects'. -/
def gs1DetectsCard : Claim7 := { stood := { row := gs1DetectsRow, standIns := [], harness := (true, "15f2c96b6f845b9c4b7986aead8f2bb9dbf8d0e7920a1a534b734adcc6e71d2a"), looks := false }, kinds := [], alts := [], laidByText := true, laidKinds := [.listed, .data], laidTests := true, laidLooks := .later }
def Gs1DetectsCardSaid : Prop := Claim7.holds Tryd.pinned (.plain (OpenSpec.ofChange gs1DetectsSpec)) gs1DetectsCard

/-- THE SECOND FORM's CARD OF 'barscanlaw14.Gs1Verifies'. -/
def gs1VerifiesUptoCard : Claim7 := { stood := { row := gs1VerifiesUptoRow, standIns := [], harness := (true, "15f2c96b6f845b9c4b7986aead8f2bb9dbf8d0e7920a1a534b734adcc6e71d2a"), looks := false }, kinds := [], alts := [], laidByText := true, laidKinds := [.listed, .data], laidTests := true, laidLooks := .later }
def Gs1VerifiesUptoCardSaid : Prop := Claim7.holds Tryd.pinned (.plain (OpenSpec.upto gs1VerifiesSpec)) gs1VerifiesUptoCard

/-- THE SECOND FORM's CARD OF 'barscanlaw14.Gs1Texts'. -/
def gs1TextsUptoCard : Claim7 := { stood := { row := gs1TextsUptoRow, standIns := [], harness := (true, "15f2c96b6f845b9c4b7986aead8f2bb9dbf8d0e7920a1a534b734adcc6e71d2a"), looks := false }, kinds := [], alts := [], laidByText := true, laidKinds := [.listed, .data], laidTests := true, laidLooks := .later }
def Gs1TextsUptoCardSaid : Prop := Claim7.holds Tryd.pinned (.plain (OpenSpec.upto gs1TextsSpec)) gs1TextsUptoCard

/-- THE SECOND FORM's CARD OF 'barscanlaw14.Gs1Reads'. -/
def gs1ReadsUptoCard : Claim7 := { stood := { row := gs1ReadsUptoRow, standIns := [], harness := (true, "15f2c96b6f845b9c4b7986aead8f2bb9dbf8d0e7920a1a534b734adcc6e71d2a"), looks := false }, kinds := [], alts := [], laidByText := true, laidKinds := [.listed, .data], laidTests := true, laidLooks := .later }
def Gs1ReadsUptoCardSaid : Prop := Claim7.holds Tryd.pinned (.plain (OpenSpec.upto gs1ReadsSpec)) gs1ReadsUptoCard

/-- THE SECOND FORM's CARD OF 'barscanlaw14.Gs1RoundTrip'. -/
def gs1RoundTripUptoCard : Claim7 := { stood := { row := gs1RoundTripUptoRow, standIns := [], harness := (true, "15f2c96b6f845b9c4b7986aead8f2bb9dbf8d0e7920a1a534b734adcc6e71d2a"), looks := false }, kinds := [], alts := [], laidByText := true, laidKinds := [.listed, .data], laidTests := true, laidLooks := .later }
def Gs1RoundTripUptoCardSaid : Prop := Claim7.holds Tryd.pinned (.plain (OpenSpec.upto gs1RoundTripSpec)) gs1RoundTripUptoCard

/-- THE SECOND FORM's CARD OF 'barscanlaw14.Gs1Canonical'. -/
def gs1CanonicalUptoCard : Claim7 := { stood := { row := gs1CanonicalUptoRow, standIns := [], harness := (true, "15f2c96b6f845b9c4b7986aead8f2bb9dbf8d0e7920a1a534b734adcc6e71d2a"), looks := false }, kinds := [], alts := [], laidByText := true, laidKinds := [.listed, .data], laidTests := true, laidLooks := .later }
def Gs1CanonicalUptoCardSaid : Prop := Claim7.holds Tryd.pinned (.plain (OpenSpec.upto gs1CanonicalSpec)) gs1CanonicalUptoCard

/-- THE SECOND FORM's CARD OF 'barscanlaw14.Gs1Separators'. -/
def gs1SeparatorsUptoCard : Claim7 := { stood := { row := gs1SeparatorsUptoRow, standIns := [], harness := (true, "15f2c96b6f845b9c4b7986aead8f2bb9dbf8d0e7920a1a534b734adcc6e71d2a"), looks := false }, kinds := [], alts := [], laidByText := true, laidKinds := [.listed, .data], laidTests := true, laidLooks := .later }
def Gs1SeparatorsUptoCardSaid : Prop := Claim7.holds Tryd.pinned (.plain (OpenSpec.upto gs1SeparatorsSpec)) gs1SeparatorsUptoCard

/-- THE SECOND FORM's CARD OF 'barscanlaw14.Gs1Detects'. -/
def gs1DetectsUptoCard : Claim7 := { stood := { row := gs1DetectsUptoRow, standIns := [], harness := (true, "15f2c96b6f845b9c4b7986aead8f2bb9dbf8d0e7920a1a534b734adcc6e71d2a"), looks := false }, kinds := [], alts := [], laidByText := true, laidKinds := [.listed, .data], laidTests := true, laidLooks := .later }
def Gs1DetectsUptoCardSaid : Prop := Claim7.holds Tryd.pinned (.plain (OpenSpec.upto gs1DetectsSpec)) gs1DetectsUptoCard
end Rows
end Go.Proofs.YtkembhpmfigbcaaDoor
