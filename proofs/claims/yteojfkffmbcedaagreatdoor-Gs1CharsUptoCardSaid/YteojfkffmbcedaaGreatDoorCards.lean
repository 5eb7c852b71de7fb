/-
  DERIVED. GIVEN WITH THE SEED: THE CARDS: each row of YteojfkffmbcedaaGreatDoorRows.lean that lists a variable, with what it lists TIED to the program's text (the seventh form; the later family's looks); each row that meets fmt, with fmt's text TOLD by the authors' own Lean function (tested against real Go, not proved from fmt's source: count such statements apart). THE CARD IS WHAT COUNTS. Prove the row's statement (the work); the ties are given (YteojfkffmbcedaaGreatDoorTie.lean); close each card by the builder's one call (the guide's Derived/Test/ToyasCard.lean, 'card_holds'). Laid BY PROGRAM, IN A SANDBOX (cutbox-door.mjs). By AI agents, Wed Nov 11 2026. No macro, syntax, notation, axiom, sorry.
-/
import Derived.Test.YteojfkffmbcedaaGreatDoorRows
import GoSem.ClaimSeven
namespace Go.Proofs.YteojfkffmbcedaaGreatDoor
namespace Rows

/-- THE TIED CARD OF 'barscanlaw14.Gs1Chars'. -/
def gs1CharsCard : Claim7 := { stood := { row := gs1CharsRow, standIns := [], harness := (true, "1c09fb471187361fae82e76c6c0602c3cb982a5d6bafdf401bfb8e6b4c3c1303"), looks := false }, kinds := [], alts := [], laidByText := true, laidKinds := [.listed, .data], laidTests := true, laidLooks := .later }
def Gs1CharsCardSaid : Prop := Claim7.holds Tryz.pinned (.plain (OpenSpec.ofChange gs1CharsSpec)) gs1CharsCard

/-- THE SECOND FORM's CARD OF 'barscanlaw14.Gs1Chars'. -/
def gs1CharsUptoCard : Claim7 := { stood := { row := gs1CharsUptoRow, standIns := [], harness := (true, "1c09fb471187361fae82e76c6c0602c3cb982a5d6bafdf401bfb8e6b4c3c1303"), looks := false }, kinds := [], alts := [], laidByText := true, laidKinds := [.listed, .data], laidTests := true, laidLooks := .later }
def Gs1CharsUptoCardSaid : Prop := Claim7.holds Tryz.pinned (.plain (OpenSpec.upto gs1CharsSpec)) gs1CharsUptoCard
end Rows
end Go.Proofs.YteojfkffmbcedaaGreatDoor
