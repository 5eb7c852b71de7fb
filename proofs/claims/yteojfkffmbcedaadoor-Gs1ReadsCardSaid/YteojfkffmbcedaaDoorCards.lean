/-
  DERIVED. GIVEN WITH THE SEED: THE CARDS: each row of YteojfkffmbcedaaDoorRows.lean that lists a variable, with what it lists TIED to the program's text (the seventh form; the later family's looks); each row that meets fmt, with fmt's text TOLD by the authors' own Lean function (tested against real Go, not proved from fmt's source: count such statements apart). THE CARD IS WHAT COUNTS. Prove the row's statement (the work); the ties are given (YteojfkffmbcedaaDoorTie.lean); close each card by the builder's one call (the guide's Derived/Test/ToyasCard.lean, 'card_holds'). Laid BY PROGRAM, IN A SANDBOX (cutbox-door.mjs). By AI agents, Wed Nov 11 2026. No macro, syntax, notation, axiom, sorry.
-/
import Derived.Test.YteojfkffmbcedaaDoorRows
import GoSem.ClaimSeven
namespace Go.Proofs.YteojfkffmbcedaaDoor
namespace Rows

/-- THE TIED CARD OF 'barscanlaw14.Gs1Reads'. -/
def gs1ReadsCard : Claim7 := { stood := { row := gs1ReadsRow, standIns := [], harness := (true, "ab8a122919d307f3e4605291fadd9b510568e5cb68e38a65d4b5e4451348684d"), looks := false }, kinds := [], alts := [], laidByText := true, laidKinds := [.listed, .data], laidTests := true, laidLooks := .later }
def Gs1ReadsCardSaid : Prop := Claim7.holds Tryd.pinned (.plain (OpenSpec.ofChange gs1ReadsSpec)) gs1ReadsCard

/-- THE SECOND FORM's CARD OF 'barscanlaw14.Gs1Reads'. -/
def gs1ReadsUptoCard : Claim7 := { stood := { row := gs1ReadsUptoRow, standIns := [], harness := (true, "ab8a122919d307f3e4605291fadd9b510568e5cb68e38a65d4b5e4451348684d"), looks := false }, kinds := [], alts := [], laidByText := true, laidKinds := [.listed, .data], laidTests := true, laidLooks := .later }
def Gs1ReadsUptoCardSaid : Prop := Claim7.holds Tryd.pinned (.plain (OpenSpec.upto gs1ReadsSpec)) gs1ReadsUptoCard
end Rows
end Go.Proofs.YteojfkffmbcedaaDoor
