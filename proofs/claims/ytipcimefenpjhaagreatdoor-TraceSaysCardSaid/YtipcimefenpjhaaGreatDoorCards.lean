/-
  DERIVED. GIVEN WITH THE SEED: THE CARDS: each row of YtipcimefenpjhaaGreatDoorRows.lean that lists a variable, with what it lists TIED to the program's text (the seventh form; the later family's looks); each row that meets fmt, with fmt's text TOLD by the authors' own Lean function (tested against real Go, not proved from fmt's source: count such statements apart). THE CARD IS WHAT COUNTS. Prove the row's statement (the work); the ties are given (YtipcimefenpjhaaGreatDoorTie.lean); close each card by the builder's one call (the guide's Derived/Test/ToyasCard.lean, 'card_holds'). Laid BY PROGRAM, IN A SANDBOX (cutbox-door.mjs). By AI agents, Wed Nov 11 2026. No macro, syntax, notation, axiom, sorry.
-/
import Derived.Test.YtipcimefenpjhaaGreatDoorRows
import GoSem.ClaimSeven
namespace Go.Proofs.YtipcimefenpjhaaGreatDoor
namespace Rows

/-- THE TIED CARD OF 'coxlesslaw27.TraceSays'. -/
def traceSaysCard : Claim7 := { stood := { row := traceSaysRow, standIns := [], harness := (true, "459fb1a3d8e97fbe5e33c68680c122404979888bfc4ba89e587abc9b0e9266c9"), looks := false }, kinds := [], alts := [], laidByText := true, laidKinds := [.wider, .wider, .wider, .wider, .data, .data, .data, .data], laidTests := true, laidLooks := .later }
def TraceSaysCardSaid : Prop := Claim7.holds Tryz.pinned (.plain (OpenSpec.ofChange traceSaysSpec)) traceSaysCard

/-- THE SECOND FORM's CARD OF 'coxlesslaw27.TraceSays'. -/
def traceSaysUptoCard : Claim7 := { stood := { row := traceSaysUptoRow, standIns := [], harness := (true, "459fb1a3d8e97fbe5e33c68680c122404979888bfc4ba89e587abc9b0e9266c9"), looks := false }, kinds := [], alts := [], laidByText := true, laidKinds := [.wider, .wider, .wider, .wider, .data, .data, .data, .data], laidTests := true, laidLooks := .later }
def TraceSaysUptoCardSaid : Prop := Claim7.holds Tryz.pinned (.plain (OpenSpec.upto traceSaysSpec)) traceSaysUptoCard
end Rows
end Go.Proofs.YtipcimefenpjhaaGreatDoor
