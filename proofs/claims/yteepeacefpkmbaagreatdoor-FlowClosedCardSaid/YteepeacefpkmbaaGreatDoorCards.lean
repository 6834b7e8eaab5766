/-
  DERIVED. GIVEN WITH THE SEED: THE CARDS: each row of YteepeacefpkmbaaGreatDoorRows.lean that lists a variable, with what it lists TIED to the program's text (the seventh form; the later family's looks); each row that meets fmt, with fmt's text TOLD by the authors' own Lean function (tested against real Go, not proved from fmt's source: count such statements apart). THE CARD IS WHAT COUNTS. Prove the row's statement (the work); the ties are given (YteepeacefpkmbaaGreatDoorTie.lean); close each card by the builder's one call (the guide's Derived/Test/ToyasCard.lean, 'card_holds'). Laid BY PROGRAM, IN A SANDBOX (cutbox-door.mjs). By AI agents, Wed Nov 11 2026. No macro, syntax, notation, axiom, sorry.
-/
import Derived.Test.YteepeacefpkmbaaGreatDoorRows
import GoSem.ClaimSeven
namespace Go.Proofs.YteepeacefpkmbaaGreatDoor
namespace Rows

/-- THE TIED CARD OF 'coxlesslaw30.FlowReaches'. -/
def flowReachesCard : Claim7 := { stood := { row := flowReachesRow, standIns := [], harness := (true, "deacaceb45de842313a32acbac2b2028ceac2df9d393f9d6540b742181daa9ba"), looks := true }, kinds := [], alts := [], laidByText := true, laidKinds := [.wider, .wider, .wider, .wider, .data, .data, .data, .data, .sentinel, .sentinel], laidTests := true, laidLooks := .later }
def FlowReachesCardSaid : Prop := Claim7.holds Tryz.pinned (.plain (OpenSpec.ofChange flowReachesSpec)) flowReachesCard

/-- THE TIED CARD OF 'coxlesslaw30.FlowClosed'. -/
def flowClosedCard : Claim7 := { stood := { row := flowClosedRow, standIns := [], harness := (true, "deacaceb45de842313a32acbac2b2028ceac2df9d393f9d6540b742181daa9ba"), looks := true }, kinds := [], alts := [], laidByText := true, laidKinds := [.wider, .wider, .wider, .wider, .data, .data, .data, .data, .sentinel, .sentinel], laidTests := true, laidLooks := .later }
def FlowClosedCardSaid : Prop := Claim7.holds Tryz.pinned (.plain (OpenSpec.ofChange flowClosedSpec)) flowClosedCard

/-- THE SECOND FORM's CARD OF 'coxlesslaw30.FlowReaches'. -/
def flowReachesUptoCard : Claim7 := { stood := { row := flowReachesUptoRow, standIns := [], harness := (true, "deacaceb45de842313a32acbac2b2028ceac2df9d393f9d6540b742181daa9ba"), looks := true }, kinds := [], alts := [], laidByText := true, laidKinds := [.wider, .wider, .wider, .wider, .data, .data, .data, .data, .sentinel, .sentinel], laidTests := true, laidLooks := .later }
def FlowReachesUptoCardSaid : Prop := Claim7.holds Tryz.pinned (.plain (OpenSpec.upto flowReachesSpec)) flowReachesUptoCard

/-- THE SECOND FORM's CARD OF 'coxlesslaw30.FlowClosed'. -/
def flowClosedUptoCard : Claim7 := { stood := { row := flowClosedUptoRow, standIns := [], harness := (true, "deacaceb45de842313a32acbac2b2028ceac2df9d393f9d6540b742181daa9ba"), looks := true }, kinds := [], alts := [], laidByText := true, laidKinds := [.wider, .wider, .wider, .wider, .data, .data, .data, .data, .sentinel, .sentinel], laidTests := true, laidLooks := .later }
def FlowClosedUptoCardSaid : Prop := Claim7.holds Tryz.pinned (.plain (OpenSpec.upto flowClosedSpec)) flowClosedUptoCard
end Rows
end Go.Proofs.YteepeacefpkmbaaGreatDoor
