/-
  DERIVED. GIVEN WITH THE SEED: THE CARDS: each row of YtndplpfokhmmjaaGreatDoorRows.lean that lists a variable, with what it lists TIED to the program's text (the seventh form; the later family's looks); each row that meets fmt, with fmt's text TOLD by the authors' own Lean function (tested against real Go, not proved from fmt's source: count such statements apart). THE CARD IS WHAT COUNTS. Prove the row's statement (the work); the ties are given (YtndplpfokhmmjaaGreatDoorTie.lean); close each card by the builder's one call (the guide's Derived/Test/ToyasCard.lean, 'card_holds'). Laid BY PROGRAM, IN A SANDBOX (cutbox-door.mjs). By AI agents, Wed Nov 11 2026. No macro, syntax, notation, axiom, sorry.
-/
import Derived.Test.YtndplpfokhmmjaaGreatDoorRows
import GoSem.ClaimSeven
namespace Go.Proofs.YtndplpfokhmmjaaGreatDoor
namespace Rows

/-- THE TIED CARD OF 'coxlesslaw23.DisKnown'. -/
def disKnownCard : Claim7 := { stood := { row := disKnownRow, standIns := [], harness := (true, "76f5900797f35119db85b530eff5b091028e8571451dfadbb60e2f4fffc39489"), looks := false }, kinds := [], alts := [], laidByText := true, laidKinds := [.wider, .wider, .wider, .wider, .data, .data, .data, .data, .data, .pinned], laidTests := true, laidLooks := .later }
def DisKnownCardSaid : Prop := Claim7.holds Tryz.pinned (.plain (OpenSpec.ofChange disKnownSpec)) disKnownCard

/-- THE SECOND FORM's CARD OF 'coxlesslaw23.DisKnown'. -/
def disKnownUptoCard : Claim7 := { stood := { row := disKnownUptoRow, standIns := [], harness := (true, "76f5900797f35119db85b530eff5b091028e8571451dfadbb60e2f4fffc39489"), looks := false }, kinds := [], alts := [], laidByText := true, laidKinds := [.wider, .wider, .wider, .wider, .data, .data, .data, .data, .data, .pinned], laidTests := true, laidLooks := .later }
def DisKnownUptoCardSaid : Prop := Claim7.holds Tryz.pinned (.plain (OpenSpec.upto disKnownSpec)) disKnownUptoCard
end Rows
end Go.Proofs.YtndplpfokhmmjaaGreatDoor
