/-
  DERIVED. GIVEN WITH THE SEED: THE CARDS: each row of YtoaakfgdebkkaaaGreatDoorRows.lean that lists a variable, with what it lists TIED to the program's text (the seventh form; the later family's looks); each row that meets fmt, with fmt's text TOLD by the authors' own Lean function (tested against real Go, not proved from fmt's source: count such statements apart). THE CARD IS WHAT COUNTS. Prove the row's statement (the work); the ties are given (YtoaakfgdebkkaaaGreatDoorTie.lean); close each card by the builder's one call (the guide's Derived/Test/ToyasCard.lean, 'card_holds'). Laid BY PROGRAM, IN A SANDBOX (cutbox-door.mjs). By AI agents, Wed Nov 11 2026. No macro, syntax, notation, axiom, sorry.
-/
import Derived.Test.YtoaakfgdebkkaaaGreatDoorRows
import GoSem.ClaimSeven
namespace Go.Proofs.YtoaakfgdebkkaaaGreatDoor
namespace Rows

/-- THE TIED CARD OF 'coxlesslaw25.SemStays'. -/
def semStaysCard : Claim7 := { stood := { row := semStaysRow, standIns := [], harness := (true, "646e98f270cb36904577657ba1e39f42b953f064568c8434ad0c7f1d01b09ffb"), looks := true }, kinds := [], alts := [], laidByText := true, laidKinds := [.wider, .wider, .wider, .data], laidTests := true, laidLooks := .later }
def SemStaysCardSaid : Prop := Claim7.holds Tryz.pinned (.plain (OpenSpec.ofChange semStaysSpec)) semStaysCard

/-- THE TIED CARD OF 'coxlesslaw25.SemDoes'. -/
def semDoesCard : Claim7 := { stood := { row := semDoesRow, standIns := [], harness := (true, "646e98f270cb36904577657ba1e39f42b953f064568c8434ad0c7f1d01b09ffb"), looks := true }, kinds := [], alts := [], laidByText := true, laidKinds := [.wider, .wider, .wider, .data], laidTests := true, laidLooks := .later }
def SemDoesCardSaid : Prop := Claim7.holds Tryz.pinned (.plain (OpenSpec.ofChange semDoesSpec)) semDoesCard

/-- THE SECOND FORM's CARD OF 'coxlesslaw25.SemStays'. -/
def semStaysUptoCard : Claim7 := { stood := { row := semStaysUptoRow, standIns := [], harness := (true, "646e98f270cb36904577657ba1e39f42b953f064568c8434ad0c7f1d01b09ffb"), looks := true }, kinds := [], alts := [], laidByText := true, laidKinds := [.wider, .wider, .wider, .data], laidTests := true, laidLooks := .later }
def SemStaysUptoCardSaid : Prop := Claim7.holds Tryz.pinned (.plain (OpenSpec.upto semStaysSpec)) semStaysUptoCard

/-- THE SECOND FORM's CARD OF 'coxlesslaw25.SemDoes'. -/
def semDoesUptoCard : Claim7 := { stood := { row := semDoesUptoRow, standIns := [], harness := (true, "646e98f270cb36904577657ba1e39f42b953f064568c8434ad0c7f1d01b09ffb"), looks := true }, kinds := [], alts := [], laidByText := true, laidKinds := [.wider, .wider, .wider, .data], laidTests := true, laidLooks := .later }
def SemDoesUptoCardSaid : Prop := Claim7.holds Tryz.pinned (.plain (OpenSpec.upto semDoesSpec)) semDoesUptoCard
end Rows
end Go.Proofs.YtoaakfgdebkkaaaGreatDoor
