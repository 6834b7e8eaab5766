/-
  DERIVED. GIVEN WITH THE SEED: THE CARDS: each row of YtdhhbompcfmpeaaGreatDoorRows.lean that lists a variable, with what it lists TIED to the program's text (the seventh form; the later family's looks); each row that meets fmt, with fmt's text TOLD by the authors' own Lean function (tested against real Go, not proved from fmt's source: count such statements apart). THE CARD IS WHAT COUNTS. Prove the row's statement (the work); the ties are given (YtdhhbompcfmpeaaGreatDoorTie.lean); close each card by the builder's one call (the guide's Derived/Test/ToyasCard.lean, 'card_holds'). Laid BY PROGRAM, IN A SANDBOX (cutbox-door.mjs). By AI agents, Wed Nov 11 2026. No macro, syntax, notation, axiom, sorry.
-/
import Derived.Test.YtdhhbompcfmpeaaGreatDoorRows
import GoSem.ClaimSeven
namespace Go.Proofs.YtdhhbompcfmpeaaGreatDoor
namespace Rows

/-- THE TIED CARD OF 'coxlesslaw25.SemStays'. -/
def semStaysCard : Claim7 := { stood := { row := semStaysRow, standIns := [], harness := (true, "891701e60136877e5ea6b69a9a5980cd6d5b0730dc48c29db2aa753212123c83"), looks := false }, kinds := [], alts := [], laidByText := true, laidKinds := [.wider, .wider, .wider, .data], laidTests := true, laidLooks := .later }
def SemStaysCardSaid : Prop := Claim7.holds Tryz.pinned (.plain (OpenSpec.ofChange semStaysSpec)) semStaysCard

/-- THE TIED CARD OF 'coxlesslaw26.CpuKnown'. -/
def cpuKnownCard : Claim7 := { stood := { row := cpuKnownRow, standIns := [], harness := (true, "891701e60136877e5ea6b69a9a5980cd6d5b0730dc48c29db2aa753212123c83"), looks := false }, kinds := [], alts := [], laidByText := true, laidKinds := [.wider, .wider, .wider, .wider, .data], laidTests := true, laidLooks := .later }
def CpuKnownCardSaid : Prop := Claim7.holds Tryz.pinned (.plain (OpenSpec.ofChange cpuKnownSpec)) cpuKnownCard

/-- THE SECOND FORM's CARD OF 'coxlesslaw25.SemStays'. -/
def semStaysUptoCard : Claim7 := { stood := { row := semStaysUptoRow, standIns := [], harness := (true, "891701e60136877e5ea6b69a9a5980cd6d5b0730dc48c29db2aa753212123c83"), looks := false }, kinds := [], alts := [], laidByText := true, laidKinds := [.wider, .wider, .wider, .data], laidTests := true, laidLooks := .later }
def SemStaysUptoCardSaid : Prop := Claim7.holds Tryz.pinned (.plain (OpenSpec.upto semStaysSpec)) semStaysUptoCard

/-- THE SECOND FORM's CARD OF 'coxlesslaw26.CpuKnown'. -/
def cpuKnownUptoCard : Claim7 := { stood := { row := cpuKnownUptoRow, standIns := [], harness := (true, "891701e60136877e5ea6b69a9a5980cd6d5b0730dc48c29db2aa753212123c83"), looks := false }, kinds := [], alts := [], laidByText := true, laidKinds := [.wider, .wider, .wider, .wider, .data], laidTests := true, laidLooks := .later }
def CpuKnownUptoCardSaid : Prop := Claim7.holds Tryz.pinned (.plain (OpenSpec.upto cpuKnownSpec)) cpuKnownUptoCard
end Rows
end Go.Proofs.YtdhhbompcfmpeaaGreatDoor
