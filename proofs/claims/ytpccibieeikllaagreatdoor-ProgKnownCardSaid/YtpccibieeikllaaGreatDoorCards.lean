/-
  DERIVED. GIVEN WITH THE SEED: THE CARDS: each row of YtpccibieeikllaaGreatDoorRows.lean that lists a variable, with what it lists TIED to the program's text (the seventh form; the later family's looks); each row that meets fmt, with fmt's text TOLD by the authors' own Lean function (tested against real Go, not proved from fmt's source: count such statements apart). THE CARD IS WHAT COUNTS. Prove the row's statement (the work); the ties are given (YtpccibieeikllaaGreatDoorTie.lean); close each card by the builder's one call (the guide's Derived/Test/ToyasCard.lean, 'card_holds'). Laid BY PROGRAM, IN A SANDBOX (cutbox-door.mjs). By AI agents, Wed Nov 11 2026. No macro, syntax, notation, axiom, sorry.
-/
import Derived.Test.YtpccibieeikllaaGreatDoorRows
import GoSem.ClaimSeven
namespace Go.Proofs.YtpccibieeikllaaGreatDoor
namespace Rows

/-- THE TIED CARD OF 'coxlesslaw17.ProgKnown'. -/
def progKnownCard : Claim7 := { stood := { row := progKnownRow, standIns := [], harness := (true, "a61e2c87e21630063d4a85d4702c2af84f666113e21e013a341aa5e919ddf244"), looks := true }, kinds := [], alts := [], laidByText := true, laidKinds := [.data, .data, .data, .sentinel, .sentinel], laidTests := true, laidLooks := .later }
def ProgKnownCardSaid : Prop := Claim7.holds Tryz.pinned (.plain (OpenSpec.ofChange progKnownSpec)) progKnownCard

/-- THE TIED CARD OF 'coxlesslaw27.TraceKnown'. -/
def traceKnownCard : Claim7 := { stood := { row := traceKnownRow, standIns := [], harness := (true, "a61e2c87e21630063d4a85d4702c2af84f666113e21e013a341aa5e919ddf244"), looks := true }, kinds := [], alts := [], laidByText := true, laidKinds := [.wider, .wider, .wider, .wider, .data, .data, .data, .data], laidTests := true, laidLooks := .later }
def TraceKnownCardSaid : Prop := Claim7.holds Tryz.pinned (.plain (OpenSpec.ofChange traceKnownSpec)) traceKnownCard

/-- THE SECOND FORM's CARD OF 'coxlesslaw17.ProgKnown'. -/
def progKnownUptoCard : Claim7 := { stood := { row := progKnownUptoRow, standIns := [], harness := (true, "a61e2c87e21630063d4a85d4702c2af84f666113e21e013a341aa5e919ddf244"), looks := true }, kinds := [], alts := [], laidByText := true, laidKinds := [.data, .data, .data, .sentinel, .sentinel], laidTests := true, laidLooks := .later }
def ProgKnownUptoCardSaid : Prop := Claim7.holds Tryz.pinned (.plain (OpenSpec.upto progKnownSpec)) progKnownUptoCard

/-- THE SECOND FORM's CARD OF 'coxlesslaw27.TraceKnown'. -/
def traceKnownUptoCard : Claim7 := { stood := { row := traceKnownUptoRow, standIns := [], harness := (true, "a61e2c87e21630063d4a85d4702c2af84f666113e21e013a341aa5e919ddf244"), looks := true }, kinds := [], alts := [], laidByText := true, laidKinds := [.wider, .wider, .wider, .wider, .data, .data, .data, .data], laidTests := true, laidLooks := .later }
def TraceKnownUptoCardSaid : Prop := Claim7.holds Tryz.pinned (.plain (OpenSpec.upto traceKnownSpec)) traceKnownUptoCard
end Rows
end Go.Proofs.YtpccibieeikllaaGreatDoor
