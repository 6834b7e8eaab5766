/-
  DERIVED. GIVEN WITH THE SEED: THE CARDS: each row of YtpllnmhfcpnhnaaGreatDoorRows.lean that lists a variable, with what it lists TIED to the program's text (the seventh form; the later family's looks); each row that meets fmt, with fmt's text TOLD by the authors' own Lean function (tested against real Go, not proved from fmt's source: count such statements apart). THE CARD IS WHAT COUNTS. Prove the row's statement (the work); the ties are given (YtpllnmhfcpnhnaaGreatDoorTie.lean); close each card by the builder's one call (the guide's Derived/Test/ToyasCard.lean, 'card_holds'). Laid BY PROGRAM, IN A SANDBOX (cutbox-door.mjs). By AI agents, Wed Nov 11 2026. No macro, syntax, notation, axiom, sorry.
-/
import Derived.Test.YtpllnmhfcpnhnaaGreatDoorRows
import GoSem.ClaimSeven
namespace Go.Proofs.YtpllnmhfcpnhnaaGreatDoor
namespace Rows

/-- THE TIED CARD OF 'coxlesslaw21.AsmKnown'. -/
def asmKnownCard : Claim7 := { stood := { row := asmKnownRow, standIns := [], harness := (true, "254d3567b849b392c975094bdfe6f6334339eab665b753c2d6e3a7f94260ec9f"), looks := true }, kinds := [], alts := [], laidByText := true, laidKinds := [.wider, .wider, .wider, .wider, .data, .data, .data, .data, .sentinel, .sentinel], laidTests := true, laidLooks := .later }
def AsmKnownCardSaid : Prop := Claim7.holds Tryz.pinned (.plain (OpenSpec.ofChange asmKnownSpec)) asmKnownCard

/-- THE TIED CARD OF 'coxlesslaw30.FlowKnown'. -/
def flowKnownCard : Claim7 := { stood := { row := flowKnownRow, standIns := [], harness := (true, "254d3567b849b392c975094bdfe6f6334339eab665b753c2d6e3a7f94260ec9f"), looks := true }, kinds := [], alts := [], laidByText := true, laidKinds := [.wider, .wider, .wider, .wider, .data, .data, .data, .data, .sentinel, .sentinel], laidTests := true, laidLooks := .later }
def FlowKnownCardSaid : Prop := Claim7.holds Tryz.pinned (.plain (OpenSpec.ofChange flowKnownSpec)) flowKnownCard

/-- THE SECOND FORM's CARD OF 'coxlesslaw21.AsmKnown'. -/
def asmKnownUptoCard : Claim7 := { stood := { row := asmKnownUptoRow, standIns := [], harness := (true, "254d3567b849b392c975094bdfe6f6334339eab665b753c2d6e3a7f94260ec9f"), looks := true }, kinds := [], alts := [], laidByText := true, laidKinds := [.wider, .wider, .wider, .wider, .data, .data, .data, .data, .sentinel, .sentinel], laidTests := true, laidLooks := .later }
def AsmKnownUptoCardSaid : Prop := Claim7.holds Tryz.pinned (.plain (OpenSpec.upto asmKnownSpec)) asmKnownUptoCard

/-- THE SECOND FORM's CARD OF 'coxlesslaw30.FlowKnown'. -/
def flowKnownUptoCard : Claim7 := { stood := { row := flowKnownUptoRow, standIns := [], harness := (true, "254d3567b849b392c975094bdfe6f6334339eab665b753c2d6e3a7f94260ec9f"), looks := true }, kinds := [], alts := [], laidByText := true, laidKinds := [.wider, .wider, .wider, .wider, .data, .data, .data, .data, .sentinel, .sentinel], laidTests := true, laidLooks := .later }
def FlowKnownUptoCardSaid : Prop := Claim7.holds Tryz.pinned (.plain (OpenSpec.upto flowKnownSpec)) flowKnownUptoCard
end Rows
end Go.Proofs.YtpllnmhfcpnhnaaGreatDoor
