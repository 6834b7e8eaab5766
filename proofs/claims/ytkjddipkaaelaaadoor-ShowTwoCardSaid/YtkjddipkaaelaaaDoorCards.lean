/-
  DERIVED. GIVEN WITH THE SEED: THE CARDS: each row of YtkjddipkaaelaaaDoorRows.lean that lists a variable, with what it lists TIED to the program's text (the seventh form; the later family's looks); each row that meets fmt, with fmt's text TOLD by the authors' own Lean function (tested against real Go, not proved from fmt's source: count such statements apart). THE CARD IS WHAT COUNTS. Prove the row's statement (the work); the ties are given (YtkjddipkaaelaaaDoorTie.lean); close each card by the builder's one call (the guide's Derived/Test/ToyasCard.lean, 'card_holds'). Laid BY PROGRAM, IN A SANDBOX (cutbox-door.mjs). By AI agents, Wed Nov 11 2026. No macro, syntax, notation, axiom, sorry.
-/
import Derived.Test.YtkjddipkaaelaaaDoorRows
import GoSem.ClaimSeven
namespace Go.Proofs.YtkjddipkaaelaaaDoor
namespace Rows

/-- THE TIED CARD OF 'coxlesslaw22.ShowTwo'. -/
def showTwoCard : Claim7 := { stood := { row := showTwoRow, standIns := [], harness := (true, "c88672ed88ec1a7ebfad5ab35aca41dfc40e40cf0b36ca19997aa8dd8397435f"), looks := false }, kinds := [], alts := [], laidByText := true, laidKinds := [.data, .data, .data], laidTests := true, laidLooks := .later }
def ShowTwoCardSaid : Prop := Claim7.holds Tryd.pinned (.plain (OpenSpec.ofChange showTwoSpec)) showTwoCard

/-- THE TIED CARD OF 'coxlesslaw22.ShowTells'. -/
def showTellsCard : Claim7 := { stood := { row := showTellsRow, standIns := [], harness := (true, "c88672ed88ec1a7ebfad5ab35aca41dfc40e40cf0b36ca19997aa8dd8397435f"), looks := false }, kinds := [], alts := [], laidByText := true, laidKinds := [.data, .data, .data], laidTests := true, laidLooks := .later }
def ShowTellsCardSaid : Prop := Claim7.holds Tryd.pinned (.plain (OpenSpec.ofChange showTellsSpec)) showTellsCard

/-- THE SECOND FORM's CARD OF 'coxlesslaw22.ShowTwo'. -/
def showTwoUptoCard : Claim7 := { stood := { row := showTwoUptoRow, standIns := [], harness := (true, "c88672ed88ec1a7ebfad5ab35aca41dfc40e40cf0b36ca19997aa8dd8397435f"), looks := false }, kinds := [], alts := [], laidByText := true, laidKinds := [.data, .data, .data], laidTests := true, laidLooks := .later }
def ShowTwoUptoCardSaid : Prop := Claim7.holds Tryd.pinned (.plain (OpenSpec.upto showTwoSpec)) showTwoUptoCard

/-- THE SECOND FORM's CARD OF 'coxlesslaw22.ShowTells'. -/
def showTellsUptoCard : Claim7 := { stood := { row := showTellsUptoRow, standIns := [], harness := (true, "c88672ed88ec1a7ebfad5ab35aca41dfc40e40cf0b36ca19997aa8dd8397435f"), looks := false }, kinds := [], alts := [], laidByText := true, laidKinds := [.data, .data, .data], laidTests := true, laidLooks := .later }
def ShowTellsUptoCardSaid : Prop := Claim7.holds Tryd.pinned (.plain (OpenSpec.upto showTellsSpec)) showTellsUptoCard
end Rows
end Go.Proofs.YtkjddipkaaelaaaDoor
