/-
  DERIVED. GIVEN WITH THE SEED: THE CARDS: each row of YtlpdekocilhciaaDoorRows.lean that lists a variable, with what it lists TIED to the program's text (the seventh form; the later family's looks); each row that meets fmt, with fmt's text TOLD by the authors' own Lean function (tested against real Go, not proved from fmt's source: count such statements apart). THE CARD IS WHAT COUNTS. Prove the row's statement (the work); the ties are given (YtlpdekocilhciaaDoorTie.lean); close each card by the builder's one call (the guide's Derived/Test/ToyasCard.lean, 'card_holds'). Laid BY PROGRAM, IN A SANDBOX (cutbox-door.mjs). By AI agents, Wed Nov 11 2026. No macro, syntax, notation, axiom, sorry.
-/
import Derived.Test.YtlpdekocilhciaaDoorRows
import GoSem.ClaimSeven
namespace Go.Proofs.YtlpdekocilhciaaDoor
namespace Rows

/-- THE TIED CARD OF 'coxlesslaw22.ShowTwo'. -/
def showTwoCard : Claim7 := { stood := { row := showTwoRow, standIns := [], harness := (true, "57ec38b6a0cc497d20b609b65488ecb51f3e3e000cc9cd7c1a9919c46a74e71d"), looks := false }, kinds := [], alts := [], laidByText := true, laidKinds := [.data, .data, .data], laidTests := true, laidLooks := .later }
def ShowTwoCardSaid : Prop := Claim7.holds Tryd.pinned (.plain (OpenSpec.ofChange showTwoSpec)) showTwoCard

/-- THE TIED CARD OF 'coxlesslaw22.ShowKnown'. -/
def showKnownCard : Claim7 := { stood := { row := showKnownRow, standIns := [], harness := (true, "57ec38b6a0cc497d20b609b65488ecb51f3e3e000cc9cd7c1a9919c46a74e71d"), looks := false }, kinds := [], alts := [], laidByText := true, laidKinds := [.data, .data, .data], laidTests := true, laidLooks := .later }
def ShowKnownCardSaid : Prop := Claim7.holds Tryd.pinned (.plain (OpenSpec.ofChange showKnownSpec)) showKnownCard

/-- THE TIED CARD OF 'coxlesslaw22.ShowTells'. -/
def showTellsCard : Claim7 := { stood := { row := showTellsRow, standIns := [], harness := (true, "57ec38b6a0cc497d20b609b65488ecb51f3e3e000cc9cd7c1a9919c46a74e71d"), looks := false }, kinds := [], alts := [], laidByText := true, laidKinds := [.data, .data, .data], laidTests := true, laidLooks := .later }
def ShowTellsCardSaid : Prop := Claim7.holds Tryd.pinned (.plain (OpenSpec.ofChange showTellsSpec)) showTellsCard

/-- THE SECOND FORM's CARD OF 'coxlesslaw22.ShowTwo'. -/
def showTwoUptoCard : Claim7 := { stood := { row := showTwoUptoRow, standIns := [], harness := (true, "57ec38b6a0cc497d20b609b65488ecb51f3e3e000cc9cd7c1a9919c46a74e71d"), looks := false }, kinds := [], alts := [], laidByText := true, laidKinds := [.data, .data, .data], laidTests := true, laidLooks := .later }
def ShowTwoUptoCardSaid : Prop := Claim7.holds Tryd.pinned (.plain (OpenSpec.upto showTwoSpec)) showTwoUptoCard

/-- THE SECOND FORM's CARD OF 'coxlesslaw22.ShowKnown'. -/
def showKnownUptoCard : Claim7 := { stood := { row := showKnownUptoRow, standIns := [], harness := (true, "57ec38b6a0cc497d20b609b65488ecb51f3e3e000cc9cd7c1a9919c46a74e71d"), looks := false }, kinds := [], alts := [], laidByText := true, laidKinds := [.data, .data, .data], laidTests := true, laidLooks := .later }
def ShowKnownUptoCardSaid : Prop := Claim7.holds Tryd.pinned (.plain (OpenSpec.upto showKnownSpec)) showKnownUptoCard

/-- THE SECOND FORM's CARD OF 'coxlesslaw22.ShowTells'. -/
def showTellsUptoCard : Claim7 := { stood := { row := showTellsUptoRow, standIns := [], harness := (true, "57ec38b6a0cc497d20b609b65488ecb51f3e3e000cc9cd7c1a9919c46a74e71d"), looks := false }, kinds := [], alts := [], laidByText := true, laidKinds := [.data, .data, .data], laidTests := true, laidLooks := .later }
def ShowTellsUptoCardSaid : Prop := Claim7.holds Tryd.pinned (.plain (OpenSpec.upto showTellsSpec)) showTellsUptoCard
end Rows
end Go.Proofs.YtlpdekocilhciaaDoor
