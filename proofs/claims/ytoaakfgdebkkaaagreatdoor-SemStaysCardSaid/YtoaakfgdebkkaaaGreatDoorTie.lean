/-
  DERIVED. GIVEN WITH THE SEED: THE PROGRAM's TIES (one call each: nine closed facts by the kernel) AND EACH ROW's TIE, after the 31st guide's Derived/Test/Toyas{Tie, Card}.lean. No idea stands in it: it is a product of the set-up. Laid BY PROGRAM, IN A SANDBOX (cutbox-door.mjs). By AI agents, Wed Nov 11 2026. No macro, syntax, notation, axiom, sorry.
-/
import Derived.Test.YtoaakfgdebkkaaaGreatDoorRows
import Derived.LaidByTextLater
import Derived.SevenTiedAt
import Derived.LaidSub
import Derived.LaidOnce
namespace Go.Proofs.YtoaakfgdebkkaaaGreatDoor
open Go
set_option maxRecDepth 100000
theorem seatTie1 : Tryz.prog.laidByTextLater [("coxless/bits.ends", Rows.laid_coxless_bits_ends), ("coxless/bits.parseAt", Rows.laid_coxless_bits_parseAt), ("coxless/bits.upper", Rows.laid_coxless_bits_upper), ("coxless/sub.rows", Rows.laid_coxless_sub_rows)] [.wider, .wider, .wider, .data] true :=
  Program.laidByTextLater_by_one 71 8 91 (by kernel_rfl) (by kernel_rfl) (by kernel_rfl) (by kernel_rfl) (by kernel_rfl) (by kernel_rfl) (fun _ _ => by kernel_rfl)
theorem noOwnUnsafe : Tryz.pinned.checked.prog.headLifts.contains "ownunsafe" = false := by kernel_rfl
theorem tie : Tryz.prog.laidByTextLater [("coxless/bits.ends", Rows.laid_coxless_bits_ends), ("coxless/bits.parseAt", Rows.laid_coxless_bits_parseAt), ("coxless/bits.upper", Rows.laid_coxless_bits_upper), ("coxless/sub.rows", Rows.laid_coxless_sub_rows)] [.wider, .wider, .wider, .data] true :=
  Program.laidByTextLater.sub seatTie1 ["coxless/bits.ends", "coxless/bits.parseAt", "coxless/bits.upper", "coxless/sub.rows"] (by kernel_rfl) (by kernel_rfl)
theorem semStays_row_tie : Rows.semStaysRow.laidByTextAt .later Tryz.pinned [.wider, .wider, .wider, .data] true :=
  OpenClaim.laidByTextAt_later rfl rfl tie noOwnUnsafe
theorem semDoes_row_tie : Rows.semDoesRow.laidByTextAt .later Tryz.pinned [.wider, .wider, .wider, .data] true :=
  OpenClaim.laidByTextAt_later rfl rfl tie noOwnUnsafe
theorem semStaysUpto_row_tie : Rows.semStaysUptoRow.laidByTextAt .later Tryz.pinned [.wider, .wider, .wider, .data] true :=
  OpenClaim.laidByTextAt_later rfl rfl tie noOwnUnsafe
theorem semDoesUpto_row_tie : Rows.semDoesUptoRow.laidByTextAt .later Tryz.pinned [.wider, .wider, .wider, .data] true :=
  OpenClaim.laidByTextAt_later rfl rfl tie noOwnUnsafe
end Go.Proofs.YtoaakfgdebkkaaaGreatDoor
