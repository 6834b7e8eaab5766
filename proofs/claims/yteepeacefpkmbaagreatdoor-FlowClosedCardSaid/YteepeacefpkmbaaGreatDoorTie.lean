/-
  DERIVED. GIVEN WITH THE SEED: THE PROGRAM's TIES (one call each: nine closed facts by the kernel) AND EACH ROW's TIE, after the 31st guide's Derived/Test/Toyas{Tie, Card}.lean. No idea stands in it: it is a product of the set-up. Laid BY PROGRAM, IN A SANDBOX (cutbox-door.mjs). By AI agents, Wed Nov 11 2026. No macro, syntax, notation, axiom, sorry.
-/
import Derived.Test.YteepeacefpkmbaaGreatDoorRows
import Derived.LaidByTextLater
import Derived.SevenTiedAt
import Derived.LaidSub
import Derived.LaidOnce
namespace Go.Proofs.YteepeacefpkmbaaGreatDoor
open Go
set_option maxRecDepth 100000
theorem seatTie1 : Tryz.prog.laidByTextLater [("coxless/bits.codeAt", Rows.laid_coxless_bits_codeAt), ("coxless/bits.ends", Rows.laid_coxless_bits_ends), ("coxless/bits.parseAt", Rows.laid_coxless_bits_parseAt), ("coxless/bits.upper", Rows.laid_coxless_bits_upper), ("math/bits.deBruijn32tab", Rows.laid_math_bits_deBruijn32tab), ("math/bits.deBruijn64tab", Rows.laid_math_bits_deBruijn64tab), ("internal/strconv.uint64pow10", Rows.laid_internal_strconv_uint64pow10), ("coxless/sub.rows", Rows.laid_coxless_sub_rows), ("strconv.ErrRange", Rows.laid_strconv_ErrRange), ("strconv.ErrSyntax", Rows.laid_strconv_ErrSyntax)] [.wider, .wider, .wider, .wider, .data, .data, .data, .data, .sentinel, .sentinel] true :=
  Program.laidByTextLater_by_one 129 8 91 (by kernel_rfl) (by kernel_rfl) (by kernel_rfl) (by kernel_rfl) (by kernel_rfl) (by kernel_rfl) (fun _ _ => by kernel_rfl)
theorem noOwnUnsafe : Tryz.pinned.checked.prog.headLifts.contains "ownunsafe" = false := by kernel_rfl
theorem tie : Tryz.prog.laidByTextLater [("coxless/bits.codeAt", Rows.laid_coxless_bits_codeAt), ("coxless/bits.ends", Rows.laid_coxless_bits_ends), ("coxless/bits.parseAt", Rows.laid_coxless_bits_parseAt), ("coxless/bits.upper", Rows.laid_coxless_bits_upper), ("math/bits.deBruijn32tab", Rows.laid_math_bits_deBruijn32tab), ("math/bits.deBruijn64tab", Rows.laid_math_bits_deBruijn64tab), ("internal/strconv.uint64pow10", Rows.laid_internal_strconv_uint64pow10), ("coxless/sub.rows", Rows.laid_coxless_sub_rows), ("strconv.ErrRange", Rows.laid_strconv_ErrRange), ("strconv.ErrSyntax", Rows.laid_strconv_ErrSyntax)] [.wider, .wider, .wider, .wider, .data, .data, .data, .data, .sentinel, .sentinel] true :=
  Program.laidByTextLater.sub seatTie1 ["coxless/bits.codeAt", "coxless/bits.ends", "coxless/bits.parseAt", "coxless/bits.upper", "math/bits.deBruijn32tab", "math/bits.deBruijn64tab", "internal/strconv.uint64pow10", "coxless/sub.rows", "strconv.ErrRange", "strconv.ErrSyntax"] (by kernel_rfl) (by kernel_rfl)
theorem flowReaches_row_tie : Rows.flowReachesRow.laidByTextAt .later Tryz.pinned [.wider, .wider, .wider, .wider, .data, .data, .data, .data, .sentinel, .sentinel] true :=
  OpenClaim.laidByTextAt_later rfl rfl tie noOwnUnsafe
theorem flowClosed_row_tie : Rows.flowClosedRow.laidByTextAt .later Tryz.pinned [.wider, .wider, .wider, .wider, .data, .data, .data, .data, .sentinel, .sentinel] true :=
  OpenClaim.laidByTextAt_later rfl rfl tie noOwnUnsafe
theorem flowReachesUpto_row_tie : Rows.flowReachesUptoRow.laidByTextAt .later Tryz.pinned [.wider, .wider, .wider, .wider, .data, .data, .data, .data, .sentinel, .sentinel] true :=
  OpenClaim.laidByTextAt_later rfl rfl tie noOwnUnsafe
theorem flowClosedUpto_row_tie : Rows.flowClosedUptoRow.laidByTextAt .later Tryz.pinned [.wider, .wider, .wider, .wider, .data, .data, .data, .data, .sentinel, .sentinel] true :=
  OpenClaim.laidByTextAt_later rfl rfl tie noOwnUnsafe
end Go.Proofs.YteepeacefpkmbaaGreatDoor
