/- A bodyless function that changes nothing, as a hook; internal/bytealg.CountString. -/
import Derived.Test.YtoaakfgdebkkaaaGreatDoorV64
import Derived.Lib.Bytealg
set_option linter.unusedVariables false
set_option linter.unusedSimpArgs false
set_option linter.unusedSectionVars false
/- A bodyless function that changes nothing, as a hook; internal/bytealg.CountString. -/
namespace Go.V
open Go Go.RowKit

def fnH (g : List AV → Option AV) (args : List AV) (s : St) : Option (AV × St) := match g args with
 | some v => some (v, s)
 | none => none



def countStr : List AV → Option AV
 | [.str l, .int .u8 (.ofNat c)] => match Nat.blt c 256 with
  | true => some (.int .i64 (Int.ofNat (Lib.countByte l (UInt8.ofNat c))))
  | false => none
 | _ => none

end Go.V
