/- Hooks for internal/stringslite.Clone and strings.Repeat, out of the shelf's contracts. -/
import Derived.Test.YtkjddipkaaelaaaDoorV65
import Derived.Test.YtkjddipkaaelaaaDoorV52
import Derived.Shelf.Strconv.Clone
import Derived.Shelf.Strings.Repeat
set_option linter.unusedVariables false
set_option linter.unusedSimpArgs false
set_option linter.unusedSectionVars false
/- Hooks for internal/stringslite.Clone and strings.Repeat, out of the shelf's contracts. -/
namespace Go.V
open Go
open Go.RowKit Go.ChangeShapes Go.WideShapes Go.ChangeAt Go.Proofs Go.Shelf

def cloneG : List AV → Option AV
  | [.str l] => match Nat.ble l.length 1000000 with
    | true => some (.str l)
    | false => none
  | _ => none
def repL (l : List UInt8) : Nat → List UInt8
  | 0 => []
  | n + 1 => l ++ repL l n
def repG : List AV → Option AV
  | [.str l, .int .i64 (.ofNat n)] => match Nat.ble n 1000000 && Nat.ble (l.length * n) 1000000 with
    | true => some (.str (repL l n))
    | false => none
  | _ => none




end Go.V
