/- A hook for strconv.Atoi, out of the shelf's contracts: an error is a value that is not nil, of which nothing is read. -/
import Derived.Test.YtoaakfgdebkkaaaGreatDoorVF
import Derived.Shelf.Strconv.ErrVarAll
set_option linter.unusedVariables false
set_option linter.unusedSimpArgs false
set_option linter.unusedSectionVars false
/- A hook for strconv.Atoi, out of the shelf's contracts: an error is a value that is not nil, of which nothing is read. -/
namespace Go.V
open Go Go.RowKit Go.ChangeShapes Go.WideShapes Go.ChangeAt Go.Proofs Go.Shelf


/-- The one cell of a listed variable that holds a value of an interface's type. -/
def ifaceAt (s : St) (g : Nat) : Bool := match s.heap.get g with
 | some (.cells (.iface _ _ :: _) 0 _ _) => true
 | _ => false


def atoiH (gs gr te : Nat) (args : List AV) (s : St) : Option (AV × St) := match args with
 | [.str l] => match Nat.ble l.length 1000000 with
  | false => none
  | true => match Lib.atoiAll l with
   | .ok v => some (.tuple [.int .i64 v, .nilIface], s)
   | .range => match ifaceAt s gr with
    | true => some (.tuple [.int .i64 (Lib.atoiSat l), .iface te (.ptr ⟨s.next, 0, 0, 0⟩)], s.add (.cells [] 0 0 false))
    | false => none
   | _ => match ifaceAt s gs with
    | true => some (.tuple [.int .i64 0, .iface te (.ptr ⟨s.next, 0, 0, 0⟩)], s.add (.cells [] 0 0 false))
    | false => none
 | _ => none




end Go.V
