/- A hook for strings.Join, out of the shelf's contract. -/
import Derived.Test.YtkjddipkaaelaaaDoorV52
import Derived.Shelf.Strings.OnBuilder
set_option linter.unusedVariables false
set_option linter.unusedSimpArgs false
set_option linter.unusedSectionVars false
/- A hook for strings.Join, out of the shelf's contract. -/
namespace Go.V
open Go
set_option linter.unusedSimpArgs false
set_option linter.unusedVariables false
open Go.RowKit Go.ChangeShapes Go.WideShapes Go.ChangeAt Go.Proofs Go.Shelf
def strsOf : List AV → Option (List (List UInt8))
  | [] => some []
  | .str b :: l => match strsOf l with
    | some r => some (b :: r)
    | none => none
  | _ => none
def joinL (sep : List UInt8) : List (List UInt8) → List UInt8
  | [] => []
  | x :: r => x ++ joinT sep r
where joinT (sep : List UInt8) : List (List UInt8) → List UInt8
  | [] => []
  | y :: r => sep ++ (y ++ joinT sep r)
def joinG (args : List AV) (s : St) : Option AV := match args with
  | [.slice a len _ _ es, .str sep] => match Nat.beq es 1 with
    | true => match s.readAt a len with
      | some l => match strsOf l with
        | some xs => match Nat.ble len 1000000 && Nat.ble (joinL sep xs).length 1000000 with
          | true => some (.str (joinL sep xs))
          | false => none
        | none => none
      | none => none
    | false => none
  | [.nilSlice, .str _] => some (.str [])
  | [.empty, .str _] => some (.str [])
  | _ => none
def joinH (args : List AV) (s : St) : Option (AV × St) := (joinG args s).map fun v => (v, s)
end Go.V
