/- The maps of names, as hooks; Reserved. -/
import Derived.Test.YtnmheejmdimldaaDoorPN2
set_option linter.unusedVariables false
set_option linter.unusedSimpArgs false
set_option linter.unusedSectionVars false
/- The maps of names, as hooks; Reserved. -/
namespace Go.V
open Go
set_option linter.unusedSimpArgs false
set_option linter.unusedVariables false
def entsW : List (List UInt8 × List AV) → Nat → List AEntry
  | [], _ => []
  | (k, v) :: l, i => ⟨.str k, .agg v, i⟩ :: entsW l (i + 1)
def rightsL : List (List UInt8 × List AV) := [([97, 100, 100], [(.int .u8 2), (.int .u8 7), (.int .i64 2), (.bool true)]), ([115, 117, 98], [(.int .u8 3), (.int .u8 0), (.int .i64 1), (.bool true)]), ([97, 110, 100], [(.int .u8 4), (.int .u8 0), (.int .i64 1), (.bool true)]), ([111, 114], [(.int .u8 5), (.int .u8 0), (.int .i64 1), (.bool true)]), ([120, 111, 114], [(.int .u8 6), (.int .u8 0), (.int .i64 1), (.bool true)]), ([109, 117, 120], [(.int .u8 14), (.int .u8 0), (.int .i64 3), (.bool false)]), ([97, 115, 108], [(.int .u8 15), (.int .u8 0), (.int .i64 4), (.bool false)]), ([108, 115, 114], [(.int .u8 16), (.int .u8 0), (.int .i64 4), (.bool false)]), ([97, 115, 114], [(.int .u8 17), (.int .u8 0), (.int .i64 4), (.bool false)]), ([109, 112, 121], [(.int .u8 18), (.int .u8 0), (.int .i64 1), (.bool false)]), ([99, 109, 112, 121], [(.int .u8 19), (.int .u8 0), (.int .i64 1), (.bool false)]), ([99, 109, 112, 121, 99], [(.int .u8 20), (.int .u8 0), (.int .i64 1), (.bool false)]), ([109, 101, 109, 119], [(.int .u8 21), (.int .u8 0), (.int .i64 5), (.bool false)]), ([109, 101, 109, 104], [(.int .u8 22), (.int .u8 0), (.int .i64 5), (.bool false)]), ([109, 101, 109, 98], [(.int .u8 23), (.int .u8 0), (.int .i64 5), (.bool false)])]
def comparesL : List (List UInt8 × List AV) := [([99, 109, 112, 46, 101, 113], [(.int .u8 10), (.int .u8 13), (.int .i64 2), (.bool false)]), ([99, 109, 112, 46, 103, 116], [(.int .u8 11), (.int .u8 0), (.int .i64 1), (.bool false)]), ([99, 109, 112, 46, 103, 116, 117], [(.int .u8 12), (.int .u8 0), (.int .i64 1), (.bool false)])]
def mapG (l : List (List UInt8 × List AV)) : List AV → Option (AV × List AObj)
  | [] => some (.map 0, [.map (entsW l 0) l.length])
  | _ => none
def findW (key : List UInt8) : List (List UInt8 × List AV) → Nat → Option (Nat × List AV)
  | [], _ => none
  | (k, v) :: l, i => if key = k then some (i, v) else findW key l (i + 1)
theorem find_entsW (key : List UInt8) : ∀ (l : List (List UInt8 × List AV)) (b i : Nat), findV .str (.str key) (entsW l b) i = some ((findW key l i).map fun x => (x.1, .agg x.2))
  | [], _, _ => rfl
  | (k, v) :: l, b, i => by
    simp only [entsW, findV, keyEq, findW]
    by_cases h : key = k
    · rw [(bytesEq_iff).2 h, if_pos h]; rfl
    · have : bytesEq key k = false := by
        cases e : bytesEq key k with
        | false => rfl
        | true => exact absurd (bytesEq_iff.1 e) h
      rw [this, if_neg h]
      exact find_entsW key l (b + 1) (i + 1)
theorem findW_mem {key : List UInt8} : ∀ {l : List (List UInt8 × List AV)} {i : Nat} {x : Nat × List AV}, findW key l i = some x → key ∈ l.map (·.1) ∧ x.2 ∈ l.map (·.2)
  | [], _, _, h => by cases h
  | (k, v) :: l, i, x, h => by
    simp only [findW] at h
    split at h
    · rename_i e; cases h; simp [e]
    · have := findW_mem h
      simp only [List.map_cons, List.mem_cons]
      exact ⟨.inr this.1, .inr this.2⟩
end Go.V
