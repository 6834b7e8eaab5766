/- show's document: Inst. -/
import Derived.Test.YtkjddipkaaelaaaDoorVZ
import Derived.Test.YtkjddipkaaelaaaDoorSC
import Derived.Test.YtkjddipkaaelaaaDoorSD
import Derived.KernelRfl
set_option linter.unusedVariables false
set_option linter.unusedSimpArgs false
set_option linter.unusedSectionVars false
/- show's document: Inst. -/
/- show's document: Inst. -/
namespace Go.V
open Go
set_option linter.unusedSimpArgs false
set_option linter.unusedVariables false
section
open Z
abbrev rS3l1 : ICode := .seq (R [(m 65 6),(m 4 65)]) .ret
abbrev rS3l0 : ICode := .loop (q (q (R [(m 39 8),(m 40 7),(o 41 (.lenStr t40)),(o 42 (.bin .lss t39 t41))]) (.cond t42 .skip (.exit 0))) (q (.block 1 (q (.regionP [(la 46 11 2),(m 47 7),(m 48 8),(o 49 (.idxStr t47 t48)),(m 50 1),(o 51 (.call 23 [t46,t49,t50])),(m 45 51),(x 52 45 0),(x 53 45 1),(m 9 52),(m 10 53)]) (q (R [(m 54 10)]) (.cond t54 (R [(m 55 6),(m 56 9),(o 57 (.bin .add t55 t56)),(m 6 57)]) (R [(m 58 6),(m 59 7),(m 60 8),(m 61 8),(o 62 (.bin .add t61 (I 1))),(o 63 (.sliceStr t59 (some t60) (some t62))),(o 64 (.bin .add t58 t63)),(m 6 64)]))))) (R [(m 43 8),(o 44 (.bin .add t43 (I 1))),(m 8 44)])))
end
open Z in def ir9 : IFunc := ⟨66,[.tmp 4],(q (R [(o 2 (.box t0)),(o 4 (.move (sc [])))]) (q (q (R [(la 11 11 2),(o 12 (.call 20 [t11])),(o 13 (.un .not t12))]) (.cond t13 (q (R [(o 4 (.move (sc [])))]) .ret) .skip)) (q (R [(o 14 (.buildSlice 5 1 [(s [])] [(0,1,(sc [])),(1,1,(sc [105,102,32,40,112])),(2,1,(sc [105,102,32,40,33,112])),(3,1,(sc [105,102,32,40,112])),(4,1,(sc [105,102,32,40,33,112]))])),(m 5 14)]) (q (R [(m 15 5),(f 16 6 2),(l 17 1 16),(ix 18 1 15 17),(l 19 1 18),(m 6 19)]) (q (q (R [(f 20 6 2),(l 21 1 20),(o 22 (.bin .gtr t21 (B 0)))]) (.cond t22 (q (R [(m 23 6),(f 24 5 2),(l 25 1 24),(o 26 (.conv (.intInt .i64) t25)),(o 27 (.call 21 [t26,(I 10)])),(o 28 (.bin .add t23 t27)),(m 6 28)]) (q (q (R [(f 29 6 2),(l 30 1 29),(o 31 (.bin .gtr t30 (B 2)))]) (.cond t31 (R [(m 32 6),(o 33 (.bin .add t32 (sc [46,110,101,119]))),(m 6 33)]) .skip)) (R [(m 34 6),(o 35 (.bin .add t34 (sc [41,32]))),(m 6 35)]))) .skip)) (q (R [(f 36 0 2),(l 37 1 36),(o 38 (.call 22 [t37])),(m 7 38)]) (q (q (R [(mi 8 0)]) (.block 0 rS3l0)) rS3l1)))))))⟩
def putG (args : List AV) : Option AV := match args with
  | [x, .int .u8 c, .str nm] => match getIn x with
    | some i => match putOk i nm && (!decide (c = 71) || decide (0 ≤ i.imm)) with
      | true => some (putR i nm c)
      | false => none
    | none => none
  | _ => none
def chS (i : In) (nm : List UInt8) (c : UInt8) : List UInt8 := if (putS i nm (c.toNat : Int)).2 = true then (putS i nm (c.toNat : Int)).1 else [c]
def flatS (i : In) (nm : List UInt8) : List UInt8 → List UInt8
  | [] => []
  | c :: l => chS i nm c ++ flatS i nm l
def rinstS (i : In) (nm : List UInt8) : List UInt8 := if rightF i = true then condS i ++ flatS i nm (patS i.op) else []
section
variable {T : Tab}
end
theorem rt_row {i : In} (h : rightF i = true) : ∃ r, isaRow i.op = some r := by
  obtain ⟨r, h1, _⟩ := right_row h
  exact ⟨r, h1⟩
theorem rt_op {i : In} (h : rightF i = true) : 1 ≤ i.op ∧ i.op ≤ 31 := by
  obtain ⟨r, h1⟩ := rt_row h
  exact isaRow_range h1
theorem rt_mode {i : In} (h : rightF i = true) : i.mode ≤ 4 := by
  obtain ⟨_, h2, h3, _⟩ := (right_iff i).1 h
  rcases h3.2.1 with h | h
  · unfold anyK at h
    obtain ⟨f, hf, hk⟩ := List.any_eq_true.1 h
    have := h2 f hf
    simp [holdsSpec, of_decide_eq_true hk] at this
    exact this
  · have h : i.mode = 0 := h
    omega
end Go.V
/- show's document: Inst, whole. -/
namespace Go.V
open Go
set_option linter.unusedSimpArgs false
set_option linter.unusedVariables false
section
variable {T : Tab}
def refRR (i : In) : AV := .bool (refF i)
end
end Go.V
/- show: what is printed is what the document's patterns say, op by op. -/
namespace Go.V
open Go
set_option linter.unusedSimpArgs false
set_option linter.unusedVariables false
theorem ch32 (i : In) (nm : List UInt8) : chS i nm 32 = [32] := by simp [chS, putS]
theorem ch40 (i : In) (nm : List UInt8) : chS i nm 40 = [40] := by simp [chS, putS]
theorem ch41 (i : In) (nm : List UInt8) : chS i nm 41 = [41] := by simp [chS, putS]
theorem ch43 (i : In) (nm : List UInt8) : chS i nm 43 = [43] := by simp [chS, putS]
theorem ch44 (i : In) (nm : List UInt8) : chS i nm 44 = [44] := by simp [chS, putS]
theorem ch46 (i : In) (nm : List UInt8) : chS i nm 46 = [46] := by simp [chS, putS]
theorem ch61 (i : In) (nm : List UInt8) : chS i nm 61 = [61] := by simp [chS, putS]
theorem ch67 (i : In) (nm : List UInt8) : chS i nm 67 = countS i.count := by simp [chS, putS]
theorem ch68 (i : In) (nm : List UInt8) : chS i nm 68 = regS i.d := by simp [chS, putS]
theorem ch71 (i : In) (nm : List UInt8) : chS i nm 71 = targetS i nm := by simp [chS, putS]
theorem ch73 (i : In) (nm : List UInt8) : chS i nm 73 = immS i := by simp [chS, putS]
theorem ch78 (i : In) (nm : List UInt8) : chS i nm 78 = Lib.itoa i.n := by simp [chS, putS]
theorem ch80 (i : In) (nm : List UInt8) : chS i nm 80 = predS i.pred := by simp [chS, putS]
theorem ch81 (i : In) (nm : List UInt8) : chS i nm 81 = predS i.d := by simp [chS, putS]
theorem ch83 (i : In) (nm : List UInt8) : chS i nm 83 = regS i.s := by simp [chS, putS]
theorem ch84 (i : In) (nm : List UInt8) : chS i nm 84 = regS i.t := by simp [chS, putS]
theorem ch87 (i : In) (nm : List UInt8) : chS i nm 87 = (if i.nw = true then [46, 110, 101, 119] else []) := by simp [chS, putS]
theorem ch97 (i : In) (nm : List UInt8) : chS i nm 97 = [97] := by simp [chS, putS]
theorem ch98 (i : In) (nm : List UInt8) : chS i nm 98 = [98] := by simp [chS, putS]
theorem ch99 (i : In) (nm : List UInt8) : chS i nm 99 = [99] := by simp [chS, putS]
theorem ch100 (i : In) (nm : List UInt8) : chS i nm 100 = [100] := by simp [chS, putS]
theorem ch101 (i : In) (nm : List UInt8) : chS i nm 101 = [101] := by simp [chS, putS]
theorem ch103 (i : In) (nm : List UInt8) : chS i nm 103 = [103] := by simp [chS, putS]
theorem ch104 (i : In) (nm : List UInt8) : chS i nm 104 = [104] := by simp [chS, putS]
theorem ch106 (i : In) (nm : List UInt8) : chS i nm 106 = [106] := by simp [chS, putS]
theorem ch108 (i : In) (nm : List UInt8) : chS i nm 108 = [108] := by simp [chS, putS]
theorem ch109 (i : In) (nm : List UInt8) : chS i nm 109 = [109] := by simp [chS, putS]
theorem ch110 (i : In) (nm : List UInt8) : chS i nm 110 = [110] := by simp [chS, putS]
theorem ch111 (i : In) (nm : List UInt8) : chS i nm 111 = [111] := by simp [chS, putS]
theorem ch112 (i : In) (nm : List UInt8) : chS i nm 112 = [112] := by simp [chS, putS]
theorem ch113 (i : In) (nm : List UInt8) : chS i nm 113 = [113] := by simp [chS, putS]
theorem ch114 (i : In) (nm : List UInt8) : chS i nm 114 = [114] := by simp [chS, putS]
theorem ch115 (i : In) (nm : List UInt8) : chS i nm 115 = [115] := by simp [chS, putS]
theorem ch116 (i : In) (nm : List UInt8) : chS i nm 116 = [116] := by simp [chS, putS]
theorem ch117 (i : In) (nm : List UInt8) : chS i nm 117 = [117] := by simp [chS, putS]
theorem ch119 (i : In) (nm : List UInt8) : chS i nm 119 = [119] := by simp [chS, putS]
theorem ch120 (i : In) (nm : List UInt8) : chS i nm 120 = [120] := by simp [chS, putS]
theorem ch121 (i : In) (nm : List UInt8) : chS i nm 121 = [121] := by simp [chS, putS]
theorem law1 {i : In} {nm : List UInt8} (hR : rightF i = true) (hk : i.op = 1) : bareS i (namedS i nm) = flatS i nm (patS i.op) := by
  have a1 : classF 1 = 1 := by decide +kernel
  have a2 : hasF 1 4 = false := by decide +kernel
  have a3 : hasF 1 10 = false := by decide +kernel
  have a4 : wordS 1 = [] := by decide +kernel
  have a5 : patS 1 = [110, 111, 112] := by decide +kernel
  simp [bareS, branchS, loopS, storeS, placeS, rightS, argS, namedS, writesPredF, flatS, hk, hR, a1, a2, a3, a4, a5, ch32, ch40, ch41, ch43, ch44, ch46, ch61, ch67, ch68, ch71, ch73, ch78, ch80, ch81, ch83, ch84, ch87, ch97, ch98, ch99, ch100, ch101, ch103, ch104, ch106, ch108, ch109, ch110, ch111, ch112, ch113, ch114, ch115, ch116, ch117, ch119, ch120, ch121]
theorem law2 {i : In} {nm : List UInt8} (hR : rightF i = true) (hk : i.op = 2) : bareS i (namedS i nm) = flatS i nm (patS i.op) := by
  have a1 : classF 2 = 1 := by decide +kernel
  have a2 : hasF 2 4 = false := by decide +kernel
  have a3 : hasF 2 10 = false := by decide +kernel
  have a4 : wordS 2 = [97, 100, 100] := by decide +kernel
  have a5 : patS 2 = [68, 32, 61, 32, 97, 100, 100, 40, 83, 44, 84, 41] := by decide +kernel
  simp [bareS, branchS, loopS, storeS, placeS, rightS, argS, namedS, writesPredF, flatS, hk, hR, a1, a2, a3, a4, a5, ch32, ch40, ch41, ch43, ch44, ch46, ch61, ch67, ch68, ch71, ch73, ch78, ch80, ch81, ch83, ch84, ch87, ch97, ch98, ch99, ch100, ch101, ch103, ch104, ch106, ch108, ch109, ch110, ch111, ch112, ch113, ch114, ch115, ch116, ch117, ch119, ch120, ch121]
theorem law3 {i : In} {nm : List UInt8} (hR : rightF i = true) (hk : i.op = 3) : bareS i (namedS i nm) = flatS i nm (patS i.op) := by
  have a1 : classF 3 = 1 := by decide +kernel
  have a2 : hasF 3 4 = false := by decide +kernel
  have a3 : hasF 3 10 = false := by decide +kernel
  have a4 : wordS 3 = [115, 117, 98] := by decide +kernel
  have a5 : patS 3 = [68, 32, 61, 32, 115, 117, 98, 40, 83, 44, 84, 41] := by decide +kernel
  simp [bareS, branchS, loopS, storeS, placeS, rightS, argS, namedS, writesPredF, flatS, hk, hR, a1, a2, a3, a4, a5, ch32, ch40, ch41, ch43, ch44, ch46, ch61, ch67, ch68, ch71, ch73, ch78, ch80, ch81, ch83, ch84, ch87, ch97, ch98, ch99, ch100, ch101, ch103, ch104, ch106, ch108, ch109, ch110, ch111, ch112, ch113, ch114, ch115, ch116, ch117, ch119, ch120, ch121]
theorem law4 {i : In} {nm : List UInt8} (hR : rightF i = true) (hk : i.op = 4) : bareS i (namedS i nm) = flatS i nm (patS i.op) := by
  have a1 : classF 4 = 1 := by decide +kernel
  have a2 : hasF 4 4 = false := by decide +kernel
  have a3 : hasF 4 10 = false := by decide +kernel
  have a4 : wordS 4 = [97, 110, 100] := by decide +kernel
  have a5 : patS 4 = [68, 32, 61, 32, 97, 110, 100, 40, 83, 44, 84, 41] := by decide +kernel
  simp [bareS, branchS, loopS, storeS, placeS, rightS, argS, namedS, writesPredF, flatS, hk, hR, a1, a2, a3, a4, a5, ch32, ch40, ch41, ch43, ch44, ch46, ch61, ch67, ch68, ch71, ch73, ch78, ch80, ch81, ch83, ch84, ch87, ch97, ch98, ch99, ch100, ch101, ch103, ch104, ch106, ch108, ch109, ch110, ch111, ch112, ch113, ch114, ch115, ch116, ch117, ch119, ch120, ch121]
theorem law5 {i : In} {nm : List UInt8} (hR : rightF i = true) (hk : i.op = 5) : bareS i (namedS i nm) = flatS i nm (patS i.op) := by
  have a1 : classF 5 = 1 := by decide +kernel
  have a2 : hasF 5 4 = false := by decide +kernel
  have a3 : hasF 5 10 = false := by decide +kernel
  have a4 : wordS 5 = [111, 114] := by decide +kernel
  have a5 : patS 5 = [68, 32, 61, 32, 111, 114, 40, 83, 44, 84, 41] := by decide +kernel
  simp [bareS, branchS, loopS, storeS, placeS, rightS, argS, namedS, writesPredF, flatS, hk, hR, a1, a2, a3, a4, a5, ch32, ch40, ch41, ch43, ch44, ch46, ch61, ch67, ch68, ch71, ch73, ch78, ch80, ch81, ch83, ch84, ch87, ch97, ch98, ch99, ch100, ch101, ch103, ch104, ch106, ch108, ch109, ch110, ch111, ch112, ch113, ch114, ch115, ch116, ch117, ch119, ch120, ch121]
theorem law6 {i : In} {nm : List UInt8} (hR : rightF i = true) (hk : i.op = 6) : bareS i (namedS i nm) = flatS i nm (patS i.op) := by
  have a1 : classF 6 = 1 := by decide +kernel
  have a2 : hasF 6 4 = false := by decide +kernel
  have a3 : hasF 6 10 = false := by decide +kernel
  have a4 : wordS 6 = [120, 111, 114] := by decide +kernel
  have a5 : patS 6 = [68, 32, 61, 32, 120, 111, 114, 40, 83, 44, 84, 41] := by decide +kernel
  simp [bareS, branchS, loopS, storeS, placeS, rightS, argS, namedS, writesPredF, flatS, hk, hR, a1, a2, a3, a4, a5, ch32, ch40, ch41, ch43, ch44, ch46, ch61, ch67, ch68, ch71, ch73, ch78, ch80, ch81, ch83, ch84, ch87, ch97, ch98, ch99, ch100, ch101, ch103, ch104, ch106, ch108, ch109, ch110, ch111, ch112, ch113, ch114, ch115, ch116, ch117, ch119, ch120, ch121]
theorem law7 {i : In} {nm : List UInt8} (hR : rightF i = true) (hk : i.op = 7) : bareS i (namedS i nm) = flatS i nm (patS i.op) := by
  have a1 : classF 7 = 1 := by decide +kernel
  have a2 : hasF 7 4 = false := by decide +kernel
  have a3 : hasF 7 10 = false := by decide +kernel
  have a4 : wordS 7 = [97, 100, 100] := by decide +kernel
  have a5 : patS 7 = [68, 32, 61, 32, 97, 100, 100, 40, 83, 44, 73, 41] := by decide +kernel
  simp [bareS, branchS, loopS, storeS, placeS, rightS, argS, namedS, writesPredF, flatS, hk, hR, a1, a2, a3, a4, a5, ch32, ch40, ch41, ch43, ch44, ch46, ch61, ch67, ch68, ch71, ch73, ch78, ch80, ch81, ch83, ch84, ch87, ch97, ch98, ch99, ch100, ch101, ch103, ch104, ch106, ch108, ch109, ch110, ch111, ch112, ch113, ch114, ch115, ch116, ch117, ch119, ch120, ch121]
theorem law8 {i : In} {nm : List UInt8} (hR : rightF i = true) (hk : i.op = 8) : bareS i (namedS i nm) = flatS i nm (patS i.op) := by
  have a1 : classF 8 = 1 := by decide +kernel
  have a2 : hasF 8 4 = false := by decide +kernel
  have a3 : hasF 8 10 = false := by decide +kernel
  have a4 : wordS 8 = [] := by decide +kernel
  have a5 : patS 8 = [68, 32, 61, 32, 73] := by decide +kernel
  simp [bareS, branchS, loopS, storeS, placeS, rightS, argS, namedS, writesPredF, flatS, hk, hR, a1, a2, a3, a4, a5, ch32, ch40, ch41, ch43, ch44, ch46, ch61, ch67, ch68, ch71, ch73, ch78, ch80, ch81, ch83, ch84, ch87, ch97, ch98, ch99, ch100, ch101, ch103, ch104, ch106, ch108, ch109, ch110, ch111, ch112, ch113, ch114, ch115, ch116, ch117, ch119, ch120, ch121]
theorem law9 {i : In} {nm : List UInt8} (hR : rightF i = true) (hk : i.op = 9) : bareS i (namedS i nm) = flatS i nm (patS i.op) := by
  have a1 : classF 9 = 1 := by decide +kernel
  have a2 : hasF 9 4 = false := by decide +kernel
  have a3 : hasF 9 10 = false := by decide +kernel
  have a4 : wordS 9 = [] := by decide +kernel
  have a5 : patS 9 = [68, 32, 61, 32, 83] := by decide +kernel
  simp [bareS, branchS, loopS, storeS, placeS, rightS, argS, namedS, writesPredF, flatS, hk, hR, a1, a2, a3, a4, a5, ch32, ch40, ch41, ch43, ch44, ch46, ch61, ch67, ch68, ch71, ch73, ch78, ch80, ch81, ch83, ch84, ch87, ch97, ch98, ch99, ch100, ch101, ch103, ch104, ch106, ch108, ch109, ch110, ch111, ch112, ch113, ch114, ch115, ch116, ch117, ch119, ch120, ch121]
theorem law10 {i : In} {nm : List UInt8} (hR : rightF i = true) (hk : i.op = 10) : bareS i (namedS i nm) = flatS i nm (patS i.op) := by
  have a1 : classF 10 = 1 := by decide +kernel
  have a2 : hasF 10 4 = true := by decide +kernel
  have a3 : hasF 10 10 = false := by decide +kernel
  have a4 : wordS 10 = [99, 109, 112, 46, 101, 113] := by decide +kernel
  have a5 : patS 10 = [81, 32, 61, 32, 99, 109, 112, 46, 101, 113, 40, 83, 44, 84, 41] := by decide +kernel
  simp [bareS, branchS, loopS, storeS, placeS, rightS, argS, namedS, writesPredF, flatS, hk, hR, a1, a2, a3, a4, a5, ch32, ch40, ch41, ch43, ch44, ch46, ch61, ch67, ch68, ch71, ch73, ch78, ch80, ch81, ch83, ch84, ch87, ch97, ch98, ch99, ch100, ch101, ch103, ch104, ch106, ch108, ch109, ch110, ch111, ch112, ch113, ch114, ch115, ch116, ch117, ch119, ch120, ch121]
theorem law11 {i : In} {nm : List UInt8} (hR : rightF i = true) (hk : i.op = 11) : bareS i (namedS i nm) = flatS i nm (patS i.op) := by
  have a1 : classF 11 = 1 := by decide +kernel
  have a2 : hasF 11 4 = true := by decide +kernel
  have a3 : hasF 11 10 = false := by decide +kernel
  have a4 : wordS 11 = [99, 109, 112, 46, 103, 116] := by decide +kernel
  have a5 : patS 11 = [81, 32, 61, 32, 99, 109, 112, 46, 103, 116, 40, 83, 44, 84, 41] := by decide +kernel
  simp [bareS, branchS, loopS, storeS, placeS, rightS, argS, namedS, writesPredF, flatS, hk, hR, a1, a2, a3, a4, a5, ch32, ch40, ch41, ch43, ch44, ch46, ch61, ch67, ch68, ch71, ch73, ch78, ch80, ch81, ch83, ch84, ch87, ch97, ch98, ch99, ch100, ch101, ch103, ch104, ch106, ch108, ch109, ch110, ch111, ch112, ch113, ch114, ch115, ch116, ch117, ch119, ch120, ch121]
theorem law12 {i : In} {nm : List UInt8} (hR : rightF i = true) (hk : i.op = 12) : bareS i (namedS i nm) = flatS i nm (patS i.op) := by
  have a1 : classF 12 = 1 := by decide +kernel
  have a2 : hasF 12 4 = true := by decide +kernel
  have a3 : hasF 12 10 = false := by decide +kernel
  have a4 : wordS 12 = [99, 109, 112, 46, 103, 116, 117] := by decide +kernel
  have a5 : patS 12 = [81, 32, 61, 32, 99, 109, 112, 46, 103, 116, 117, 40, 83, 44, 84, 41] := by decide +kernel
  simp [bareS, branchS, loopS, storeS, placeS, rightS, argS, namedS, writesPredF, flatS, hk, hR, a1, a2, a3, a4, a5, ch32, ch40, ch41, ch43, ch44, ch46, ch61, ch67, ch68, ch71, ch73, ch78, ch80, ch81, ch83, ch84, ch87, ch97, ch98, ch99, ch100, ch101, ch103, ch104, ch106, ch108, ch109, ch110, ch111, ch112, ch113, ch114, ch115, ch116, ch117, ch119, ch120, ch121]
theorem law13 {i : In} {nm : List UInt8} (hR : rightF i = true) (hk : i.op = 13) : bareS i (namedS i nm) = flatS i nm (patS i.op) := by
  have a1 : classF 13 = 1 := by decide +kernel
  have a2 : hasF 13 4 = true := by decide +kernel
  have a3 : hasF 13 10 = false := by decide +kernel
  have a4 : wordS 13 = [99, 109, 112, 46, 101, 113] := by decide +kernel
  have a5 : patS 13 = [81, 32, 61, 32, 99, 109, 112, 46, 101, 113, 40, 83, 44, 73, 41] := by decide +kernel
  simp [bareS, branchS, loopS, storeS, placeS, rightS, argS, namedS, writesPredF, flatS, hk, hR, a1, a2, a3, a4, a5, ch32, ch40, ch41, ch43, ch44, ch46, ch61, ch67, ch68, ch71, ch73, ch78, ch80, ch81, ch83, ch84, ch87, ch97, ch98, ch99, ch100, ch101, ch103, ch104, ch106, ch108, ch109, ch110, ch111, ch112, ch113, ch114, ch115, ch116, ch117, ch119, ch120, ch121]
theorem law14 {i : In} {nm : List UInt8} (hR : rightF i = true) (hk : i.op = 14) : bareS i (namedS i nm) = flatS i nm (patS i.op) := by
  have a1 : classF 14 = 1 := by decide +kernel
  have a2 : hasF 14 4 = false := by decide +kernel
  have a3 : hasF 14 10 = false := by decide +kernel
  have a4 : wordS 14 = [109, 117, 120] := by decide +kernel
  have a5 : patS 14 = [68, 32, 61, 32, 109, 117, 120, 40, 80, 44, 83, 44, 84, 41] := by decide +kernel
  simp [bareS, branchS, loopS, storeS, placeS, rightS, argS, namedS, writesPredF, flatS, hk, hR, a1, a2, a3, a4, a5, ch32, ch40, ch41, ch43, ch44, ch46, ch61, ch67, ch68, ch71, ch73, ch78, ch80, ch81, ch83, ch84, ch87, ch97, ch98, ch99, ch100, ch101, ch103, ch104, ch106, ch108, ch109, ch110, ch111, ch112, ch113, ch114, ch115, ch116, ch117, ch119, ch120, ch121]
theorem law15 {i : In} {nm : List UInt8} (hR : rightF i = true) (hk : i.op = 15) : bareS i (namedS i nm) = flatS i nm (patS i.op) := by
  have a1 : classF 15 = 2 := by decide +kernel
  have a2 : hasF 15 4 = false := by decide +kernel
  have a3 : hasF 15 10 = false := by decide +kernel
  have a4 : wordS 15 = [97, 115, 108] := by decide +kernel
  have a5 : patS 15 = [68, 32, 61, 32, 97, 115, 108, 40, 83, 44, 73, 41] := by decide +kernel
  simp [bareS, branchS, loopS, storeS, placeS, rightS, argS, namedS, writesPredF, flatS, hk, hR, a1, a2, a3, a4, a5, ch32, ch40, ch41, ch43, ch44, ch46, ch61, ch67, ch68, ch71, ch73, ch78, ch80, ch81, ch83, ch84, ch87, ch97, ch98, ch99, ch100, ch101, ch103, ch104, ch106, ch108, ch109, ch110, ch111, ch112, ch113, ch114, ch115, ch116, ch117, ch119, ch120, ch121]
theorem law16 {i : In} {nm : List UInt8} (hR : rightF i = true) (hk : i.op = 16) : bareS i (namedS i nm) = flatS i nm (patS i.op) := by
  have a1 : classF 16 = 2 := by decide +kernel
  have a2 : hasF 16 4 = false := by decide +kernel
  have a3 : hasF 16 10 = false := by decide +kernel
  have a4 : wordS 16 = [108, 115, 114] := by decide +kernel
  have a5 : patS 16 = [68, 32, 61, 32, 108, 115, 114, 40, 83, 44, 73, 41] := by decide +kernel
  simp [bareS, branchS, loopS, storeS, placeS, rightS, argS, namedS, writesPredF, flatS, hk, hR, a1, a2, a3, a4, a5, ch32, ch40, ch41, ch43, ch44, ch46, ch61, ch67, ch68, ch71, ch73, ch78, ch80, ch81, ch83, ch84, ch87, ch97, ch98, ch99, ch100, ch101, ch103, ch104, ch106, ch108, ch109, ch110, ch111, ch112, ch113, ch114, ch115, ch116, ch117, ch119, ch120, ch121]
theorem law17 {i : In} {nm : List UInt8} (hR : rightF i = true) (hk : i.op = 17) : bareS i (namedS i nm) = flatS i nm (patS i.op) := by
  have a1 : classF 17 = 2 := by decide +kernel
  have a2 : hasF 17 4 = false := by decide +kernel
  have a3 : hasF 17 10 = false := by decide +kernel
  have a4 : wordS 17 = [97, 115, 114] := by decide +kernel
  have a5 : patS 17 = [68, 32, 61, 32, 97, 115, 114, 40, 83, 44, 73, 41] := by decide +kernel
  simp [bareS, branchS, loopS, storeS, placeS, rightS, argS, namedS, writesPredF, flatS, hk, hR, a1, a2, a3, a4, a5, ch32, ch40, ch41, ch43, ch44, ch46, ch61, ch67, ch68, ch71, ch73, ch78, ch80, ch81, ch83, ch84, ch87, ch97, ch98, ch99, ch100, ch101, ch103, ch104, ch106, ch108, ch109, ch110, ch111, ch112, ch113, ch114, ch115, ch116, ch117, ch119, ch120, ch121]
theorem law18 {i : In} {nm : List UInt8} (hR : rightF i = true) (hk : i.op = 18) : bareS i (namedS i nm) = flatS i nm (patS i.op) := by
  have a1 : classF 18 = 2 := by decide +kernel
  have a2 : hasF 18 4 = false := by decide +kernel
  have a3 : hasF 18 10 = false := by decide +kernel
  have a4 : wordS 18 = [109, 112, 121] := by decide +kernel
  have a5 : patS 18 = [68, 32, 61, 32, 109, 112, 121, 40, 83, 44, 84, 41] := by decide +kernel
  simp [bareS, branchS, loopS, storeS, placeS, rightS, argS, namedS, writesPredF, flatS, hk, hR, a1, a2, a3, a4, a5, ch32, ch40, ch41, ch43, ch44, ch46, ch61, ch67, ch68, ch71, ch73, ch78, ch80, ch81, ch83, ch84, ch87, ch97, ch98, ch99, ch100, ch101, ch103, ch104, ch106, ch108, ch109, ch110, ch111, ch112, ch113, ch114, ch115, ch116, ch117, ch119, ch120, ch121]
theorem law19 {i : In} {nm : List UInt8} (hR : rightF i = true) (hk : i.op = 19) : bareS i (namedS i nm) = flatS i nm (patS i.op) := by
  have a1 : classF 19 = 2 := by decide +kernel
  have a2 : hasF 19 4 = false := by decide +kernel
  have a3 : hasF 19 10 = false := by decide +kernel
  have a4 : wordS 19 = [99, 109, 112, 121] := by decide +kernel
  have a5 : patS 19 = [68, 32, 61, 32, 99, 109, 112, 121, 40, 83, 44, 84, 41] := by decide +kernel
  simp [bareS, branchS, loopS, storeS, placeS, rightS, argS, namedS, writesPredF, flatS, hk, hR, a1, a2, a3, a4, a5, ch32, ch40, ch41, ch43, ch44, ch46, ch61, ch67, ch68, ch71, ch73, ch78, ch80, ch81, ch83, ch84, ch87, ch97, ch98, ch99, ch100, ch101, ch103, ch104, ch106, ch108, ch109, ch110, ch111, ch112, ch113, ch114, ch115, ch116, ch117, ch119, ch120, ch121]
theorem law20 {i : In} {nm : List UInt8} (hR : rightF i = true) (hk : i.op = 20) : bareS i (namedS i nm) = flatS i nm (patS i.op) := by
  have a1 : classF 20 = 2 := by decide +kernel
  have a2 : hasF 20 4 = false := by decide +kernel
  have a3 : hasF 20 10 = false := by decide +kernel
  have a4 : wordS 20 = [99, 109, 112, 121, 99] := by decide +kernel
  have a5 : patS 20 = [68, 32, 61, 32, 99, 109, 112, 121, 99, 40, 83, 44, 84, 41] := by decide +kernel
  simp [bareS, branchS, loopS, storeS, placeS, rightS, argS, namedS, writesPredF, flatS, hk, hR, a1, a2, a3, a4, a5, ch32, ch40, ch41, ch43, ch44, ch46, ch61, ch67, ch68, ch71, ch73, ch78, ch80, ch81, ch83, ch84, ch87, ch97, ch98, ch99, ch100, ch101, ch103, ch104, ch106, ch108, ch109, ch110, ch111, ch112, ch113, ch114, ch115, ch116, ch117, ch119, ch120, ch121]
theorem law21 {i : In} {nm : List UInt8} (hR : rightF i = true) (hk : i.op = 21) : bareS i (namedS i nm) = flatS i nm (patS i.op) := by
  have a1 : classF 21 = 3 := by decide +kernel
  have a2 : hasF 21 4 = false := by decide +kernel
  have a3 : hasF 21 10 = false := by decide +kernel
  have a4 : wordS 21 = [109, 101, 109, 119] := by decide +kernel
  have a5 : patS 21 = [68, 32, 61, 32, 109, 101, 109, 119, 40, 83, 43, 73, 41] := by decide +kernel
  simp [bareS, branchS, loopS, storeS, placeS, rightS, argS, namedS, writesPredF, flatS, hk, hR, a1, a2, a3, a4, a5, ch32, ch40, ch41, ch43, ch44, ch46, ch61, ch67, ch68, ch71, ch73, ch78, ch80, ch81, ch83, ch84, ch87, ch97, ch98, ch99, ch100, ch101, ch103, ch104, ch106, ch108, ch109, ch110, ch111, ch112, ch113, ch114, ch115, ch116, ch117, ch119, ch120, ch121]
theorem law22 {i : In} {nm : List UInt8} (hR : rightF i = true) (hk : i.op = 22) : bareS i (namedS i nm) = flatS i nm (patS i.op) := by
  have a1 : classF 22 = 3 := by decide +kernel
  have a2 : hasF 22 4 = false := by decide +kernel
  have a3 : hasF 22 10 = false := by decide +kernel
  have a4 : wordS 22 = [109, 101, 109, 104] := by decide +kernel
  have a5 : patS 22 = [68, 32, 61, 32, 109, 101, 109, 104, 40, 83, 43, 73, 41] := by decide +kernel
  simp [bareS, branchS, loopS, storeS, placeS, rightS, argS, namedS, writesPredF, flatS, hk, hR, a1, a2, a3, a4, a5, ch32, ch40, ch41, ch43, ch44, ch46, ch61, ch67, ch68, ch71, ch73, ch78, ch80, ch81, ch83, ch84, ch87, ch97, ch98, ch99, ch100, ch101, ch103, ch104, ch106, ch108, ch109, ch110, ch111, ch112, ch113, ch114, ch115, ch116, ch117, ch119, ch120, ch121]
theorem law23 {i : In} {nm : List UInt8} (hR : rightF i = true) (hk : i.op = 23) : bareS i (namedS i nm) = flatS i nm (patS i.op) := by
  have a1 : classF 23 = 3 := by decide +kernel
  have a2 : hasF 23 4 = false := by decide +kernel
  have a3 : hasF 23 10 = false := by decide +kernel
  have a4 : wordS 23 = [109, 101, 109, 98] := by decide +kernel
  have a5 : patS 23 = [68, 32, 61, 32, 109, 101, 109, 98, 40, 83, 43, 73, 41] := by decide +kernel
  simp [bareS, branchS, loopS, storeS, placeS, rightS, argS, namedS, writesPredF, flatS, hk, hR, a1, a2, a3, a4, a5, ch32, ch40, ch41, ch43, ch44, ch46, ch61, ch67, ch68, ch71, ch73, ch78, ch80, ch81, ch83, ch84, ch87, ch97, ch98, ch99, ch100, ch101, ch103, ch104, ch106, ch108, ch109, ch110, ch111, ch112, ch113, ch114, ch115, ch116, ch117, ch119, ch120, ch121]
theorem law24 {i : In} {nm : List UInt8} (hR : rightF i = true) (hk : i.op = 24) : bareS i (namedS i nm) = flatS i nm (patS i.op) := by
  have a1 : classF 24 = 4 := by decide +kernel
  have a2 : hasF 24 4 = false := by decide +kernel
  have a3 : hasF 24 10 = false := by decide +kernel
  have a4 : wordS 24 = [109, 101, 109, 119] := by decide +kernel
  have a5 : patS 24 = [109, 101, 109, 119, 40, 83, 43, 73, 41, 32, 61, 32, 84, 87] := by decide +kernel
  simp [bareS, branchS, loopS, storeS, placeS, rightS, argS, namedS, writesPredF, flatS, hk, hR, a1, a2, a3, a4, a5, ch32, ch40, ch41, ch43, ch44, ch46, ch61, ch67, ch68, ch71, ch73, ch78, ch80, ch81, ch83, ch84, ch87, ch97, ch98, ch99, ch100, ch101, ch103, ch104, ch106, ch108, ch109, ch110, ch111, ch112, ch113, ch114, ch115, ch116, ch117, ch119, ch120, ch121]
theorem law25 {i : In} {nm : List UInt8} (hR : rightF i = true) (hk : i.op = 25) : bareS i (namedS i nm) = flatS i nm (patS i.op) := by
  have a1 : classF 25 = 4 := by decide +kernel
  have a2 : hasF 25 4 = false := by decide +kernel
  have a3 : hasF 25 10 = false := by decide +kernel
  have a4 : wordS 25 = [109, 101, 109, 104] := by decide +kernel
  have a5 : patS 25 = [109, 101, 109, 104, 40, 83, 43, 73, 41, 32, 61, 32, 84, 87] := by decide +kernel
  simp [bareS, branchS, loopS, storeS, placeS, rightS, argS, namedS, writesPredF, flatS, hk, hR, a1, a2, a3, a4, a5, ch32, ch40, ch41, ch43, ch44, ch46, ch61, ch67, ch68, ch71, ch73, ch78, ch80, ch81, ch83, ch84, ch87, ch97, ch98, ch99, ch100, ch101, ch103, ch104, ch106, ch108, ch109, ch110, ch111, ch112, ch113, ch114, ch115, ch116, ch117, ch119, ch120, ch121]
theorem law26 {i : In} {nm : List UInt8} (hR : rightF i = true) (hk : i.op = 26) : bareS i (namedS i nm) = flatS i nm (patS i.op) := by
  have a1 : classF 26 = 4 := by decide +kernel
  have a2 : hasF 26 4 = false := by decide +kernel
  have a3 : hasF 26 10 = false := by decide +kernel
  have a4 : wordS 26 = [109, 101, 109, 98] := by decide +kernel
  have a5 : patS 26 = [109, 101, 109, 98, 40, 83, 43, 73, 41, 32, 61, 32, 84, 87] := by decide +kernel
  simp [bareS, branchS, loopS, storeS, placeS, rightS, argS, namedS, writesPredF, flatS, hk, hR, a1, a2, a3, a4, a5, ch32, ch40, ch41, ch43, ch44, ch46, ch61, ch67, ch68, ch71, ch73, ch78, ch80, ch81, ch83, ch84, ch87, ch97, ch98, ch99, ch100, ch101, ch103, ch104, ch106, ch108, ch109, ch110, ch111, ch112, ch113, ch114, ch115, ch116, ch117, ch119, ch120, ch121]
theorem law27 {i : In} {nm : List UInt8} (hR : rightF i = true) (hk : i.op = 27) : bareS i (namedS i nm) = flatS i nm (patS i.op) := by
  have a1 : classF 27 = 5 := by decide +kernel
  have a2 : hasF 27 4 = false := by decide +kernel
  have a3 : hasF 27 10 = true := by decide +kernel
  have a4 : wordS 27 = [] := by decide +kernel
  have a5 : patS 27 = [106, 117, 109, 112, 32, 71] := by decide +kernel
  simp [bareS, branchS, loopS, storeS, placeS, rightS, argS, namedS, writesPredF, flatS, hk, hR, a1, a2, a3, a4, a5, ch32, ch40, ch41, ch43, ch44, ch46, ch61, ch67, ch68, ch71, ch73, ch78, ch80, ch81, ch83, ch84, ch87, ch97, ch98, ch99, ch100, ch101, ch103, ch104, ch106, ch108, ch109, ch110, ch111, ch112, ch113, ch114, ch115, ch116, ch117, ch119, ch120, ch121]
theorem law28 {i : In} {nm : List UInt8} (hR : rightF i = true) (hk : i.op = 28) : bareS i (namedS i nm) = flatS i nm (patS i.op) := by
  have a1 : classF 28 = 5 := by decide +kernel
  have a2 : hasF 28 4 = false := by decide +kernel
  have a3 : hasF 28 10 = false := by decide +kernel
  have a4 : wordS 28 = [] := by decide +kernel
  have a5 : patS 28 = [106, 117, 109, 112, 114, 32, 83] := by decide +kernel
  simp [bareS, branchS, loopS, storeS, placeS, rightS, argS, namedS, writesPredF, flatS, hk, hR, a1, a2, a3, a4, a5, ch32, ch40, ch41, ch43, ch44, ch46, ch61, ch67, ch68, ch71, ch73, ch78, ch80, ch81, ch83, ch84, ch87, ch97, ch98, ch99, ch100, ch101, ch103, ch104, ch106, ch108, ch109, ch110, ch111, ch112, ch113, ch114, ch115, ch116, ch117, ch119, ch120, ch121]
theorem law29 {i : In} {nm : List UInt8} (hR : rightF i = true) (hk : i.op = 29) : bareS i (namedS i nm) = flatS i nm (patS i.op) := by
  have a1 : classF 29 = 5 := by decide +kernel
  have a2 : hasF 29 4 = false := by decide +kernel
  have a3 : hasF 29 10 = true := by decide +kernel
  have a4 : wordS 29 = [] := by decide +kernel
  have a5 : patS 29 = [99, 97, 108, 108, 32, 71] := by decide +kernel
  simp [bareS, branchS, loopS, storeS, placeS, rightS, argS, namedS, writesPredF, flatS, hk, hR, a1, a2, a3, a4, a5, ch32, ch40, ch41, ch43, ch44, ch46, ch61, ch67, ch68, ch71, ch73, ch78, ch80, ch81, ch83, ch84, ch87, ch97, ch98, ch99, ch100, ch101, ch103, ch104, ch106, ch108, ch109, ch110, ch111, ch112, ch113, ch114, ch115, ch116, ch117, ch119, ch120, ch121]
theorem law30 {i : In} {nm : List UInt8} (hR : rightF i = true) (hk : i.op = 30) : bareS i (namedS i nm) = flatS i nm (patS i.op) := by
  have a1 : classF 30 = 6 := by decide +kernel
  have a2 : hasF 30 4 = false := by decide +kernel
  have a3 : hasF 30 10 = true := by decide +kernel
  have a4 : wordS 30 = [] := by decide +kernel
  have a5 : patS 30 = [108, 111, 111, 112, 78, 40, 71, 44, 67, 41] := by decide +kernel
  simp [bareS, branchS, loopS, storeS, placeS, rightS, argS, namedS, writesPredF, flatS, hk, hR, a1, a2, a3, a4, a5, ch32, ch40, ch41, ch43, ch44, ch46, ch61, ch67, ch68, ch71, ch73, ch78, ch80, ch81, ch83, ch84, ch87, ch97, ch98, ch99, ch100, ch101, ch103, ch104, ch106, ch108, ch109, ch110, ch111, ch112, ch113, ch114, ch115, ch116, ch117, ch119, ch120, ch121]
theorem law31 {i : In} {nm : List UInt8} (hR : rightF i = true) (hk : i.op = 31) : bareS i (namedS i nm) = flatS i nm (patS i.op) := by
  have a1 : classF 31 = 6 := by decide +kernel
  have a2 : hasF 31 4 = false := by decide +kernel
  have a3 : hasF 31 10 = true := by decide +kernel
  have a4 : wordS 31 = [] := by decide +kernel
  have a5 : patS 31 = [108, 111, 111, 112, 78, 40, 71, 44, 83, 41] := by decide +kernel
  simp [bareS, branchS, loopS, storeS, placeS, rightS, argS, namedS, writesPredF, flatS, hk, hR, a1, a2, a3, a4, a5, ch32, ch40, ch41, ch43, ch44, ch46, ch61, ch67, ch68, ch71, ch73, ch78, ch80, ch81, ch83, ch84, ch87, ch97, ch98, ch99, ch100, ch101, ch103, ch104, ch106, ch108, ch109, ch110, ch111, ch112, ch113, ch114, ch115, ch116, ch117, ch119, ch120, ch121]
theorem laws {i : In} {nm : List UInt8} (hR : rightF i = true) : bareS i (namedS i nm) = flatS i nm (patS i.op) := by
  have h := rt_op hR
  have hc : i.op = 1 ∨ i.op = 2 ∨ i.op = 3 ∨ i.op = 4 ∨ i.op = 5 ∨ i.op = 6 ∨ i.op = 7 ∨ i.op = 8 ∨ i.op = 9 ∨ i.op = 10 ∨ i.op = 11 ∨ i.op = 12 ∨ i.op = 13 ∨ i.op = 14 ∨ i.op = 15 ∨ i.op = 16 ∨ i.op = 17 ∨ i.op = 18 ∨ i.op = 19 ∨ i.op = 20 ∨ i.op = 21 ∨ i.op = 22 ∨ i.op = 23 ∨ i.op = 24 ∨ i.op = 25 ∨ i.op = 26 ∨ i.op = 27 ∨ i.op = 28 ∨ i.op = 29 ∨ i.op = 30 ∨ i.op = 31 := by omega
  rcases hc with h | h | h | h | h | h | h | h | h | h | h | h | h | h | h | h | h | h | h | h | h | h | h | h | h | h | h | h | h | h | h
  · exact law1 hR h
  · exact law2 hR h
  · exact law3 hR h
  · exact law4 hR h
  · exact law5 hR h
  · exact law6 hR h
  · exact law7 hR h
  · exact law8 hR h
  · exact law9 hR h
  · exact law10 hR h
  · exact law11 hR h
  · exact law12 hR h
  · exact law13 hR h
  · exact law14 hR h
  · exact law15 hR h
  · exact law16 hR h
  · exact law17 hR h
  · exact law18 hR h
  · exact law19 hR h
  · exact law20 hR h
  · exact law21 hR h
  · exact law22 hR h
  · exact law23 hR h
  · exact law24 hR h
  · exact law25 hR h
  · exact law26 hR h
  · exact law27 hR h
  · exact law28 hR h
  · exact law29 hR h
  · exact law30 hR h
  · exact law31 hR h
theorem inst_eq (i : In) (nm : List UInt8) : instS i nm = rinstS i nm := by
  unfold instS rinstS
  split
  · rename_i h; rw [laws h]
  · rfl
end Go.V
