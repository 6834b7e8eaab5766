/- show: the texts of two instructions, op by op. -/
import Derived.Test.YtkjddipkaaelaaaDoorTW0
import Derived.KernelRfl
set_option linter.unusedVariables false
set_option linter.unusedSimpArgs false
set_option linter.unusedSectionVars false
/- show: the texts of two instructions, op by op. -/
namespace Go.V
open Go
set_option linter.unusedSimpArgs false
set_option linter.unusedVariables false
theorem app_ext {e e' : Bool} {u v : List UInt8} (hu : u.head? ≠ some 35) (hv : v.head? ≠ some 35) : ((if e = true then [35] else []) ++ u = (if e' = true then [35] else []) ++ v) = (e = e' ∧ u = v) := by
  apply propext
  cases e <;> cases e' <;> simp
  · intro h; subst h; exact hu rfl
  · intro h; subst h; exact hv rfl
theorem app_far {e e' : Bool} {u v : List UInt8} : ((if e = true then [35, 35] else []) ++ 48 :: u = (if e' = true then [35, 35] else []) ++ 48 :: v) = (e = e' ∧ u = v) := by
  apply propext
  cases e <;> cases e' <;> simp
theorem app_new {a b : Bool} {n m : Int} : (Lib.itoa n ++ (if a = true then [46, 110, 101, 119] else []) = Lib.itoa m ++ (if b = true then [46, 110, 101, 119] else [])) = (n = m ∧ a = b) := by
  apply propext
  cases a <;> cases b
  · simp [it_00]
  · simp [it_0c (show numC 46 = false from rfl)]
  · simp [it_c0 (show numC 46 = false from rfl)]
  · simp [it_cc (show numC 46 = false from rfl) (show numC 46 = false from rfl)]
theorem it_head (n : Int) (u : List UInt8) : (Lib.itoa n ++ u).head? ≠ some 35 := by
  intro h
  cases hi : Lib.itoa n with
  | nil => exact itoa_ne n hi
  | cons a l =>
    rw [hi] at h
    simp at h
    have := itoa_all n a (by rw [hi]; exact List.mem_cons_self)
    rw [h] at this; cases this
theorem it_head0 (n : Int) : (Lib.itoa n).head? ≠ some 35 := by have := it_head n []; rwa [List.append_nil] at this
theorem nc32 : numC 32 = false := by decide
theorem nc40 : numC 40 = false := by decide
theorem nc41 : numC 41 = false := by decide
theorem nc43 : numC 43 = false := by decide
theorem nc44 : numC 44 = false := by decide
theorem nc46 : numC 46 = false := by decide
theorem hc44 : hexC 44 = false := by decide
theorem immS_eq (i : In) : immS i = 35 :: ((if i.ext = true then [35] else []) ++ Lib.itoa i.imm) := by unfold immS; split <;> rfl
theorem targetS_eq (i : In) : targetS i [] = (if i.ext = true then [35, 35] else []) ++ 48 :: 120 :: hexN i.imm.toNat := by simp [targetS]
def tx1 (i : In) : List UInt8 := (110 :: (111 :: [112]))
theorem tx1_eq (i : In) : flatS i [] (patS 1) = tx1 i := by
  have a5 : patS 1 = [110, 111, 112] := by decide +kernel
  simp [a5, flatS, tx1, regS, predS, immS_eq, targetS_eq, countS, ch32, ch40, ch41, ch43, ch44, ch46, ch61, ch67, ch68, ch71, ch73, ch78, ch80, ch81, ch83, ch84, ch87, ch97, ch98, ch99, ch100, ch101, ch103, ch104, ch106, ch108, ch109, ch110, ch111, ch112, ch113, ch114, ch115, ch116, ch117, ch119, ch120, ch121]
def tx2 (i : In) : List UInt8 := (114 :: (Lib.itoa i.d ++ (32 :: (61 :: (32 :: (97 :: (100 :: (100 :: (40 :: (114 :: (Lib.itoa i.s ++ (44 :: (114 :: (Lib.itoa i.t ++ [41]))))))))))))))
theorem tx2_eq (i : In) : flatS i [] (patS 2) = tx2 i := by
  have a5 : patS 2 = [68, 32, 61, 32, 97, 100, 100, 40, 83, 44, 84, 41] := by decide +kernel
  simp [a5, flatS, tx2, regS, predS, immS_eq, targetS_eq, countS, ch32, ch40, ch41, ch43, ch44, ch46, ch61, ch67, ch68, ch71, ch73, ch78, ch80, ch81, ch83, ch84, ch87, ch97, ch98, ch99, ch100, ch101, ch103, ch104, ch106, ch108, ch109, ch110, ch111, ch112, ch113, ch114, ch115, ch116, ch117, ch119, ch120, ch121]
def tx3 (i : In) : List UInt8 := (114 :: (Lib.itoa i.d ++ (32 :: (61 :: (32 :: (115 :: (117 :: (98 :: (40 :: (114 :: (Lib.itoa i.s ++ (44 :: (114 :: (Lib.itoa i.t ++ [41]))))))))))))))
theorem tx3_eq (i : In) : flatS i [] (patS 3) = tx3 i := by
  have a5 : patS 3 = [68, 32, 61, 32, 115, 117, 98, 40, 83, 44, 84, 41] := by decide +kernel
  simp [a5, flatS, tx3, regS, predS, immS_eq, targetS_eq, countS, ch32, ch40, ch41, ch43, ch44, ch46, ch61, ch67, ch68, ch71, ch73, ch78, ch80, ch81, ch83, ch84, ch87, ch97, ch98, ch99, ch100, ch101, ch103, ch104, ch106, ch108, ch109, ch110, ch111, ch112, ch113, ch114, ch115, ch116, ch117, ch119, ch120, ch121]
def tx4 (i : In) : List UInt8 := (114 :: (Lib.itoa i.d ++ (32 :: (61 :: (32 :: (97 :: (110 :: (100 :: (40 :: (114 :: (Lib.itoa i.s ++ (44 :: (114 :: (Lib.itoa i.t ++ [41]))))))))))))))
theorem tx4_eq (i : In) : flatS i [] (patS 4) = tx4 i := by
  have a5 : patS 4 = [68, 32, 61, 32, 97, 110, 100, 40, 83, 44, 84, 41] := by decide +kernel
  simp [a5, flatS, tx4, regS, predS, immS_eq, targetS_eq, countS, ch32, ch40, ch41, ch43, ch44, ch46, ch61, ch67, ch68, ch71, ch73, ch78, ch80, ch81, ch83, ch84, ch87, ch97, ch98, ch99, ch100, ch101, ch103, ch104, ch106, ch108, ch109, ch110, ch111, ch112, ch113, ch114, ch115, ch116, ch117, ch119, ch120, ch121]
def tx5 (i : In) : List UInt8 := (114 :: (Lib.itoa i.d ++ (32 :: (61 :: (32 :: (111 :: (114 :: (40 :: (114 :: (Lib.itoa i.s ++ (44 :: (114 :: (Lib.itoa i.t ++ [41])))))))))))))
theorem tx5_eq (i : In) : flatS i [] (patS 5) = tx5 i := by
  have a5 : patS 5 = [68, 32, 61, 32, 111, 114, 40, 83, 44, 84, 41] := by decide +kernel
  simp [a5, flatS, tx5, regS, predS, immS_eq, targetS_eq, countS, ch32, ch40, ch41, ch43, ch44, ch46, ch61, ch67, ch68, ch71, ch73, ch78, ch80, ch81, ch83, ch84, ch87, ch97, ch98, ch99, ch100, ch101, ch103, ch104, ch106, ch108, ch109, ch110, ch111, ch112, ch113, ch114, ch115, ch116, ch117, ch119, ch120, ch121]
def tx6 (i : In) : List UInt8 := (114 :: (Lib.itoa i.d ++ (32 :: (61 :: (32 :: (120 :: (111 :: (114 :: (40 :: (114 :: (Lib.itoa i.s ++ (44 :: (114 :: (Lib.itoa i.t ++ [41]))))))))))))))
theorem tx6_eq (i : In) : flatS i [] (patS 6) = tx6 i := by
  have a5 : patS 6 = [68, 32, 61, 32, 120, 111, 114, 40, 83, 44, 84, 41] := by decide +kernel
  simp [a5, flatS, tx6, regS, predS, immS_eq, targetS_eq, countS, ch32, ch40, ch41, ch43, ch44, ch46, ch61, ch67, ch68, ch71, ch73, ch78, ch80, ch81, ch83, ch84, ch87, ch97, ch98, ch99, ch100, ch101, ch103, ch104, ch106, ch108, ch109, ch110, ch111, ch112, ch113, ch114, ch115, ch116, ch117, ch119, ch120, ch121]
def tx7 (i : In) : List UInt8 := (114 :: (Lib.itoa i.d ++ (32 :: (61 :: (32 :: (97 :: (100 :: (100 :: (40 :: (114 :: (Lib.itoa i.s ++ (44 :: (35 :: ((if i.ext = true then [35] else []) ++ (Lib.itoa i.imm ++ [41])))))))))))))))
theorem tx7_eq (i : In) : flatS i [] (patS 7) = tx7 i := by
  have a5 : patS 7 = [68, 32, 61, 32, 97, 100, 100, 40, 83, 44, 73, 41] := by decide +kernel
  simp [a5, flatS, tx7, regS, predS, immS_eq, targetS_eq, countS, ch32, ch40, ch41, ch43, ch44, ch46, ch61, ch67, ch68, ch71, ch73, ch78, ch80, ch81, ch83, ch84, ch87, ch97, ch98, ch99, ch100, ch101, ch103, ch104, ch106, ch108, ch109, ch110, ch111, ch112, ch113, ch114, ch115, ch116, ch117, ch119, ch120, ch121]
def tx8 (i : In) : List UInt8 := (114 :: (Lib.itoa i.d ++ (32 :: (61 :: (32 :: (35 :: ((if i.ext = true then [35] else []) ++ Lib.itoa i.imm)))))))
theorem tx8_eq (i : In) : flatS i [] (patS 8) = tx8 i := by
  have a5 : patS 8 = [68, 32, 61, 32, 73] := by decide +kernel
  simp [a5, flatS, tx8, regS, predS, immS_eq, targetS_eq, countS, ch32, ch40, ch41, ch43, ch44, ch46, ch61, ch67, ch68, ch71, ch73, ch78, ch80, ch81, ch83, ch84, ch87, ch97, ch98, ch99, ch100, ch101, ch103, ch104, ch106, ch108, ch109, ch110, ch111, ch112, ch113, ch114, ch115, ch116, ch117, ch119, ch120, ch121]
def tx9 (i : In) : List UInt8 := (114 :: (Lib.itoa i.d ++ (32 :: (61 :: (32 :: (114 :: Lib.itoa i.s))))))
theorem tx9_eq (i : In) : flatS i [] (patS 9) = tx9 i := by
  have a5 : patS 9 = [68, 32, 61, 32, 83] := by decide +kernel
  simp [a5, flatS, tx9, regS, predS, immS_eq, targetS_eq, countS, ch32, ch40, ch41, ch43, ch44, ch46, ch61, ch67, ch68, ch71, ch73, ch78, ch80, ch81, ch83, ch84, ch87, ch97, ch98, ch99, ch100, ch101, ch103, ch104, ch106, ch108, ch109, ch110, ch111, ch112, ch113, ch114, ch115, ch116, ch117, ch119, ch120, ch121]
def tx10 (i : In) : List UInt8 := (112 :: (Lib.itoa i.d ++ (32 :: (61 :: (32 :: (99 :: (109 :: (112 :: (46 :: (101 :: (113 :: (40 :: (114 :: (Lib.itoa i.s ++ (44 :: (114 :: (Lib.itoa i.t ++ [41])))))))))))))))))
theorem tx10_eq (i : In) : flatS i [] (patS 10) = tx10 i := by
  have a5 : patS 10 = [81, 32, 61, 32, 99, 109, 112, 46, 101, 113, 40, 83, 44, 84, 41] := by decide +kernel
  simp [a5, flatS, tx10, regS, predS, immS_eq, targetS_eq, countS, ch32, ch40, ch41, ch43, ch44, ch46, ch61, ch67, ch68, ch71, ch73, ch78, ch80, ch81, ch83, ch84, ch87, ch97, ch98, ch99, ch100, ch101, ch103, ch104, ch106, ch108, ch109, ch110, ch111, ch112, ch113, ch114, ch115, ch116, ch117, ch119, ch120, ch121]
def tx11 (i : In) : List UInt8 := (112 :: (Lib.itoa i.d ++ (32 :: (61 :: (32 :: (99 :: (109 :: (112 :: (46 :: (103 :: (116 :: (40 :: (114 :: (Lib.itoa i.s ++ (44 :: (114 :: (Lib.itoa i.t ++ [41])))))))))))))))))
theorem tx11_eq (i : In) : flatS i [] (patS 11) = tx11 i := by
  have a5 : patS 11 = [81, 32, 61, 32, 99, 109, 112, 46, 103, 116, 40, 83, 44, 84, 41] := by decide +kernel
  simp [a5, flatS, tx11, regS, predS, immS_eq, targetS_eq, countS, ch32, ch40, ch41, ch43, ch44, ch46, ch61, ch67, ch68, ch71, ch73, ch78, ch80, ch81, ch83, ch84, ch87, ch97, ch98, ch99, ch100, ch101, ch103, ch104, ch106, ch108, ch109, ch110, ch111, ch112, ch113, ch114, ch115, ch116, ch117, ch119, ch120, ch121]
def tx12 (i : In) : List UInt8 := (112 :: (Lib.itoa i.d ++ (32 :: (61 :: (32 :: (99 :: (109 :: (112 :: (46 :: (103 :: (116 :: (117 :: (40 :: (114 :: (Lib.itoa i.s ++ (44 :: (114 :: (Lib.itoa i.t ++ [41]))))))))))))))))))
theorem tx12_eq (i : In) : flatS i [] (patS 12) = tx12 i := by
  have a5 : patS 12 = [81, 32, 61, 32, 99, 109, 112, 46, 103, 116, 117, 40, 83, 44, 84, 41] := by decide +kernel
  simp [a5, flatS, tx12, regS, predS, immS_eq, targetS_eq, countS, ch32, ch40, ch41, ch43, ch44, ch46, ch61, ch67, ch68, ch71, ch73, ch78, ch80, ch81, ch83, ch84, ch87, ch97, ch98, ch99, ch100, ch101, ch103, ch104, ch106, ch108, ch109, ch110, ch111, ch112, ch113, ch114, ch115, ch116, ch117, ch119, ch120, ch121]
def tx13 (i : In) : List UInt8 := (112 :: (Lib.itoa i.d ++ (32 :: (61 :: (32 :: (99 :: (109 :: (112 :: (46 :: (101 :: (113 :: (40 :: (114 :: (Lib.itoa i.s ++ (44 :: (35 :: ((if i.ext = true then [35] else []) ++ (Lib.itoa i.imm ++ [41]))))))))))))))))))
theorem tx13_eq (i : In) : flatS i [] (patS 13) = tx13 i := by
  have a5 : patS 13 = [81, 32, 61, 32, 99, 109, 112, 46, 101, 113, 40, 83, 44, 73, 41] := by decide +kernel
  simp [a5, flatS, tx13, regS, predS, immS_eq, targetS_eq, countS, ch32, ch40, ch41, ch43, ch44, ch46, ch61, ch67, ch68, ch71, ch73, ch78, ch80, ch81, ch83, ch84, ch87, ch97, ch98, ch99, ch100, ch101, ch103, ch104, ch106, ch108, ch109, ch110, ch111, ch112, ch113, ch114, ch115, ch116, ch117, ch119, ch120, ch121]
def tx14 (i : In) : List UInt8 := (114 :: (Lib.itoa i.d ++ (32 :: (61 :: (32 :: (109 :: (117 :: (120 :: (40 :: (112 :: (Lib.itoa i.pred ++ (44 :: (114 :: (Lib.itoa i.s ++ (44 :: (114 :: (Lib.itoa i.t ++ [41])))))))))))))))))
theorem tx14_eq (i : In) : flatS i [] (patS 14) = tx14 i := by
  have a5 : patS 14 = [68, 32, 61, 32, 109, 117, 120, 40, 80, 44, 83, 44, 84, 41] := by decide +kernel
  simp [a5, flatS, tx14, regS, predS, immS_eq, targetS_eq, countS, ch32, ch40, ch41, ch43, ch44, ch46, ch61, ch67, ch68, ch71, ch73, ch78, ch80, ch81, ch83, ch84, ch87, ch97, ch98, ch99, ch100, ch101, ch103, ch104, ch106, ch108, ch109, ch110, ch111, ch112, ch113, ch114, ch115, ch116, ch117, ch119, ch120, ch121]
def tx15 (i : In) : List UInt8 := (114 :: (Lib.itoa i.d ++ (32 :: (61 :: (32 :: (97 :: (115 :: (108 :: (40 :: (114 :: (Lib.itoa i.s ++ (44 :: (35 :: ((if i.ext = true then [35] else []) ++ (Lib.itoa i.imm ++ [41])))))))))))))))
theorem tx15_eq (i : In) : flatS i [] (patS 15) = tx15 i := by
  have a5 : patS 15 = [68, 32, 61, 32, 97, 115, 108, 40, 83, 44, 73, 41] := by decide +kernel
  simp [a5, flatS, tx15, regS, predS, immS_eq, targetS_eq, countS, ch32, ch40, ch41, ch43, ch44, ch46, ch61, ch67, ch68, ch71, ch73, ch78, ch80, ch81, ch83, ch84, ch87, ch97, ch98, ch99, ch100, ch101, ch103, ch104, ch106, ch108, ch109, ch110, ch111, ch112, ch113, ch114, ch115, ch116, ch117, ch119, ch120, ch121]
def tx16 (i : In) : List UInt8 := (114 :: (Lib.itoa i.d ++ (32 :: (61 :: (32 :: (108 :: (115 :: (114 :: (40 :: (114 :: (Lib.itoa i.s ++ (44 :: (35 :: ((if i.ext = true then [35] else []) ++ (Lib.itoa i.imm ++ [41])))))))))))))))
theorem tx16_eq (i : In) : flatS i [] (patS 16) = tx16 i := by
  have a5 : patS 16 = [68, 32, 61, 32, 108, 115, 114, 40, 83, 44, 73, 41] := by decide +kernel
  simp [a5, flatS, tx16, regS, predS, immS_eq, targetS_eq, countS, ch32, ch40, ch41, ch43, ch44, ch46, ch61, ch67, ch68, ch71, ch73, ch78, ch80, ch81, ch83, ch84, ch87, ch97, ch98, ch99, ch100, ch101, ch103, ch104, ch106, ch108, ch109, ch110, ch111, ch112, ch113, ch114, ch115, ch116, ch117, ch119, ch120, ch121]
def tx17 (i : In) : List UInt8 := (114 :: (Lib.itoa i.d ++ (32 :: (61 :: (32 :: (97 :: (115 :: (114 :: (40 :: (114 :: (Lib.itoa i.s ++ (44 :: (35 :: ((if i.ext = true then [35] else []) ++ (Lib.itoa i.imm ++ [41])))))))))))))))
theorem tx17_eq (i : In) : flatS i [] (patS 17) = tx17 i := by
  have a5 : patS 17 = [68, 32, 61, 32, 97, 115, 114, 40, 83, 44, 73, 41] := by decide +kernel
  simp [a5, flatS, tx17, regS, predS, immS_eq, targetS_eq, countS, ch32, ch40, ch41, ch43, ch44, ch46, ch61, ch67, ch68, ch71, ch73, ch78, ch80, ch81, ch83, ch84, ch87, ch97, ch98, ch99, ch100, ch101, ch103, ch104, ch106, ch108, ch109, ch110, ch111, ch112, ch113, ch114, ch115, ch116, ch117, ch119, ch120, ch121]
def tx18 (i : In) : List UInt8 := (114 :: (Lib.itoa i.d ++ (32 :: (61 :: (32 :: (109 :: (112 :: (121 :: (40 :: (114 :: (Lib.itoa i.s ++ (44 :: (114 :: (Lib.itoa i.t ++ [41]))))))))))))))
theorem tx18_eq (i : In) : flatS i [] (patS 18) = tx18 i := by
  have a5 : patS 18 = [68, 32, 61, 32, 109, 112, 121, 40, 83, 44, 84, 41] := by decide +kernel
  simp [a5, flatS, tx18, regS, predS, immS_eq, targetS_eq, countS, ch32, ch40, ch41, ch43, ch44, ch46, ch61, ch67, ch68, ch71, ch73, ch78, ch80, ch81, ch83, ch84, ch87, ch97, ch98, ch99, ch100, ch101, ch103, ch104, ch106, ch108, ch109, ch110, ch111, ch112, ch113, ch114, ch115, ch116, ch117, ch119, ch120, ch121]
def tx19 (i : In) : List UInt8 := (114 :: (Lib.itoa i.d ++ (32 :: (61 :: (32 :: (99 :: (109 :: (112 :: (121 :: (40 :: (114 :: (Lib.itoa i.s ++ (44 :: (114 :: (Lib.itoa i.t ++ [41])))))))))))))))
theorem tx19_eq (i : In) : flatS i [] (patS 19) = tx19 i := by
  have a5 : patS 19 = [68, 32, 61, 32, 99, 109, 112, 121, 40, 83, 44, 84, 41] := by decide +kernel
  simp [a5, flatS, tx19, regS, predS, immS_eq, targetS_eq, countS, ch32, ch40, ch41, ch43, ch44, ch46, ch61, ch67, ch68, ch71, ch73, ch78, ch80, ch81, ch83, ch84, ch87, ch97, ch98, ch99, ch100, ch101, ch103, ch104, ch106, ch108, ch109, ch110, ch111, ch112, ch113, ch114, ch115, ch116, ch117, ch119, ch120, ch121]
def tx20 (i : In) : List UInt8 := (114 :: (Lib.itoa i.d ++ (32 :: (61 :: (32 :: (99 :: (109 :: (112 :: (121 :: (99 :: (40 :: (114 :: (Lib.itoa i.s ++ (44 :: (114 :: (Lib.itoa i.t ++ [41]))))))))))))))))
theorem tx20_eq (i : In) : flatS i [] (patS 20) = tx20 i := by
  have a5 : patS 20 = [68, 32, 61, 32, 99, 109, 112, 121, 99, 40, 83, 44, 84, 41] := by decide +kernel
  simp [a5, flatS, tx20, regS, predS, immS_eq, targetS_eq, countS, ch32, ch40, ch41, ch43, ch44, ch46, ch61, ch67, ch68, ch71, ch73, ch78, ch80, ch81, ch83, ch84, ch87, ch97, ch98, ch99, ch100, ch101, ch103, ch104, ch106, ch108, ch109, ch110, ch111, ch112, ch113, ch114, ch115, ch116, ch117, ch119, ch120, ch121]
def tx21 (i : In) : List UInt8 := (114 :: (Lib.itoa i.d ++ (32 :: (61 :: (32 :: (109 :: (101 :: (109 :: (119 :: (40 :: (114 :: (Lib.itoa i.s ++ (43 :: (35 :: ((if i.ext = true then [35] else []) ++ (Lib.itoa i.imm ++ [41]))))))))))))))))
theorem tx21_eq (i : In) : flatS i [] (patS 21) = tx21 i := by
  have a5 : patS 21 = [68, 32, 61, 32, 109, 101, 109, 119, 40, 83, 43, 73, 41] := by decide +kernel
  simp [a5, flatS, tx21, regS, predS, immS_eq, targetS_eq, countS, ch32, ch40, ch41, ch43, ch44, ch46, ch61, ch67, ch68, ch71, ch73, ch78, ch80, ch81, ch83, ch84, ch87, ch97, ch98, ch99, ch100, ch101, ch103, ch104, ch106, ch108, ch109, ch110, ch111, ch112, ch113, ch114, ch115, ch116, ch117, ch119, ch120, ch121]
def tx22 (i : In) : List UInt8 := (114 :: (Lib.itoa i.d ++ (32 :: (61 :: (32 :: (109 :: (101 :: (109 :: (104 :: (40 :: (114 :: (Lib.itoa i.s ++ (43 :: (35 :: ((if i.ext = true then [35] else []) ++ (Lib.itoa i.imm ++ [41]))))))))))))))))
theorem tx22_eq (i : In) : flatS i [] (patS 22) = tx22 i := by
  have a5 : patS 22 = [68, 32, 61, 32, 109, 101, 109, 104, 40, 83, 43, 73, 41] := by decide +kernel
  simp [a5, flatS, tx22, regS, predS, immS_eq, targetS_eq, countS, ch32, ch40, ch41, ch43, ch44, ch46, ch61, ch67, ch68, ch71, ch73, ch78, ch80, ch81, ch83, ch84, ch87, ch97, ch98, ch99, ch100, ch101, ch103, ch104, ch106, ch108, ch109, ch110, ch111, ch112, ch113, ch114, ch115, ch116, ch117, ch119, ch120, ch121]
def tx23 (i : In) : List UInt8 := (114 :: (Lib.itoa i.d ++ (32 :: (61 :: (32 :: (109 :: (101 :: (109 :: (98 :: (40 :: (114 :: (Lib.itoa i.s ++ (43 :: (35 :: ((if i.ext = true then [35] else []) ++ (Lib.itoa i.imm ++ [41]))))))))))))))))
theorem tx23_eq (i : In) : flatS i [] (patS 23) = tx23 i := by
  have a5 : patS 23 = [68, 32, 61, 32, 109, 101, 109, 98, 40, 83, 43, 73, 41] := by decide +kernel
  simp [a5, flatS, tx23, regS, predS, immS_eq, targetS_eq, countS, ch32, ch40, ch41, ch43, ch44, ch46, ch61, ch67, ch68, ch71, ch73, ch78, ch80, ch81, ch83, ch84, ch87, ch97, ch98, ch99, ch100, ch101, ch103, ch104, ch106, ch108, ch109, ch110, ch111, ch112, ch113, ch114, ch115, ch116, ch117, ch119, ch120, ch121]
def tx24 (i : In) : List UInt8 := (109 :: (101 :: (109 :: (119 :: (40 :: (114 :: (Lib.itoa i.s ++ (43 :: (35 :: ((if i.ext = true then [35] else []) ++ (Lib.itoa i.imm ++ (41 :: (32 :: (61 :: (32 :: (114 :: (Lib.itoa i.t ++ (if i.nw = true then [46, 110, 101, 119] else []))))))))))))))))))
theorem tx24_eq (i : In) : flatS i [] (patS 24) = tx24 i := by
  have a5 : patS 24 = [109, 101, 109, 119, 40, 83, 43, 73, 41, 32, 61, 32, 84, 87] := by decide +kernel
  simp [a5, flatS, tx24, regS, predS, immS_eq, targetS_eq, countS, ch32, ch40, ch41, ch43, ch44, ch46, ch61, ch67, ch68, ch71, ch73, ch78, ch80, ch81, ch83, ch84, ch87, ch97, ch98, ch99, ch100, ch101, ch103, ch104, ch106, ch108, ch109, ch110, ch111, ch112, ch113, ch114, ch115, ch116, ch117, ch119, ch120, ch121]
def tx25 (i : In) : List UInt8 := (109 :: (101 :: (109 :: (104 :: (40 :: (114 :: (Lib.itoa i.s ++ (43 :: (35 :: ((if i.ext = true then [35] else []) ++ (Lib.itoa i.imm ++ (41 :: (32 :: (61 :: (32 :: (114 :: (Lib.itoa i.t ++ (if i.nw = true then [46, 110, 101, 119] else []))))))))))))))))))
theorem tx25_eq (i : In) : flatS i [] (patS 25) = tx25 i := by
  have a5 : patS 25 = [109, 101, 109, 104, 40, 83, 43, 73, 41, 32, 61, 32, 84, 87] := by decide +kernel
  simp [a5, flatS, tx25, regS, predS, immS_eq, targetS_eq, countS, ch32, ch40, ch41, ch43, ch44, ch46, ch61, ch67, ch68, ch71, ch73, ch78, ch80, ch81, ch83, ch84, ch87, ch97, ch98, ch99, ch100, ch101, ch103, ch104, ch106, ch108, ch109, ch110, ch111, ch112, ch113, ch114, ch115, ch116, ch117, ch119, ch120, ch121]
def tx26 (i : In) : List UInt8 := (109 :: (101 :: (109 :: (98 :: (40 :: (114 :: (Lib.itoa i.s ++ (43 :: (35 :: ((if i.ext = true then [35] else []) ++ (Lib.itoa i.imm ++ (41 :: (32 :: (61 :: (32 :: (114 :: (Lib.itoa i.t ++ (if i.nw = true then [46, 110, 101, 119] else []))))))))))))))))))
theorem tx26_eq (i : In) : flatS i [] (patS 26) = tx26 i := by
  have a5 : patS 26 = [109, 101, 109, 98, 40, 83, 43, 73, 41, 32, 61, 32, 84, 87] := by decide +kernel
  simp [a5, flatS, tx26, regS, predS, immS_eq, targetS_eq, countS, ch32, ch40, ch41, ch43, ch44, ch46, ch61, ch67, ch68, ch71, ch73, ch78, ch80, ch81, ch83, ch84, ch87, ch97, ch98, ch99, ch100, ch101, ch103, ch104, ch106, ch108, ch109, ch110, ch111, ch112, ch113, ch114, ch115, ch116, ch117, ch119, ch120, ch121]
def tx27 (i : In) : List UInt8 := (106 :: (117 :: (109 :: (112 :: (32 :: ((if i.ext = true then [35, 35] else []) ++ 48 :: 120 :: hexN i.imm.toNat))))))
theorem tx27_eq (i : In) : flatS i [] (patS 27) = tx27 i := by
  have a5 : patS 27 = [106, 117, 109, 112, 32, 71] := by decide +kernel
  simp [a5, flatS, tx27, regS, predS, immS_eq, targetS_eq, countS, ch32, ch40, ch41, ch43, ch44, ch46, ch61, ch67, ch68, ch71, ch73, ch78, ch80, ch81, ch83, ch84, ch87, ch97, ch98, ch99, ch100, ch101, ch103, ch104, ch106, ch108, ch109, ch110, ch111, ch112, ch113, ch114, ch115, ch116, ch117, ch119, ch120, ch121]
def tx28 (i : In) : List UInt8 := (106 :: (117 :: (109 :: (112 :: (114 :: (32 :: (114 :: Lib.itoa i.s)))))))
theorem tx28_eq (i : In) : flatS i [] (patS 28) = tx28 i := by
  have a5 : patS 28 = [106, 117, 109, 112, 114, 32, 83] := by decide +kernel
  simp [a5, flatS, tx28, regS, predS, immS_eq, targetS_eq, countS, ch32, ch40, ch41, ch43, ch44, ch46, ch61, ch67, ch68, ch71, ch73, ch78, ch80, ch81, ch83, ch84, ch87, ch97, ch98, ch99, ch100, ch101, ch103, ch104, ch106, ch108, ch109, ch110, ch111, ch112, ch113, ch114, ch115, ch116, ch117, ch119, ch120, ch121]
def tx29 (i : In) : List UInt8 := (99 :: (97 :: (108 :: (108 :: (32 :: ((if i.ext = true then [35, 35] else []) ++ 48 :: 120 :: hexN i.imm.toNat))))))
theorem tx29_eq (i : In) : flatS i [] (patS 29) = tx29 i := by
  have a5 : patS 29 = [99, 97, 108, 108, 32, 71] := by decide +kernel
  simp [a5, flatS, tx29, regS, predS, immS_eq, targetS_eq, countS, ch32, ch40, ch41, ch43, ch44, ch46, ch61, ch67, ch68, ch71, ch73, ch78, ch80, ch81, ch83, ch84, ch87, ch97, ch98, ch99, ch100, ch101, ch103, ch104, ch106, ch108, ch109, ch110, ch111, ch112, ch113, ch114, ch115, ch116, ch117, ch119, ch120, ch121]
def tx30 (i : In) : List UInt8 := (108 :: (111 :: (111 :: (112 :: (Lib.itoa i.n ++ (40 :: ((if i.ext = true then [35, 35] else []) ++ 48 :: 120 :: (hexN i.imm.toNat ++ (44 :: (35 :: (Lib.itoa i.count ++ [41])))))))))))
theorem tx30_eq (i : In) : flatS i [] (patS 30) = tx30 i := by
  have a5 : patS 30 = [108, 111, 111, 112, 78, 40, 71, 44, 67, 41] := by decide +kernel
  simp [a5, flatS, tx30, regS, predS, immS_eq, targetS_eq, countS, ch32, ch40, ch41, ch43, ch44, ch46, ch61, ch67, ch68, ch71, ch73, ch78, ch80, ch81, ch83, ch84, ch87, ch97, ch98, ch99, ch100, ch101, ch103, ch104, ch106, ch108, ch109, ch110, ch111, ch112, ch113, ch114, ch115, ch116, ch117, ch119, ch120, ch121]
def tx31 (i : In) : List UInt8 := (108 :: (111 :: (111 :: (112 :: (Lib.itoa i.n ++ (40 :: ((if i.ext = true then [35, 35] else []) ++ 48 :: 120 :: (hexN i.imm.toNat ++ (44 :: (114 :: (Lib.itoa i.s ++ [41])))))))))))
theorem tx31_eq (i : In) : flatS i [] (patS 31) = tx31 i := by
  have a5 : patS 31 = [108, 111, 111, 112, 78, 40, 71, 44, 83, 41] := by decide +kernel
  simp [a5, flatS, tx31, regS, predS, immS_eq, targetS_eq, countS, ch32, ch40, ch41, ch43, ch44, ch46, ch61, ch67, ch68, ch71, ch73, ch78, ch80, ch81, ch83, ch84, ch87, ch97, ch98, ch99, ch100, ch101, ch103, ch104, ch106, ch108, ch109, ch110, ch111, ch112, ch113, ch114, ch115, ch116, ch117, ch119, ch120, ch121]
end Go.V
