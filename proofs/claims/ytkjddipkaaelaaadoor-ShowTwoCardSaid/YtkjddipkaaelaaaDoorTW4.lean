/- show: two right instructions that are printed alike are the same. -/
import Derived.Test.YtkjddipkaaelaaaDoorTW3
set_option linter.unusedVariables false
set_option linter.unusedSimpArgs false
set_option linter.unusedSectionVars false
/- show: two right instructions that are printed alike are the same. -/
namespace Go.V
open Go
set_option linter.unusedSimpArgs false
set_option linter.unusedVariables false
set_option linter.unusedSimpArgs false
theorem cs1 {i : In} (X : List UInt8) (h : i.mode = 1) : condS i ++ X = 105 :: 102 :: 32 :: 40 :: 112 :: (Lib.itoa i.pred ++ 41 :: 32 :: X) := by simp [condS, predS, h]
theorem cs2 {i : In} (X : List UInt8) (h : i.mode = 2) : condS i ++ X = 105 :: 102 :: 32 :: 40 :: 33 :: 112 :: (Lib.itoa i.pred ++ 41 :: 32 :: X) := by simp [condS, predS, h]
theorem cs3 {i : In} (X : List UInt8) (h : i.mode = 3) : condS i ++ X = 105 :: 102 :: 32 :: 40 :: 112 :: (Lib.itoa i.pred ++ 46 :: 110 :: 101 :: 119 :: 41 :: 32 :: X) := by simp [condS, predS, h]
theorem cs4 {i : In} (X : List UInt8) (h : i.mode = 4) : condS i ++ X = 105 :: 102 :: 32 :: 40 :: 33 :: 112 :: (Lib.itoa i.pred ++ 46 :: 110 :: 101 :: 119 :: 41 :: 32 :: X) := by simp [condS, predS, h]
theorem cs0 {i : In} (X : List UInt8) (h : i.mode = 0) : condS i ++ X = X := by simp [condS, h]
theorem cond_inj {i j : In} (mi : 0 ≤ i.mode ∧ i.mode ≤ 4) (mj : 0 ≤ j.mode ∧ j.mode ≤ 4) {X Y : List UInt8} (hX : X.head? ≠ some 105) (hY : Y.head? ≠ some 105) (h : condS i ++ X = condS j ++ Y) : i.mode = j.mode ∧ (i.mode ≠ 0 → i.pred = j.pred) ∧ X = Y := by
  have ci : i.mode = 0 ∨ i.mode = 1 ∨ i.mode = 2 ∨ i.mode = 3 ∨ i.mode = 4 := by omega
  have cj : j.mode = 0 ∨ j.mode = 1 ∨ j.mode = 2 ∨ j.mode = 3 ∨ j.mode = 4 := by omega
  rcases ci with a | a | a | a | a <;> rcases cj with b | b | b | b | b
  · rw [cs0 X a, cs0 Y b] at h; exact ⟨by rw [a, b], fun h' => absurd a h', h⟩
  · rw [cs0 X a, cs1 Y b] at h; rw [h] at hX; exact absurd rfl hX
  · rw [cs0 X a, cs2 Y b] at h; rw [h] at hX; exact absurd rfl hX
  · rw [cs0 X a, cs3 Y b] at h; rw [h] at hX; exact absurd rfl hX
  · rw [cs0 X a, cs4 Y b] at h; rw [h] at hX; exact absurd rfl hX
  · rw [cs1 X a, cs0 Y b] at h; rw [← h] at hY; exact absurd rfl hY
  · rw [cs1 X a, cs1 Y b] at h
    simp only [List.cons.injEq, it_cc, nc41, nc46, true_and] at h
    exact ⟨by rw [a, b], fun _ => h.1, h.2⟩
  · rw [cs1 X a, cs2 Y b] at h
    simp only [List.cons.injEq, it_cc, nc41, nc46, true_and, seval, false_and, and_false] at h
  · rw [cs1 X a, cs3 Y b] at h
    simp only [List.cons.injEq, it_cc, nc41, nc46, true_and, seval, false_and, and_false] at h
  · rw [cs1 X a, cs4 Y b] at h
    simp only [List.cons.injEq, it_cc, nc41, nc46, true_and, seval, false_and, and_false] at h
  · rw [cs2 X a, cs0 Y b] at h; rw [← h] at hY; exact absurd rfl hY
  · rw [cs2 X a, cs1 Y b] at h
    simp only [List.cons.injEq, it_cc, nc41, nc46, true_and, seval, false_and, and_false] at h
  · rw [cs2 X a, cs2 Y b] at h
    simp only [List.cons.injEq, it_cc, nc41, nc46, true_and] at h
    exact ⟨by rw [a, b], fun _ => h.1, h.2⟩
  · rw [cs2 X a, cs3 Y b] at h
    simp only [List.cons.injEq, it_cc, nc41, nc46, true_and, seval, false_and, and_false] at h
  · rw [cs2 X a, cs4 Y b] at h
    simp only [List.cons.injEq, it_cc, nc41, nc46, true_and, seval, false_and, and_false] at h
  · rw [cs3 X a, cs0 Y b] at h; rw [← h] at hY; exact absurd rfl hY
  · rw [cs3 X a, cs1 Y b] at h
    simp only [List.cons.injEq, it_cc, nc41, nc46, true_and, seval, false_and, and_false] at h
  · rw [cs3 X a, cs2 Y b] at h
    simp only [List.cons.injEq, it_cc, nc41, nc46, true_and, seval, false_and, and_false] at h
  · rw [cs3 X a, cs3 Y b] at h
    simp only [List.cons.injEq, it_cc, nc41, nc46, true_and] at h
    exact ⟨by rw [a, b], fun _ => h.1, h.2⟩
  · rw [cs3 X a, cs4 Y b] at h
    simp only [List.cons.injEq, it_cc, nc41, nc46, true_and, seval, false_and, and_false] at h
  · rw [cs4 X a, cs0 Y b] at h; rw [← h] at hY; exact absurd rfl hY
  · rw [cs4 X a, cs1 Y b] at h
    simp only [List.cons.injEq, it_cc, nc41, nc46, true_and, seval, false_and, and_false] at h
  · rw [cs4 X a, cs2 Y b] at h
    simp only [List.cons.injEq, it_cc, nc41, nc46, true_and, seval, false_and, and_false] at h
  · rw [cs4 X a, cs3 Y b] at h
    simp only [List.cons.injEq, it_cc, nc41, nc46, true_and, seval, false_and, and_false] at h
  · rw [cs4 X a, cs4 Y b] at h
    simp only [List.cons.injEq, it_cc, nc41, nc46, true_and] at h
    exact ⟨by rw [a, b], fun _ => h.1, h.2⟩
theorem flat_head {i : In} (h : rightF i = true) : (flatS i [] (patS i.op)).head? ≠ some 105 := by
  have hb := rt_op h
  have hc : i.op = 1 ∨ i.op = 2 ∨ i.op = 3 ∨ i.op = 4 ∨ i.op = 5 ∨ i.op = 6 ∨ i.op = 7 ∨ i.op = 8 ∨ i.op = 9 ∨ i.op = 10 ∨ i.op = 11 ∨ i.op = 12 ∨ i.op = 13 ∨ i.op = 14 ∨ i.op = 15 ∨ i.op = 16 ∨ i.op = 17 ∨ i.op = 18 ∨ i.op = 19 ∨ i.op = 20 ∨ i.op = 21 ∨ i.op = 22 ∨ i.op = 23 ∨ i.op = 24 ∨ i.op = 25 ∨ i.op = 26 ∨ i.op = 27 ∨ i.op = 28 ∨ i.op = 29 ∨ i.op = 30 ∨ i.op = 31 := by omega
  rcases hc with e | e | e | e | e | e | e | e | e | e | e | e | e | e | e | e | e | e | e | e | e | e | e | e | e | e | e | e | e | e | e
  · rw [e, tx1_eq]; simp [tx1]
  · rw [e, tx2_eq]; simp [tx2]
  · rw [e, tx3_eq]; simp [tx3]
  · rw [e, tx4_eq]; simp [tx4]
  · rw [e, tx5_eq]; simp [tx5]
  · rw [e, tx6_eq]; simp [tx6]
  · rw [e, tx7_eq]; simp [tx7]
  · rw [e, tx8_eq]; simp [tx8]
  · rw [e, tx9_eq]; simp [tx9]
  · rw [e, tx10_eq]; simp [tx10]
  · rw [e, tx11_eq]; simp [tx11]
  · rw [e, tx12_eq]; simp [tx12]
  · rw [e, tx13_eq]; simp [tx13]
  · rw [e, tx14_eq]; simp [tx14]
  · rw [e, tx15_eq]; simp [tx15]
  · rw [e, tx16_eq]; simp [tx16]
  · rw [e, tx17_eq]; simp [tx17]
  · rw [e, tx18_eq]; simp [tx18]
  · rw [e, tx19_eq]; simp [tx19]
  · rw [e, tx20_eq]; simp [tx20]
  · rw [e, tx21_eq]; simp [tx21]
  · rw [e, tx22_eq]; simp [tx22]
  · rw [e, tx23_eq]; simp [tx23]
  · rw [e, tx24_eq]; simp [tx24]
  · rw [e, tx25_eq]; simp [tx25]
  · rw [e, tx26_eq]; simp [tx26]
  · rw [e, tx27_eq]; simp [tx27]
  · rw [e, tx28_eq]; simp [tx28]
  · rw [e, tx29_eq]; simp [tx29]
  · rw [e, tx30_eq]; simp [tx30]
  · rw [e, tx31_eq]; simp [tx31]
theorem z1 {i : In} (hR : rightF i = true) (hk : i.op = 1) : i.mode = 0 ∧ i.pred = 0 ∧ i.d = 0 ∧ i.s = 0 ∧ i.t = 0 ∧ i.n = 0 ∧ i.nw = false ∧ i.imm = 0 ∧ i.count = 0 ∧ i.ext = false := by
  have h := ((right_iff i).1 hR).2.2.1
  rw [hk] at h
  have b1 : anyK (fieldsOf 1) 1 = false := by decide +kernel
  have b2 : anyK (fieldsOf 1) 2 = false := by decide +kernel
  have b3 : anyK (fieldsOf 1) 3 = false := by decide +kernel
  have b4 : anyK (fieldsOf 1) 4 = false := by decide +kernel
  have b5 : anyK (fieldsOf 1) 5 = false := by decide +kernel
  have b6 : anyK (fieldsOf 1) 6 = false := by decide +kernel
  have b7 : anyK (fieldsOf 1) 7 = false := by decide +kernel
  have b8 : anyK (fieldsOf 1) 8 = false := by decide +kernel
  have b9 : anyK (fieldsOf 1) 9 = false := by decide +kernel
  have b10 : anyK (fieldsOf 1) 10 = false := by decide +kernel
  have b11 : anyK (fieldsOf 1) 11 = false := by decide +kernel
  have bE : anyE (fieldsOf 1) = false := by decide +kernel
  simp only [leftOk, b1, b2, b3, b4, b5, b6, b7, b8, b9, b10, b11, bE, Bool.false_eq_true, true_or, or_true, false_or, true_and, and_true] at h
  simp only [h, and_self]
theorem z2 {i : In} (hR : rightF i = true) (hk : i.op = 2) : i.n = 0 ∧ i.nw = false ∧ i.imm = 0 ∧ i.count = 0 ∧ i.ext = false := by
  have h := ((right_iff i).1 hR).2.2.1
  rw [hk] at h
  have b1 : anyK (fieldsOf 2) 1 = true := by decide +kernel
  have b2 : anyK (fieldsOf 2) 2 = true := by decide +kernel
  have b3 : anyK (fieldsOf 2) 3 = true := by decide +kernel
  have b4 : anyK (fieldsOf 2) 4 = false := by decide +kernel
  have b5 : anyK (fieldsOf 2) 5 = true := by decide +kernel
  have b6 : anyK (fieldsOf 2) 6 = true := by decide +kernel
  have b7 : anyK (fieldsOf 2) 7 = false := by decide +kernel
  have b8 : anyK (fieldsOf 2) 8 = false := by decide +kernel
  have b9 : anyK (fieldsOf 2) 9 = false := by decide +kernel
  have b10 : anyK (fieldsOf 2) 10 = false := by decide +kernel
  have b11 : anyK (fieldsOf 2) 11 = false := by decide +kernel
  have bE : anyE (fieldsOf 2) = false := by decide +kernel
  simp only [leftOk, b1, b2, b3, b4, b5, b6, b7, b8, b9, b10, b11, bE, Bool.false_eq_true, true_or, or_true, false_or, true_and, and_true] at h
  simp only [h, and_self]
theorem z3 {i : In} (hR : rightF i = true) (hk : i.op = 3) : i.n = 0 ∧ i.nw = false ∧ i.imm = 0 ∧ i.count = 0 ∧ i.ext = false := by
  have h := ((right_iff i).1 hR).2.2.1
  rw [hk] at h
  have b1 : anyK (fieldsOf 3) 1 = true := by decide +kernel
  have b2 : anyK (fieldsOf 3) 2 = true := by decide +kernel
  have b3 : anyK (fieldsOf 3) 3 = true := by decide +kernel
  have b4 : anyK (fieldsOf 3) 4 = false := by decide +kernel
  have b5 : anyK (fieldsOf 3) 5 = true := by decide +kernel
  have b6 : anyK (fieldsOf 3) 6 = true := by decide +kernel
  have b7 : anyK (fieldsOf 3) 7 = false := by decide +kernel
  have b8 : anyK (fieldsOf 3) 8 = false := by decide +kernel
  have b9 : anyK (fieldsOf 3) 9 = false := by decide +kernel
  have b10 : anyK (fieldsOf 3) 10 = false := by decide +kernel
  have b11 : anyK (fieldsOf 3) 11 = false := by decide +kernel
  have bE : anyE (fieldsOf 3) = false := by decide +kernel
  simp only [leftOk, b1, b2, b3, b4, b5, b6, b7, b8, b9, b10, b11, bE, Bool.false_eq_true, true_or, or_true, false_or, true_and, and_true] at h
  simp only [h, and_self]
theorem z4 {i : In} (hR : rightF i = true) (hk : i.op = 4) : i.n = 0 ∧ i.nw = false ∧ i.imm = 0 ∧ i.count = 0 ∧ i.ext = false := by
  have h := ((right_iff i).1 hR).2.2.1
  rw [hk] at h
  have b1 : anyK (fieldsOf 4) 1 = true := by decide +kernel
  have b2 : anyK (fieldsOf 4) 2 = true := by decide +kernel
  have b3 : anyK (fieldsOf 4) 3 = true := by decide +kernel
  have b4 : anyK (fieldsOf 4) 4 = false := by decide +kernel
  have b5 : anyK (fieldsOf 4) 5 = true := by decide +kernel
  have b6 : anyK (fieldsOf 4) 6 = true := by decide +kernel
  have b7 : anyK (fieldsOf 4) 7 = false := by decide +kernel
  have b8 : anyK (fieldsOf 4) 8 = false := by decide +kernel
  have b9 : anyK (fieldsOf 4) 9 = false := by decide +kernel
  have b10 : anyK (fieldsOf 4) 10 = false := by decide +kernel
  have b11 : anyK (fieldsOf 4) 11 = false := by decide +kernel
  have bE : anyE (fieldsOf 4) = false := by decide +kernel
  simp only [leftOk, b1, b2, b3, b4, b5, b6, b7, b8, b9, b10, b11, bE, Bool.false_eq_true, true_or, or_true, false_or, true_and, and_true] at h
  simp only [h, and_self]
theorem z5 {i : In} (hR : rightF i = true) (hk : i.op = 5) : i.n = 0 ∧ i.nw = false ∧ i.imm = 0 ∧ i.count = 0 ∧ i.ext = false := by
  have h := ((right_iff i).1 hR).2.2.1
  rw [hk] at h
  have b1 : anyK (fieldsOf 5) 1 = true := by decide +kernel
  have b2 : anyK (fieldsOf 5) 2 = true := by decide +kernel
  have b3 : anyK (fieldsOf 5) 3 = true := by decide +kernel
  have b4 : anyK (fieldsOf 5) 4 = false := by decide +kernel
  have b5 : anyK (fieldsOf 5) 5 = true := by decide +kernel
  have b6 : anyK (fieldsOf 5) 6 = true := by decide +kernel
  have b7 : anyK (fieldsOf 5) 7 = false := by decide +kernel
  have b8 : anyK (fieldsOf 5) 8 = false := by decide +kernel
  have b9 : anyK (fieldsOf 5) 9 = false := by decide +kernel
  have b10 : anyK (fieldsOf 5) 10 = false := by decide +kernel
  have b11 : anyK (fieldsOf 5) 11 = false := by decide +kernel
  have bE : anyE (fieldsOf 5) = false := by decide +kernel
  simp only [leftOk, b1, b2, b3, b4, b5, b6, b7, b8, b9, b10, b11, bE, Bool.false_eq_true, true_or, or_true, false_or, true_and, and_true] at h
  simp only [h, and_self]
theorem z6 {i : In} (hR : rightF i = true) (hk : i.op = 6) : i.n = 0 ∧ i.nw = false ∧ i.imm = 0 ∧ i.count = 0 ∧ i.ext = false := by
  have h := ((right_iff i).1 hR).2.2.1
  rw [hk] at h
  have b1 : anyK (fieldsOf 6) 1 = true := by decide +kernel
  have b2 : anyK (fieldsOf 6) 2 = true := by decide +kernel
  have b3 : anyK (fieldsOf 6) 3 = true := by decide +kernel
  have b4 : anyK (fieldsOf 6) 4 = false := by decide +kernel
  have b5 : anyK (fieldsOf 6) 5 = true := by decide +kernel
  have b6 : anyK (fieldsOf 6) 6 = true := by decide +kernel
  have b7 : anyK (fieldsOf 6) 7 = false := by decide +kernel
  have b8 : anyK (fieldsOf 6) 8 = false := by decide +kernel
  have b9 : anyK (fieldsOf 6) 9 = false := by decide +kernel
  have b10 : anyK (fieldsOf 6) 10 = false := by decide +kernel
  have b11 : anyK (fieldsOf 6) 11 = false := by decide +kernel
  have bE : anyE (fieldsOf 6) = false := by decide +kernel
  simp only [leftOk, b1, b2, b3, b4, b5, b6, b7, b8, b9, b10, b11, bE, Bool.false_eq_true, true_or, or_true, false_or, true_and, and_true] at h
  simp only [h, and_self]
theorem z7 {i : In} (hR : rightF i = true) (hk : i.op = 7) : i.mode = 0 ∧ i.pred = 0 ∧ i.t = 0 ∧ i.n = 0 ∧ i.nw = false ∧ i.count = 0 := by
  have h := ((right_iff i).1 hR).2.2.1
  rw [hk] at h
  have b1 : anyK (fieldsOf 7) 1 = false := by decide +kernel
  have b2 : anyK (fieldsOf 7) 2 = false := by decide +kernel
  have b3 : anyK (fieldsOf 7) 3 = true := by decide +kernel
  have b4 : anyK (fieldsOf 7) 4 = false := by decide +kernel
  have b5 : anyK (fieldsOf 7) 5 = true := by decide +kernel
  have b6 : anyK (fieldsOf 7) 6 = false := by decide +kernel
  have b7 : anyK (fieldsOf 7) 7 = false := by decide +kernel
  have b8 : anyK (fieldsOf 7) 8 = false := by decide +kernel
  have b9 : anyK (fieldsOf 7) 9 = true := by decide +kernel
  have b10 : anyK (fieldsOf 7) 10 = false := by decide +kernel
  have b11 : anyK (fieldsOf 7) 11 = false := by decide +kernel
  have bE : anyE (fieldsOf 7) = true := by decide +kernel
  simp only [leftOk, b1, b2, b3, b4, b5, b6, b7, b8, b9, b10, b11, bE, Bool.false_eq_true, true_or, or_true, false_or, true_and, and_true] at h
  simp only [h, and_self]
theorem z8 {i : In} (hR : rightF i = true) (hk : i.op = 8) : i.s = 0 ∧ i.t = 0 ∧ i.n = 0 ∧ i.nw = false ∧ i.count = 0 := by
  have h := ((right_iff i).1 hR).2.2.1
  rw [hk] at h
  have b1 : anyK (fieldsOf 8) 1 = true := by decide +kernel
  have b2 : anyK (fieldsOf 8) 2 = true := by decide +kernel
  have b3 : anyK (fieldsOf 8) 3 = true := by decide +kernel
  have b4 : anyK (fieldsOf 8) 4 = false := by decide +kernel
  have b5 : anyK (fieldsOf 8) 5 = false := by decide +kernel
  have b6 : anyK (fieldsOf 8) 6 = false := by decide +kernel
  have b7 : anyK (fieldsOf 8) 7 = false := by decide +kernel
  have b8 : anyK (fieldsOf 8) 8 = false := by decide +kernel
  have b9 : anyK (fieldsOf 8) 9 = true := by decide +kernel
  have b10 : anyK (fieldsOf 8) 10 = false := by decide +kernel
  have b11 : anyK (fieldsOf 8) 11 = false := by decide +kernel
  have bE : anyE (fieldsOf 8) = true := by decide +kernel
  simp only [leftOk, b1, b2, b3, b4, b5, b6, b7, b8, b9, b10, b11, bE, Bool.false_eq_true, true_or, or_true, false_or, true_and, and_true] at h
  simp only [h, and_self]
theorem z9 {i : In} (hR : rightF i = true) (hk : i.op = 9) : i.t = 0 ∧ i.n = 0 ∧ i.nw = false ∧ i.imm = 0 ∧ i.count = 0 ∧ i.ext = false := by
  have h := ((right_iff i).1 hR).2.2.1
  rw [hk] at h
  have b1 : anyK (fieldsOf 9) 1 = true := by decide +kernel
  have b2 : anyK (fieldsOf 9) 2 = true := by decide +kernel
  have b3 : anyK (fieldsOf 9) 3 = true := by decide +kernel
  have b4 : anyK (fieldsOf 9) 4 = false := by decide +kernel
  have b5 : anyK (fieldsOf 9) 5 = true := by decide +kernel
  have b6 : anyK (fieldsOf 9) 6 = false := by decide +kernel
  have b7 : anyK (fieldsOf 9) 7 = false := by decide +kernel
  have b8 : anyK (fieldsOf 9) 8 = false := by decide +kernel
  have b9 : anyK (fieldsOf 9) 9 = false := by decide +kernel
  have b10 : anyK (fieldsOf 9) 10 = false := by decide +kernel
  have b11 : anyK (fieldsOf 9) 11 = false := by decide +kernel
  have bE : anyE (fieldsOf 9) = false := by decide +kernel
  simp only [leftOk, b1, b2, b3, b4, b5, b6, b7, b8, b9, b10, b11, bE, Bool.false_eq_true, true_or, or_true, false_or, true_and, and_true] at h
  simp only [h, and_self]
theorem z10 {i : In} (hR : rightF i = true) (hk : i.op = 10) : i.mode = 0 ∧ i.pred = 0 ∧ i.n = 0 ∧ i.nw = false ∧ i.imm = 0 ∧ i.count = 0 ∧ i.ext = false := by
  have h := ((right_iff i).1 hR).2.2.1
  rw [hk] at h
  have b1 : anyK (fieldsOf 10) 1 = false := by decide +kernel
  have b2 : anyK (fieldsOf 10) 2 = false := by decide +kernel
  have b3 : anyK (fieldsOf 10) 3 = false := by decide +kernel
  have b4 : anyK (fieldsOf 10) 4 = true := by decide +kernel
  have b5 : anyK (fieldsOf 10) 5 = true := by decide +kernel
  have b6 : anyK (fieldsOf 10) 6 = true := by decide +kernel
  have b7 : anyK (fieldsOf 10) 7 = false := by decide +kernel
  have b8 : anyK (fieldsOf 10) 8 = false := by decide +kernel
  have b9 : anyK (fieldsOf 10) 9 = false := by decide +kernel
  have b10 : anyK (fieldsOf 10) 10 = false := by decide +kernel
  have b11 : anyK (fieldsOf 10) 11 = false := by decide +kernel
  have bE : anyE (fieldsOf 10) = false := by decide +kernel
  simp only [leftOk, b1, b2, b3, b4, b5, b6, b7, b8, b9, b10, b11, bE, Bool.false_eq_true, true_or, or_true, false_or, true_and, and_true] at h
  simp only [h, and_self]
theorem z11 {i : In} (hR : rightF i = true) (hk : i.op = 11) : i.mode = 0 ∧ i.pred = 0 ∧ i.n = 0 ∧ i.nw = false ∧ i.imm = 0 ∧ i.count = 0 ∧ i.ext = false := by
  have h := ((right_iff i).1 hR).2.2.1
  rw [hk] at h
  have b1 : anyK (fieldsOf 11) 1 = false := by decide +kernel
  have b2 : anyK (fieldsOf 11) 2 = false := by decide +kernel
  have b3 : anyK (fieldsOf 11) 3 = false := by decide +kernel
  have b4 : anyK (fieldsOf 11) 4 = true := by decide +kernel
  have b5 : anyK (fieldsOf 11) 5 = true := by decide +kernel
  have b6 : anyK (fieldsOf 11) 6 = true := by decide +kernel
  have b7 : anyK (fieldsOf 11) 7 = false := by decide +kernel
  have b8 : anyK (fieldsOf 11) 8 = false := by decide +kernel
  have b9 : anyK (fieldsOf 11) 9 = false := by decide +kernel
  have b10 : anyK (fieldsOf 11) 10 = false := by decide +kernel
  have b11 : anyK (fieldsOf 11) 11 = false := by decide +kernel
  have bE : anyE (fieldsOf 11) = false := by decide +kernel
  simp only [leftOk, b1, b2, b3, b4, b5, b6, b7, b8, b9, b10, b11, bE, Bool.false_eq_true, true_or, or_true, false_or, true_and, and_true] at h
  simp only [h, and_self]
theorem z12 {i : In} (hR : rightF i = true) (hk : i.op = 12) : i.mode = 0 ∧ i.pred = 0 ∧ i.n = 0 ∧ i.nw = false ∧ i.imm = 0 ∧ i.count = 0 ∧ i.ext = false := by
  have h := ((right_iff i).1 hR).2.2.1
  rw [hk] at h
  have b1 : anyK (fieldsOf 12) 1 = false := by decide +kernel
  have b2 : anyK (fieldsOf 12) 2 = false := by decide +kernel
  have b3 : anyK (fieldsOf 12) 3 = false := by decide +kernel
  have b4 : anyK (fieldsOf 12) 4 = true := by decide +kernel
  have b5 : anyK (fieldsOf 12) 5 = true := by decide +kernel
  have b6 : anyK (fieldsOf 12) 6 = true := by decide +kernel
  have b7 : anyK (fieldsOf 12) 7 = false := by decide +kernel
  have b8 : anyK (fieldsOf 12) 8 = false := by decide +kernel
  have b9 : anyK (fieldsOf 12) 9 = false := by decide +kernel
  have b10 : anyK (fieldsOf 12) 10 = false := by decide +kernel
  have b11 : anyK (fieldsOf 12) 11 = false := by decide +kernel
  have bE : anyE (fieldsOf 12) = false := by decide +kernel
  simp only [leftOk, b1, b2, b3, b4, b5, b6, b7, b8, b9, b10, b11, bE, Bool.false_eq_true, true_or, or_true, false_or, true_and, and_true] at h
  simp only [h, and_self]
theorem z13 {i : In} (hR : rightF i = true) (hk : i.op = 13) : i.mode = 0 ∧ i.pred = 0 ∧ i.t = 0 ∧ i.n = 0 ∧ i.nw = false ∧ i.count = 0 := by
  have h := ((right_iff i).1 hR).2.2.1
  rw [hk] at h
  have b1 : anyK (fieldsOf 13) 1 = false := by decide +kernel
  have b2 : anyK (fieldsOf 13) 2 = false := by decide +kernel
  have b3 : anyK (fieldsOf 13) 3 = false := by decide +kernel
  have b4 : anyK (fieldsOf 13) 4 = true := by decide +kernel
  have b5 : anyK (fieldsOf 13) 5 = true := by decide +kernel
  have b6 : anyK (fieldsOf 13) 6 = false := by decide +kernel
  have b7 : anyK (fieldsOf 13) 7 = false := by decide +kernel
  have b8 : anyK (fieldsOf 13) 8 = false := by decide +kernel
  have b9 : anyK (fieldsOf 13) 9 = true := by decide +kernel
  have b10 : anyK (fieldsOf 13) 10 = false := by decide +kernel
  have b11 : anyK (fieldsOf 13) 11 = false := by decide +kernel
  have bE : anyE (fieldsOf 13) = true := by decide +kernel
  simp only [leftOk, b1, b2, b3, b4, b5, b6, b7, b8, b9, b10, b11, bE, Bool.false_eq_true, true_or, or_true, false_or, true_and, and_true] at h
  simp only [h, and_self]
theorem z14 {i : In} (hR : rightF i = true) (hk : i.op = 14) : i.mode = 0 ∧ i.n = 0 ∧ i.nw = false ∧ i.imm = 0 ∧ i.count = 0 ∧ i.ext = false := by
  have h := ((right_iff i).1 hR).2.2.1
  rw [hk] at h
  have b1 : anyK (fieldsOf 14) 1 = false := by decide +kernel
  have b2 : anyK (fieldsOf 14) 2 = true := by decide +kernel
  have b3 : anyK (fieldsOf 14) 3 = true := by decide +kernel
  have b4 : anyK (fieldsOf 14) 4 = false := by decide +kernel
  have b5 : anyK (fieldsOf 14) 5 = true := by decide +kernel
  have b6 : anyK (fieldsOf 14) 6 = true := by decide +kernel
  have b7 : anyK (fieldsOf 14) 7 = false := by decide +kernel
  have b8 : anyK (fieldsOf 14) 8 = false := by decide +kernel
  have b9 : anyK (fieldsOf 14) 9 = false := by decide +kernel
  have b10 : anyK (fieldsOf 14) 10 = false := by decide +kernel
  have b11 : anyK (fieldsOf 14) 11 = false := by decide +kernel
  have bE : anyE (fieldsOf 14) = false := by decide +kernel
  simp only [leftOk, b1, b2, b3, b4, b5, b6, b7, b8, b9, b10, b11, bE, Bool.false_eq_true, true_or, or_true, false_or, true_and, and_true] at h
  simp only [h, and_self]
theorem z15 {i : In} (hR : rightF i = true) (hk : i.op = 15) : i.mode = 0 ∧ i.pred = 0 ∧ i.t = 0 ∧ i.n = 0 ∧ i.nw = false ∧ i.count = 0 ∧ i.ext = false := by
  have h := ((right_iff i).1 hR).2.2.1
  rw [hk] at h
  have b1 : anyK (fieldsOf 15) 1 = false := by decide +kernel
  have b2 : anyK (fieldsOf 15) 2 = false := by decide +kernel
  have b3 : anyK (fieldsOf 15) 3 = true := by decide +kernel
  have b4 : anyK (fieldsOf 15) 4 = false := by decide +kernel
  have b5 : anyK (fieldsOf 15) 5 = true := by decide +kernel
  have b6 : anyK (fieldsOf 15) 6 = false := by decide +kernel
  have b7 : anyK (fieldsOf 15) 7 = false := by decide +kernel
  have b8 : anyK (fieldsOf 15) 8 = false := by decide +kernel
  have b9 : anyK (fieldsOf 15) 9 = true := by decide +kernel
  have b10 : anyK (fieldsOf 15) 10 = false := by decide +kernel
  have b11 : anyK (fieldsOf 15) 11 = false := by decide +kernel
  have bE : anyE (fieldsOf 15) = false := by decide +kernel
  simp only [leftOk, b1, b2, b3, b4, b5, b6, b7, b8, b9, b10, b11, bE, Bool.false_eq_true, true_or, or_true, false_or, true_and, and_true] at h
  simp only [h, and_self]
theorem z16 {i : In} (hR : rightF i = true) (hk : i.op = 16) : i.mode = 0 ∧ i.pred = 0 ∧ i.t = 0 ∧ i.n = 0 ∧ i.nw = false ∧ i.count = 0 ∧ i.ext = false := by
  have h := ((right_iff i).1 hR).2.2.1
  rw [hk] at h
  have b1 : anyK (fieldsOf 16) 1 = false := by decide +kernel
  have b2 : anyK (fieldsOf 16) 2 = false := by decide +kernel
  have b3 : anyK (fieldsOf 16) 3 = true := by decide +kernel
  have b4 : anyK (fieldsOf 16) 4 = false := by decide +kernel
  have b5 : anyK (fieldsOf 16) 5 = true := by decide +kernel
  have b6 : anyK (fieldsOf 16) 6 = false := by decide +kernel
  have b7 : anyK (fieldsOf 16) 7 = false := by decide +kernel
  have b8 : anyK (fieldsOf 16) 8 = false := by decide +kernel
  have b9 : anyK (fieldsOf 16) 9 = true := by decide +kernel
  have b10 : anyK (fieldsOf 16) 10 = false := by decide +kernel
  have b11 : anyK (fieldsOf 16) 11 = false := by decide +kernel
  have bE : anyE (fieldsOf 16) = false := by decide +kernel
  simp only [leftOk, b1, b2, b3, b4, b5, b6, b7, b8, b9, b10, b11, bE, Bool.false_eq_true, true_or, or_true, false_or, true_and, and_true] at h
  simp only [h, and_self]
theorem z17 {i : In} (hR : rightF i = true) (hk : i.op = 17) : i.mode = 0 ∧ i.pred = 0 ∧ i.t = 0 ∧ i.n = 0 ∧ i.nw = false ∧ i.count = 0 ∧ i.ext = false := by
  have h := ((right_iff i).1 hR).2.2.1
  rw [hk] at h
  have b1 : anyK (fieldsOf 17) 1 = false := by decide +kernel
  have b2 : anyK (fieldsOf 17) 2 = false := by decide +kernel
  have b3 : anyK (fieldsOf 17) 3 = true := by decide +kernel
  have b4 : anyK (fieldsOf 17) 4 = false := by decide +kernel
  have b5 : anyK (fieldsOf 17) 5 = true := by decide +kernel
  have b6 : anyK (fieldsOf 17) 6 = false := by decide +kernel
  have b7 : anyK (fieldsOf 17) 7 = false := by decide +kernel
  have b8 : anyK (fieldsOf 17) 8 = false := by decide +kernel
  have b9 : anyK (fieldsOf 17) 9 = true := by decide +kernel
  have b10 : anyK (fieldsOf 17) 10 = false := by decide +kernel
  have b11 : anyK (fieldsOf 17) 11 = false := by decide +kernel
  have bE : anyE (fieldsOf 17) = false := by decide +kernel
  simp only [leftOk, b1, b2, b3, b4, b5, b6, b7, b8, b9, b10, b11, bE, Bool.false_eq_true, true_or, or_true, false_or, true_and, and_true] at h
  simp only [h, and_self]
theorem z18 {i : In} (hR : rightF i = true) (hk : i.op = 18) : i.mode = 0 ∧ i.pred = 0 ∧ i.n = 0 ∧ i.nw = false ∧ i.imm = 0 ∧ i.count = 0 ∧ i.ext = false := by
  have h := ((right_iff i).1 hR).2.2.1
  rw [hk] at h
  have b1 : anyK (fieldsOf 18) 1 = false := by decide +kernel
  have b2 : anyK (fieldsOf 18) 2 = false := by decide +kernel
  have b3 : anyK (fieldsOf 18) 3 = true := by decide +kernel
  have b4 : anyK (fieldsOf 18) 4 = false := by decide +kernel
  have b5 : anyK (fieldsOf 18) 5 = true := by decide +kernel
  have b6 : anyK (fieldsOf 18) 6 = true := by decide +kernel
  have b7 : anyK (fieldsOf 18) 7 = false := by decide +kernel
  have b8 : anyK (fieldsOf 18) 8 = false := by decide +kernel
  have b9 : anyK (fieldsOf 18) 9 = false := by decide +kernel
  have b10 : anyK (fieldsOf 18) 10 = false := by decide +kernel
  have b11 : anyK (fieldsOf 18) 11 = false := by decide +kernel
  have bE : anyE (fieldsOf 18) = false := by decide +kernel
  simp only [leftOk, b1, b2, b3, b4, b5, b6, b7, b8, b9, b10, b11, bE, Bool.false_eq_true, true_or, or_true, false_or, true_and, and_true] at h
  simp only [h, and_self]
theorem z19 {i : In} (hR : rightF i = true) (hk : i.op = 19) : i.mode = 0 ∧ i.pred = 0 ∧ i.n = 0 ∧ i.nw = false ∧ i.imm = 0 ∧ i.count = 0 ∧ i.ext = false := by
  have h := ((right_iff i).1 hR).2.2.1
  rw [hk] at h
  have b1 : anyK (fieldsOf 19) 1 = false := by decide +kernel
  have b2 : anyK (fieldsOf 19) 2 = false := by decide +kernel
  have b3 : anyK (fieldsOf 19) 3 = true := by decide +kernel
  have b4 : anyK (fieldsOf 19) 4 = false := by decide +kernel
  have b5 : anyK (fieldsOf 19) 5 = true := by decide +kernel
  have b6 : anyK (fieldsOf 19) 6 = true := by decide +kernel
  have b7 : anyK (fieldsOf 19) 7 = false := by decide +kernel
  have b8 : anyK (fieldsOf 19) 8 = false := by decide +kernel
  have b9 : anyK (fieldsOf 19) 9 = false := by decide +kernel
  have b10 : anyK (fieldsOf 19) 10 = false := by decide +kernel
  have b11 : anyK (fieldsOf 19) 11 = false := by decide +kernel
  have bE : anyE (fieldsOf 19) = false := by decide +kernel
  simp only [leftOk, b1, b2, b3, b4, b5, b6, b7, b8, b9, b10, b11, bE, Bool.false_eq_true, true_or, or_true, false_or, true_and, and_true] at h
  simp only [h, and_self]
theorem z20 {i : In} (hR : rightF i = true) (hk : i.op = 20) : i.mode = 0 ∧ i.pred = 0 ∧ i.n = 0 ∧ i.nw = false ∧ i.imm = 0 ∧ i.count = 0 ∧ i.ext = false := by
  have h := ((right_iff i).1 hR).2.2.1
  rw [hk] at h
  have b1 : anyK (fieldsOf 20) 1 = false := by decide +kernel
  have b2 : anyK (fieldsOf 20) 2 = false := by decide +kernel
  have b3 : anyK (fieldsOf 20) 3 = true := by decide +kernel
  have b4 : anyK (fieldsOf 20) 4 = false := by decide +kernel
  have b5 : anyK (fieldsOf 20) 5 = true := by decide +kernel
  have b6 : anyK (fieldsOf 20) 6 = true := by decide +kernel
  have b7 : anyK (fieldsOf 20) 7 = false := by decide +kernel
  have b8 : anyK (fieldsOf 20) 8 = false := by decide +kernel
  have b9 : anyK (fieldsOf 20) 9 = false := by decide +kernel
  have b10 : anyK (fieldsOf 20) 10 = false := by decide +kernel
  have b11 : anyK (fieldsOf 20) 11 = false := by decide +kernel
  have bE : anyE (fieldsOf 20) = false := by decide +kernel
  simp only [leftOk, b1, b2, b3, b4, b5, b6, b7, b8, b9, b10, b11, bE, Bool.false_eq_true, true_or, or_true, false_or, true_and, and_true] at h
  simp only [h, and_self]
theorem z21 {i : In} (hR : rightF i = true) (hk : i.op = 21) : i.mode = 0 ∧ i.pred = 0 ∧ i.t = 0 ∧ i.n = 0 ∧ i.nw = false ∧ i.count = 0 := by
  have h := ((right_iff i).1 hR).2.2.1
  rw [hk] at h
  have b1 : anyK (fieldsOf 21) 1 = false := by decide +kernel
  have b2 : anyK (fieldsOf 21) 2 = false := by decide +kernel
  have b3 : anyK (fieldsOf 21) 3 = true := by decide +kernel
  have b4 : anyK (fieldsOf 21) 4 = false := by decide +kernel
  have b5 : anyK (fieldsOf 21) 5 = true := by decide +kernel
  have b6 : anyK (fieldsOf 21) 6 = false := by decide +kernel
  have b7 : anyK (fieldsOf 21) 7 = false := by decide +kernel
  have b8 : anyK (fieldsOf 21) 8 = false := by decide +kernel
  have b9 : anyK (fieldsOf 21) 9 = true := by decide +kernel
  have b10 : anyK (fieldsOf 21) 10 = false := by decide +kernel
  have b11 : anyK (fieldsOf 21) 11 = false := by decide +kernel
  have bE : anyE (fieldsOf 21) = true := by decide +kernel
  simp only [leftOk, b1, b2, b3, b4, b5, b6, b7, b8, b9, b10, b11, bE, Bool.false_eq_true, true_or, or_true, false_or, true_and, and_true] at h
  simp only [h, and_self]
theorem z22 {i : In} (hR : rightF i = true) (hk : i.op = 22) : i.mode = 0 ∧ i.pred = 0 ∧ i.t = 0 ∧ i.n = 0 ∧ i.nw = false ∧ i.count = 0 := by
  have h := ((right_iff i).1 hR).2.2.1
  rw [hk] at h
  have b1 : anyK (fieldsOf 22) 1 = false := by decide +kernel
  have b2 : anyK (fieldsOf 22) 2 = false := by decide +kernel
  have b3 : anyK (fieldsOf 22) 3 = true := by decide +kernel
  have b4 : anyK (fieldsOf 22) 4 = false := by decide +kernel
  have b5 : anyK (fieldsOf 22) 5 = true := by decide +kernel
  have b6 : anyK (fieldsOf 22) 6 = false := by decide +kernel
  have b7 : anyK (fieldsOf 22) 7 = false := by decide +kernel
  have b8 : anyK (fieldsOf 22) 8 = false := by decide +kernel
  have b9 : anyK (fieldsOf 22) 9 = true := by decide +kernel
  have b10 : anyK (fieldsOf 22) 10 = false := by decide +kernel
  have b11 : anyK (fieldsOf 22) 11 = false := by decide +kernel
  have bE : anyE (fieldsOf 22) = true := by decide +kernel
  simp only [leftOk, b1, b2, b3, b4, b5, b6, b7, b8, b9, b10, b11, bE, Bool.false_eq_true, true_or, or_true, false_or, true_and, and_true] at h
  simp only [h, and_self]
theorem z23 {i : In} (hR : rightF i = true) (hk : i.op = 23) : i.mode = 0 ∧ i.pred = 0 ∧ i.t = 0 ∧ i.n = 0 ∧ i.nw = false ∧ i.count = 0 := by
  have h := ((right_iff i).1 hR).2.2.1
  rw [hk] at h
  have b1 : anyK (fieldsOf 23) 1 = false := by decide +kernel
  have b2 : anyK (fieldsOf 23) 2 = false := by decide +kernel
  have b3 : anyK (fieldsOf 23) 3 = true := by decide +kernel
  have b4 : anyK (fieldsOf 23) 4 = false := by decide +kernel
  have b5 : anyK (fieldsOf 23) 5 = true := by decide +kernel
  have b6 : anyK (fieldsOf 23) 6 = false := by decide +kernel
  have b7 : anyK (fieldsOf 23) 7 = false := by decide +kernel
  have b8 : anyK (fieldsOf 23) 8 = false := by decide +kernel
  have b9 : anyK (fieldsOf 23) 9 = true := by decide +kernel
  have b10 : anyK (fieldsOf 23) 10 = false := by decide +kernel
  have b11 : anyK (fieldsOf 23) 11 = false := by decide +kernel
  have bE : anyE (fieldsOf 23) = true := by decide +kernel
  simp only [leftOk, b1, b2, b3, b4, b5, b6, b7, b8, b9, b10, b11, bE, Bool.false_eq_true, true_or, or_true, false_or, true_and, and_true] at h
  simp only [h, and_self]
theorem z24 {i : In} (hR : rightF i = true) (hk : i.op = 24) : i.mode = 0 ∧ i.pred = 0 ∧ i.d = 0 ∧ i.n = 0 ∧ i.count = 0 := by
  have h := ((right_iff i).1 hR).2.2.1
  rw [hk] at h
  have b1 : anyK (fieldsOf 24) 1 = false := by decide +kernel
  have b2 : anyK (fieldsOf 24) 2 = false := by decide +kernel
  have b3 : anyK (fieldsOf 24) 3 = false := by decide +kernel
  have b4 : anyK (fieldsOf 24) 4 = false := by decide +kernel
  have b5 : anyK (fieldsOf 24) 5 = true := by decide +kernel
  have b6 : anyK (fieldsOf 24) 6 = true := by decide +kernel
  have b7 : anyK (fieldsOf 24) 7 = false := by decide +kernel
  have b8 : anyK (fieldsOf 24) 8 = true := by decide +kernel
  have b9 : anyK (fieldsOf 24) 9 = true := by decide +kernel
  have b10 : anyK (fieldsOf 24) 10 = false := by decide +kernel
  have b11 : anyK (fieldsOf 24) 11 = false := by decide +kernel
  have bE : anyE (fieldsOf 24) = true := by decide +kernel
  simp only [leftOk, b1, b2, b3, b4, b5, b6, b7, b8, b9, b10, b11, bE, Bool.false_eq_true, true_or, or_true, false_or, true_and, and_true] at h
  simp only [h, and_self]
theorem z25 {i : In} (hR : rightF i = true) (hk : i.op = 25) : i.mode = 0 ∧ i.pred = 0 ∧ i.d = 0 ∧ i.n = 0 ∧ i.count = 0 := by
  have h := ((right_iff i).1 hR).2.2.1
  rw [hk] at h
  have b1 : anyK (fieldsOf 25) 1 = false := by decide +kernel
  have b2 : anyK (fieldsOf 25) 2 = false := by decide +kernel
  have b3 : anyK (fieldsOf 25) 3 = false := by decide +kernel
  have b4 : anyK (fieldsOf 25) 4 = false := by decide +kernel
  have b5 : anyK (fieldsOf 25) 5 = true := by decide +kernel
  have b6 : anyK (fieldsOf 25) 6 = true := by decide +kernel
  have b7 : anyK (fieldsOf 25) 7 = false := by decide +kernel
  have b8 : anyK (fieldsOf 25) 8 = true := by decide +kernel
  have b9 : anyK (fieldsOf 25) 9 = true := by decide +kernel
  have b10 : anyK (fieldsOf 25) 10 = false := by decide +kernel
  have b11 : anyK (fieldsOf 25) 11 = false := by decide +kernel
  have bE : anyE (fieldsOf 25) = true := by decide +kernel
  simp only [leftOk, b1, b2, b3, b4, b5, b6, b7, b8, b9, b10, b11, bE, Bool.false_eq_true, true_or, or_true, false_or, true_and, and_true] at h
  simp only [h, and_self]
theorem z26 {i : In} (hR : rightF i = true) (hk : i.op = 26) : i.mode = 0 ∧ i.pred = 0 ∧ i.d = 0 ∧ i.n = 0 ∧ i.count = 0 := by
  have h := ((right_iff i).1 hR).2.2.1
  rw [hk] at h
  have b1 : anyK (fieldsOf 26) 1 = false := by decide +kernel
  have b2 : anyK (fieldsOf 26) 2 = false := by decide +kernel
  have b3 : anyK (fieldsOf 26) 3 = false := by decide +kernel
  have b4 : anyK (fieldsOf 26) 4 = false := by decide +kernel
  have b5 : anyK (fieldsOf 26) 5 = true := by decide +kernel
  have b6 : anyK (fieldsOf 26) 6 = true := by decide +kernel
  have b7 : anyK (fieldsOf 26) 7 = false := by decide +kernel
  have b8 : anyK (fieldsOf 26) 8 = true := by decide +kernel
  have b9 : anyK (fieldsOf 26) 9 = true := by decide +kernel
  have b10 : anyK (fieldsOf 26) 10 = false := by decide +kernel
  have b11 : anyK (fieldsOf 26) 11 = false := by decide +kernel
  have bE : anyE (fieldsOf 26) = true := by decide +kernel
  simp only [leftOk, b1, b2, b3, b4, b5, b6, b7, b8, b9, b10, b11, bE, Bool.false_eq_true, true_or, or_true, false_or, true_and, and_true] at h
  simp only [h, and_self]
theorem z27 {i : In} (hR : rightF i = true) (hk : i.op = 27) : i.d = 0 ∧ i.s = 0 ∧ i.t = 0 ∧ i.n = 0 ∧ i.nw = false ∧ i.count = 0 := by
  have h := ((right_iff i).1 hR).2.2.1
  rw [hk] at h
  have b1 : anyK (fieldsOf 27) 1 = true := by decide +kernel
  have b2 : anyK (fieldsOf 27) 2 = true := by decide +kernel
  have b3 : anyK (fieldsOf 27) 3 = false := by decide +kernel
  have b4 : anyK (fieldsOf 27) 4 = false := by decide +kernel
  have b5 : anyK (fieldsOf 27) 5 = false := by decide +kernel
  have b6 : anyK (fieldsOf 27) 6 = false := by decide +kernel
  have b7 : anyK (fieldsOf 27) 7 = false := by decide +kernel
  have b8 : anyK (fieldsOf 27) 8 = false := by decide +kernel
  have b9 : anyK (fieldsOf 27) 9 = false := by decide +kernel
  have b10 : anyK (fieldsOf 27) 10 = true := by decide +kernel
  have b11 : anyK (fieldsOf 27) 11 = false := by decide +kernel
  have bE : anyE (fieldsOf 27) = true := by decide +kernel
  simp only [leftOk, b1, b2, b3, b4, b5, b6, b7, b8, b9, b10, b11, bE, Bool.false_eq_true, true_or, or_true, false_or, true_and, and_true] at h
  simp only [h, and_self]
theorem z28 {i : In} (hR : rightF i = true) (hk : i.op = 28) : i.d = 0 ∧ i.t = 0 ∧ i.n = 0 ∧ i.nw = false ∧ i.imm = 0 ∧ i.count = 0 ∧ i.ext = false := by
  have h := ((right_iff i).1 hR).2.2.1
  rw [hk] at h
  have b1 : anyK (fieldsOf 28) 1 = true := by decide +kernel
  have b2 : anyK (fieldsOf 28) 2 = true := by decide +kernel
  have b3 : anyK (fieldsOf 28) 3 = false := by decide +kernel
  have b4 : anyK (fieldsOf 28) 4 = false := by decide +kernel
  have b5 : anyK (fieldsOf 28) 5 = true := by decide +kernel
  have b6 : anyK (fieldsOf 28) 6 = false := by decide +kernel
  have b7 : anyK (fieldsOf 28) 7 = false := by decide +kernel
  have b8 : anyK (fieldsOf 28) 8 = false := by decide +kernel
  have b9 : anyK (fieldsOf 28) 9 = false := by decide +kernel
  have b10 : anyK (fieldsOf 28) 10 = false := by decide +kernel
  have b11 : anyK (fieldsOf 28) 11 = false := by decide +kernel
  have bE : anyE (fieldsOf 28) = false := by decide +kernel
  simp only [leftOk, b1, b2, b3, b4, b5, b6, b7, b8, b9, b10, b11, bE, Bool.false_eq_true, true_or, or_true, false_or, true_and, and_true] at h
  simp only [h, and_self]
theorem z29 {i : In} (hR : rightF i = true) (hk : i.op = 29) : i.mode = 0 ∧ i.pred = 0 ∧ i.d = 0 ∧ i.s = 0 ∧ i.t = 0 ∧ i.n = 0 ∧ i.nw = false ∧ i.count = 0 := by
  have h := ((right_iff i).1 hR).2.2.1
  rw [hk] at h
  have b1 : anyK (fieldsOf 29) 1 = false := by decide +kernel
  have b2 : anyK (fieldsOf 29) 2 = false := by decide +kernel
  have b3 : anyK (fieldsOf 29) 3 = false := by decide +kernel
  have b4 : anyK (fieldsOf 29) 4 = false := by decide +kernel
  have b5 : anyK (fieldsOf 29) 5 = false := by decide +kernel
  have b6 : anyK (fieldsOf 29) 6 = false := by decide +kernel
  have b7 : anyK (fieldsOf 29) 7 = false := by decide +kernel
  have b8 : anyK (fieldsOf 29) 8 = false := by decide +kernel
  have b9 : anyK (fieldsOf 29) 9 = false := by decide +kernel
  have b10 : anyK (fieldsOf 29) 10 = true := by decide +kernel
  have b11 : anyK (fieldsOf 29) 11 = false := by decide +kernel
  have bE : anyE (fieldsOf 29) = true := by decide +kernel
  simp only [leftOk, b1, b2, b3, b4, b5, b6, b7, b8, b9, b10, b11, bE, Bool.false_eq_true, true_or, or_true, false_or, true_and, and_true] at h
  simp only [h, and_self]
theorem z30 {i : In} (hR : rightF i = true) (hk : i.op = 30) : i.mode = 0 ∧ i.pred = 0 ∧ i.d = 0 ∧ i.s = 0 ∧ i.t = 0 ∧ i.nw = false := by
  have h := ((right_iff i).1 hR).2.2.1
  rw [hk] at h
  have b1 : anyK (fieldsOf 30) 1 = false := by decide +kernel
  have b2 : anyK (fieldsOf 30) 2 = false := by decide +kernel
  have b3 : anyK (fieldsOf 30) 3 = false := by decide +kernel
  have b4 : anyK (fieldsOf 30) 4 = false := by decide +kernel
  have b5 : anyK (fieldsOf 30) 5 = false := by decide +kernel
  have b6 : anyK (fieldsOf 30) 6 = false := by decide +kernel
  have b7 : anyK (fieldsOf 30) 7 = true := by decide +kernel
  have b8 : anyK (fieldsOf 30) 8 = false := by decide +kernel
  have b9 : anyK (fieldsOf 30) 9 = false := by decide +kernel
  have b10 : anyK (fieldsOf 30) 10 = true := by decide +kernel
  have b11 : anyK (fieldsOf 30) 11 = true := by decide +kernel
  have bE : anyE (fieldsOf 30) = true := by decide +kernel
  simp only [leftOk, b1, b2, b3, b4, b5, b6, b7, b8, b9, b10, b11, bE, Bool.false_eq_true, true_or, or_true, false_or, true_and, and_true] at h
  simp only [h, and_self]
theorem z31 {i : In} (hR : rightF i = true) (hk : i.op = 31) : i.mode = 0 ∧ i.pred = 0 ∧ i.d = 0 ∧ i.t = 0 ∧ i.nw = false ∧ i.count = 0 := by
  have h := ((right_iff i).1 hR).2.2.1
  rw [hk] at h
  have b1 : anyK (fieldsOf 31) 1 = false := by decide +kernel
  have b2 : anyK (fieldsOf 31) 2 = false := by decide +kernel
  have b3 : anyK (fieldsOf 31) 3 = false := by decide +kernel
  have b4 : anyK (fieldsOf 31) 4 = false := by decide +kernel
  have b5 : anyK (fieldsOf 31) 5 = true := by decide +kernel
  have b6 : anyK (fieldsOf 31) 6 = false := by decide +kernel
  have b7 : anyK (fieldsOf 31) 7 = true := by decide +kernel
  have b8 : anyK (fieldsOf 31) 8 = false := by decide +kernel
  have b9 : anyK (fieldsOf 31) 9 = false := by decide +kernel
  have b10 : anyK (fieldsOf 31) 10 = true := by decide +kernel
  have b11 : anyK (fieldsOf 31) 11 = false := by decide +kernel
  have bE : anyE (fieldsOf 31) = true := by decide +kernel
  simp only [leftOk, b1, b2, b3, b4, b5, b6, b7, b8, b9, b10, b11, bE, Bool.false_eq_true, true_or, or_true, false_or, true_and, and_true] at h
  simp only [h, and_self]
theorem same1 {i j : In} (hi : rightF i = true) (hj : rightF j = true) (hk : i.op = 1) (hm : i.mode = j.mode) (hp : i.mode ≠ 0 → i.pred = j.pred) (h : flatS i [] (patS i.op) = flatS j [] (patS j.op)) : i = j := by
  rw [hk, tx1_eq] at h
  obtain ⟨e, F⟩ := two1 hi hj hk h
  have zi := z1 hi hk
  have zj := z1 hj e
  clear hi hj h hp
  cases i; cases j
  simp_all
theorem same2 {i j : In} (hi : rightF i = true) (hj : rightF j = true) (hk : i.op = 2) (hm : i.mode = j.mode) (hp : i.mode ≠ 0 → i.pred = j.pred) (h : flatS i [] (patS i.op) = flatS j [] (patS j.op)) : i = j := by
  rw [hk, tx2_eq] at h
  obtain ⟨e, F⟩ := two2 hi hj hk h
  have zi := z2 hi hk
  have zj := z2 hj e
  have ph : hasF 2 1 = true := by decide +kernel
  have pi := ((right_iff i).1 hi).2.2.2
  have pj := ((right_iff j).1 hj).2.2.2
  rw [hk] at pi
  rw [e] at pj
  have hpred : i.pred = j.pred := by
    by_cases h0 : i.mode = 0
    · have a1 : i.pred = 0 := Classical.byContradiction fun hne => pi ⟨ph, h0, hne⟩
      have a2 : j.pred = 0 := Classical.byContradiction fun hne => pj ⟨ph, by rw [← hm]; exact h0, hne⟩
      rw [a1, a2]
    · exact hp h0
  clear hi hj h hp
  cases i; cases j
  simp_all
theorem same3 {i j : In} (hi : rightF i = true) (hj : rightF j = true) (hk : i.op = 3) (hm : i.mode = j.mode) (hp : i.mode ≠ 0 → i.pred = j.pred) (h : flatS i [] (patS i.op) = flatS j [] (patS j.op)) : i = j := by
  rw [hk, tx3_eq] at h
  obtain ⟨e, F⟩ := two3 hi hj hk h
  have zi := z3 hi hk
  have zj := z3 hj e
  have ph : hasF 3 1 = true := by decide +kernel
  have pi := ((right_iff i).1 hi).2.2.2
  have pj := ((right_iff j).1 hj).2.2.2
  rw [hk] at pi
  rw [e] at pj
  have hpred : i.pred = j.pred := by
    by_cases h0 : i.mode = 0
    · have a1 : i.pred = 0 := Classical.byContradiction fun hne => pi ⟨ph, h0, hne⟩
      have a2 : j.pred = 0 := Classical.byContradiction fun hne => pj ⟨ph, by rw [← hm]; exact h0, hne⟩
      rw [a1, a2]
    · exact hp h0
  clear hi hj h hp
  cases i; cases j
  simp_all
theorem same4 {i j : In} (hi : rightF i = true) (hj : rightF j = true) (hk : i.op = 4) (hm : i.mode = j.mode) (hp : i.mode ≠ 0 → i.pred = j.pred) (h : flatS i [] (patS i.op) = flatS j [] (patS j.op)) : i = j := by
  rw [hk, tx4_eq] at h
  obtain ⟨e, F⟩ := two4 hi hj hk h
  have zi := z4 hi hk
  have zj := z4 hj e
  have ph : hasF 4 1 = true := by decide +kernel
  have pi := ((right_iff i).1 hi).2.2.2
  have pj := ((right_iff j).1 hj).2.2.2
  rw [hk] at pi
  rw [e] at pj
  have hpred : i.pred = j.pred := by
    by_cases h0 : i.mode = 0
    · have a1 : i.pred = 0 := Classical.byContradiction fun hne => pi ⟨ph, h0, hne⟩
      have a2 : j.pred = 0 := Classical.byContradiction fun hne => pj ⟨ph, by rw [← hm]; exact h0, hne⟩
      rw [a1, a2]
    · exact hp h0
  clear hi hj h hp
  cases i; cases j
  simp_all
theorem same5 {i j : In} (hi : rightF i = true) (hj : rightF j = true) (hk : i.op = 5) (hm : i.mode = j.mode) (hp : i.mode ≠ 0 → i.pred = j.pred) (h : flatS i [] (patS i.op) = flatS j [] (patS j.op)) : i = j := by
  rw [hk, tx5_eq] at h
  obtain ⟨e, F⟩ := two5 hi hj hk h
  have zi := z5 hi hk
  have zj := z5 hj e
  have ph : hasF 5 1 = true := by decide +kernel
  have pi := ((right_iff i).1 hi).2.2.2
  have pj := ((right_iff j).1 hj).2.2.2
  rw [hk] at pi
  rw [e] at pj
  have hpred : i.pred = j.pred := by
    by_cases h0 : i.mode = 0
    · have a1 : i.pred = 0 := Classical.byContradiction fun hne => pi ⟨ph, h0, hne⟩
      have a2 : j.pred = 0 := Classical.byContradiction fun hne => pj ⟨ph, by rw [← hm]; exact h0, hne⟩
      rw [a1, a2]
    · exact hp h0
  clear hi hj h hp
  cases i; cases j
  simp_all
theorem same6 {i j : In} (hi : rightF i = true) (hj : rightF j = true) (hk : i.op = 6) (hm : i.mode = j.mode) (hp : i.mode ≠ 0 → i.pred = j.pred) (h : flatS i [] (patS i.op) = flatS j [] (patS j.op)) : i = j := by
  rw [hk, tx6_eq] at h
  obtain ⟨e, F⟩ := two6 hi hj hk h
  have zi := z6 hi hk
  have zj := z6 hj e
  have ph : hasF 6 1 = true := by decide +kernel
  have pi := ((right_iff i).1 hi).2.2.2
  have pj := ((right_iff j).1 hj).2.2.2
  rw [hk] at pi
  rw [e] at pj
  have hpred : i.pred = j.pred := by
    by_cases h0 : i.mode = 0
    · have a1 : i.pred = 0 := Classical.byContradiction fun hne => pi ⟨ph, h0, hne⟩
      have a2 : j.pred = 0 := Classical.byContradiction fun hne => pj ⟨ph, by rw [← hm]; exact h0, hne⟩
      rw [a1, a2]
    · exact hp h0
  clear hi hj h hp
  cases i; cases j
  simp_all
theorem same7 {i j : In} (hi : rightF i = true) (hj : rightF j = true) (hk : i.op = 7) (hm : i.mode = j.mode) (hp : i.mode ≠ 0 → i.pred = j.pred) (h : flatS i [] (patS i.op) = flatS j [] (patS j.op)) : i = j := by
  rw [hk, tx7_eq] at h
  obtain ⟨e, F⟩ := two7 hi hj hk h
  have zi := z7 hi hk
  have zj := z7 hj e
  clear hi hj h hp
  cases i; cases j
  simp_all
theorem same8 {i j : In} (hi : rightF i = true) (hj : rightF j = true) (hk : i.op = 8) (hm : i.mode = j.mode) (hp : i.mode ≠ 0 → i.pred = j.pred) (h : flatS i [] (patS i.op) = flatS j [] (patS j.op)) : i = j := by
  rw [hk, tx8_eq] at h
  obtain ⟨e, F⟩ := two8 hi hj hk h
  have zi := z8 hi hk
  have zj := z8 hj e
  have ph : hasF 8 1 = true := by decide +kernel
  have pi := ((right_iff i).1 hi).2.2.2
  have pj := ((right_iff j).1 hj).2.2.2
  rw [hk] at pi
  rw [e] at pj
  have hpred : i.pred = j.pred := by
    by_cases h0 : i.mode = 0
    · have a1 : i.pred = 0 := Classical.byContradiction fun hne => pi ⟨ph, h0, hne⟩
      have a2 : j.pred = 0 := Classical.byContradiction fun hne => pj ⟨ph, by rw [← hm]; exact h0, hne⟩
      rw [a1, a2]
    · exact hp h0
  clear hi hj h hp
  cases i; cases j
  simp_all
theorem same9 {i j : In} (hi : rightF i = true) (hj : rightF j = true) (hk : i.op = 9) (hm : i.mode = j.mode) (hp : i.mode ≠ 0 → i.pred = j.pred) (h : flatS i [] (patS i.op) = flatS j [] (patS j.op)) : i = j := by
  rw [hk, tx9_eq] at h
  obtain ⟨e, F⟩ := two9 hi hj hk h
  have zi := z9 hi hk
  have zj := z9 hj e
  have ph : hasF 9 1 = true := by decide +kernel
  have pi := ((right_iff i).1 hi).2.2.2
  have pj := ((right_iff j).1 hj).2.2.2
  rw [hk] at pi
  rw [e] at pj
  have hpred : i.pred = j.pred := by
    by_cases h0 : i.mode = 0
    · have a1 : i.pred = 0 := Classical.byContradiction fun hne => pi ⟨ph, h0, hne⟩
      have a2 : j.pred = 0 := Classical.byContradiction fun hne => pj ⟨ph, by rw [← hm]; exact h0, hne⟩
      rw [a1, a2]
    · exact hp h0
  clear hi hj h hp
  cases i; cases j
  simp_all
theorem same10 {i j : In} (hi : rightF i = true) (hj : rightF j = true) (hk : i.op = 10) (hm : i.mode = j.mode) (hp : i.mode ≠ 0 → i.pred = j.pred) (h : flatS i [] (patS i.op) = flatS j [] (patS j.op)) : i = j := by
  rw [hk, tx10_eq] at h
  obtain ⟨e, F⟩ := two10 hi hj hk h
  have zi := z10 hi hk
  have zj := z10 hj e
  clear hi hj h hp
  cases i; cases j
  simp_all
theorem same11 {i j : In} (hi : rightF i = true) (hj : rightF j = true) (hk : i.op = 11) (hm : i.mode = j.mode) (hp : i.mode ≠ 0 → i.pred = j.pred) (h : flatS i [] (patS i.op) = flatS j [] (patS j.op)) : i = j := by
  rw [hk, tx11_eq] at h
  obtain ⟨e, F⟩ := two11 hi hj hk h
  have zi := z11 hi hk
  have zj := z11 hj e
  clear hi hj h hp
  cases i; cases j
  simp_all
theorem same12 {i j : In} (hi : rightF i = true) (hj : rightF j = true) (hk : i.op = 12) (hm : i.mode = j.mode) (hp : i.mode ≠ 0 → i.pred = j.pred) (h : flatS i [] (patS i.op) = flatS j [] (patS j.op)) : i = j := by
  rw [hk, tx12_eq] at h
  obtain ⟨e, F⟩ := two12 hi hj hk h
  have zi := z12 hi hk
  have zj := z12 hj e
  clear hi hj h hp
  cases i; cases j
  simp_all
theorem same13 {i j : In} (hi : rightF i = true) (hj : rightF j = true) (hk : i.op = 13) (hm : i.mode = j.mode) (hp : i.mode ≠ 0 → i.pred = j.pred) (h : flatS i [] (patS i.op) = flatS j [] (patS j.op)) : i = j := by
  rw [hk, tx13_eq] at h
  obtain ⟨e, F⟩ := two13 hi hj hk h
  have zi := z13 hi hk
  have zj := z13 hj e
  clear hi hj h hp
  cases i; cases j
  simp_all
theorem same14 {i j : In} (hi : rightF i = true) (hj : rightF j = true) (hk : i.op = 14) (hm : i.mode = j.mode) (hp : i.mode ≠ 0 → i.pred = j.pred) (h : flatS i [] (patS i.op) = flatS j [] (patS j.op)) : i = j := by
  rw [hk, tx14_eq] at h
  obtain ⟨e, F⟩ := two14 hi hj hk h
  have zi := z14 hi hk
  have zj := z14 hj e
  clear hi hj h hp
  cases i; cases j
  simp_all
theorem same15 {i j : In} (hi : rightF i = true) (hj : rightF j = true) (hk : i.op = 15) (hm : i.mode = j.mode) (hp : i.mode ≠ 0 → i.pred = j.pred) (h : flatS i [] (patS i.op) = flatS j [] (patS j.op)) : i = j := by
  rw [hk, tx15_eq] at h
  obtain ⟨e, F⟩ := two15 hi hj hk h
  have zi := z15 hi hk
  have zj := z15 hj e
  clear hi hj h hp
  cases i; cases j
  simp_all
theorem same16 {i j : In} (hi : rightF i = true) (hj : rightF j = true) (hk : i.op = 16) (hm : i.mode = j.mode) (hp : i.mode ≠ 0 → i.pred = j.pred) (h : flatS i [] (patS i.op) = flatS j [] (patS j.op)) : i = j := by
  rw [hk, tx16_eq] at h
  obtain ⟨e, F⟩ := two16 hi hj hk h
  have zi := z16 hi hk
  have zj := z16 hj e
  clear hi hj h hp
  cases i; cases j
  simp_all
theorem same17 {i j : In} (hi : rightF i = true) (hj : rightF j = true) (hk : i.op = 17) (hm : i.mode = j.mode) (hp : i.mode ≠ 0 → i.pred = j.pred) (h : flatS i [] (patS i.op) = flatS j [] (patS j.op)) : i = j := by
  rw [hk, tx17_eq] at h
  obtain ⟨e, F⟩ := two17 hi hj hk h
  have zi := z17 hi hk
  have zj := z17 hj e
  clear hi hj h hp
  cases i; cases j
  simp_all
theorem same18 {i j : In} (hi : rightF i = true) (hj : rightF j = true) (hk : i.op = 18) (hm : i.mode = j.mode) (hp : i.mode ≠ 0 → i.pred = j.pred) (h : flatS i [] (patS i.op) = flatS j [] (patS j.op)) : i = j := by
  rw [hk, tx18_eq] at h
  obtain ⟨e, F⟩ := two18 hi hj hk h
  have zi := z18 hi hk
  have zj := z18 hj e
  clear hi hj h hp
  cases i; cases j
  simp_all
theorem same19 {i j : In} (hi : rightF i = true) (hj : rightF j = true) (hk : i.op = 19) (hm : i.mode = j.mode) (hp : i.mode ≠ 0 → i.pred = j.pred) (h : flatS i [] (patS i.op) = flatS j [] (patS j.op)) : i = j := by
  rw [hk, tx19_eq] at h
  obtain ⟨e, F⟩ := two19 hi hj hk h
  have zi := z19 hi hk
  have zj := z19 hj e
  clear hi hj h hp
  cases i; cases j
  simp_all
theorem same20 {i j : In} (hi : rightF i = true) (hj : rightF j = true) (hk : i.op = 20) (hm : i.mode = j.mode) (hp : i.mode ≠ 0 → i.pred = j.pred) (h : flatS i [] (patS i.op) = flatS j [] (patS j.op)) : i = j := by
  rw [hk, tx20_eq] at h
  obtain ⟨e, F⟩ := two20 hi hj hk h
  have zi := z20 hi hk
  have zj := z20 hj e
  clear hi hj h hp
  cases i; cases j
  simp_all
theorem same21 {i j : In} (hi : rightF i = true) (hj : rightF j = true) (hk : i.op = 21) (hm : i.mode = j.mode) (hp : i.mode ≠ 0 → i.pred = j.pred) (h : flatS i [] (patS i.op) = flatS j [] (patS j.op)) : i = j := by
  rw [hk, tx21_eq] at h
  obtain ⟨e, F⟩ := two21 hi hj hk h
  have zi := z21 hi hk
  have zj := z21 hj e
  clear hi hj h hp
  cases i; cases j
  simp_all
theorem same22 {i j : In} (hi : rightF i = true) (hj : rightF j = true) (hk : i.op = 22) (hm : i.mode = j.mode) (hp : i.mode ≠ 0 → i.pred = j.pred) (h : flatS i [] (patS i.op) = flatS j [] (patS j.op)) : i = j := by
  rw [hk, tx22_eq] at h
  obtain ⟨e, F⟩ := two22 hi hj hk h
  have zi := z22 hi hk
  have zj := z22 hj e
  clear hi hj h hp
  cases i; cases j
  simp_all
theorem same23 {i j : In} (hi : rightF i = true) (hj : rightF j = true) (hk : i.op = 23) (hm : i.mode = j.mode) (hp : i.mode ≠ 0 → i.pred = j.pred) (h : flatS i [] (patS i.op) = flatS j [] (patS j.op)) : i = j := by
  rw [hk, tx23_eq] at h
  obtain ⟨e, F⟩ := two23 hi hj hk h
  have zi := z23 hi hk
  have zj := z23 hj e
  clear hi hj h hp
  cases i; cases j
  simp_all
theorem same24 {i j : In} (hi : rightF i = true) (hj : rightF j = true) (hk : i.op = 24) (hm : i.mode = j.mode) (hp : i.mode ≠ 0 → i.pred = j.pred) (h : flatS i [] (patS i.op) = flatS j [] (patS j.op)) : i = j := by
  rw [hk, tx24_eq] at h
  obtain ⟨e, F⟩ := two24 hi hj hk h
  have zi := z24 hi hk
  have zj := z24 hj e
  clear hi hj h hp
  cases i; cases j
  simp_all
theorem same25 {i j : In} (hi : rightF i = true) (hj : rightF j = true) (hk : i.op = 25) (hm : i.mode = j.mode) (hp : i.mode ≠ 0 → i.pred = j.pred) (h : flatS i [] (patS i.op) = flatS j [] (patS j.op)) : i = j := by
  rw [hk, tx25_eq] at h
  obtain ⟨e, F⟩ := two25 hi hj hk h
  have zi := z25 hi hk
  have zj := z25 hj e
  clear hi hj h hp
  cases i; cases j
  simp_all
theorem same26 {i j : In} (hi : rightF i = true) (hj : rightF j = true) (hk : i.op = 26) (hm : i.mode = j.mode) (hp : i.mode ≠ 0 → i.pred = j.pred) (h : flatS i [] (patS i.op) = flatS j [] (patS j.op)) : i = j := by
  rw [hk, tx26_eq] at h
  obtain ⟨e, F⟩ := two26 hi hj hk h
  have zi := z26 hi hk
  have zj := z26 hj e
  clear hi hj h hp
  cases i; cases j
  simp_all
theorem same27 {i j : In} (hi : rightF i = true) (hj : rightF j = true) (hk : i.op = 27) (hm : i.mode = j.mode) (hp : i.mode ≠ 0 → i.pred = j.pred) (h : flatS i [] (patS i.op) = flatS j [] (patS j.op)) : i = j := by
  rw [hk, tx27_eq] at h
  obtain ⟨e, F⟩ := two27 hi hj hk h
  have zi := z27 hi hk
  have zj := z27 hj e
  have ph : hasF 27 1 = true := by decide +kernel
  have pi := ((right_iff i).1 hi).2.2.2
  have pj := ((right_iff j).1 hj).2.2.2
  rw [hk] at pi
  rw [e] at pj
  have hpred : i.pred = j.pred := by
    by_cases h0 : i.mode = 0
    · have a1 : i.pred = 0 := Classical.byContradiction fun hne => pi ⟨ph, h0, hne⟩
      have a2 : j.pred = 0 := Classical.byContradiction fun hne => pj ⟨ph, by rw [← hm]; exact h0, hne⟩
      rw [a1, a2]
    · exact hp h0
  have bi := imm_target hi (by rw [hk]; decide +kernel)
  have bj := imm_target hj (by rw [e]; decide +kernel)
  have himm : i.imm = j.imm := by omega
  clear hi hj h hp
  cases i; cases j
  simp_all
theorem same28 {i j : In} (hi : rightF i = true) (hj : rightF j = true) (hk : i.op = 28) (hm : i.mode = j.mode) (hp : i.mode ≠ 0 → i.pred = j.pred) (h : flatS i [] (patS i.op) = flatS j [] (patS j.op)) : i = j := by
  rw [hk, tx28_eq] at h
  obtain ⟨e, F⟩ := two28 hi hj hk h
  have zi := z28 hi hk
  have zj := z28 hj e
  have ph : hasF 28 1 = true := by decide +kernel
  have pi := ((right_iff i).1 hi).2.2.2
  have pj := ((right_iff j).1 hj).2.2.2
  rw [hk] at pi
  rw [e] at pj
  have hpred : i.pred = j.pred := by
    by_cases h0 : i.mode = 0
    · have a1 : i.pred = 0 := Classical.byContradiction fun hne => pi ⟨ph, h0, hne⟩
      have a2 : j.pred = 0 := Classical.byContradiction fun hne => pj ⟨ph, by rw [← hm]; exact h0, hne⟩
      rw [a1, a2]
    · exact hp h0
  clear hi hj h hp
  cases i; cases j
  simp_all
theorem same29 {i j : In} (hi : rightF i = true) (hj : rightF j = true) (hk : i.op = 29) (hm : i.mode = j.mode) (hp : i.mode ≠ 0 → i.pred = j.pred) (h : flatS i [] (patS i.op) = flatS j [] (patS j.op)) : i = j := by
  rw [hk, tx29_eq] at h
  obtain ⟨e, F⟩ := two29 hi hj hk h
  have zi := z29 hi hk
  have zj := z29 hj e
  have bi := imm_target hi (by rw [hk]; decide +kernel)
  have bj := imm_target hj (by rw [e]; decide +kernel)
  have himm : i.imm = j.imm := by omega
  clear hi hj h hp
  cases i; cases j
  simp_all
theorem same30 {i j : In} (hi : rightF i = true) (hj : rightF j = true) (hk : i.op = 30) (hm : i.mode = j.mode) (hp : i.mode ≠ 0 → i.pred = j.pred) (h : flatS i [] (patS i.op) = flatS j [] (patS j.op)) : i = j := by
  rw [hk, tx30_eq] at h
  obtain ⟨e, F⟩ := two30 hi hj hk h
  have zi := z30 hi hk
  have zj := z30 hj e
  have bi := imm_target hi (by rw [hk]; decide +kernel)
  have bj := imm_target hj (by rw [e]; decide +kernel)
  have himm : i.imm = j.imm := by omega
  clear hi hj h hp
  cases i; cases j
  simp_all
theorem same31 {i j : In} (hi : rightF i = true) (hj : rightF j = true) (hk : i.op = 31) (hm : i.mode = j.mode) (hp : i.mode ≠ 0 → i.pred = j.pred) (h : flatS i [] (patS i.op) = flatS j [] (patS j.op)) : i = j := by
  rw [hk, tx31_eq] at h
  obtain ⟨e, F⟩ := two31 hi hj hk h
  have zi := z31 hi hk
  have zj := z31 hj e
  have bi := imm_target hi (by rw [hk]; decide +kernel)
  have bj := imm_target hj (by rw [e]; decide +kernel)
  have himm : i.imm = j.imm := by omega
  clear hi hj h hp
  cases i; cases j
  simp_all
theorem inst_inj {i j : In} (oi : i.ok = true) (oj : j.ok = true) (hi : rightF i = true) (hj : rightF j = true) (h : instS i [] = instS j []) : i = j := by
  rw [inst_eq, inst_eq, rinstS, rinstS, if_pos hi, if_pos hj] at h
  have mi := (isByte_iff.1 (ok_bytes oi).2.2.2.2.2.2.1).1
  have mj := (isByte_iff.1 (ok_bytes oj).2.2.2.2.2.2.1).1
  obtain ⟨h1, h2, h3⟩ := cond_inj ⟨mi, rt_mode hi⟩ ⟨mj, rt_mode hj⟩ (flat_head hi) (flat_head hj) h
  have hb := rt_op hi
  have hc : i.op = 1 ∨ i.op = 2 ∨ i.op = 3 ∨ i.op = 4 ∨ i.op = 5 ∨ i.op = 6 ∨ i.op = 7 ∨ i.op = 8 ∨ i.op = 9 ∨ i.op = 10 ∨ i.op = 11 ∨ i.op = 12 ∨ i.op = 13 ∨ i.op = 14 ∨ i.op = 15 ∨ i.op = 16 ∨ i.op = 17 ∨ i.op = 18 ∨ i.op = 19 ∨ i.op = 20 ∨ i.op = 21 ∨ i.op = 22 ∨ i.op = 23 ∨ i.op = 24 ∨ i.op = 25 ∨ i.op = 26 ∨ i.op = 27 ∨ i.op = 28 ∨ i.op = 29 ∨ i.op = 30 ∨ i.op = 31 := by omega
  rcases hc with e | e | e | e | e | e | e | e | e | e | e | e | e | e | e | e | e | e | e | e | e | e | e | e | e | e | e | e | e | e | e
  · exact same1 hi hj e h1 h2 h3
  · exact same2 hi hj e h1 h2 h3
  · exact same3 hi hj e h1 h2 h3
  · exact same4 hi hj e h1 h2 h3
  · exact same5 hi hj e h1 h2 h3
  · exact same6 hi hj e h1 h2 h3
  · exact same7 hi hj e h1 h2 h3
  · exact same8 hi hj e h1 h2 h3
  · exact same9 hi hj e h1 h2 h3
  · exact same10 hi hj e h1 h2 h3
  · exact same11 hi hj e h1 h2 h3
  · exact same12 hi hj e h1 h2 h3
  · exact same13 hi hj e h1 h2 h3
  · exact same14 hi hj e h1 h2 h3
  · exact same15 hi hj e h1 h2 h3
  · exact same16 hi hj e h1 h2 h3
  · exact same17 hi hj e h1 h2 h3
  · exact same18 hi hj e h1 h2 h3
  · exact same19 hi hj e h1 h2 h3
  · exact same20 hi hj e h1 h2 h3
  · exact same21 hi hj e h1 h2 h3
  · exact same22 hi hj e h1 h2 h3
  · exact same23 hi hj e h1 h2 h3
  · exact same24 hi hj e h1 h2 h3
  · exact same25 hi hj e h1 h2 h3
  · exact same26 hi hj e h1 h2 h3
  · exact same27 hi hj e h1 h2 h3
  · exact same28 hi hj e h1 h2 h3
  · exact same29 hi hj e h1 h2 h3
  · exact same30 hi hj e h1 h2 h3
  · exact same31 hi hj e h1 h2 h3
end Go.V
