/- show: two texts that are the same are of one op, and say the same fields. -/
import Derived.Test.YtkjddipkaaelaaaDoorTW2
set_option linter.unusedVariables false
set_option linter.unusedSimpArgs false
set_option linter.unusedSectionVars false
/- show: two texts that are the same are of one op, and say the same fields. -/
namespace Go.V
open Go
set_option linter.unusedSimpArgs false
set_option linter.unusedVariables false
set_option linter.unusedSimpArgs false
theorem two17 {i j : In} (hi : rightF i = true) (hj : rightF j = true) (hk : i.op = 17) (h : tx17 i = flatS j [] (patS j.op)) : j.op = 17 ∧ (i.d = j.d ∧ i.s = j.s ∧ i.ext = j.ext ∧ i.imm = j.imm) := by
  have hb := rt_op hj
  have hc : j.op = 1 ∨ j.op = 2 ∨ j.op = 3 ∨ j.op = 4 ∨ j.op = 5 ∨ j.op = 6 ∨ j.op = 7 ∨ j.op = 8 ∨ j.op = 9 ∨ j.op = 10 ∨ j.op = 11 ∨ j.op = 12 ∨ j.op = 13 ∨ j.op = 14 ∨ j.op = 15 ∨ j.op = 16 ∨ j.op = 17 ∨ j.op = 18 ∨ j.op = 19 ∨ j.op = 20 ∨ j.op = 21 ∨ j.op = 22 ∨ j.op = 23 ∨ j.op = 24 ∨ j.op = 25 ∨ j.op = 26 ∨ j.op = 27 ∨ j.op = 28 ∨ j.op = 29 ∨ j.op = 30 ∨ j.op = 31 := by omega
  rcases hc with e | e | e | e | e | e | e | e | e | e | e | e | e | e | e | e | e | e | e | e | e | e | e | e | e | e | e | e | e | e | e
  all_goals rw [e] at h
  all_goals simp only [tx1_eq, tx2_eq, tx3_eq, tx4_eq, tx5_eq, tx6_eq, tx7_eq, tx8_eq, tx9_eq, tx10_eq, tx11_eq, tx12_eq, tx13_eq, tx14_eq, tx15_eq, tx16_eq, tx17_eq, tx18_eq, tx19_eq, tx20_eq, tx21_eq, tx22_eq, tx23_eq, tx24_eq, tx25_eq, tx26_eq, tx27_eq, tx28_eq, tx29_eq, tx30_eq, tx31_eq, tx1, tx2, tx3, tx4, tx5, tx6, tx7, tx8, tx9, tx10, tx11, tx12, tx13, tx14, tx15, tx16, tx17, tx18, tx19, tx20, tx21, tx22, tx23, tx24, tx25, tx26, tx27, tx28, tx29, tx30, tx31, List.cons.injEq, it_cc, it_c0, it_0c, it_00, app_ext, app_far, app_new, it_head, it_head0, ne_eq, not_false_eq_true, not_true_eq_false, nc32, nc40, nc41, nc43, nc44, nc46, hc44, seval, true_and, and_true, false_and, and_false] at h
  exact ⟨e, by simpa only [and_assoc] using h⟩
theorem two18 {i j : In} (hi : rightF i = true) (hj : rightF j = true) (hk : i.op = 18) (h : tx18 i = flatS j [] (patS j.op)) : j.op = 18 ∧ (i.d = j.d ∧ i.s = j.s ∧ i.t = j.t) := by
  have hb := rt_op hj
  have hc : j.op = 1 ∨ j.op = 2 ∨ j.op = 3 ∨ j.op = 4 ∨ j.op = 5 ∨ j.op = 6 ∨ j.op = 7 ∨ j.op = 8 ∨ j.op = 9 ∨ j.op = 10 ∨ j.op = 11 ∨ j.op = 12 ∨ j.op = 13 ∨ j.op = 14 ∨ j.op = 15 ∨ j.op = 16 ∨ j.op = 17 ∨ j.op = 18 ∨ j.op = 19 ∨ j.op = 20 ∨ j.op = 21 ∨ j.op = 22 ∨ j.op = 23 ∨ j.op = 24 ∨ j.op = 25 ∨ j.op = 26 ∨ j.op = 27 ∨ j.op = 28 ∨ j.op = 29 ∨ j.op = 30 ∨ j.op = 31 := by omega
  rcases hc with e | e | e | e | e | e | e | e | e | e | e | e | e | e | e | e | e | e | e | e | e | e | e | e | e | e | e | e | e | e | e
  all_goals rw [e] at h
  all_goals simp only [tx1_eq, tx2_eq, tx3_eq, tx4_eq, tx5_eq, tx6_eq, tx7_eq, tx8_eq, tx9_eq, tx10_eq, tx11_eq, tx12_eq, tx13_eq, tx14_eq, tx15_eq, tx16_eq, tx17_eq, tx18_eq, tx19_eq, tx20_eq, tx21_eq, tx22_eq, tx23_eq, tx24_eq, tx25_eq, tx26_eq, tx27_eq, tx28_eq, tx29_eq, tx30_eq, tx31_eq, tx1, tx2, tx3, tx4, tx5, tx6, tx7, tx8, tx9, tx10, tx11, tx12, tx13, tx14, tx15, tx16, tx17, tx18, tx19, tx20, tx21, tx22, tx23, tx24, tx25, tx26, tx27, tx28, tx29, tx30, tx31, List.cons.injEq, it_cc, it_c0, it_0c, it_00, app_ext, app_far, app_new, it_head, it_head0, ne_eq, not_false_eq_true, not_true_eq_false, nc32, nc40, nc41, nc43, nc44, nc46, hc44, seval, true_and, and_true, false_and, and_false] at h
  exact ⟨e, by simpa only [and_assoc] using h⟩
theorem two19 {i j : In} (hi : rightF i = true) (hj : rightF j = true) (hk : i.op = 19) (h : tx19 i = flatS j [] (patS j.op)) : j.op = 19 ∧ (i.d = j.d ∧ i.s = j.s ∧ i.t = j.t) := by
  have hb := rt_op hj
  have hc : j.op = 1 ∨ j.op = 2 ∨ j.op = 3 ∨ j.op = 4 ∨ j.op = 5 ∨ j.op = 6 ∨ j.op = 7 ∨ j.op = 8 ∨ j.op = 9 ∨ j.op = 10 ∨ j.op = 11 ∨ j.op = 12 ∨ j.op = 13 ∨ j.op = 14 ∨ j.op = 15 ∨ j.op = 16 ∨ j.op = 17 ∨ j.op = 18 ∨ j.op = 19 ∨ j.op = 20 ∨ j.op = 21 ∨ j.op = 22 ∨ j.op = 23 ∨ j.op = 24 ∨ j.op = 25 ∨ j.op = 26 ∨ j.op = 27 ∨ j.op = 28 ∨ j.op = 29 ∨ j.op = 30 ∨ j.op = 31 := by omega
  rcases hc with e | e | e | e | e | e | e | e | e | e | e | e | e | e | e | e | e | e | e | e | e | e | e | e | e | e | e | e | e | e | e
  all_goals rw [e] at h
  all_goals simp only [tx1_eq, tx2_eq, tx3_eq, tx4_eq, tx5_eq, tx6_eq, tx7_eq, tx8_eq, tx9_eq, tx10_eq, tx11_eq, tx12_eq, tx13_eq, tx14_eq, tx15_eq, tx16_eq, tx17_eq, tx18_eq, tx19_eq, tx20_eq, tx21_eq, tx22_eq, tx23_eq, tx24_eq, tx25_eq, tx26_eq, tx27_eq, tx28_eq, tx29_eq, tx30_eq, tx31_eq, tx1, tx2, tx3, tx4, tx5, tx6, tx7, tx8, tx9, tx10, tx11, tx12, tx13, tx14, tx15, tx16, tx17, tx18, tx19, tx20, tx21, tx22, tx23, tx24, tx25, tx26, tx27, tx28, tx29, tx30, tx31, List.cons.injEq, it_cc, it_c0, it_0c, it_00, app_ext, app_far, app_new, it_head, it_head0, ne_eq, not_false_eq_true, not_true_eq_false, nc32, nc40, nc41, nc43, nc44, nc46, hc44, seval, true_and, and_true, false_and, and_false] at h
  exact ⟨e, by simpa only [and_assoc] using h⟩
theorem two20 {i j : In} (hi : rightF i = true) (hj : rightF j = true) (hk : i.op = 20) (h : tx20 i = flatS j [] (patS j.op)) : j.op = 20 ∧ (i.d = j.d ∧ i.s = j.s ∧ i.t = j.t) := by
  have hb := rt_op hj
  have hc : j.op = 1 ∨ j.op = 2 ∨ j.op = 3 ∨ j.op = 4 ∨ j.op = 5 ∨ j.op = 6 ∨ j.op = 7 ∨ j.op = 8 ∨ j.op = 9 ∨ j.op = 10 ∨ j.op = 11 ∨ j.op = 12 ∨ j.op = 13 ∨ j.op = 14 ∨ j.op = 15 ∨ j.op = 16 ∨ j.op = 17 ∨ j.op = 18 ∨ j.op = 19 ∨ j.op = 20 ∨ j.op = 21 ∨ j.op = 22 ∨ j.op = 23 ∨ j.op = 24 ∨ j.op = 25 ∨ j.op = 26 ∨ j.op = 27 ∨ j.op = 28 ∨ j.op = 29 ∨ j.op = 30 ∨ j.op = 31 := by omega
  rcases hc with e | e | e | e | e | e | e | e | e | e | e | e | e | e | e | e | e | e | e | e | e | e | e | e | e | e | e | e | e | e | e
  all_goals rw [e] at h
  all_goals simp only [tx1_eq, tx2_eq, tx3_eq, tx4_eq, tx5_eq, tx6_eq, tx7_eq, tx8_eq, tx9_eq, tx10_eq, tx11_eq, tx12_eq, tx13_eq, tx14_eq, tx15_eq, tx16_eq, tx17_eq, tx18_eq, tx19_eq, tx20_eq, tx21_eq, tx22_eq, tx23_eq, tx24_eq, tx25_eq, tx26_eq, tx27_eq, tx28_eq, tx29_eq, tx30_eq, tx31_eq, tx1, tx2, tx3, tx4, tx5, tx6, tx7, tx8, tx9, tx10, tx11, tx12, tx13, tx14, tx15, tx16, tx17, tx18, tx19, tx20, tx21, tx22, tx23, tx24, tx25, tx26, tx27, tx28, tx29, tx30, tx31, List.cons.injEq, it_cc, it_c0, it_0c, it_00, app_ext, app_far, app_new, it_head, it_head0, ne_eq, not_false_eq_true, not_true_eq_false, nc32, nc40, nc41, nc43, nc44, nc46, hc44, seval, true_and, and_true, false_and, and_false] at h
  exact ⟨e, by simpa only [and_assoc] using h⟩
theorem two21 {i j : In} (hi : rightF i = true) (hj : rightF j = true) (hk : i.op = 21) (h : tx21 i = flatS j [] (patS j.op)) : j.op = 21 ∧ (i.d = j.d ∧ i.s = j.s ∧ i.ext = j.ext ∧ i.imm = j.imm) := by
  have hb := rt_op hj
  have hc : j.op = 1 ∨ j.op = 2 ∨ j.op = 3 ∨ j.op = 4 ∨ j.op = 5 ∨ j.op = 6 ∨ j.op = 7 ∨ j.op = 8 ∨ j.op = 9 ∨ j.op = 10 ∨ j.op = 11 ∨ j.op = 12 ∨ j.op = 13 ∨ j.op = 14 ∨ j.op = 15 ∨ j.op = 16 ∨ j.op = 17 ∨ j.op = 18 ∨ j.op = 19 ∨ j.op = 20 ∨ j.op = 21 ∨ j.op = 22 ∨ j.op = 23 ∨ j.op = 24 ∨ j.op = 25 ∨ j.op = 26 ∨ j.op = 27 ∨ j.op = 28 ∨ j.op = 29 ∨ j.op = 30 ∨ j.op = 31 := by omega
  rcases hc with e | e | e | e | e | e | e | e | e | e | e | e | e | e | e | e | e | e | e | e | e | e | e | e | e | e | e | e | e | e | e
  all_goals rw [e] at h
  all_goals simp only [tx1_eq, tx2_eq, tx3_eq, tx4_eq, tx5_eq, tx6_eq, tx7_eq, tx8_eq, tx9_eq, tx10_eq, tx11_eq, tx12_eq, tx13_eq, tx14_eq, tx15_eq, tx16_eq, tx17_eq, tx18_eq, tx19_eq, tx20_eq, tx21_eq, tx22_eq, tx23_eq, tx24_eq, tx25_eq, tx26_eq, tx27_eq, tx28_eq, tx29_eq, tx30_eq, tx31_eq, tx1, tx2, tx3, tx4, tx5, tx6, tx7, tx8, tx9, tx10, tx11, tx12, tx13, tx14, tx15, tx16, tx17, tx18, tx19, tx20, tx21, tx22, tx23, tx24, tx25, tx26, tx27, tx28, tx29, tx30, tx31, List.cons.injEq, it_cc, it_c0, it_0c, it_00, app_ext, app_far, app_new, it_head, it_head0, ne_eq, not_false_eq_true, not_true_eq_false, nc32, nc40, nc41, nc43, nc44, nc46, hc44, seval, true_and, and_true, false_and, and_false] at h
  exact ⟨e, by simpa only [and_assoc] using h⟩
theorem two22 {i j : In} (hi : rightF i = true) (hj : rightF j = true) (hk : i.op = 22) (h : tx22 i = flatS j [] (patS j.op)) : j.op = 22 ∧ (i.d = j.d ∧ i.s = j.s ∧ i.ext = j.ext ∧ i.imm = j.imm) := by
  have hb := rt_op hj
  have hc : j.op = 1 ∨ j.op = 2 ∨ j.op = 3 ∨ j.op = 4 ∨ j.op = 5 ∨ j.op = 6 ∨ j.op = 7 ∨ j.op = 8 ∨ j.op = 9 ∨ j.op = 10 ∨ j.op = 11 ∨ j.op = 12 ∨ j.op = 13 ∨ j.op = 14 ∨ j.op = 15 ∨ j.op = 16 ∨ j.op = 17 ∨ j.op = 18 ∨ j.op = 19 ∨ j.op = 20 ∨ j.op = 21 ∨ j.op = 22 ∨ j.op = 23 ∨ j.op = 24 ∨ j.op = 25 ∨ j.op = 26 ∨ j.op = 27 ∨ j.op = 28 ∨ j.op = 29 ∨ j.op = 30 ∨ j.op = 31 := by omega
  rcases hc with e | e | e | e | e | e | e | e | e | e | e | e | e | e | e | e | e | e | e | e | e | e | e | e | e | e | e | e | e | e | e
  all_goals rw [e] at h
  all_goals simp only [tx1_eq, tx2_eq, tx3_eq, tx4_eq, tx5_eq, tx6_eq, tx7_eq, tx8_eq, tx9_eq, tx10_eq, tx11_eq, tx12_eq, tx13_eq, tx14_eq, tx15_eq, tx16_eq, tx17_eq, tx18_eq, tx19_eq, tx20_eq, tx21_eq, tx22_eq, tx23_eq, tx24_eq, tx25_eq, tx26_eq, tx27_eq, tx28_eq, tx29_eq, tx30_eq, tx31_eq, tx1, tx2, tx3, tx4, tx5, tx6, tx7, tx8, tx9, tx10, tx11, tx12, tx13, tx14, tx15, tx16, tx17, tx18, tx19, tx20, tx21, tx22, tx23, tx24, tx25, tx26, tx27, tx28, tx29, tx30, tx31, List.cons.injEq, it_cc, it_c0, it_0c, it_00, app_ext, app_far, app_new, it_head, it_head0, ne_eq, not_false_eq_true, not_true_eq_false, nc32, nc40, nc41, nc43, nc44, nc46, hc44, seval, true_and, and_true, false_and, and_false] at h
  exact ⟨e, by simpa only [and_assoc] using h⟩
theorem two23 {i j : In} (hi : rightF i = true) (hj : rightF j = true) (hk : i.op = 23) (h : tx23 i = flatS j [] (patS j.op)) : j.op = 23 ∧ (i.d = j.d ∧ i.s = j.s ∧ i.ext = j.ext ∧ i.imm = j.imm) := by
  have hb := rt_op hj
  have hc : j.op = 1 ∨ j.op = 2 ∨ j.op = 3 ∨ j.op = 4 ∨ j.op = 5 ∨ j.op = 6 ∨ j.op = 7 ∨ j.op = 8 ∨ j.op = 9 ∨ j.op = 10 ∨ j.op = 11 ∨ j.op = 12 ∨ j.op = 13 ∨ j.op = 14 ∨ j.op = 15 ∨ j.op = 16 ∨ j.op = 17 ∨ j.op = 18 ∨ j.op = 19 ∨ j.op = 20 ∨ j.op = 21 ∨ j.op = 22 ∨ j.op = 23 ∨ j.op = 24 ∨ j.op = 25 ∨ j.op = 26 ∨ j.op = 27 ∨ j.op = 28 ∨ j.op = 29 ∨ j.op = 30 ∨ j.op = 31 := by omega
  rcases hc with e | e | e | e | e | e | e | e | e | e | e | e | e | e | e | e | e | e | e | e | e | e | e | e | e | e | e | e | e | e | e
  all_goals rw [e] at h
  all_goals simp only [tx1_eq, tx2_eq, tx3_eq, tx4_eq, tx5_eq, tx6_eq, tx7_eq, tx8_eq, tx9_eq, tx10_eq, tx11_eq, tx12_eq, tx13_eq, tx14_eq, tx15_eq, tx16_eq, tx17_eq, tx18_eq, tx19_eq, tx20_eq, tx21_eq, tx22_eq, tx23_eq, tx24_eq, tx25_eq, tx26_eq, tx27_eq, tx28_eq, tx29_eq, tx30_eq, tx31_eq, tx1, tx2, tx3, tx4, tx5, tx6, tx7, tx8, tx9, tx10, tx11, tx12, tx13, tx14, tx15, tx16, tx17, tx18, tx19, tx20, tx21, tx22, tx23, tx24, tx25, tx26, tx27, tx28, tx29, tx30, tx31, List.cons.injEq, it_cc, it_c0, it_0c, it_00, app_ext, app_far, app_new, it_head, it_head0, ne_eq, not_false_eq_true, not_true_eq_false, nc32, nc40, nc41, nc43, nc44, nc46, hc44, seval, true_and, and_true, false_and, and_false] at h
  exact ⟨e, by simpa only [and_assoc] using h⟩
theorem two24 {i j : In} (hi : rightF i = true) (hj : rightF j = true) (hk : i.op = 24) (h : tx24 i = flatS j [] (patS j.op)) : j.op = 24 ∧ (i.s = j.s ∧ i.ext = j.ext ∧ i.imm = j.imm ∧ i.t = j.t ∧ i.nw = j.nw) := by
  have hb := rt_op hj
  have hc : j.op = 1 ∨ j.op = 2 ∨ j.op = 3 ∨ j.op = 4 ∨ j.op = 5 ∨ j.op = 6 ∨ j.op = 7 ∨ j.op = 8 ∨ j.op = 9 ∨ j.op = 10 ∨ j.op = 11 ∨ j.op = 12 ∨ j.op = 13 ∨ j.op = 14 ∨ j.op = 15 ∨ j.op = 16 ∨ j.op = 17 ∨ j.op = 18 ∨ j.op = 19 ∨ j.op = 20 ∨ j.op = 21 ∨ j.op = 22 ∨ j.op = 23 ∨ j.op = 24 ∨ j.op = 25 ∨ j.op = 26 ∨ j.op = 27 ∨ j.op = 28 ∨ j.op = 29 ∨ j.op = 30 ∨ j.op = 31 := by omega
  rcases hc with e | e | e | e | e | e | e | e | e | e | e | e | e | e | e | e | e | e | e | e | e | e | e | e | e | e | e | e | e | e | e
  all_goals rw [e] at h
  all_goals simp only [tx1_eq, tx2_eq, tx3_eq, tx4_eq, tx5_eq, tx6_eq, tx7_eq, tx8_eq, tx9_eq, tx10_eq, tx11_eq, tx12_eq, tx13_eq, tx14_eq, tx15_eq, tx16_eq, tx17_eq, tx18_eq, tx19_eq, tx20_eq, tx21_eq, tx22_eq, tx23_eq, tx24_eq, tx25_eq, tx26_eq, tx27_eq, tx28_eq, tx29_eq, tx30_eq, tx31_eq, tx1, tx2, tx3, tx4, tx5, tx6, tx7, tx8, tx9, tx10, tx11, tx12, tx13, tx14, tx15, tx16, tx17, tx18, tx19, tx20, tx21, tx22, tx23, tx24, tx25, tx26, tx27, tx28, tx29, tx30, tx31, List.cons.injEq, it_cc, it_c0, it_0c, it_00, app_ext, app_far, app_new, it_head, it_head0, ne_eq, not_false_eq_true, not_true_eq_false, nc32, nc40, nc41, nc43, nc44, nc46, hc44, seval, true_and, and_true, false_and, and_false] at h
  exact ⟨e, by simpa only [and_assoc] using h⟩
theorem two25 {i j : In} (hi : rightF i = true) (hj : rightF j = true) (hk : i.op = 25) (h : tx25 i = flatS j [] (patS j.op)) : j.op = 25 ∧ (i.s = j.s ∧ i.ext = j.ext ∧ i.imm = j.imm ∧ i.t = j.t ∧ i.nw = j.nw) := by
  have hb := rt_op hj
  have hc : j.op = 1 ∨ j.op = 2 ∨ j.op = 3 ∨ j.op = 4 ∨ j.op = 5 ∨ j.op = 6 ∨ j.op = 7 ∨ j.op = 8 ∨ j.op = 9 ∨ j.op = 10 ∨ j.op = 11 ∨ j.op = 12 ∨ j.op = 13 ∨ j.op = 14 ∨ j.op = 15 ∨ j.op = 16 ∨ j.op = 17 ∨ j.op = 18 ∨ j.op = 19 ∨ j.op = 20 ∨ j.op = 21 ∨ j.op = 22 ∨ j.op = 23 ∨ j.op = 24 ∨ j.op = 25 ∨ j.op = 26 ∨ j.op = 27 ∨ j.op = 28 ∨ j.op = 29 ∨ j.op = 30 ∨ j.op = 31 := by omega
  rcases hc with e | e | e | e | e | e | e | e | e | e | e | e | e | e | e | e | e | e | e | e | e | e | e | e | e | e | e | e | e | e | e
  all_goals rw [e] at h
  all_goals simp only [tx1_eq, tx2_eq, tx3_eq, tx4_eq, tx5_eq, tx6_eq, tx7_eq, tx8_eq, tx9_eq, tx10_eq, tx11_eq, tx12_eq, tx13_eq, tx14_eq, tx15_eq, tx16_eq, tx17_eq, tx18_eq, tx19_eq, tx20_eq, tx21_eq, tx22_eq, tx23_eq, tx24_eq, tx25_eq, tx26_eq, tx27_eq, tx28_eq, tx29_eq, tx30_eq, tx31_eq, tx1, tx2, tx3, tx4, tx5, tx6, tx7, tx8, tx9, tx10, tx11, tx12, tx13, tx14, tx15, tx16, tx17, tx18, tx19, tx20, tx21, tx22, tx23, tx24, tx25, tx26, tx27, tx28, tx29, tx30, tx31, List.cons.injEq, it_cc, it_c0, it_0c, it_00, app_ext, app_far, app_new, it_head, it_head0, ne_eq, not_false_eq_true, not_true_eq_false, nc32, nc40, nc41, nc43, nc44, nc46, hc44, seval, true_and, and_true, false_and, and_false] at h
  exact ⟨e, by simpa only [and_assoc] using h⟩
theorem two26 {i j : In} (hi : rightF i = true) (hj : rightF j = true) (hk : i.op = 26) (h : tx26 i = flatS j [] (patS j.op)) : j.op = 26 ∧ (i.s = j.s ∧ i.ext = j.ext ∧ i.imm = j.imm ∧ i.t = j.t ∧ i.nw = j.nw) := by
  have hb := rt_op hj
  have hc : j.op = 1 ∨ j.op = 2 ∨ j.op = 3 ∨ j.op = 4 ∨ j.op = 5 ∨ j.op = 6 ∨ j.op = 7 ∨ j.op = 8 ∨ j.op = 9 ∨ j.op = 10 ∨ j.op = 11 ∨ j.op = 12 ∨ j.op = 13 ∨ j.op = 14 ∨ j.op = 15 ∨ j.op = 16 ∨ j.op = 17 ∨ j.op = 18 ∨ j.op = 19 ∨ j.op = 20 ∨ j.op = 21 ∨ j.op = 22 ∨ j.op = 23 ∨ j.op = 24 ∨ j.op = 25 ∨ j.op = 26 ∨ j.op = 27 ∨ j.op = 28 ∨ j.op = 29 ∨ j.op = 30 ∨ j.op = 31 := by omega
  rcases hc with e | e | e | e | e | e | e | e | e | e | e | e | e | e | e | e | e | e | e | e | e | e | e | e | e | e | e | e | e | e | e
  all_goals rw [e] at h
  all_goals simp only [tx1_eq, tx2_eq, tx3_eq, tx4_eq, tx5_eq, tx6_eq, tx7_eq, tx8_eq, tx9_eq, tx10_eq, tx11_eq, tx12_eq, tx13_eq, tx14_eq, tx15_eq, tx16_eq, tx17_eq, tx18_eq, tx19_eq, tx20_eq, tx21_eq, tx22_eq, tx23_eq, tx24_eq, tx25_eq, tx26_eq, tx27_eq, tx28_eq, tx29_eq, tx30_eq, tx31_eq, tx1, tx2, tx3, tx4, tx5, tx6, tx7, tx8, tx9, tx10, tx11, tx12, tx13, tx14, tx15, tx16, tx17, tx18, tx19, tx20, tx21, tx22, tx23, tx24, tx25, tx26, tx27, tx28, tx29, tx30, tx31, List.cons.injEq, it_cc, it_c0, it_0c, it_00, app_ext, app_far, app_new, it_head, it_head0, ne_eq, not_false_eq_true, not_true_eq_false, nc32, nc40, nc41, nc43, nc44, nc46, hc44, seval, true_and, and_true, false_and, and_false] at h
  exact ⟨e, by simpa only [and_assoc] using h⟩
theorem two27 {i j : In} (hi : rightF i = true) (hj : rightF j = true) (hk : i.op = 27) (h : tx27 i = flatS j [] (patS j.op)) : j.op = 27 ∧ (i.ext = j.ext ∧ i.imm.toNat = j.imm.toNat) := by
  have bi : i.imm.toNat < 4294967296 := by have := imm_target hi (by rw [hk]; decide +kernel); omega
  have hb := rt_op hj
  have hc : j.op = 1 ∨ j.op = 2 ∨ j.op = 3 ∨ j.op = 4 ∨ j.op = 5 ∨ j.op = 6 ∨ j.op = 7 ∨ j.op = 8 ∨ j.op = 9 ∨ j.op = 10 ∨ j.op = 11 ∨ j.op = 12 ∨ j.op = 13 ∨ j.op = 14 ∨ j.op = 15 ∨ j.op = 16 ∨ j.op = 17 ∨ j.op = 18 ∨ j.op = 19 ∨ j.op = 20 ∨ j.op = 21 ∨ j.op = 22 ∨ j.op = 23 ∨ j.op = 24 ∨ j.op = 25 ∨ j.op = 26 ∨ j.op = 27 ∨ j.op = 28 ∨ j.op = 29 ∨ j.op = 30 ∨ j.op = 31 := by omega
  rcases hc with e | e | e | e | e | e | e | e | e | e | e | e | e | e | e | e | e | e | e | e | e | e | e | e | e | e | e | e | e | e | e
  · rw [e, tx1_eq] at h
    simp only [tx27, tx1, List.cons.injEq, it_cc, it_c0, it_0c, it_00, app_ext, app_far, app_new, it_head, it_head0, ne_eq, not_false_eq_true, not_true_eq_false, nc32, nc40, nc41, nc43, nc44, nc46, hc44, seval, true_and, and_true, false_and, and_false] at h
  · rw [e, tx2_eq] at h
    simp only [tx27, tx2, List.cons.injEq, it_cc, it_c0, it_0c, it_00, app_ext, app_far, app_new, it_head, it_head0, ne_eq, not_false_eq_true, not_true_eq_false, nc32, nc40, nc41, nc43, nc44, nc46, hc44, seval, true_and, and_true, false_and, and_false] at h
  · rw [e, tx3_eq] at h
    simp only [tx27, tx3, List.cons.injEq, it_cc, it_c0, it_0c, it_00, app_ext, app_far, app_new, it_head, it_head0, ne_eq, not_false_eq_true, not_true_eq_false, nc32, nc40, nc41, nc43, nc44, nc46, hc44, seval, true_and, and_true, false_and, and_false] at h
  · rw [e, tx4_eq] at h
    simp only [tx27, tx4, List.cons.injEq, it_cc, it_c0, it_0c, it_00, app_ext, app_far, app_new, it_head, it_head0, ne_eq, not_false_eq_true, not_true_eq_false, nc32, nc40, nc41, nc43, nc44, nc46, hc44, seval, true_and, and_true, false_and, and_false] at h
  · rw [e, tx5_eq] at h
    simp only [tx27, tx5, List.cons.injEq, it_cc, it_c0, it_0c, it_00, app_ext, app_far, app_new, it_head, it_head0, ne_eq, not_false_eq_true, not_true_eq_false, nc32, nc40, nc41, nc43, nc44, nc46, hc44, seval, true_and, and_true, false_and, and_false] at h
  · rw [e, tx6_eq] at h
    simp only [tx27, tx6, List.cons.injEq, it_cc, it_c0, it_0c, it_00, app_ext, app_far, app_new, it_head, it_head0, ne_eq, not_false_eq_true, not_true_eq_false, nc32, nc40, nc41, nc43, nc44, nc46, hc44, seval, true_and, and_true, false_and, and_false] at h
  · rw [e, tx7_eq] at h
    simp only [tx27, tx7, List.cons.injEq, it_cc, it_c0, it_0c, it_00, app_ext, app_far, app_new, it_head, it_head0, ne_eq, not_false_eq_true, not_true_eq_false, nc32, nc40, nc41, nc43, nc44, nc46, hc44, seval, true_and, and_true, false_and, and_false] at h
  · rw [e, tx8_eq] at h
    simp only [tx27, tx8, List.cons.injEq, it_cc, it_c0, it_0c, it_00, app_ext, app_far, app_new, it_head, it_head0, ne_eq, not_false_eq_true, not_true_eq_false, nc32, nc40, nc41, nc43, nc44, nc46, hc44, seval, true_and, and_true, false_and, and_false] at h
  · rw [e, tx9_eq] at h
    simp only [tx27, tx9, List.cons.injEq, it_cc, it_c0, it_0c, it_00, app_ext, app_far, app_new, it_head, it_head0, ne_eq, not_false_eq_true, not_true_eq_false, nc32, nc40, nc41, nc43, nc44, nc46, hc44, seval, true_and, and_true, false_and, and_false] at h
  · rw [e, tx10_eq] at h
    simp only [tx27, tx10, List.cons.injEq, it_cc, it_c0, it_0c, it_00, app_ext, app_far, app_new, it_head, it_head0, ne_eq, not_false_eq_true, not_true_eq_false, nc32, nc40, nc41, nc43, nc44, nc46, hc44, seval, true_and, and_true, false_and, and_false] at h
  · rw [e, tx11_eq] at h
    simp only [tx27, tx11, List.cons.injEq, it_cc, it_c0, it_0c, it_00, app_ext, app_far, app_new, it_head, it_head0, ne_eq, not_false_eq_true, not_true_eq_false, nc32, nc40, nc41, nc43, nc44, nc46, hc44, seval, true_and, and_true, false_and, and_false] at h
  · rw [e, tx12_eq] at h
    simp only [tx27, tx12, List.cons.injEq, it_cc, it_c0, it_0c, it_00, app_ext, app_far, app_new, it_head, it_head0, ne_eq, not_false_eq_true, not_true_eq_false, nc32, nc40, nc41, nc43, nc44, nc46, hc44, seval, true_and, and_true, false_and, and_false] at h
  · rw [e, tx13_eq] at h
    simp only [tx27, tx13, List.cons.injEq, it_cc, it_c0, it_0c, it_00, app_ext, app_far, app_new, it_head, it_head0, ne_eq, not_false_eq_true, not_true_eq_false, nc32, nc40, nc41, nc43, nc44, nc46, hc44, seval, true_and, and_true, false_and, and_false] at h
  · rw [e, tx14_eq] at h
    simp only [tx27, tx14, List.cons.injEq, it_cc, it_c0, it_0c, it_00, app_ext, app_far, app_new, it_head, it_head0, ne_eq, not_false_eq_true, not_true_eq_false, nc32, nc40, nc41, nc43, nc44, nc46, hc44, seval, true_and, and_true, false_and, and_false] at h
  · rw [e, tx15_eq] at h
    simp only [tx27, tx15, List.cons.injEq, it_cc, it_c0, it_0c, it_00, app_ext, app_far, app_new, it_head, it_head0, ne_eq, not_false_eq_true, not_true_eq_false, nc32, nc40, nc41, nc43, nc44, nc46, hc44, seval, true_and, and_true, false_and, and_false] at h
  · rw [e, tx16_eq] at h
    simp only [tx27, tx16, List.cons.injEq, it_cc, it_c0, it_0c, it_00, app_ext, app_far, app_new, it_head, it_head0, ne_eq, not_false_eq_true, not_true_eq_false, nc32, nc40, nc41, nc43, nc44, nc46, hc44, seval, true_and, and_true, false_and, and_false] at h
  · rw [e, tx17_eq] at h
    simp only [tx27, tx17, List.cons.injEq, it_cc, it_c0, it_0c, it_00, app_ext, app_far, app_new, it_head, it_head0, ne_eq, not_false_eq_true, not_true_eq_false, nc32, nc40, nc41, nc43, nc44, nc46, hc44, seval, true_and, and_true, false_and, and_false] at h
  · rw [e, tx18_eq] at h
    simp only [tx27, tx18, List.cons.injEq, it_cc, it_c0, it_0c, it_00, app_ext, app_far, app_new, it_head, it_head0, ne_eq, not_false_eq_true, not_true_eq_false, nc32, nc40, nc41, nc43, nc44, nc46, hc44, seval, true_and, and_true, false_and, and_false] at h
  · rw [e, tx19_eq] at h
    simp only [tx27, tx19, List.cons.injEq, it_cc, it_c0, it_0c, it_00, app_ext, app_far, app_new, it_head, it_head0, ne_eq, not_false_eq_true, not_true_eq_false, nc32, nc40, nc41, nc43, nc44, nc46, hc44, seval, true_and, and_true, false_and, and_false] at h
  · rw [e, tx20_eq] at h
    simp only [tx27, tx20, List.cons.injEq, it_cc, it_c0, it_0c, it_00, app_ext, app_far, app_new, it_head, it_head0, ne_eq, not_false_eq_true, not_true_eq_false, nc32, nc40, nc41, nc43, nc44, nc46, hc44, seval, true_and, and_true, false_and, and_false] at h
  · rw [e, tx21_eq] at h
    simp only [tx27, tx21, List.cons.injEq, it_cc, it_c0, it_0c, it_00, app_ext, app_far, app_new, it_head, it_head0, ne_eq, not_false_eq_true, not_true_eq_false, nc32, nc40, nc41, nc43, nc44, nc46, hc44, seval, true_and, and_true, false_and, and_false] at h
  · rw [e, tx22_eq] at h
    simp only [tx27, tx22, List.cons.injEq, it_cc, it_c0, it_0c, it_00, app_ext, app_far, app_new, it_head, it_head0, ne_eq, not_false_eq_true, not_true_eq_false, nc32, nc40, nc41, nc43, nc44, nc46, hc44, seval, true_and, and_true, false_and, and_false] at h
  · rw [e, tx23_eq] at h
    simp only [tx27, tx23, List.cons.injEq, it_cc, it_c0, it_0c, it_00, app_ext, app_far, app_new, it_head, it_head0, ne_eq, not_false_eq_true, not_true_eq_false, nc32, nc40, nc41, nc43, nc44, nc46, hc44, seval, true_and, and_true, false_and, and_false] at h
  · rw [e, tx24_eq] at h
    simp only [tx27, tx24, List.cons.injEq, it_cc, it_c0, it_0c, it_00, app_ext, app_far, app_new, it_head, it_head0, ne_eq, not_false_eq_true, not_true_eq_false, nc32, nc40, nc41, nc43, nc44, nc46, hc44, seval, true_and, and_true, false_and, and_false] at h
  · rw [e, tx25_eq] at h
    simp only [tx27, tx25, List.cons.injEq, it_cc, it_c0, it_0c, it_00, app_ext, app_far, app_new, it_head, it_head0, ne_eq, not_false_eq_true, not_true_eq_false, nc32, nc40, nc41, nc43, nc44, nc46, hc44, seval, true_and, and_true, false_and, and_false] at h
  · rw [e, tx26_eq] at h
    simp only [tx27, tx26, List.cons.injEq, it_cc, it_c0, it_0c, it_00, app_ext, app_far, app_new, it_head, it_head0, ne_eq, not_false_eq_true, not_true_eq_false, nc32, nc40, nc41, nc43, nc44, nc46, hc44, seval, true_and, and_true, false_and, and_false] at h
  · rw [e, tx27_eq] at h
    have bj : j.imm.toNat < 4294967296 := by have := imm_target hj (by rw [e]; decide +kernel); omega
    simp only [tx27, hx_cc bi bj, hx_00 bi bj, List.cons.injEq, it_cc, it_c0, it_0c, it_00, app_ext, app_far, app_new, it_head, it_head0, ne_eq, not_false_eq_true, not_true_eq_false, nc32, nc40, nc41, nc43, nc44, nc46, hc44, seval, true_and, and_true, false_and, and_false] at h
    refine ⟨e, ?_⟩
    simpa only [and_assoc] using h
  · rw [e, tx28_eq] at h
    simp only [tx27, tx28, List.cons.injEq, it_cc, it_c0, it_0c, it_00, app_ext, app_far, app_new, it_head, it_head0, ne_eq, not_false_eq_true, not_true_eq_false, nc32, nc40, nc41, nc43, nc44, nc46, hc44, seval, true_and, and_true, false_and, and_false] at h
  · rw [e, tx29_eq] at h
    have bj : j.imm.toNat < 4294967296 := by have := imm_target hj (by rw [e]; decide +kernel); omega
    simp only [tx27, tx29, hx_cc bi bj, hx_00 bi bj, List.cons.injEq, it_cc, it_c0, it_0c, it_00, app_ext, app_far, app_new, it_head, it_head0, ne_eq, not_false_eq_true, not_true_eq_false, nc32, nc40, nc41, nc43, nc44, nc46, hc44, seval, true_and, and_true, false_and, and_false] at h
  · rw [e, tx30_eq] at h
    have bj : j.imm.toNat < 4294967296 := by have := imm_target hj (by rw [e]; decide +kernel); omega
    simp only [tx27, tx30, hx_cc bi bj, hx_00 bi bj, List.cons.injEq, it_cc, it_c0, it_0c, it_00, app_ext, app_far, app_new, it_head, it_head0, ne_eq, not_false_eq_true, not_true_eq_false, nc32, nc40, nc41, nc43, nc44, nc46, hc44, seval, true_and, and_true, false_and, and_false] at h
  · rw [e, tx31_eq] at h
    have bj : j.imm.toNat < 4294967296 := by have := imm_target hj (by rw [e]; decide +kernel); omega
    simp only [tx27, tx31, hx_cc bi bj, hx_00 bi bj, List.cons.injEq, it_cc, it_c0, it_0c, it_00, app_ext, app_far, app_new, it_head, it_head0, ne_eq, not_false_eq_true, not_true_eq_false, nc32, nc40, nc41, nc43, nc44, nc46, hc44, seval, true_and, and_true, false_and, and_false] at h
theorem two28 {i j : In} (hi : rightF i = true) (hj : rightF j = true) (hk : i.op = 28) (h : tx28 i = flatS j [] (patS j.op)) : j.op = 28 ∧ (i.s = j.s) := by
  have hb := rt_op hj
  have hc : j.op = 1 ∨ j.op = 2 ∨ j.op = 3 ∨ j.op = 4 ∨ j.op = 5 ∨ j.op = 6 ∨ j.op = 7 ∨ j.op = 8 ∨ j.op = 9 ∨ j.op = 10 ∨ j.op = 11 ∨ j.op = 12 ∨ j.op = 13 ∨ j.op = 14 ∨ j.op = 15 ∨ j.op = 16 ∨ j.op = 17 ∨ j.op = 18 ∨ j.op = 19 ∨ j.op = 20 ∨ j.op = 21 ∨ j.op = 22 ∨ j.op = 23 ∨ j.op = 24 ∨ j.op = 25 ∨ j.op = 26 ∨ j.op = 27 ∨ j.op = 28 ∨ j.op = 29 ∨ j.op = 30 ∨ j.op = 31 := by omega
  rcases hc with e | e | e | e | e | e | e | e | e | e | e | e | e | e | e | e | e | e | e | e | e | e | e | e | e | e | e | e | e | e | e
  all_goals rw [e] at h
  all_goals simp only [tx1_eq, tx2_eq, tx3_eq, tx4_eq, tx5_eq, tx6_eq, tx7_eq, tx8_eq, tx9_eq, tx10_eq, tx11_eq, tx12_eq, tx13_eq, tx14_eq, tx15_eq, tx16_eq, tx17_eq, tx18_eq, tx19_eq, tx20_eq, tx21_eq, tx22_eq, tx23_eq, tx24_eq, tx25_eq, tx26_eq, tx27_eq, tx28_eq, tx29_eq, tx30_eq, tx31_eq, tx1, tx2, tx3, tx4, tx5, tx6, tx7, tx8, tx9, tx10, tx11, tx12, tx13, tx14, tx15, tx16, tx17, tx18, tx19, tx20, tx21, tx22, tx23, tx24, tx25, tx26, tx27, tx28, tx29, tx30, tx31, List.cons.injEq, it_cc, it_c0, it_0c, it_00, app_ext, app_far, app_new, it_head, it_head0, ne_eq, not_false_eq_true, not_true_eq_false, nc32, nc40, nc41, nc43, nc44, nc46, hc44, seval, true_and, and_true, false_and, and_false] at h
  exact ⟨e, by simpa only [and_assoc] using h⟩
theorem two29 {i j : In} (hi : rightF i = true) (hj : rightF j = true) (hk : i.op = 29) (h : tx29 i = flatS j [] (patS j.op)) : j.op = 29 ∧ (i.ext = j.ext ∧ i.imm.toNat = j.imm.toNat) := by
  have bi : i.imm.toNat < 4294967296 := by have := imm_target hi (by rw [hk]; decide +kernel); omega
  have hb := rt_op hj
  have hc : j.op = 1 ∨ j.op = 2 ∨ j.op = 3 ∨ j.op = 4 ∨ j.op = 5 ∨ j.op = 6 ∨ j.op = 7 ∨ j.op = 8 ∨ j.op = 9 ∨ j.op = 10 ∨ j.op = 11 ∨ j.op = 12 ∨ j.op = 13 ∨ j.op = 14 ∨ j.op = 15 ∨ j.op = 16 ∨ j.op = 17 ∨ j.op = 18 ∨ j.op = 19 ∨ j.op = 20 ∨ j.op = 21 ∨ j.op = 22 ∨ j.op = 23 ∨ j.op = 24 ∨ j.op = 25 ∨ j.op = 26 ∨ j.op = 27 ∨ j.op = 28 ∨ j.op = 29 ∨ j.op = 30 ∨ j.op = 31 := by omega
  rcases hc with e | e | e | e | e | e | e | e | e | e | e | e | e | e | e | e | e | e | e | e | e | e | e | e | e | e | e | e | e | e | e
  · rw [e, tx1_eq] at h
    simp only [tx29, tx1, List.cons.injEq, it_cc, it_c0, it_0c, it_00, app_ext, app_far, app_new, it_head, it_head0, ne_eq, not_false_eq_true, not_true_eq_false, nc32, nc40, nc41, nc43, nc44, nc46, hc44, seval, true_and, and_true, false_and, and_false] at h
  · rw [e, tx2_eq] at h
    simp only [tx29, tx2, List.cons.injEq, it_cc, it_c0, it_0c, it_00, app_ext, app_far, app_new, it_head, it_head0, ne_eq, not_false_eq_true, not_true_eq_false, nc32, nc40, nc41, nc43, nc44, nc46, hc44, seval, true_and, and_true, false_and, and_false] at h
  · rw [e, tx3_eq] at h
    simp only [tx29, tx3, List.cons.injEq, it_cc, it_c0, it_0c, it_00, app_ext, app_far, app_new, it_head, it_head0, ne_eq, not_false_eq_true, not_true_eq_false, nc32, nc40, nc41, nc43, nc44, nc46, hc44, seval, true_and, and_true, false_and, and_false] at h
  · rw [e, tx4_eq] at h
    simp only [tx29, tx4, List.cons.injEq, it_cc, it_c0, it_0c, it_00, app_ext, app_far, app_new, it_head, it_head0, ne_eq, not_false_eq_true, not_true_eq_false, nc32, nc40, nc41, nc43, nc44, nc46, hc44, seval, true_and, and_true, false_and, and_false] at h
  · rw [e, tx5_eq] at h
    simp only [tx29, tx5, List.cons.injEq, it_cc, it_c0, it_0c, it_00, app_ext, app_far, app_new, it_head, it_head0, ne_eq, not_false_eq_true, not_true_eq_false, nc32, nc40, nc41, nc43, nc44, nc46, hc44, seval, true_and, and_true, false_and, and_false] at h
  · rw [e, tx6_eq] at h
    simp only [tx29, tx6, List.cons.injEq, it_cc, it_c0, it_0c, it_00, app_ext, app_far, app_new, it_head, it_head0, ne_eq, not_false_eq_true, not_true_eq_false, nc32, nc40, nc41, nc43, nc44, nc46, hc44, seval, true_and, and_true, false_and, and_false] at h
  · rw [e, tx7_eq] at h
    simp only [tx29, tx7, List.cons.injEq, it_cc, it_c0, it_0c, it_00, app_ext, app_far, app_new, it_head, it_head0, ne_eq, not_false_eq_true, not_true_eq_false, nc32, nc40, nc41, nc43, nc44, nc46, hc44, seval, true_and, and_true, false_and, and_false] at h
  · rw [e, tx8_eq] at h
    simp only [tx29, tx8, List.cons.injEq, it_cc, it_c0, it_0c, it_00, app_ext, app_far, app_new, it_head, it_head0, ne_eq, not_false_eq_true, not_true_eq_false, nc32, nc40, nc41, nc43, nc44, nc46, hc44, seval, true_and, and_true, false_and, and_false] at h
  · rw [e, tx9_eq] at h
    simp only [tx29, tx9, List.cons.injEq, it_cc, it_c0, it_0c, it_00, app_ext, app_far, app_new, it_head, it_head0, ne_eq, not_false_eq_true, not_true_eq_false, nc32, nc40, nc41, nc43, nc44, nc46, hc44, seval, true_and, and_true, false_and, and_false] at h
  · rw [e, tx10_eq] at h
    simp only [tx29, tx10, List.cons.injEq, it_cc, it_c0, it_0c, it_00, app_ext, app_far, app_new, it_head, it_head0, ne_eq, not_false_eq_true, not_true_eq_false, nc32, nc40, nc41, nc43, nc44, nc46, hc44, seval, true_and, and_true, false_and, and_false] at h
  · rw [e, tx11_eq] at h
    simp only [tx29, tx11, List.cons.injEq, it_cc, it_c0, it_0c, it_00, app_ext, app_far, app_new, it_head, it_head0, ne_eq, not_false_eq_true, not_true_eq_false, nc32, nc40, nc41, nc43, nc44, nc46, hc44, seval, true_and, and_true, false_and, and_false] at h
  · rw [e, tx12_eq] at h
    simp only [tx29, tx12, List.cons.injEq, it_cc, it_c0, it_0c, it_00, app_ext, app_far, app_new, it_head, it_head0, ne_eq, not_false_eq_true, not_true_eq_false, nc32, nc40, nc41, nc43, nc44, nc46, hc44, seval, true_and, and_true, false_and, and_false] at h
  · rw [e, tx13_eq] at h
    simp only [tx29, tx13, List.cons.injEq, it_cc, it_c0, it_0c, it_00, app_ext, app_far, app_new, it_head, it_head0, ne_eq, not_false_eq_true, not_true_eq_false, nc32, nc40, nc41, nc43, nc44, nc46, hc44, seval, true_and, and_true, false_and, and_false] at h
  · rw [e, tx14_eq] at h
    simp only [tx29, tx14, List.cons.injEq, it_cc, it_c0, it_0c, it_00, app_ext, app_far, app_new, it_head, it_head0, ne_eq, not_false_eq_true, not_true_eq_false, nc32, nc40, nc41, nc43, nc44, nc46, hc44, seval, true_and, and_true, false_and, and_false] at h
  · rw [e, tx15_eq] at h
    simp only [tx29, tx15, List.cons.injEq, it_cc, it_c0, it_0c, it_00, app_ext, app_far, app_new, it_head, it_head0, ne_eq, not_false_eq_true, not_true_eq_false, nc32, nc40, nc41, nc43, nc44, nc46, hc44, seval, true_and, and_true, false_and, and_false] at h
  · rw [e, tx16_eq] at h
    simp only [tx29, tx16, List.cons.injEq, it_cc, it_c0, it_0c, it_00, app_ext, app_far, app_new, it_head, it_head0, ne_eq, not_false_eq_true, not_true_eq_false, nc32, nc40, nc41, nc43, nc44, nc46, hc44, seval, true_and, and_true, false_and, and_false] at h
  · rw [e, tx17_eq] at h
    simp only [tx29, tx17, List.cons.injEq, it_cc, it_c0, it_0c, it_00, app_ext, app_far, app_new, it_head, it_head0, ne_eq, not_false_eq_true, not_true_eq_false, nc32, nc40, nc41, nc43, nc44, nc46, hc44, seval, true_and, and_true, false_and, and_false] at h
  · rw [e, tx18_eq] at h
    simp only [tx29, tx18, List.cons.injEq, it_cc, it_c0, it_0c, it_00, app_ext, app_far, app_new, it_head, it_head0, ne_eq, not_false_eq_true, not_true_eq_false, nc32, nc40, nc41, nc43, nc44, nc46, hc44, seval, true_and, and_true, false_and, and_false] at h
  · rw [e, tx19_eq] at h
    simp only [tx29, tx19, List.cons.injEq, it_cc, it_c0, it_0c, it_00, app_ext, app_far, app_new, it_head, it_head0, ne_eq, not_false_eq_true, not_true_eq_false, nc32, nc40, nc41, nc43, nc44, nc46, hc44, seval, true_and, and_true, false_and, and_false] at h
  · rw [e, tx20_eq] at h
    simp only [tx29, tx20, List.cons.injEq, it_cc, it_c0, it_0c, it_00, app_ext, app_far, app_new, it_head, it_head0, ne_eq, not_false_eq_true, not_true_eq_false, nc32, nc40, nc41, nc43, nc44, nc46, hc44, seval, true_and, and_true, false_and, and_false] at h
  · rw [e, tx21_eq] at h
    simp only [tx29, tx21, List.cons.injEq, it_cc, it_c0, it_0c, it_00, app_ext, app_far, app_new, it_head, it_head0, ne_eq, not_false_eq_true, not_true_eq_false, nc32, nc40, nc41, nc43, nc44, nc46, hc44, seval, true_and, and_true, false_and, and_false] at h
  · rw [e, tx22_eq] at h
    simp only [tx29, tx22, List.cons.injEq, it_cc, it_c0, it_0c, it_00, app_ext, app_far, app_new, it_head, it_head0, ne_eq, not_false_eq_true, not_true_eq_false, nc32, nc40, nc41, nc43, nc44, nc46, hc44, seval, true_and, and_true, false_and, and_false] at h
  · rw [e, tx23_eq] at h
    simp only [tx29, tx23, List.cons.injEq, it_cc, it_c0, it_0c, it_00, app_ext, app_far, app_new, it_head, it_head0, ne_eq, not_false_eq_true, not_true_eq_false, nc32, nc40, nc41, nc43, nc44, nc46, hc44, seval, true_and, and_true, false_and, and_false] at h
  · rw [e, tx24_eq] at h
    simp only [tx29, tx24, List.cons.injEq, it_cc, it_c0, it_0c, it_00, app_ext, app_far, app_new, it_head, it_head0, ne_eq, not_false_eq_true, not_true_eq_false, nc32, nc40, nc41, nc43, nc44, nc46, hc44, seval, true_and, and_true, false_and, and_false] at h
  · rw [e, tx25_eq] at h
    simp only [tx29, tx25, List.cons.injEq, it_cc, it_c0, it_0c, it_00, app_ext, app_far, app_new, it_head, it_head0, ne_eq, not_false_eq_true, not_true_eq_false, nc32, nc40, nc41, nc43, nc44, nc46, hc44, seval, true_and, and_true, false_and, and_false] at h
  · rw [e, tx26_eq] at h
    simp only [tx29, tx26, List.cons.injEq, it_cc, it_c0, it_0c, it_00, app_ext, app_far, app_new, it_head, it_head0, ne_eq, not_false_eq_true, not_true_eq_false, nc32, nc40, nc41, nc43, nc44, nc46, hc44, seval, true_and, and_true, false_and, and_false] at h
  · rw [e, tx27_eq] at h
    have bj : j.imm.toNat < 4294967296 := by have := imm_target hj (by rw [e]; decide +kernel); omega
    simp only [tx29, tx27, hx_cc bi bj, hx_00 bi bj, List.cons.injEq, it_cc, it_c0, it_0c, it_00, app_ext, app_far, app_new, it_head, it_head0, ne_eq, not_false_eq_true, not_true_eq_false, nc32, nc40, nc41, nc43, nc44, nc46, hc44, seval, true_and, and_true, false_and, and_false] at h
  · rw [e, tx28_eq] at h
    simp only [tx29, tx28, List.cons.injEq, it_cc, it_c0, it_0c, it_00, app_ext, app_far, app_new, it_head, it_head0, ne_eq, not_false_eq_true, not_true_eq_false, nc32, nc40, nc41, nc43, nc44, nc46, hc44, seval, true_and, and_true, false_and, and_false] at h
  · rw [e, tx29_eq] at h
    have bj : j.imm.toNat < 4294967296 := by have := imm_target hj (by rw [e]; decide +kernel); omega
    simp only [tx29, hx_cc bi bj, hx_00 bi bj, List.cons.injEq, it_cc, it_c0, it_0c, it_00, app_ext, app_far, app_new, it_head, it_head0, ne_eq, not_false_eq_true, not_true_eq_false, nc32, nc40, nc41, nc43, nc44, nc46, hc44, seval, true_and, and_true, false_and, and_false] at h
    refine ⟨e, ?_⟩
    simpa only [and_assoc] using h
  · rw [e, tx30_eq] at h
    have bj : j.imm.toNat < 4294967296 := by have := imm_target hj (by rw [e]; decide +kernel); omega
    simp only [tx29, tx30, hx_cc bi bj, hx_00 bi bj, List.cons.injEq, it_cc, it_c0, it_0c, it_00, app_ext, app_far, app_new, it_head, it_head0, ne_eq, not_false_eq_true, not_true_eq_false, nc32, nc40, nc41, nc43, nc44, nc46, hc44, seval, true_and, and_true, false_and, and_false] at h
  · rw [e, tx31_eq] at h
    have bj : j.imm.toNat < 4294967296 := by have := imm_target hj (by rw [e]; decide +kernel); omega
    simp only [tx29, tx31, hx_cc bi bj, hx_00 bi bj, List.cons.injEq, it_cc, it_c0, it_0c, it_00, app_ext, app_far, app_new, it_head, it_head0, ne_eq, not_false_eq_true, not_true_eq_false, nc32, nc40, nc41, nc43, nc44, nc46, hc44, seval, true_and, and_true, false_and, and_false] at h
theorem two30 {i j : In} (hi : rightF i = true) (hj : rightF j = true) (hk : i.op = 30) (h : tx30 i = flatS j [] (patS j.op)) : j.op = 30 ∧ (i.n = j.n ∧ i.ext = j.ext ∧ i.imm.toNat = j.imm.toNat ∧ i.count = j.count) := by
  have bi : i.imm.toNat < 4294967296 := by have := imm_target hi (by rw [hk]; decide +kernel); omega
  have hb := rt_op hj
  have hc : j.op = 1 ∨ j.op = 2 ∨ j.op = 3 ∨ j.op = 4 ∨ j.op = 5 ∨ j.op = 6 ∨ j.op = 7 ∨ j.op = 8 ∨ j.op = 9 ∨ j.op = 10 ∨ j.op = 11 ∨ j.op = 12 ∨ j.op = 13 ∨ j.op = 14 ∨ j.op = 15 ∨ j.op = 16 ∨ j.op = 17 ∨ j.op = 18 ∨ j.op = 19 ∨ j.op = 20 ∨ j.op = 21 ∨ j.op = 22 ∨ j.op = 23 ∨ j.op = 24 ∨ j.op = 25 ∨ j.op = 26 ∨ j.op = 27 ∨ j.op = 28 ∨ j.op = 29 ∨ j.op = 30 ∨ j.op = 31 := by omega
  rcases hc with e | e | e | e | e | e | e | e | e | e | e | e | e | e | e | e | e | e | e | e | e | e | e | e | e | e | e | e | e | e | e
  · rw [e, tx1_eq] at h
    simp only [tx30, tx1, List.cons.injEq, it_cc, it_c0, it_0c, it_00, app_ext, app_far, app_new, it_head, it_head0, ne_eq, not_false_eq_true, not_true_eq_false, nc32, nc40, nc41, nc43, nc44, nc46, hc44, seval, true_and, and_true, false_and, and_false] at h
  · rw [e, tx2_eq] at h
    simp only [tx30, tx2, List.cons.injEq, it_cc, it_c0, it_0c, it_00, app_ext, app_far, app_new, it_head, it_head0, ne_eq, not_false_eq_true, not_true_eq_false, nc32, nc40, nc41, nc43, nc44, nc46, hc44, seval, true_and, and_true, false_and, and_false] at h
  · rw [e, tx3_eq] at h
    simp only [tx30, tx3, List.cons.injEq, it_cc, it_c0, it_0c, it_00, app_ext, app_far, app_new, it_head, it_head0, ne_eq, not_false_eq_true, not_true_eq_false, nc32, nc40, nc41, nc43, nc44, nc46, hc44, seval, true_and, and_true, false_and, and_false] at h
  · rw [e, tx4_eq] at h
    simp only [tx30, tx4, List.cons.injEq, it_cc, it_c0, it_0c, it_00, app_ext, app_far, app_new, it_head, it_head0, ne_eq, not_false_eq_true, not_true_eq_false, nc32, nc40, nc41, nc43, nc44, nc46, hc44, seval, true_and, and_true, false_and, and_false] at h
  · rw [e, tx5_eq] at h
    simp only [tx30, tx5, List.cons.injEq, it_cc, it_c0, it_0c, it_00, app_ext, app_far, app_new, it_head, it_head0, ne_eq, not_false_eq_true, not_true_eq_false, nc32, nc40, nc41, nc43, nc44, nc46, hc44, seval, true_and, and_true, false_and, and_false] at h
  · rw [e, tx6_eq] at h
    simp only [tx30, tx6, List.cons.injEq, it_cc, it_c0, it_0c, it_00, app_ext, app_far, app_new, it_head, it_head0, ne_eq, not_false_eq_true, not_true_eq_false, nc32, nc40, nc41, nc43, nc44, nc46, hc44, seval, true_and, and_true, false_and, and_false] at h
  · rw [e, tx7_eq] at h
    simp only [tx30, tx7, List.cons.injEq, it_cc, it_c0, it_0c, it_00, app_ext, app_far, app_new, it_head, it_head0, ne_eq, not_false_eq_true, not_true_eq_false, nc32, nc40, nc41, nc43, nc44, nc46, hc44, seval, true_and, and_true, false_and, and_false] at h
  · rw [e, tx8_eq] at h
    simp only [tx30, tx8, List.cons.injEq, it_cc, it_c0, it_0c, it_00, app_ext, app_far, app_new, it_head, it_head0, ne_eq, not_false_eq_true, not_true_eq_false, nc32, nc40, nc41, nc43, nc44, nc46, hc44, seval, true_and, and_true, false_and, and_false] at h
  · rw [e, tx9_eq] at h
    simp only [tx30, tx9, List.cons.injEq, it_cc, it_c0, it_0c, it_00, app_ext, app_far, app_new, it_head, it_head0, ne_eq, not_false_eq_true, not_true_eq_false, nc32, nc40, nc41, nc43, nc44, nc46, hc44, seval, true_and, and_true, false_and, and_false] at h
  · rw [e, tx10_eq] at h
    simp only [tx30, tx10, List.cons.injEq, it_cc, it_c0, it_0c, it_00, app_ext, app_far, app_new, it_head, it_head0, ne_eq, not_false_eq_true, not_true_eq_false, nc32, nc40, nc41, nc43, nc44, nc46, hc44, seval, true_and, and_true, false_and, and_false] at h
  · rw [e, tx11_eq] at h
    simp only [tx30, tx11, List.cons.injEq, it_cc, it_c0, it_0c, it_00, app_ext, app_far, app_new, it_head, it_head0, ne_eq, not_false_eq_true, not_true_eq_false, nc32, nc40, nc41, nc43, nc44, nc46, hc44, seval, true_and, and_true, false_and, and_false] at h
  · rw [e, tx12_eq] at h
    simp only [tx30, tx12, List.cons.injEq, it_cc, it_c0, it_0c, it_00, app_ext, app_far, app_new, it_head, it_head0, ne_eq, not_false_eq_true, not_true_eq_false, nc32, nc40, nc41, nc43, nc44, nc46, hc44, seval, true_and, and_true, false_and, and_false] at h
  · rw [e, tx13_eq] at h
    simp only [tx30, tx13, List.cons.injEq, it_cc, it_c0, it_0c, it_00, app_ext, app_far, app_new, it_head, it_head0, ne_eq, not_false_eq_true, not_true_eq_false, nc32, nc40, nc41, nc43, nc44, nc46, hc44, seval, true_and, and_true, false_and, and_false] at h
  · rw [e, tx14_eq] at h
    simp only [tx30, tx14, List.cons.injEq, it_cc, it_c0, it_0c, it_00, app_ext, app_far, app_new, it_head, it_head0, ne_eq, not_false_eq_true, not_true_eq_false, nc32, nc40, nc41, nc43, nc44, nc46, hc44, seval, true_and, and_true, false_and, and_false] at h
  · rw [e, tx15_eq] at h
    simp only [tx30, tx15, List.cons.injEq, it_cc, it_c0, it_0c, it_00, app_ext, app_far, app_new, it_head, it_head0, ne_eq, not_false_eq_true, not_true_eq_false, nc32, nc40, nc41, nc43, nc44, nc46, hc44, seval, true_and, and_true, false_and, and_false] at h
  · rw [e, tx16_eq] at h
    simp only [tx30, tx16, List.cons.injEq, it_cc, it_c0, it_0c, it_00, app_ext, app_far, app_new, it_head, it_head0, ne_eq, not_false_eq_true, not_true_eq_false, nc32, nc40, nc41, nc43, nc44, nc46, hc44, seval, true_and, and_true, false_and, and_false] at h
  · rw [e, tx17_eq] at h
    simp only [tx30, tx17, List.cons.injEq, it_cc, it_c0, it_0c, it_00, app_ext, app_far, app_new, it_head, it_head0, ne_eq, not_false_eq_true, not_true_eq_false, nc32, nc40, nc41, nc43, nc44, nc46, hc44, seval, true_and, and_true, false_and, and_false] at h
  · rw [e, tx18_eq] at h
    simp only [tx30, tx18, List.cons.injEq, it_cc, it_c0, it_0c, it_00, app_ext, app_far, app_new, it_head, it_head0, ne_eq, not_false_eq_true, not_true_eq_false, nc32, nc40, nc41, nc43, nc44, nc46, hc44, seval, true_and, and_true, false_and, and_false] at h
  · rw [e, tx19_eq] at h
    simp only [tx30, tx19, List.cons.injEq, it_cc, it_c0, it_0c, it_00, app_ext, app_far, app_new, it_head, it_head0, ne_eq, not_false_eq_true, not_true_eq_false, nc32, nc40, nc41, nc43, nc44, nc46, hc44, seval, true_and, and_true, false_and, and_false] at h
  · rw [e, tx20_eq] at h
    simp only [tx30, tx20, List.cons.injEq, it_cc, it_c0, it_0c, it_00, app_ext, app_far, app_new, it_head, it_head0, ne_eq, not_false_eq_true, not_true_eq_false, nc32, nc40, nc41, nc43, nc44, nc46, hc44, seval, true_and, and_true, false_and, and_false] at h
  · rw [e, tx21_eq] at h
    simp only [tx30, tx21, List.cons.injEq, it_cc, it_c0, it_0c, it_00, app_ext, app_far, app_new, it_head, it_head0, ne_eq, not_false_eq_true, not_true_eq_false, nc32, nc40, nc41, nc43, nc44, nc46, hc44, seval, true_and, and_true, false_and, and_false] at h
  · rw [e, tx22_eq] at h
    simp only [tx30, tx22, List.cons.injEq, it_cc, it_c0, it_0c, it_00, app_ext, app_far, app_new, it_head, it_head0, ne_eq, not_false_eq_true, not_true_eq_false, nc32, nc40, nc41, nc43, nc44, nc46, hc44, seval, true_and, and_true, false_and, and_false] at h
  · rw [e, tx23_eq] at h
    simp only [tx30, tx23, List.cons.injEq, it_cc, it_c0, it_0c, it_00, app_ext, app_far, app_new, it_head, it_head0, ne_eq, not_false_eq_true, not_true_eq_false, nc32, nc40, nc41, nc43, nc44, nc46, hc44, seval, true_and, and_true, false_and, and_false] at h
  · rw [e, tx24_eq] at h
    simp only [tx30, tx24, List.cons.injEq, it_cc, it_c0, it_0c, it_00, app_ext, app_far, app_new, it_head, it_head0, ne_eq, not_false_eq_true, not_true_eq_false, nc32, nc40, nc41, nc43, nc44, nc46, hc44, seval, true_and, and_true, false_and, and_false] at h
  · rw [e, tx25_eq] at h
    simp only [tx30, tx25, List.cons.injEq, it_cc, it_c0, it_0c, it_00, app_ext, app_far, app_new, it_head, it_head0, ne_eq, not_false_eq_true, not_true_eq_false, nc32, nc40, nc41, nc43, nc44, nc46, hc44, seval, true_and, and_true, false_and, and_false] at h
  · rw [e, tx26_eq] at h
    simp only [tx30, tx26, List.cons.injEq, it_cc, it_c0, it_0c, it_00, app_ext, app_far, app_new, it_head, it_head0, ne_eq, not_false_eq_true, not_true_eq_false, nc32, nc40, nc41, nc43, nc44, nc46, hc44, seval, true_and, and_true, false_and, and_false] at h
  · rw [e, tx27_eq] at h
    have bj : j.imm.toNat < 4294967296 := by have := imm_target hj (by rw [e]; decide +kernel); omega
    simp only [tx30, tx27, hx_cc bi bj, hx_00 bi bj, List.cons.injEq, it_cc, it_c0, it_0c, it_00, app_ext, app_far, app_new, it_head, it_head0, ne_eq, not_false_eq_true, not_true_eq_false, nc32, nc40, nc41, nc43, nc44, nc46, hc44, seval, true_and, and_true, false_and, and_false] at h
  · rw [e, tx28_eq] at h
    simp only [tx30, tx28, List.cons.injEq, it_cc, it_c0, it_0c, it_00, app_ext, app_far, app_new, it_head, it_head0, ne_eq, not_false_eq_true, not_true_eq_false, nc32, nc40, nc41, nc43, nc44, nc46, hc44, seval, true_and, and_true, false_and, and_false] at h
  · rw [e, tx29_eq] at h
    have bj : j.imm.toNat < 4294967296 := by have := imm_target hj (by rw [e]; decide +kernel); omega
    simp only [tx30, tx29, hx_cc bi bj, hx_00 bi bj, List.cons.injEq, it_cc, it_c0, it_0c, it_00, app_ext, app_far, app_new, it_head, it_head0, ne_eq, not_false_eq_true, not_true_eq_false, nc32, nc40, nc41, nc43, nc44, nc46, hc44, seval, true_and, and_true, false_and, and_false] at h
  · rw [e, tx30_eq] at h
    have bj : j.imm.toNat < 4294967296 := by have := imm_target hj (by rw [e]; decide +kernel); omega
    simp only [tx30, hx_cc bi bj, hx_00 bi bj, List.cons.injEq, it_cc, it_c0, it_0c, it_00, app_ext, app_far, app_new, it_head, it_head0, ne_eq, not_false_eq_true, not_true_eq_false, nc32, nc40, nc41, nc43, nc44, nc46, hc44, seval, true_and, and_true, false_and, and_false] at h
    refine ⟨e, ?_⟩
    simpa only [and_assoc] using h
  · rw [e, tx31_eq] at h
    have bj : j.imm.toNat < 4294967296 := by have := imm_target hj (by rw [e]; decide +kernel); omega
    simp only [tx30, tx31, hx_cc bi bj, hx_00 bi bj, List.cons.injEq, it_cc, it_c0, it_0c, it_00, app_ext, app_far, app_new, it_head, it_head0, ne_eq, not_false_eq_true, not_true_eq_false, nc32, nc40, nc41, nc43, nc44, nc46, hc44, seval, true_and, and_true, false_and, and_false] at h
theorem two31 {i j : In} (hi : rightF i = true) (hj : rightF j = true) (hk : i.op = 31) (h : tx31 i = flatS j [] (patS j.op)) : j.op = 31 ∧ (i.n = j.n ∧ i.ext = j.ext ∧ i.imm.toNat = j.imm.toNat ∧ i.s = j.s) := by
  have bi : i.imm.toNat < 4294967296 := by have := imm_target hi (by rw [hk]; decide +kernel); omega
  have hb := rt_op hj
  have hc : j.op = 1 ∨ j.op = 2 ∨ j.op = 3 ∨ j.op = 4 ∨ j.op = 5 ∨ j.op = 6 ∨ j.op = 7 ∨ j.op = 8 ∨ j.op = 9 ∨ j.op = 10 ∨ j.op = 11 ∨ j.op = 12 ∨ j.op = 13 ∨ j.op = 14 ∨ j.op = 15 ∨ j.op = 16 ∨ j.op = 17 ∨ j.op = 18 ∨ j.op = 19 ∨ j.op = 20 ∨ j.op = 21 ∨ j.op = 22 ∨ j.op = 23 ∨ j.op = 24 ∨ j.op = 25 ∨ j.op = 26 ∨ j.op = 27 ∨ j.op = 28 ∨ j.op = 29 ∨ j.op = 30 ∨ j.op = 31 := by omega
  rcases hc with e | e | e | e | e | e | e | e | e | e | e | e | e | e | e | e | e | e | e | e | e | e | e | e | e | e | e | e | e | e | e
  · rw [e, tx1_eq] at h
    simp only [tx31, tx1, List.cons.injEq, it_cc, it_c0, it_0c, it_00, app_ext, app_far, app_new, it_head, it_head0, ne_eq, not_false_eq_true, not_true_eq_false, nc32, nc40, nc41, nc43, nc44, nc46, hc44, seval, true_and, and_true, false_and, and_false] at h
  · rw [e, tx2_eq] at h
    simp only [tx31, tx2, List.cons.injEq, it_cc, it_c0, it_0c, it_00, app_ext, app_far, app_new, it_head, it_head0, ne_eq, not_false_eq_true, not_true_eq_false, nc32, nc40, nc41, nc43, nc44, nc46, hc44, seval, true_and, and_true, false_and, and_false] at h
  · rw [e, tx3_eq] at h
    simp only [tx31, tx3, List.cons.injEq, it_cc, it_c0, it_0c, it_00, app_ext, app_far, app_new, it_head, it_head0, ne_eq, not_false_eq_true, not_true_eq_false, nc32, nc40, nc41, nc43, nc44, nc46, hc44, seval, true_and, and_true, false_and, and_false] at h
  · rw [e, tx4_eq] at h
    simp only [tx31, tx4, List.cons.injEq, it_cc, it_c0, it_0c, it_00, app_ext, app_far, app_new, it_head, it_head0, ne_eq, not_false_eq_true, not_true_eq_false, nc32, nc40, nc41, nc43, nc44, nc46, hc44, seval, true_and, and_true, false_and, and_false] at h
  · rw [e, tx5_eq] at h
    simp only [tx31, tx5, List.cons.injEq, it_cc, it_c0, it_0c, it_00, app_ext, app_far, app_new, it_head, it_head0, ne_eq, not_false_eq_true, not_true_eq_false, nc32, nc40, nc41, nc43, nc44, nc46, hc44, seval, true_and, and_true, false_and, and_false] at h
  · rw [e, tx6_eq] at h
    simp only [tx31, tx6, List.cons.injEq, it_cc, it_c0, it_0c, it_00, app_ext, app_far, app_new, it_head, it_head0, ne_eq, not_false_eq_true, not_true_eq_false, nc32, nc40, nc41, nc43, nc44, nc46, hc44, seval, true_and, and_true, false_and, and_false] at h
  · rw [e, tx7_eq] at h
    simp only [tx31, tx7, List.cons.injEq, it_cc, it_c0, it_0c, it_00, app_ext, app_far, app_new, it_head, it_head0, ne_eq, not_false_eq_true, not_true_eq_false, nc32, nc40, nc41, nc43, nc44, nc46, hc44, seval, true_and, and_true, false_and, and_false] at h
  · rw [e, tx8_eq] at h
    simp only [tx31, tx8, List.cons.injEq, it_cc, it_c0, it_0c, it_00, app_ext, app_far, app_new, it_head, it_head0, ne_eq, not_false_eq_true, not_true_eq_false, nc32, nc40, nc41, nc43, nc44, nc46, hc44, seval, true_and, and_true, false_and, and_false] at h
  · rw [e, tx9_eq] at h
    simp only [tx31, tx9, List.cons.injEq, it_cc, it_c0, it_0c, it_00, app_ext, app_far, app_new, it_head, it_head0, ne_eq, not_false_eq_true, not_true_eq_false, nc32, nc40, nc41, nc43, nc44, nc46, hc44, seval, true_and, and_true, false_and, and_false] at h
  · rw [e, tx10_eq] at h
    simp only [tx31, tx10, List.cons.injEq, it_cc, it_c0, it_0c, it_00, app_ext, app_far, app_new, it_head, it_head0, ne_eq, not_false_eq_true, not_true_eq_false, nc32, nc40, nc41, nc43, nc44, nc46, hc44, seval, true_and, and_true, false_and, and_false] at h
  · rw [e, tx11_eq] at h
    simp only [tx31, tx11, List.cons.injEq, it_cc, it_c0, it_0c, it_00, app_ext, app_far, app_new, it_head, it_head0, ne_eq, not_false_eq_true, not_true_eq_false, nc32, nc40, nc41, nc43, nc44, nc46, hc44, seval, true_and, and_true, false_and, and_false] at h
  · rw [e, tx12_eq] at h
    simp only [tx31, tx12, List.cons.injEq, it_cc, it_c0, it_0c, it_00, app_ext, app_far, app_new, it_head, it_head0, ne_eq, not_false_eq_true, not_true_eq_false, nc32, nc40, nc41, nc43, nc44, nc46, hc44, seval, true_and, and_true, false_and, and_false] at h
  · rw [e, tx13_eq] at h
    simp only [tx31, tx13, List.cons.injEq, it_cc, it_c0, it_0c, it_00, app_ext, app_far, app_new, it_head, it_head0, ne_eq, not_false_eq_true, not_true_eq_false, nc32, nc40, nc41, nc43, nc44, nc46, hc44, seval, true_and, and_true, false_and, and_false] at h
  · rw [e, tx14_eq] at h
    simp only [tx31, tx14, List.cons.injEq, it_cc, it_c0, it_0c, it_00, app_ext, app_far, app_new, it_head, it_head0, ne_eq, not_false_eq_true, not_true_eq_false, nc32, nc40, nc41, nc43, nc44, nc46, hc44, seval, true_and, and_true, false_and, and_false] at h
  · rw [e, tx15_eq] at h
    simp only [tx31, tx15, List.cons.injEq, it_cc, it_c0, it_0c, it_00, app_ext, app_far, app_new, it_head, it_head0, ne_eq, not_false_eq_true, not_true_eq_false, nc32, nc40, nc41, nc43, nc44, nc46, hc44, seval, true_and, and_true, false_and, and_false] at h
  · rw [e, tx16_eq] at h
    simp only [tx31, tx16, List.cons.injEq, it_cc, it_c0, it_0c, it_00, app_ext, app_far, app_new, it_head, it_head0, ne_eq, not_false_eq_true, not_true_eq_false, nc32, nc40, nc41, nc43, nc44, nc46, hc44, seval, true_and, and_true, false_and, and_false] at h
  · rw [e, tx17_eq] at h
    simp only [tx31, tx17, List.cons.injEq, it_cc, it_c0, it_0c, it_00, app_ext, app_far, app_new, it_head, it_head0, ne_eq, not_false_eq_true, not_true_eq_false, nc32, nc40, nc41, nc43, nc44, nc46, hc44, seval, true_and, and_true, false_and, and_false] at h
  · rw [e, tx18_eq] at h
    simp only [tx31, tx18, List.cons.injEq, it_cc, it_c0, it_0c, it_00, app_ext, app_far, app_new, it_head, it_head0, ne_eq, not_false_eq_true, not_true_eq_false, nc32, nc40, nc41, nc43, nc44, nc46, hc44, seval, true_and, and_true, false_and, and_false] at h
  · rw [e, tx19_eq] at h
    simp only [tx31, tx19, List.cons.injEq, it_cc, it_c0, it_0c, it_00, app_ext, app_far, app_new, it_head, it_head0, ne_eq, not_false_eq_true, not_true_eq_false, nc32, nc40, nc41, nc43, nc44, nc46, hc44, seval, true_and, and_true, false_and, and_false] at h
  · rw [e, tx20_eq] at h
    simp only [tx31, tx20, List.cons.injEq, it_cc, it_c0, it_0c, it_00, app_ext, app_far, app_new, it_head, it_head0, ne_eq, not_false_eq_true, not_true_eq_false, nc32, nc40, nc41, nc43, nc44, nc46, hc44, seval, true_and, and_true, false_and, and_false] at h
  · rw [e, tx21_eq] at h
    simp only [tx31, tx21, List.cons.injEq, it_cc, it_c0, it_0c, it_00, app_ext, app_far, app_new, it_head, it_head0, ne_eq, not_false_eq_true, not_true_eq_false, nc32, nc40, nc41, nc43, nc44, nc46, hc44, seval, true_and, and_true, false_and, and_false] at h
  · rw [e, tx22_eq] at h
    simp only [tx31, tx22, List.cons.injEq, it_cc, it_c0, it_0c, it_00, app_ext, app_far, app_new, it_head, it_head0, ne_eq, not_false_eq_true, not_true_eq_false, nc32, nc40, nc41, nc43, nc44, nc46, hc44, seval, true_and, and_true, false_and, and_false] at h
  · rw [e, tx23_eq] at h
    simp only [tx31, tx23, List.cons.injEq, it_cc, it_c0, it_0c, it_00, app_ext, app_far, app_new, it_head, it_head0, ne_eq, not_false_eq_true, not_true_eq_false, nc32, nc40, nc41, nc43, nc44, nc46, hc44, seval, true_and, and_true, false_and, and_false] at h
  · rw [e, tx24_eq] at h
    simp only [tx31, tx24, List.cons.injEq, it_cc, it_c0, it_0c, it_00, app_ext, app_far, app_new, it_head, it_head0, ne_eq, not_false_eq_true, not_true_eq_false, nc32, nc40, nc41, nc43, nc44, nc46, hc44, seval, true_and, and_true, false_and, and_false] at h
  · rw [e, tx25_eq] at h
    simp only [tx31, tx25, List.cons.injEq, it_cc, it_c0, it_0c, it_00, app_ext, app_far, app_new, it_head, it_head0, ne_eq, not_false_eq_true, not_true_eq_false, nc32, nc40, nc41, nc43, nc44, nc46, hc44, seval, true_and, and_true, false_and, and_false] at h
  · rw [e, tx26_eq] at h
    simp only [tx31, tx26, List.cons.injEq, it_cc, it_c0, it_0c, it_00, app_ext, app_far, app_new, it_head, it_head0, ne_eq, not_false_eq_true, not_true_eq_false, nc32, nc40, nc41, nc43, nc44, nc46, hc44, seval, true_and, and_true, false_and, and_false] at h
  · rw [e, tx27_eq] at h
    have bj : j.imm.toNat < 4294967296 := by have := imm_target hj (by rw [e]; decide +kernel); omega
    simp only [tx31, tx27, hx_cc bi bj, hx_00 bi bj, List.cons.injEq, it_cc, it_c0, it_0c, it_00, app_ext, app_far, app_new, it_head, it_head0, ne_eq, not_false_eq_true, not_true_eq_false, nc32, nc40, nc41, nc43, nc44, nc46, hc44, seval, true_and, and_true, false_and, and_false] at h
  · rw [e, tx28_eq] at h
    simp only [tx31, tx28, List.cons.injEq, it_cc, it_c0, it_0c, it_00, app_ext, app_far, app_new, it_head, it_head0, ne_eq, not_false_eq_true, not_true_eq_false, nc32, nc40, nc41, nc43, nc44, nc46, hc44, seval, true_and, and_true, false_and, and_false] at h
  · rw [e, tx29_eq] at h
    have bj : j.imm.toNat < 4294967296 := by have := imm_target hj (by rw [e]; decide +kernel); omega
    simp only [tx31, tx29, hx_cc bi bj, hx_00 bi bj, List.cons.injEq, it_cc, it_c0, it_0c, it_00, app_ext, app_far, app_new, it_head, it_head0, ne_eq, not_false_eq_true, not_true_eq_false, nc32, nc40, nc41, nc43, nc44, nc46, hc44, seval, true_and, and_true, false_and, and_false] at h
  · rw [e, tx30_eq] at h
    have bj : j.imm.toNat < 4294967296 := by have := imm_target hj (by rw [e]; decide +kernel); omega
    simp only [tx31, tx30, hx_cc bi bj, hx_00 bi bj, List.cons.injEq, it_cc, it_c0, it_0c, it_00, app_ext, app_far, app_new, it_head, it_head0, ne_eq, not_false_eq_true, not_true_eq_false, nc32, nc40, nc41, nc43, nc44, nc46, hc44, seval, true_and, and_true, false_and, and_false] at h
  · rw [e, tx31_eq] at h
    have bj : j.imm.toNat < 4294967296 := by have := imm_target hj (by rw [e]; decide +kernel); omega
    simp only [tx31, hx_cc bi bj, hx_00 bi bj, List.cons.injEq, it_cc, it_c0, it_0c, it_00, app_ext, app_far, app_new, it_head, it_head0, ne_eq, not_false_eq_true, not_true_eq_false, nc32, nc40, nc41, nc43, nc44, nc46, hc44, seval, true_and, and_true, false_and, and_false] at h
    refine ⟨e, ?_⟩
    simpa only [and_assoc] using h
end Go.V
