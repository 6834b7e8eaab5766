/- show: two texts that are the same are of one op, and say the same fields. -/
import Derived.Test.YtkjddipkaaelaaaDoorTW1
set_option linter.unusedVariables false
set_option linter.unusedSimpArgs false
set_option linter.unusedSectionVars false
/- show: two texts that are the same are of one op, and say the same fields. -/
namespace Go.V
open Go
set_option linter.unusedSimpArgs false
set_option linter.unusedVariables false
set_option linter.unusedSimpArgs false
theorem two1 {i j : In} (hi : rightF i = true) (hj : rightF j = true) (hk : i.op = 1) (h : tx1 i = flatS j [] (patS j.op)) : j.op = 1 ∧ (True) := by
  have hb := rt_op hj
  have hc : j.op = 1 ∨ j.op = 2 ∨ j.op = 3 ∨ j.op = 4 ∨ j.op = 5 ∨ j.op = 6 ∨ j.op = 7 ∨ j.op = 8 ∨ j.op = 9 ∨ j.op = 10 ∨ j.op = 11 ∨ j.op = 12 ∨ j.op = 13 ∨ j.op = 14 ∨ j.op = 15 ∨ j.op = 16 ∨ j.op = 17 ∨ j.op = 18 ∨ j.op = 19 ∨ j.op = 20 ∨ j.op = 21 ∨ j.op = 22 ∨ j.op = 23 ∨ j.op = 24 ∨ j.op = 25 ∨ j.op = 26 ∨ j.op = 27 ∨ j.op = 28 ∨ j.op = 29 ∨ j.op = 30 ∨ j.op = 31 := by omega
  rcases hc with e | e | e | e | e | e | e | e | e | e | e | e | e | e | e | e | e | e | e | e | e | e | e | e | e | e | e | e | e | e | e
  all_goals rw [e] at h
  all_goals simp only [tx1_eq, tx2_eq, tx3_eq, tx4_eq, tx5_eq, tx6_eq, tx7_eq, tx8_eq, tx9_eq, tx10_eq, tx11_eq, tx12_eq, tx13_eq, tx14_eq, tx15_eq, tx16_eq, tx17_eq, tx18_eq, tx19_eq, tx20_eq, tx21_eq, tx22_eq, tx23_eq, tx24_eq, tx25_eq, tx26_eq, tx27_eq, tx28_eq, tx29_eq, tx30_eq, tx31_eq, tx1, tx2, tx3, tx4, tx5, tx6, tx7, tx8, tx9, tx10, tx11, tx12, tx13, tx14, tx15, tx16, tx17, tx18, tx19, tx20, tx21, tx22, tx23, tx24, tx25, tx26, tx27, tx28, tx29, tx30, tx31, List.cons.injEq, it_cc, it_c0, it_0c, it_00, app_ext, app_far, app_new, it_head, it_head0, ne_eq, not_false_eq_true, not_true_eq_false, nc32, nc40, nc41, nc43, nc44, nc46, hc44, seval, true_and, and_true, false_and, and_false] at h
  exact ⟨e, trivial⟩
theorem two2 {i j : In} (hi : rightF i = true) (hj : rightF j = true) (hk : i.op = 2) (h : tx2 i = flatS j [] (patS j.op)) : j.op = 2 ∧ (i.d = j.d ∧ i.s = j.s ∧ i.t = j.t) := by
  have hb := rt_op hj
  have hc : j.op = 1 ∨ j.op = 2 ∨ j.op = 3 ∨ j.op = 4 ∨ j.op = 5 ∨ j.op = 6 ∨ j.op = 7 ∨ j.op = 8 ∨ j.op = 9 ∨ j.op = 10 ∨ j.op = 11 ∨ j.op = 12 ∨ j.op = 13 ∨ j.op = 14 ∨ j.op = 15 ∨ j.op = 16 ∨ j.op = 17 ∨ j.op = 18 ∨ j.op = 19 ∨ j.op = 20 ∨ j.op = 21 ∨ j.op = 22 ∨ j.op = 23 ∨ j.op = 24 ∨ j.op = 25 ∨ j.op = 26 ∨ j.op = 27 ∨ j.op = 28 ∨ j.op = 29 ∨ j.op = 30 ∨ j.op = 31 := by omega
  rcases hc with e | e | e | e | e | e | e | e | e | e | e | e | e | e | e | e | e | e | e | e | e | e | e | e | e | e | e | e | e | e | e
  all_goals rw [e] at h
  all_goals simp only [tx1_eq, tx2_eq, tx3_eq, tx4_eq, tx5_eq, tx6_eq, tx7_eq, tx8_eq, tx9_eq, tx10_eq, tx11_eq, tx12_eq, tx13_eq, tx14_eq, tx15_eq, tx16_eq, tx17_eq, tx18_eq, tx19_eq, tx20_eq, tx21_eq, tx22_eq, tx23_eq, tx24_eq, tx25_eq, tx26_eq, tx27_eq, tx28_eq, tx29_eq, tx30_eq, tx31_eq, tx1, tx2, tx3, tx4, tx5, tx6, tx7, tx8, tx9, tx10, tx11, tx12, tx13, tx14, tx15, tx16, tx17, tx18, tx19, tx20, tx21, tx22, tx23, tx24, tx25, tx26, tx27, tx28, tx29, tx30, tx31, List.cons.injEq, it_cc, it_c0, it_0c, it_00, app_ext, app_far, app_new, it_head, it_head0, ne_eq, not_false_eq_true, not_true_eq_false, nc32, nc40, nc41, nc43, nc44, nc46, hc44, seval, true_and, and_true, false_and, and_false] at h
  exact ⟨e, by simpa only [and_assoc] using h⟩
theorem two3 {i j : In} (hi : rightF i = true) (hj : rightF j = true) (hk : i.op = 3) (h : tx3 i = flatS j [] (patS j.op)) : j.op = 3 ∧ (i.d = j.d ∧ i.s = j.s ∧ i.t = j.t) := by
  have hb := rt_op hj
  have hc : j.op = 1 ∨ j.op = 2 ∨ j.op = 3 ∨ j.op = 4 ∨ j.op = 5 ∨ j.op = 6 ∨ j.op = 7 ∨ j.op = 8 ∨ j.op = 9 ∨ j.op = 10 ∨ j.op = 11 ∨ j.op = 12 ∨ j.op = 13 ∨ j.op = 14 ∨ j.op = 15 ∨ j.op = 16 ∨ j.op = 17 ∨ j.op = 18 ∨ j.op = 19 ∨ j.op = 20 ∨ j.op = 21 ∨ j.op = 22 ∨ j.op = 23 ∨ j.op = 24 ∨ j.op = 25 ∨ j.op = 26 ∨ j.op = 27 ∨ j.op = 28 ∨ j.op = 29 ∨ j.op = 30 ∨ j.op = 31 := by omega
  rcases hc with e | e | e | e | e | e | e | e | e | e | e | e | e | e | e | e | e | e | e | e | e | e | e | e | e | e | e | e | e | e | e
  all_goals rw [e] at h
  all_goals simp only [tx1_eq, tx2_eq, tx3_eq, tx4_eq, tx5_eq, tx6_eq, tx7_eq, tx8_eq, tx9_eq, tx10_eq, tx11_eq, tx12_eq, tx13_eq, tx14_eq, tx15_eq, tx16_eq, tx17_eq, tx18_eq, tx19_eq, tx20_eq, tx21_eq, tx22_eq, tx23_eq, tx24_eq, tx25_eq, tx26_eq, tx27_eq, tx28_eq, tx29_eq, tx30_eq, tx31_eq, tx1, tx2, tx3, tx4, tx5, tx6, tx7, tx8, tx9, tx10, tx11, tx12, tx13, tx14, tx15, tx16, tx17, tx18, tx19, tx20, tx21, tx22, tx23, tx24, tx25, tx26, tx27, tx28, tx29, tx30, tx31, List.cons.injEq, it_cc, it_c0, it_0c, it_00, app_ext, app_far, app_new, it_head, it_head0, ne_eq, not_false_eq_true, not_true_eq_false, nc32, nc40, nc41, nc43, nc44, nc46, hc44, seval, true_and, and_true, false_and, and_false] at h
  exact ⟨e, by simpa only [and_assoc] using h⟩
theorem two4 {i j : In} (hi : rightF i = true) (hj : rightF j = true) (hk : i.op = 4) (h : tx4 i = flatS j [] (patS j.op)) : j.op = 4 ∧ (i.d = j.d ∧ i.s = j.s ∧ i.t = j.t) := by
  have hb := rt_op hj
  have hc : j.op = 1 ∨ j.op = 2 ∨ j.op = 3 ∨ j.op = 4 ∨ j.op = 5 ∨ j.op = 6 ∨ j.op = 7 ∨ j.op = 8 ∨ j.op = 9 ∨ j.op = 10 ∨ j.op = 11 ∨ j.op = 12 ∨ j.op = 13 ∨ j.op = 14 ∨ j.op = 15 ∨ j.op = 16 ∨ j.op = 17 ∨ j.op = 18 ∨ j.op = 19 ∨ j.op = 20 ∨ j.op = 21 ∨ j.op = 22 ∨ j.op = 23 ∨ j.op = 24 ∨ j.op = 25 ∨ j.op = 26 ∨ j.op = 27 ∨ j.op = 28 ∨ j.op = 29 ∨ j.op = 30 ∨ j.op = 31 := by omega
  rcases hc with e | e | e | e | e | e | e | e | e | e | e | e | e | e | e | e | e | e | e | e | e | e | e | e | e | e | e | e | e | e | e
  all_goals rw [e] at h
  all_goals simp only [tx1_eq, tx2_eq, tx3_eq, tx4_eq, tx5_eq, tx6_eq, tx7_eq, tx8_eq, tx9_eq, tx10_eq, tx11_eq, tx12_eq, tx13_eq, tx14_eq, tx15_eq, tx16_eq, tx17_eq, tx18_eq, tx19_eq, tx20_eq, tx21_eq, tx22_eq, tx23_eq, tx24_eq, tx25_eq, tx26_eq, tx27_eq, tx28_eq, tx29_eq, tx30_eq, tx31_eq, tx1, tx2, tx3, tx4, tx5, tx6, tx7, tx8, tx9, tx10, tx11, tx12, tx13, tx14, tx15, tx16, tx17, tx18, tx19, tx20, tx21, tx22, tx23, tx24, tx25, tx26, tx27, tx28, tx29, tx30, tx31, List.cons.injEq, it_cc, it_c0, it_0c, it_00, app_ext, app_far, app_new, it_head, it_head0, ne_eq, not_false_eq_true, not_true_eq_false, nc32, nc40, nc41, nc43, nc44, nc46, hc44, seval, true_and, and_true, false_and, and_false] at h
  exact ⟨e, by simpa only [and_assoc] using h⟩
theorem two5 {i j : In} (hi : rightF i = true) (hj : rightF j = true) (hk : i.op = 5) (h : tx5 i = flatS j [] (patS j.op)) : j.op = 5 ∧ (i.d = j.d ∧ i.s = j.s ∧ i.t = j.t) := by
  have hb := rt_op hj
  have hc : j.op = 1 ∨ j.op = 2 ∨ j.op = 3 ∨ j.op = 4 ∨ j.op = 5 ∨ j.op = 6 ∨ j.op = 7 ∨ j.op = 8 ∨ j.op = 9 ∨ j.op = 10 ∨ j.op = 11 ∨ j.op = 12 ∨ j.op = 13 ∨ j.op = 14 ∨ j.op = 15 ∨ j.op = 16 ∨ j.op = 17 ∨ j.op = 18 ∨ j.op = 19 ∨ j.op = 20 ∨ j.op = 21 ∨ j.op = 22 ∨ j.op = 23 ∨ j.op = 24 ∨ j.op = 25 ∨ j.op = 26 ∨ j.op = 27 ∨ j.op = 28 ∨ j.op = 29 ∨ j.op = 30 ∨ j.op = 31 := by omega
  rcases hc with e | e | e | e | e | e | e | e | e | e | e | e | e | e | e | e | e | e | e | e | e | e | e | e | e | e | e | e | e | e | e
  all_goals rw [e] at h
  all_goals simp only [tx1_eq, tx2_eq, tx3_eq, tx4_eq, tx5_eq, tx6_eq, tx7_eq, tx8_eq, tx9_eq, tx10_eq, tx11_eq, tx12_eq, tx13_eq, tx14_eq, tx15_eq, tx16_eq, tx17_eq, tx18_eq, tx19_eq, tx20_eq, tx21_eq, tx22_eq, tx23_eq, tx24_eq, tx25_eq, tx26_eq, tx27_eq, tx28_eq, tx29_eq, tx30_eq, tx31_eq, tx1, tx2, tx3, tx4, tx5, tx6, tx7, tx8, tx9, tx10, tx11, tx12, tx13, tx14, tx15, tx16, tx17, tx18, tx19, tx20, tx21, tx22, tx23, tx24, tx25, tx26, tx27, tx28, tx29, tx30, tx31, List.cons.injEq, it_cc, it_c0, it_0c, it_00, app_ext, app_far, app_new, it_head, it_head0, ne_eq, not_false_eq_true, not_true_eq_false, nc32, nc40, nc41, nc43, nc44, nc46, hc44, seval, true_and, and_true, false_and, and_false] at h
  exact ⟨e, by simpa only [and_assoc] using h⟩
theorem two6 {i j : In} (hi : rightF i = true) (hj : rightF j = true) (hk : i.op = 6) (h : tx6 i = flatS j [] (patS j.op)) : j.op = 6 ∧ (i.d = j.d ∧ i.s = j.s ∧ i.t = j.t) := by
  have hb := rt_op hj
  have hc : j.op = 1 ∨ j.op = 2 ∨ j.op = 3 ∨ j.op = 4 ∨ j.op = 5 ∨ j.op = 6 ∨ j.op = 7 ∨ j.op = 8 ∨ j.op = 9 ∨ j.op = 10 ∨ j.op = 11 ∨ j.op = 12 ∨ j.op = 13 ∨ j.op = 14 ∨ j.op = 15 ∨ j.op = 16 ∨ j.op = 17 ∨ j.op = 18 ∨ j.op = 19 ∨ j.op = 20 ∨ j.op = 21 ∨ j.op = 22 ∨ j.op = 23 ∨ j.op = 24 ∨ j.op = 25 ∨ j.op = 26 ∨ j.op = 27 ∨ j.op = 28 ∨ j.op = 29 ∨ j.op = 30 ∨ j.op = 31 := by omega
  rcases hc with e | e | e | e | e | e | e | e | e | e | e | e | e | e | e | e | e | e | e | e | e | e | e | e | e | e | e | e | e | e | e
  all_goals rw [e] at h
  all_goals simp only [tx1_eq, tx2_eq, tx3_eq, tx4_eq, tx5_eq, tx6_eq, tx7_eq, tx8_eq, tx9_eq, tx10_eq, tx11_eq, tx12_eq, tx13_eq, tx14_eq, tx15_eq, tx16_eq, tx17_eq, tx18_eq, tx19_eq, tx20_eq, tx21_eq, tx22_eq, tx23_eq, tx24_eq, tx25_eq, tx26_eq, tx27_eq, tx28_eq, tx29_eq, tx30_eq, tx31_eq, tx1, tx2, tx3, tx4, tx5, tx6, tx7, tx8, tx9, tx10, tx11, tx12, tx13, tx14, tx15, tx16, tx17, tx18, tx19, tx20, tx21, tx22, tx23, tx24, tx25, tx26, tx27, tx28, tx29, tx30, tx31, List.cons.injEq, it_cc, it_c0, it_0c, it_00, app_ext, app_far, app_new, it_head, it_head0, ne_eq, not_false_eq_true, not_true_eq_false, nc32, nc40, nc41, nc43, nc44, nc46, hc44, seval, true_and, and_true, false_and, and_false] at h
  exact ⟨e, by simpa only [and_assoc] using h⟩
theorem two7 {i j : In} (hi : rightF i = true) (hj : rightF j = true) (hk : i.op = 7) (h : tx7 i = flatS j [] (patS j.op)) : j.op = 7 ∧ (i.d = j.d ∧ i.s = j.s ∧ i.ext = j.ext ∧ i.imm = j.imm) := by
  have hb := rt_op hj
  have hc : j.op = 1 ∨ j.op = 2 ∨ j.op = 3 ∨ j.op = 4 ∨ j.op = 5 ∨ j.op = 6 ∨ j.op = 7 ∨ j.op = 8 ∨ j.op = 9 ∨ j.op = 10 ∨ j.op = 11 ∨ j.op = 12 ∨ j.op = 13 ∨ j.op = 14 ∨ j.op = 15 ∨ j.op = 16 ∨ j.op = 17 ∨ j.op = 18 ∨ j.op = 19 ∨ j.op = 20 ∨ j.op = 21 ∨ j.op = 22 ∨ j.op = 23 ∨ j.op = 24 ∨ j.op = 25 ∨ j.op = 26 ∨ j.op = 27 ∨ j.op = 28 ∨ j.op = 29 ∨ j.op = 30 ∨ j.op = 31 := by omega
  rcases hc with e | e | e | e | e | e | e | e | e | e | e | e | e | e | e | e | e | e | e | e | e | e | e | e | e | e | e | e | e | e | e
  all_goals rw [e] at h
  all_goals simp only [tx1_eq, tx2_eq, tx3_eq, tx4_eq, tx5_eq, tx6_eq, tx7_eq, tx8_eq, tx9_eq, tx10_eq, tx11_eq, tx12_eq, tx13_eq, tx14_eq, tx15_eq, tx16_eq, tx17_eq, tx18_eq, tx19_eq, tx20_eq, tx21_eq, tx22_eq, tx23_eq, tx24_eq, tx25_eq, tx26_eq, tx27_eq, tx28_eq, tx29_eq, tx30_eq, tx31_eq, tx1, tx2, tx3, tx4, tx5, tx6, tx7, tx8, tx9, tx10, tx11, tx12, tx13, tx14, tx15, tx16, tx17, tx18, tx19, tx20, tx21, tx22, tx23, tx24, tx25, tx26, tx27, tx28, tx29, tx30, tx31, List.cons.injEq, it_cc, it_c0, it_0c, it_00, app_ext, app_far, app_new, it_head, it_head0, ne_eq, not_false_eq_true, not_true_eq_false, nc32, nc40, nc41, nc43, nc44, nc46, hc44, seval, true_and, and_true, false_and, and_false] at h
  exact ⟨e, by simpa only [and_assoc] using h⟩
theorem two8 {i j : In} (hi : rightF i = true) (hj : rightF j = true) (hk : i.op = 8) (h : tx8 i = flatS j [] (patS j.op)) : j.op = 8 ∧ (i.d = j.d ∧ i.ext = j.ext ∧ i.imm = j.imm) := by
  have hb := rt_op hj
  have hc : j.op = 1 ∨ j.op = 2 ∨ j.op = 3 ∨ j.op = 4 ∨ j.op = 5 ∨ j.op = 6 ∨ j.op = 7 ∨ j.op = 8 ∨ j.op = 9 ∨ j.op = 10 ∨ j.op = 11 ∨ j.op = 12 ∨ j.op = 13 ∨ j.op = 14 ∨ j.op = 15 ∨ j.op = 16 ∨ j.op = 17 ∨ j.op = 18 ∨ j.op = 19 ∨ j.op = 20 ∨ j.op = 21 ∨ j.op = 22 ∨ j.op = 23 ∨ j.op = 24 ∨ j.op = 25 ∨ j.op = 26 ∨ j.op = 27 ∨ j.op = 28 ∨ j.op = 29 ∨ j.op = 30 ∨ j.op = 31 := by omega
  rcases hc with e | e | e | e | e | e | e | e | e | e | e | e | e | e | e | e | e | e | e | e | e | e | e | e | e | e | e | e | e | e | e
  all_goals rw [e] at h
  all_goals simp only [tx1_eq, tx2_eq, tx3_eq, tx4_eq, tx5_eq, tx6_eq, tx7_eq, tx8_eq, tx9_eq, tx10_eq, tx11_eq, tx12_eq, tx13_eq, tx14_eq, tx15_eq, tx16_eq, tx17_eq, tx18_eq, tx19_eq, tx20_eq, tx21_eq, tx22_eq, tx23_eq, tx24_eq, tx25_eq, tx26_eq, tx27_eq, tx28_eq, tx29_eq, tx30_eq, tx31_eq, tx1, tx2, tx3, tx4, tx5, tx6, tx7, tx8, tx9, tx10, tx11, tx12, tx13, tx14, tx15, tx16, tx17, tx18, tx19, tx20, tx21, tx22, tx23, tx24, tx25, tx26, tx27, tx28, tx29, tx30, tx31, List.cons.injEq, it_cc, it_c0, it_0c, it_00, app_ext, app_far, app_new, it_head, it_head0, ne_eq, not_false_eq_true, not_true_eq_false, nc32, nc40, nc41, nc43, nc44, nc46, hc44, seval, true_and, and_true, false_and, and_false] at h
  exact ⟨e, by simpa only [and_assoc] using h⟩
theorem two9 {i j : In} (hi : rightF i = true) (hj : rightF j = true) (hk : i.op = 9) (h : tx9 i = flatS j [] (patS j.op)) : j.op = 9 ∧ (i.d = j.d ∧ i.s = j.s) := by
  have hb := rt_op hj
  have hc : j.op = 1 ∨ j.op = 2 ∨ j.op = 3 ∨ j.op = 4 ∨ j.op = 5 ∨ j.op = 6 ∨ j.op = 7 ∨ j.op = 8 ∨ j.op = 9 ∨ j.op = 10 ∨ j.op = 11 ∨ j.op = 12 ∨ j.op = 13 ∨ j.op = 14 ∨ j.op = 15 ∨ j.op = 16 ∨ j.op = 17 ∨ j.op = 18 ∨ j.op = 19 ∨ j.op = 20 ∨ j.op = 21 ∨ j.op = 22 ∨ j.op = 23 ∨ j.op = 24 ∨ j.op = 25 ∨ j.op = 26 ∨ j.op = 27 ∨ j.op = 28 ∨ j.op = 29 ∨ j.op = 30 ∨ j.op = 31 := by omega
  rcases hc with e | e | e | e | e | e | e | e | e | e | e | e | e | e | e | e | e | e | e | e | e | e | e | e | e | e | e | e | e | e | e
  all_goals rw [e] at h
  all_goals simp only [tx1_eq, tx2_eq, tx3_eq, tx4_eq, tx5_eq, tx6_eq, tx7_eq, tx8_eq, tx9_eq, tx10_eq, tx11_eq, tx12_eq, tx13_eq, tx14_eq, tx15_eq, tx16_eq, tx17_eq, tx18_eq, tx19_eq, tx20_eq, tx21_eq, tx22_eq, tx23_eq, tx24_eq, tx25_eq, tx26_eq, tx27_eq, tx28_eq, tx29_eq, tx30_eq, tx31_eq, tx1, tx2, tx3, tx4, tx5, tx6, tx7, tx8, tx9, tx10, tx11, tx12, tx13, tx14, tx15, tx16, tx17, tx18, tx19, tx20, tx21, tx22, tx23, tx24, tx25, tx26, tx27, tx28, tx29, tx30, tx31, List.cons.injEq, it_cc, it_c0, it_0c, it_00, app_ext, app_far, app_new, it_head, it_head0, ne_eq, not_false_eq_true, not_true_eq_false, nc32, nc40, nc41, nc43, nc44, nc46, hc44, seval, true_and, and_true, false_and, and_false] at h
  exact ⟨e, by simpa only [and_assoc] using h⟩
theorem two10 {i j : In} (hi : rightF i = true) (hj : rightF j = true) (hk : i.op = 10) (h : tx10 i = flatS j [] (patS j.op)) : j.op = 10 ∧ (i.d = j.d ∧ i.s = j.s ∧ i.t = j.t) := by
  have hb := rt_op hj
  have hc : j.op = 1 ∨ j.op = 2 ∨ j.op = 3 ∨ j.op = 4 ∨ j.op = 5 ∨ j.op = 6 ∨ j.op = 7 ∨ j.op = 8 ∨ j.op = 9 ∨ j.op = 10 ∨ j.op = 11 ∨ j.op = 12 ∨ j.op = 13 ∨ j.op = 14 ∨ j.op = 15 ∨ j.op = 16 ∨ j.op = 17 ∨ j.op = 18 ∨ j.op = 19 ∨ j.op = 20 ∨ j.op = 21 ∨ j.op = 22 ∨ j.op = 23 ∨ j.op = 24 ∨ j.op = 25 ∨ j.op = 26 ∨ j.op = 27 ∨ j.op = 28 ∨ j.op = 29 ∨ j.op = 30 ∨ j.op = 31 := by omega
  rcases hc with e | e | e | e | e | e | e | e | e | e | e | e | e | e | e | e | e | e | e | e | e | e | e | e | e | e | e | e | e | e | e
  all_goals rw [e] at h
  all_goals simp only [tx1_eq, tx2_eq, tx3_eq, tx4_eq, tx5_eq, tx6_eq, tx7_eq, tx8_eq, tx9_eq, tx10_eq, tx11_eq, tx12_eq, tx13_eq, tx14_eq, tx15_eq, tx16_eq, tx17_eq, tx18_eq, tx19_eq, tx20_eq, tx21_eq, tx22_eq, tx23_eq, tx24_eq, tx25_eq, tx26_eq, tx27_eq, tx28_eq, tx29_eq, tx30_eq, tx31_eq, tx1, tx2, tx3, tx4, tx5, tx6, tx7, tx8, tx9, tx10, tx11, tx12, tx13, tx14, tx15, tx16, tx17, tx18, tx19, tx20, tx21, tx22, tx23, tx24, tx25, tx26, tx27, tx28, tx29, tx30, tx31, List.cons.injEq, it_cc, it_c0, it_0c, it_00, app_ext, app_far, app_new, it_head, it_head0, ne_eq, not_false_eq_true, not_true_eq_false, nc32, nc40, nc41, nc43, nc44, nc46, hc44, seval, true_and, and_true, false_and, and_false] at h
  exact ⟨e, by simpa only [and_assoc] using h⟩
theorem two11 {i j : In} (hi : rightF i = true) (hj : rightF j = true) (hk : i.op = 11) (h : tx11 i = flatS j [] (patS j.op)) : j.op = 11 ∧ (i.d = j.d ∧ i.s = j.s ∧ i.t = j.t) := by
  have hb := rt_op hj
  have hc : j.op = 1 ∨ j.op = 2 ∨ j.op = 3 ∨ j.op = 4 ∨ j.op = 5 ∨ j.op = 6 ∨ j.op = 7 ∨ j.op = 8 ∨ j.op = 9 ∨ j.op = 10 ∨ j.op = 11 ∨ j.op = 12 ∨ j.op = 13 ∨ j.op = 14 ∨ j.op = 15 ∨ j.op = 16 ∨ j.op = 17 ∨ j.op = 18 ∨ j.op = 19 ∨ j.op = 20 ∨ j.op = 21 ∨ j.op = 22 ∨ j.op = 23 ∨ j.op = 24 ∨ j.op = 25 ∨ j.op = 26 ∨ j.op = 27 ∨ j.op = 28 ∨ j.op = 29 ∨ j.op = 30 ∨ j.op = 31 := by omega
  rcases hc with e | e | e | e | e | e | e | e | e | e | e | e | e | e | e | e | e | e | e | e | e | e | e | e | e | e | e | e | e | e | e
  all_goals rw [e] at h
  all_goals simp only [tx1_eq, tx2_eq, tx3_eq, tx4_eq, tx5_eq, tx6_eq, tx7_eq, tx8_eq, tx9_eq, tx10_eq, tx11_eq, tx12_eq, tx13_eq, tx14_eq, tx15_eq, tx16_eq, tx17_eq, tx18_eq, tx19_eq, tx20_eq, tx21_eq, tx22_eq, tx23_eq, tx24_eq, tx25_eq, tx26_eq, tx27_eq, tx28_eq, tx29_eq, tx30_eq, tx31_eq, tx1, tx2, tx3, tx4, tx5, tx6, tx7, tx8, tx9, tx10, tx11, tx12, tx13, tx14, tx15, tx16, tx17, tx18, tx19, tx20, tx21, tx22, tx23, tx24, tx25, tx26, tx27, tx28, tx29, tx30, tx31, List.cons.injEq, it_cc, it_c0, it_0c, it_00, app_ext, app_far, app_new, it_head, it_head0, ne_eq, not_false_eq_true, not_true_eq_false, nc32, nc40, nc41, nc43, nc44, nc46, hc44, seval, true_and, and_true, false_and, and_false] at h
  exact ⟨e, by simpa only [and_assoc] using h⟩
theorem two12 {i j : In} (hi : rightF i = true) (hj : rightF j = true) (hk : i.op = 12) (h : tx12 i = flatS j [] (patS j.op)) : j.op = 12 ∧ (i.d = j.d ∧ i.s = j.s ∧ i.t = j.t) := by
  have hb := rt_op hj
  have hc : j.op = 1 ∨ j.op = 2 ∨ j.op = 3 ∨ j.op = 4 ∨ j.op = 5 ∨ j.op = 6 ∨ j.op = 7 ∨ j.op = 8 ∨ j.op = 9 ∨ j.op = 10 ∨ j.op = 11 ∨ j.op = 12 ∨ j.op = 13 ∨ j.op = 14 ∨ j.op = 15 ∨ j.op = 16 ∨ j.op = 17 ∨ j.op = 18 ∨ j.op = 19 ∨ j.op = 20 ∨ j.op = 21 ∨ j.op = 22 ∨ j.op = 23 ∨ j.op = 24 ∨ j.op = 25 ∨ j.op = 26 ∨ j.op = 27 ∨ j.op = 28 ∨ j.op = 29 ∨ j.op = 30 ∨ j.op = 31 := by omega
  rcases hc with e | e | e | e | e | e | e | e | e | e | e | e | e | e | e | e | e | e | e | e | e | e | e | e | e | e | e | e | e | e | e
  all_goals rw [e] at h
  all_goals simp only [tx1_eq, tx2_eq, tx3_eq, tx4_eq, tx5_eq, tx6_eq, tx7_eq, tx8_eq, tx9_eq, tx10_eq, tx11_eq, tx12_eq, tx13_eq, tx14_eq, tx15_eq, tx16_eq, tx17_eq, tx18_eq, tx19_eq, tx20_eq, tx21_eq, tx22_eq, tx23_eq, tx24_eq, tx25_eq, tx26_eq, tx27_eq, tx28_eq, tx29_eq, tx30_eq, tx31_eq, tx1, tx2, tx3, tx4, tx5, tx6, tx7, tx8, tx9, tx10, tx11, tx12, tx13, tx14, tx15, tx16, tx17, tx18, tx19, tx20, tx21, tx22, tx23, tx24, tx25, tx26, tx27, tx28, tx29, tx30, tx31, List.cons.injEq, it_cc, it_c0, it_0c, it_00, app_ext, app_far, app_new, it_head, it_head0, ne_eq, not_false_eq_true, not_true_eq_false, nc32, nc40, nc41, nc43, nc44, nc46, hc44, seval, true_and, and_true, false_and, and_false] at h
  exact ⟨e, by simpa only [and_assoc] using h⟩
theorem two13 {i j : In} (hi : rightF i = true) (hj : rightF j = true) (hk : i.op = 13) (h : tx13 i = flatS j [] (patS j.op)) : j.op = 13 ∧ (i.d = j.d ∧ i.s = j.s ∧ i.ext = j.ext ∧ i.imm = j.imm) := by
  have hb := rt_op hj
  have hc : j.op = 1 ∨ j.op = 2 ∨ j.op = 3 ∨ j.op = 4 ∨ j.op = 5 ∨ j.op = 6 ∨ j.op = 7 ∨ j.op = 8 ∨ j.op = 9 ∨ j.op = 10 ∨ j.op = 11 ∨ j.op = 12 ∨ j.op = 13 ∨ j.op = 14 ∨ j.op = 15 ∨ j.op = 16 ∨ j.op = 17 ∨ j.op = 18 ∨ j.op = 19 ∨ j.op = 20 ∨ j.op = 21 ∨ j.op = 22 ∨ j.op = 23 ∨ j.op = 24 ∨ j.op = 25 ∨ j.op = 26 ∨ j.op = 27 ∨ j.op = 28 ∨ j.op = 29 ∨ j.op = 30 ∨ j.op = 31 := by omega
  rcases hc with e | e | e | e | e | e | e | e | e | e | e | e | e | e | e | e | e | e | e | e | e | e | e | e | e | e | e | e | e | e | e
  all_goals rw [e] at h
  all_goals simp only [tx1_eq, tx2_eq, tx3_eq, tx4_eq, tx5_eq, tx6_eq, tx7_eq, tx8_eq, tx9_eq, tx10_eq, tx11_eq, tx12_eq, tx13_eq, tx14_eq, tx15_eq, tx16_eq, tx17_eq, tx18_eq, tx19_eq, tx20_eq, tx21_eq, tx22_eq, tx23_eq, tx24_eq, tx25_eq, tx26_eq, tx27_eq, tx28_eq, tx29_eq, tx30_eq, tx31_eq, tx1, tx2, tx3, tx4, tx5, tx6, tx7, tx8, tx9, tx10, tx11, tx12, tx13, tx14, tx15, tx16, tx17, tx18, tx19, tx20, tx21, tx22, tx23, tx24, tx25, tx26, tx27, tx28, tx29, tx30, tx31, List.cons.injEq, it_cc, it_c0, it_0c, it_00, app_ext, app_far, app_new, it_head, it_head0, ne_eq, not_false_eq_true, not_true_eq_false, nc32, nc40, nc41, nc43, nc44, nc46, hc44, seval, true_and, and_true, false_and, and_false] at h
  exact ⟨e, by simpa only [and_assoc] using h⟩
theorem two14 {i j : In} (hi : rightF i = true) (hj : rightF j = true) (hk : i.op = 14) (h : tx14 i = flatS j [] (patS j.op)) : j.op = 14 ∧ (i.d = j.d ∧ i.pred = j.pred ∧ i.s = j.s ∧ i.t = j.t) := by
  have hb := rt_op hj
  have hc : j.op = 1 ∨ j.op = 2 ∨ j.op = 3 ∨ j.op = 4 ∨ j.op = 5 ∨ j.op = 6 ∨ j.op = 7 ∨ j.op = 8 ∨ j.op = 9 ∨ j.op = 10 ∨ j.op = 11 ∨ j.op = 12 ∨ j.op = 13 ∨ j.op = 14 ∨ j.op = 15 ∨ j.op = 16 ∨ j.op = 17 ∨ j.op = 18 ∨ j.op = 19 ∨ j.op = 20 ∨ j.op = 21 ∨ j.op = 22 ∨ j.op = 23 ∨ j.op = 24 ∨ j.op = 25 ∨ j.op = 26 ∨ j.op = 27 ∨ j.op = 28 ∨ j.op = 29 ∨ j.op = 30 ∨ j.op = 31 := by omega
  rcases hc with e | e | e | e | e | e | e | e | e | e | e | e | e | e | e | e | e | e | e | e | e | e | e | e | e | e | e | e | e | e | e
  all_goals rw [e] at h
  all_goals simp only [tx1_eq, tx2_eq, tx3_eq, tx4_eq, tx5_eq, tx6_eq, tx7_eq, tx8_eq, tx9_eq, tx10_eq, tx11_eq, tx12_eq, tx13_eq, tx14_eq, tx15_eq, tx16_eq, tx17_eq, tx18_eq, tx19_eq, tx20_eq, tx21_eq, tx22_eq, tx23_eq, tx24_eq, tx25_eq, tx26_eq, tx27_eq, tx28_eq, tx29_eq, tx30_eq, tx31_eq, tx1, tx2, tx3, tx4, tx5, tx6, tx7, tx8, tx9, tx10, tx11, tx12, tx13, tx14, tx15, tx16, tx17, tx18, tx19, tx20, tx21, tx22, tx23, tx24, tx25, tx26, tx27, tx28, tx29, tx30, tx31, List.cons.injEq, it_cc, it_c0, it_0c, it_00, app_ext, app_far, app_new, it_head, it_head0, ne_eq, not_false_eq_true, not_true_eq_false, nc32, nc40, nc41, nc43, nc44, nc46, hc44, seval, true_and, and_true, false_and, and_false] at h
  exact ⟨e, by simpa only [and_assoc] using h⟩
theorem two15 {i j : In} (hi : rightF i = true) (hj : rightF j = true) (hk : i.op = 15) (h : tx15 i = flatS j [] (patS j.op)) : j.op = 15 ∧ (i.d = j.d ∧ i.s = j.s ∧ i.ext = j.ext ∧ i.imm = j.imm) := by
  have hb := rt_op hj
  have hc : j.op = 1 ∨ j.op = 2 ∨ j.op = 3 ∨ j.op = 4 ∨ j.op = 5 ∨ j.op = 6 ∨ j.op = 7 ∨ j.op = 8 ∨ j.op = 9 ∨ j.op = 10 ∨ j.op = 11 ∨ j.op = 12 ∨ j.op = 13 ∨ j.op = 14 ∨ j.op = 15 ∨ j.op = 16 ∨ j.op = 17 ∨ j.op = 18 ∨ j.op = 19 ∨ j.op = 20 ∨ j.op = 21 ∨ j.op = 22 ∨ j.op = 23 ∨ j.op = 24 ∨ j.op = 25 ∨ j.op = 26 ∨ j.op = 27 ∨ j.op = 28 ∨ j.op = 29 ∨ j.op = 30 ∨ j.op = 31 := by omega
  rcases hc with e | e | e | e | e | e | e | e | e | e | e | e | e | e | e | e | e | e | e | e | e | e | e | e | e | e | e | e | e | e | e
  all_goals rw [e] at h
  all_goals simp only [tx1_eq, tx2_eq, tx3_eq, tx4_eq, tx5_eq, tx6_eq, tx7_eq, tx8_eq, tx9_eq, tx10_eq, tx11_eq, tx12_eq, tx13_eq, tx14_eq, tx15_eq, tx16_eq, tx17_eq, tx18_eq, tx19_eq, tx20_eq, tx21_eq, tx22_eq, tx23_eq, tx24_eq, tx25_eq, tx26_eq, tx27_eq, tx28_eq, tx29_eq, tx30_eq, tx31_eq, tx1, tx2, tx3, tx4, tx5, tx6, tx7, tx8, tx9, tx10, tx11, tx12, tx13, tx14, tx15, tx16, tx17, tx18, tx19, tx20, tx21, tx22, tx23, tx24, tx25, tx26, tx27, tx28, tx29, tx30, tx31, List.cons.injEq, it_cc, it_c0, it_0c, it_00, app_ext, app_far, app_new, it_head, it_head0, ne_eq, not_false_eq_true, not_true_eq_false, nc32, nc40, nc41, nc43, nc44, nc46, hc44, seval, true_and, and_true, false_and, and_false] at h
  exact ⟨e, by simpa only [and_assoc] using h⟩
theorem two16 {i j : In} (hi : rightF i = true) (hj : rightF j = true) (hk : i.op = 16) (h : tx16 i = flatS j [] (patS j.op)) : j.op = 16 ∧ (i.d = j.d ∧ i.s = j.s ∧ i.ext = j.ext ∧ i.imm = j.imm) := by
  have hb := rt_op hj
  have hc : j.op = 1 ∨ j.op = 2 ∨ j.op = 3 ∨ j.op = 4 ∨ j.op = 5 ∨ j.op = 6 ∨ j.op = 7 ∨ j.op = 8 ∨ j.op = 9 ∨ j.op = 10 ∨ j.op = 11 ∨ j.op = 12 ∨ j.op = 13 ∨ j.op = 14 ∨ j.op = 15 ∨ j.op = 16 ∨ j.op = 17 ∨ j.op = 18 ∨ j.op = 19 ∨ j.op = 20 ∨ j.op = 21 ∨ j.op = 22 ∨ j.op = 23 ∨ j.op = 24 ∨ j.op = 25 ∨ j.op = 26 ∨ j.op = 27 ∨ j.op = 28 ∨ j.op = 29 ∨ j.op = 30 ∨ j.op = 31 := by omega
  rcases hc with e | e | e | e | e | e | e | e | e | e | e | e | e | e | e | e | e | e | e | e | e | e | e | e | e | e | e | e | e | e | e
  all_goals rw [e] at h
  all_goals simp only [tx1_eq, tx2_eq, tx3_eq, tx4_eq, tx5_eq, tx6_eq, tx7_eq, tx8_eq, tx9_eq, tx10_eq, tx11_eq, tx12_eq, tx13_eq, tx14_eq, tx15_eq, tx16_eq, tx17_eq, tx18_eq, tx19_eq, tx20_eq, tx21_eq, tx22_eq, tx23_eq, tx24_eq, tx25_eq, tx26_eq, tx27_eq, tx28_eq, tx29_eq, tx30_eq, tx31_eq, tx1, tx2, tx3, tx4, tx5, tx6, tx7, tx8, tx9, tx10, tx11, tx12, tx13, tx14, tx15, tx16, tx17, tx18, tx19, tx20, tx21, tx22, tx23, tx24, tx25, tx26, tx27, tx28, tx29, tx30, tx31, List.cons.injEq, it_cc, it_c0, it_0c, it_00, app_ext, app_far, app_new, it_head, it_head0, ne_eq, not_false_eq_true, not_true_eq_false, nc32, nc40, nc41, nc43, nc44, nc46, hc44, seval, true_and, and_true, false_and, and_false] at h
  exact ⟨e, by simpa only [and_assoc] using h⟩
end Go.V
