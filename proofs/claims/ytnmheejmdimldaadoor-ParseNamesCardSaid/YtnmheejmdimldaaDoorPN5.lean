/- The law ParseNames, where the name is none. -/
import Derived.Test.YtnmheejmdimldaaDoorPN4
set_option linter.unusedVariables false
set_option linter.unusedSimpArgs false
set_option linter.unusedSectionVars false
/- The law ParseNames, where the name is none. -/
namespace Go.V
open Go
set_option linter.unusedSimpArgs false
set_option linter.unusedVariables false
theorem namesN_short : namesN.all (fun a => decide (a.length < 60)) = true := by decide
section
variable {T : Tab}
theorem names_no (hc : T 3 = some (.code ir3)) (s : St) (hs : WFS s)
    (hres : ∀ a s', Ext s s' → a.length ≤ 100000 → Ran T 4 [.str a] s' fun v s2 => (∃ t, v = .bool t ∧ (t = true → a ∈ namesN)) ∧ Ext s' s2)
    (haw : ∀ s', Ext s s' → Ran T 5 [] s' fun v _ => v = .bool true) (a : List UInt8) (ha : a.take 60 ∉ namesN) :
    Ran T 3 [.str a] s fun v _ => v = .bool true := by
  refine ran_code hc (Nat.le_of_ble_eq_true rfl) ?_
  simp only [ir3, w0, w1, w2, w3, w4, w5, w6, w7, w8, w9, w10, w11, w12, w13, w14, w15, w16, Nat.reduceAdd, Nat.reduceEqDiff, Nat.reduceLeDiff, Nat.reduceLT, Nat.reduceMul, Nat.add_zero, Nat.add_assoc, Nat.add_left_cancel_iff, Nat.reduceBEq, Int.reduceLT, Int.reduceLE, Int.reduceEq, Int.reduceAdd, Int.reduceSub, Int.cast_ofNat_Int, Int.reduceMul, Int.reduceMod, Int.reduceTMod, Int.reduceTDiv, Int.reduceNeg, Nat.reduceSub, Nat.reduceDiv, Nat.mul_one, Nat.one_mul, Int.lt_irrefl, decide_true, decide_false, reduceIte, reduceCtorEq, Nat.zero_add, Nat.le_refl, Nat.zero_le, and_self, and_true, true_and, List.length_cons, List.length_nil, List.drop_succ_cons, List.drop_zero, List.take_succ_cons, List.take_zero, List.getElem?_cons_succ, List.getElem?_cons_zero, List.cons_append, List.nil_append, List.append_nil, List.all_cons, List.all_nil, Bool.and_true, Nat.left_eq_add, Nat.add_eq_left, Nat.succ_ne_self, Bool.not_true, Bool.not_false, Option.some.injEq, exists_eq_left']
  have key : ∀ b : List UInt8, b = a.take 60 → b ∉ namesN ∧ b.length ≤ 100000 := fun b hb => ⟨by rw [hb]; exact ha, by rw [hb, List.length_take]; omega⟩
  repeat' (first | refine goC_split (fun h => ?_) (fun h => ?_) | refine goG_split_t (fun h => ?_) (fun h => ?_) | refine goG_split_f (fun h => ?_) (fun h => ?_)) <;> (try simp only [Bool.not_eq_true', Bool.not_eq_false'] at h) <;> (try simp only [h, w0, w1, w2, w3, w4, w5, w6, w7, w8, w9, w10, w11, w12, w13, w14, w15, w16, Nat.reduceAdd, Nat.reduceEqDiff, Nat.reduceLeDiff, Nat.reduceLT, Nat.reduceMul, Nat.add_zero, Nat.add_assoc, Nat.add_left_cancel_iff, Nat.reduceBEq, Int.reduceLT, Int.reduceLE, Int.reduceEq, Int.reduceAdd, Int.reduceSub, Int.cast_ofNat_Int, Int.reduceMul, Int.reduceMod, Int.reduceTMod, Int.reduceTDiv, Int.reduceNeg, Nat.reduceSub, Nat.reduceDiv, Nat.mul_one, Nat.one_mul, Int.lt_irrefl, decide_true, decide_false, reduceIte, reduceCtorEq, Nat.zero_add, Nat.le_refl, Nat.zero_le, and_self, and_true, true_and, List.length_cons, List.length_nil, List.drop_succ_cons, List.drop_zero, List.take_succ_cons, List.take_zero, List.getElem?_cons_succ, List.getElem?_cons_zero, List.cons_append, List.nil_append, List.append_nil, List.all_cons, List.all_nil, Bool.and_true, Nat.left_eq_add, Nat.add_eq_left, Nat.succ_ne_self, Bool.not_true, Bool.not_false, Option.some.injEq, exists_eq_left'])
  · have h' : 60 ≤ a.length := by simp at h; omega
    have e60 : sliceStrV (.str a) none (some (.int .i64 60)) = some (.str (a.take 60)) := ss_hi (n := 60) h'
    simp only [e60, w0, w1, w2, w3, w4, w5, w6, w7, w8, w9, w10, w11, w12, w13, w14, w15, w16, Nat.reduceAdd, Nat.reduceEqDiff, Nat.reduceLeDiff, Nat.reduceLT, Nat.reduceMul, Nat.add_zero, Nat.add_assoc, Nat.add_left_cancel_iff, Nat.reduceBEq, Int.reduceLT, Int.reduceLE, Int.reduceEq, Int.reduceAdd, Int.reduceSub, Int.cast_ofNat_Int, Int.reduceMul, Int.reduceMod, Int.reduceTMod, Int.reduceTDiv, Int.reduceNeg, Nat.reduceSub, Nat.reduceDiv, Nat.mul_one, Nat.one_mul, Int.lt_irrefl, decide_true, decide_false, reduceIte, reduceCtorEq, Nat.zero_add, Nat.le_refl, Nat.zero_le, and_self, and_true, true_and, List.length_cons, List.length_nil, List.drop_succ_cons, List.drop_zero, List.take_succ_cons, List.take_zero, List.getElem?_cons_succ, List.getElem?_cons_zero, List.cons_append, List.nil_append, List.append_nil, List.all_cons, List.all_nil, Bool.and_true, Nat.left_eq_add, Nat.add_eq_left, Nat.succ_ne_self, Bool.not_true, Bool.not_false, Option.some.injEq, exists_eq_left']
    obtain ⟨k1, k2⟩ := key (a.take 60) rfl
    refine goCall_by (hres _ _ (.refl hs) k2) ?_
    rintro v s2 ⟨⟨t, rfl, ht⟩, x2⟩
    cases t with
    | true => exact absurd (ht rfl) k1
    | false =>
      simp only [w0, w1, w2, w3, w4, w5, w6, w7, w8, w9, w10, w11, w12, w13, w14, w15, w16, Nat.reduceAdd, Nat.reduceEqDiff, Nat.reduceLeDiff, Nat.reduceLT, Nat.reduceMul, Nat.add_zero, Nat.add_assoc, Nat.add_left_cancel_iff, Nat.reduceBEq, Int.reduceLT, Int.reduceLE, Int.reduceEq, Int.reduceAdd, Int.reduceSub, Int.cast_ofNat_Int, Int.reduceMul, Int.reduceMod, Int.reduceTMod, Int.reduceTDiv, Int.reduceNeg, Nat.reduceSub, Nat.reduceDiv, Nat.mul_one, Nat.one_mul, Int.lt_irrefl, decide_true, decide_false, reduceIte, reduceCtorEq, Nat.zero_add, Nat.le_refl, Nat.zero_le, and_self, and_true, true_and, List.length_cons, List.length_nil, List.drop_succ_cons, List.drop_zero, List.take_succ_cons, List.take_zero, List.getElem?_cons_succ, List.getElem?_cons_zero, List.cons_append, List.nil_append, List.append_nil, List.all_cons, List.all_nil, Bool.and_true, Nat.left_eq_add, Nat.add_eq_left, Nat.succ_ne_self, Bool.not_true, Bool.not_false, Option.some.injEq, exists_eq_left']
      refine goCall_by (haw s2 x2) ?_
      rintro v s3 rfl
      simp only [w0, w1, w2, w3, w4, w5, w6, w7, w8, w9, w10, w11, w12, w13, w14, w15, w16, Nat.reduceAdd, Nat.reduceEqDiff, Nat.reduceLeDiff, Nat.reduceLT, Nat.reduceMul, Nat.add_zero, Nat.add_assoc, Nat.add_left_cancel_iff, Nat.reduceBEq, Int.reduceLT, Int.reduceLE, Int.reduceEq, Int.reduceAdd, Int.reduceSub, Int.cast_ofNat_Int, Int.reduceMul, Int.reduceMod, Int.reduceTMod, Int.reduceTDiv, Int.reduceNeg, Nat.reduceSub, Nat.reduceDiv, Nat.mul_one, Nat.one_mul, Int.lt_irrefl, decide_true, decide_false, reduceIte, reduceCtorEq, Nat.zero_add, Nat.le_refl, Nat.zero_le, and_self, and_true, true_and, List.length_cons, List.length_nil, List.drop_succ_cons, List.drop_zero, List.take_succ_cons, List.take_zero, List.getElem?_cons_succ, List.getElem?_cons_zero, List.cons_append, List.nil_append, List.append_nil, List.all_cons, List.all_nil, Bool.and_true, Nat.left_eq_add, Nat.add_eq_left, Nat.succ_ne_self, Bool.not_true, Bool.not_false, Option.some.injEq, exists_eq_left']
  · have h' : a.length ≤ 60 := by simp at h; omega
    obtain ⟨k1, k2⟩ := key a (List.take_of_length_le h').symm
    refine goCall_by (hres _ _ (.refl hs) k2) ?_
    rintro v s2 ⟨⟨t, rfl, ht⟩, x2⟩
    cases t with
    | true => exact absurd (ht rfl) k1
    | false =>
      simp only [w0, w1, w2, w3, w4, w5, w6, w7, w8, w9, w10, w11, w12, w13, w14, w15, w16, Nat.reduceAdd, Nat.reduceEqDiff, Nat.reduceLeDiff, Nat.reduceLT, Nat.reduceMul, Nat.add_zero, Nat.add_assoc, Nat.add_left_cancel_iff, Nat.reduceBEq, Int.reduceLT, Int.reduceLE, Int.reduceEq, Int.reduceAdd, Int.reduceSub, Int.cast_ofNat_Int, Int.reduceMul, Int.reduceMod, Int.reduceTMod, Int.reduceTDiv, Int.reduceNeg, Nat.reduceSub, Nat.reduceDiv, Nat.mul_one, Nat.one_mul, Int.lt_irrefl, decide_true, decide_false, reduceIte, reduceCtorEq, Nat.zero_add, Nat.le_refl, Nat.zero_le, and_self, and_true, true_and, List.length_cons, List.length_nil, List.drop_succ_cons, List.drop_zero, List.take_succ_cons, List.take_zero, List.getElem?_cons_succ, List.getElem?_cons_zero, List.cons_append, List.nil_append, List.append_nil, List.all_cons, List.all_nil, Bool.and_true, Nat.left_eq_add, Nat.add_eq_left, Nat.succ_ne_self, Bool.not_true, Bool.not_false, Option.some.injEq, exists_eq_left']
      refine goCall_by (haw s2 x2) ?_
      rintro v s3 rfl
      simp only [w0, w1, w2, w3, w4, w5, w6, w7, w8, w9, w10, w11, w12, w13, w14, w15, w16, Nat.reduceAdd, Nat.reduceEqDiff, Nat.reduceLeDiff, Nat.reduceLT, Nat.reduceMul, Nat.add_zero, Nat.add_assoc, Nat.add_left_cancel_iff, Nat.reduceBEq, Int.reduceLT, Int.reduceLE, Int.reduceEq, Int.reduceAdd, Int.reduceSub, Int.cast_ofNat_Int, Int.reduceMul, Int.reduceMod, Int.reduceTMod, Int.reduceTDiv, Int.reduceNeg, Nat.reduceSub, Nat.reduceDiv, Nat.mul_one, Nat.one_mul, Int.lt_irrefl, decide_true, decide_false, reduceIte, reduceCtorEq, Nat.zero_add, Nat.le_refl, Nat.zero_le, and_self, and_true, true_and, List.length_cons, List.length_nil, List.drop_succ_cons, List.drop_zero, List.take_succ_cons, List.take_zero, List.getElem?_cons_succ, List.getElem?_cons_zero, List.cons_append, List.nil_append, List.append_nil, List.all_cons, List.all_nil, Bool.and_true, Nat.left_eq_add, Nat.add_eq_left, Nat.succ_ne_self, Bool.not_true, Bool.not_false, Option.some.injEq, exists_eq_left']
end
end Go.V
