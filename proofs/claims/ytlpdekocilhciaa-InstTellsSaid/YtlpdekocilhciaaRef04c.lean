/- The document's Writes, WritesPred, ReadsPred and Target. -/
import Derived.Test.YtlpdekocilhciaaLTells1
set_option linter.unusedVariables false
set_option linter.unusedSimpArgs false
set_option linter.unusedSectionVars false
/- The document's Writes, WritesPred, ReadsPred and Target. -/
namespace Go.V
open Go
set_option linter.unusedSimpArgs false
set_option linter.unusedVariables false
-- coxless/coxlessref04.Writes
def ir47 : IFunc := ⟨29, [.tmp 2, .tmp 3], (.seq (.region [⟨some 1, none, [], (.box (.t 0))⟩, ⟨some 2, none, [], (.move (.c (.int .u8 0)))⟩, ⟨some 3, none, [], (.move (.c (.bool false)))⟩] false)
 (.seq (.region [⟨some 5, none, [], (.fieldAddr 0 (.t 1))⟩, ⟨some 6, none, [], (.load false 1 (.t 5))⟩, ⟨some 7, none, [], (.call 46 [(.t 6)])⟩, ⟨some 4, none, [], (.move (.t 7))⟩] false)
 (.seq (.seq (.region [⟨some 8, none, [], (.load true 11 (.t 1))⟩, ⟨some 9, none, [], (.call 44 [(.t 8)])⟩, ⟨some 10, none, [], (.un .not (.t 9))⟩] false)
 (.cond (.t 10) (.seq (.region [⟨some 2, none, [], (.move (.c (.int .u8 0)))⟩, ⟨some 3, none, [], (.move (.c (.bool false)))⟩] false)
 .ret) .skip))
 (.seq (.seq (.region [⟨some 11, none, [], (.move (.t 4))⟩, ⟨some 12, none, [], (.bin .eql (.t 11) (.c (.int .i64 14)))⟩] false)
 (.cond (.t 12) (.seq (.region [⟨some 2, none, [], (.move (.c (.int .u8 31)))⟩, ⟨some 3, none, [], (.move (.c (.bool true)))⟩] false)
 .ret) .skip))
 (.seq (.seq (.region [⟨some 13, none, [], (.move (.t 4))⟩, ⟨some 14, none, [], (.bin .geq (.t 13) (.c (.int .i64 1)))⟩, ⟨some 15, none, [], (.move (.t 14))⟩, ⟨some 16, some (15, true), [], (.move (.t 4))⟩, ⟨some 17, some (15, true), [], (.bin .leq (.t 16) (.c (.int .i64 4)))⟩, ⟨some 18, none, [], (.pick (.t 15) (.t 17) (.c (.bool false)))⟩, ⟨some 19, none, [], (.move (.t 18))⟩, ⟨some 20, some (19, false), [], (.move (.t 4))⟩, ⟨some 21, some (19, false), [], (.bin .geq (.t 20) (.c (.int .i64 7)))⟩, ⟨some 22, some (19, false), [], (.move (.t 21))⟩, ⟨some 23, some (22, true), [], (.move (.t 4))⟩, ⟨some 24, some (22, true), [], (.bin .leq (.t 23) (.c (.int .i64 10)))⟩, ⟨some 25, some (19, false), [], (.pick (.t 22) (.t 24) (.c (.bool false)))⟩, ⟨some 26, none, [], (.pick (.t 19) (.c (.bool true)) (.t 25))⟩] false)
 (.cond (.t 26) (.seq (.region [⟨some 27, none, [], (.fieldAddr 1 (.t 1))⟩, ⟨some 28, none, [], (.load false 1 (.t 27))⟩, ⟨some 2, none, [], (.move (.t 28))⟩, ⟨some 3, none, [], (.move (.c (.bool true)))⟩] false)
 .ret) .skip))
 (.seq (.region [⟨some 2, none, [], (.move (.c (.int .u8 0)))⟩, ⟨some 3, none, [], (.move (.c (.bool false)))⟩] false)
 .ret))))))⟩
-- coxless/coxlessref04.WritesPred
def ir48 : IFunc := ⟨21, [.tmp 2, .tmp 3], (.seq (.region [⟨some 1, none, [], (.box (.t 0))⟩, ⟨some 2, none, [], (.move (.c (.int .u8 0)))⟩, ⟨some 3, none, [], (.move (.c (.bool false)))⟩] false)
 (.seq (.region [⟨some 5, none, [], (.fieldAddr 0 (.t 1))⟩, ⟨some 6, none, [], (.load false 1 (.t 5))⟩, ⟨some 7, none, [], (.call 46 [(.t 6)])⟩, ⟨some 4, none, [], (.move (.t 7))⟩] false)
 (.seq (.seq (.region [⟨some 8, none, [], (.load true 11 (.t 1))⟩, ⟨some 9, none, [], (.call 44 [(.t 8)])⟩, ⟨some 10, none, [], (.un .not (.t 9))⟩, ⟨some 11, none, [], (.move (.t 10))⟩, ⟨some 12, some (11, false), [], (.move (.t 4))⟩, ⟨some 13, some (11, false), [], (.bin .neq (.t 12) (.c (.int .i64 5)))⟩, ⟨some 14, some (11, false), [], (.move (.t 13))⟩, ⟨some 15, some (14, true), [], (.move (.t 4))⟩, ⟨some 16, some (14, true), [], (.bin .neq (.t 15) (.c (.int .i64 6)))⟩, ⟨some 17, some (11, false), [], (.pick (.t 14) (.t 16) (.c (.bool false)))⟩, ⟨some 18, none, [], (.pick (.t 11) (.c (.bool true)) (.t 17))⟩] false)
 (.cond (.t 18) (.seq (.region [⟨some 2, none, [], (.move (.c (.int .u8 0)))⟩, ⟨some 3, none, [], (.move (.c (.bool false)))⟩] false)
 .ret) .skip))
 (.seq (.region [⟨some 19, none, [], (.fieldAddr 1 (.t 1))⟩, ⟨some 20, none, [], (.load false 1 (.t 19))⟩, ⟨some 2, none, [], (.move (.t 20))⟩, ⟨some 3, none, [], (.move (.c (.bool true)))⟩] false)
 .ret))))⟩
-- coxless/coxlessref04.ReadsPred
def ir49 : IFunc := ⟨24, [.tmp 2, .tmp 3, .tmp 4], (.seq (.region [⟨some 1, none, [], (.box (.t 0))⟩, ⟨some 2, none, [], (.move (.c (.int .u8 0)))⟩, ⟨some 3, none, [], (.move (.c (.bool false)))⟩, ⟨some 4, none, [], (.move (.c (.bool false)))⟩] false)
 (.seq (.seq (.region [⟨some 5, none, [], (.load true 11 (.t 1))⟩, ⟨some 6, none, [], (.call 44 [(.t 5)])⟩, ⟨some 7, none, [], (.un .not (.t 6))⟩, ⟨some 8, none, [], (.move (.t 7))⟩, ⟨some 9, some (8, false), [], (.fieldAddr 0 (.t 1))⟩, ⟨some 10, some (8, false), [], (.load false 1 (.t 9))⟩, ⟨some 11, some (8, false), [], (.call 46 [(.t 10)])⟩, ⟨some 12, some (8, false), [], (.bin .neq (.t 11) (.c (.int .i64 7)))⟩, ⟨some 13, some (8, false), [], (.move (.t 12))⟩, ⟨some 14, some (13, true), [], (.fieldAddr 6 (.t 1))⟩, ⟨some 15, some (13, true), [], (.load false 1 (.t 14))⟩, ⟨some 16, some (13, true), [], (.bin .eql (.t 15) (.c (.int .u8 0)))⟩, ⟨some 17, some (8, false), [], (.pick (.t 13) (.t 16) (.c (.bool false)))⟩, ⟨some 18, none, [], (.pick (.t 8) (.c (.bool true)) (.t 17))⟩] false)
 (.cond (.t 18) (.seq (.region [⟨some 2, none, [], (.move (.c (.int .u8 0)))⟩, ⟨some 3, none, [], (.move (.c (.bool false)))⟩, ⟨some 4, none, [], (.move (.c (.bool false)))⟩] false)
 .ret) .skip))
 (.seq (.region [⟨some 19, none, [], (.fieldAddr 5 (.t 1))⟩, ⟨some 20, none, [], (.load false 1 (.t 19))⟩, ⟨some 21, none, [], (.fieldAddr 6 (.t 1))⟩, ⟨some 22, none, [], (.load false 1 (.t 21))⟩, ⟨some 23, none, [], (.bin .gtr (.t 22) (.c (.int .u8 2)))⟩, ⟨some 2, none, [], (.move (.t 20))⟩, ⟨some 3, none, [], (.move (.t 23))⟩, ⟨some 4, none, [], (.move (.c (.bool true)))⟩] true)
 .ret)))⟩
-- coxless/coxlessref04.Target
def ir50 : IFunc := ⟨30, [.tmp 2, .tmp 3], (.seq (.region [⟨some 1, none, [], (.box (.t 0))⟩, ⟨some 2, none, [], (.move (.c (.int .u32 0)))⟩, ⟨some 3, none, [], (.move (.c (.bool false)))⟩] false)
 (.seq (.region [⟨some 5, none, [], (.fieldAddr 0 (.t 1))⟩, ⟨some 6, none, [], (.load false 1 (.t 5))⟩, ⟨some 7, none, [], (.call 46 [(.t 6)])⟩, ⟨some 4, none, [], (.move (.t 7))⟩] false)
 (.seq (.seq (.region [⟨some 8, none, [], (.load true 11 (.t 1))⟩, ⟨some 9, none, [], (.call 44 [(.t 8)])⟩, ⟨some 10, none, [], (.un .not (.t 9))⟩, ⟨some 11, none, [], (.move (.t 10))⟩, ⟨some 12, some (11, false), [], (.move (.t 4))⟩, ⟨some 13, some (11, false), [], (.bin .neq (.t 12) (.c (.int .i64 12)))⟩, ⟨some 14, some (11, false), [], (.move (.t 13))⟩, ⟨some 15, some (14, true), [], (.move (.t 4))⟩, ⟨some 16, some (14, true), [], (.bin .neq (.t 15) (.c (.int .i64 14)))⟩, ⟨some 17, some (11, false), [], (.pick (.t 14) (.t 16) (.c (.bool false)))⟩, ⟨some 18, some (11, false), [], (.move (.t 17))⟩, ⟨some 19, some (18, true), [], (.move (.t 4))⟩, ⟨some 20, some (18, true), [], (.bin .neq (.t 19) (.c (.int .i64 15)))⟩, ⟨some 21, some (11, false), [], (.pick (.t 18) (.t 20) (.c (.bool false)))⟩, ⟨some 22, some (11, false), [], (.move (.t 21))⟩, ⟨some 23, some (22, true), [], (.move (.t 4))⟩, ⟨some 24, some (22, true), [], (.bin .neq (.t 23) (.c (.int .i64 16)))⟩, ⟨some 25, some (11, false), [], (.pick (.t 22) (.t 24) (.c (.bool false)))⟩, ⟨some 26, none, [], (.pick (.t 11) (.c (.bool true)) (.t 25))⟩] false)
 (.cond (.t 26) (.seq (.region [⟨some 2, none, [], (.move (.c (.int .u32 0)))⟩, ⟨some 3, none, [], (.move (.c (.bool false)))⟩] false)
 .ret) .skip))
 (.seq (.region [⟨some 27, none, [], (.fieldAddr 10 (.t 1))⟩, ⟨some 28, none, [], (.load false 1 (.t 27))⟩, ⟨some 29, none, [], (.conv (.intInt .u32) (.t 28))⟩, ⟨some 2, none, [], (.move (.t 29))⟩, ⟨some 3, none, [], (.move (.c (.bool true)))⟩] false)
 .ret))))⟩
def refRR (i : In) : AV := .bool (refF i)
def rWritesF (i : In) : Int × Bool := if refF i = true then (if kindF i.op = 14 then (31, true) else if (1 ≤ kindF i.op ∧ kindF i.op ≤ 4) ∨ (7 ≤ kindF i.op ∧ kindF i.op ≤ 10) then (i.d, true) else (0, false)) else (0, false)
def rWritesR (i : In) : AV := .tuple [.int .u8 (rWritesF i).1, .bool (rWritesF i).2]
def rWritesPredF (i : In) : Int × Bool := if refF i = true ∧ (kindF i.op = 5 ∨ kindF i.op = 6) then (i.d, true) else (0, false)
def rWritesPredR (i : In) : AV := .tuple [.int .u8 (rWritesPredF i).1, .bool (rWritesPredF i).2]
def rReadsPredF (i : In) : Int × Bool × Bool := if refF i = true ∧ ¬ (kindF i.op ≠ 7 ∧ i.mode = 0) then (i.pred, decide (2 < i.mode), true) else (0, false, false)
def rReadsPredR (i : In) : AV := .tuple [.int .u8 (rReadsPredF i).1, .bool (rReadsPredF i).2.1, .bool (rReadsPredF i).2.2]
def rTargetF (i : In) : Int × Bool := if refF i = true ∧ (kindF i.op = 12 ∨ kindF i.op = 14 ∨ kindF i.op = 15 ∨ kindF i.op = 16) then (i.imm % 4294967296, true) else (0, false)
def rTargetR (i : In) : AV := .tuple [.int .u32 (rTargetF i).1, .bool (rTargetF i).2]
section
variable {T : Tab}
theorem rwrites_ran (hc : T 47 = some (.code ir47)) (hr : T 44 = some (.hook (pureH (inF refRR)))) (hh : T 46 = some (.hook (litH (byteG kindR)))) (s : St) (hs : WFS s) (i : In) (hi : okI i = true) :
    Ran T 47 [.agg i.cells] s fun v s' => v = rWritesR i ∧ Ext s s' := by
  refine ran_code hc (Nat.le_of_ble_eq_true rfl) ?_
  have k1 := goCall_hook hr
  have k2 := goCall_hook hh
  have q1 := fun s => inF_eq refRR i s hi
  have hb : isByte i.op = true := by simp only [okI, Bool.and_eq_true] at hi; exact hi.1
  have q2 := fun s => byteH_eq kindR i.op s hb rfl
  simp only [In.cells, refRR, kindR] at q1 q2
  generalize hQ : Fin _ _ = Q
  simp only [ir47, In.cells, k1, k2, q1, q2, hb, w0, w1, w2, w3, w4, w5, w6, w7, w8, w9, w10, w11, w12, w13, w14, w15, w16, Nat.reduceAdd, Nat.reduceEqDiff, Nat.reduceLeDiff, Nat.reduceLT, Nat.reduceMul, Nat.add_zero, Nat.add_assoc, Nat.add_left_cancel_iff, Nat.reduceBEq, Int.reduceLT, Int.reduceLE, Int.reduceEq, Int.reduceAdd, Int.reduceSub, Int.cast_ofNat_Int, Int.reduceMul, Int.reduceMod, Int.reduceTMod, Int.reduceTDiv, Int.reduceNeg, Nat.reduceSub, Nat.reduceDiv, Nat.mul_one, Nat.one_mul, Int.lt_irrefl, decide_true, decide_false, reduceIte, reduceCtorEq, Nat.zero_add, Nat.le_refl, Nat.zero_le, and_self, and_true, true_and, List.length_cons, List.length_nil, List.drop_succ_cons, List.drop_zero, List.take_succ_cons, List.take_zero, List.getElem?_cons_succ, List.getElem?_cons_zero, List.cons_append, List.nil_append, List.append_nil, List.all_cons, List.all_nil, Bool.and_true, Nat.left_eq_add, Nat.add_eq_left, Nat.succ_ne_self, Bool.not_true, Bool.not_false, Option.some.injEq, exists_eq_left']
  repeat' ((first | refine goC_split (fun h => ?_) (fun h => ?_) | refine goG_split_t (fun h => ?_) (fun h => ?_) | refine goG_split_f (fun h => ?_) (fun h => ?_)) <;> (try simp only [Bool.not_eq_true', Bool.not_eq_false'] at h) <;> (try simp only [h, In.cells, k1, k2, q1, q2, hb, w0, w1, w2, w3, w4, w5, w6, w7, w8, w9, w10, w11, w12, w13, w14, w15, w16, Nat.reduceAdd, Nat.reduceEqDiff, Nat.reduceLeDiff, Nat.reduceLT, Nat.reduceMul, Nat.add_zero, Nat.add_assoc, Nat.add_left_cancel_iff, Nat.reduceBEq, Int.reduceLT, Int.reduceLE, Int.reduceEq, Int.reduceAdd, Int.reduceSub, Int.cast_ofNat_Int, Int.reduceMul, Int.reduceMod, Int.reduceTMod, Int.reduceTDiv, Int.reduceNeg, Nat.reduceSub, Nat.reduceDiv, Nat.mul_one, Nat.one_mul, Int.lt_irrefl, decide_true, decide_false, reduceIte, reduceCtorEq, Nat.zero_add, Nat.le_refl, Nat.zero_le, and_self, and_true, true_and, List.length_cons, List.length_nil, List.drop_succ_cons, List.drop_zero, List.take_succ_cons, List.take_zero, List.getElem?_cons_succ, List.getElem?_cons_zero, List.cons_append, List.nil_append, List.append_nil, List.all_cons, List.all_nil, Bool.and_true, Nat.left_eq_add, Nat.add_eq_left, Nat.succ_ne_self, Bool.not_true, Bool.not_false, Option.some.injEq, exists_eq_left']))
  all_goals subst hQ
  all_goals clear k1 k2 q1 q2
  all_goals simp only [ir47, w0, w1, w2, w3, w4, w5, w6, w7, w8, w9, w10, w11, w12, w13, w14, w15, w16, Nat.reduceAdd, Nat.reduceEqDiff, Nat.reduceLeDiff, Nat.reduceLT, Nat.reduceMul, Nat.add_zero, Nat.add_assoc, Nat.add_left_cancel_iff, Nat.reduceBEq, Int.reduceLT, Int.reduceLE, Int.reduceEq, Int.reduceAdd, Int.reduceSub, Int.cast_ofNat_Int, Int.reduceMul, Int.reduceMod, Int.reduceTMod, Int.reduceTDiv, Int.reduceNeg, Nat.reduceSub, Nat.reduceDiv, Nat.mul_one, Nat.one_mul, Int.lt_irrefl, decide_true, decide_false, reduceIte, reduceCtorEq, Nat.zero_add, Nat.le_refl, Nat.zero_le, and_self, and_true, true_and, List.length_cons, List.length_nil, List.drop_succ_cons, List.drop_zero, List.take_succ_cons, List.take_zero, List.getElem?_cons_succ, List.getElem?_cons_zero, List.cons_append, List.nil_append, List.append_nil, List.all_cons, List.all_nil, Bool.and_true, Nat.left_eq_add, Nat.add_eq_left, Nat.succ_ne_self, Bool.not_true, Bool.not_false, Option.some.injEq, exists_eq_left']
  all_goals refine ⟨?_, by (repeat (first | exact Ext.refl hs | refine Ext.add ?_ _))⟩
  all_goals simp_all [rWritesR, rWritesF]
  all_goals (rw [if_neg (by omega)]; exact ⟨rfl, rfl⟩)
theorem rwritesPred_ran (hc : T 48 = some (.code ir48)) (hr : T 44 = some (.hook (pureH (inF refRR)))) (hh : T 46 = some (.hook (litH (byteG kindR)))) (s : St) (hs : WFS s) (i : In) (hi : okI i = true) :
    Ran T 48 [.agg i.cells] s fun v s' => v = rWritesPredR i ∧ Ext s s' := by
  refine ran_code hc (Nat.le_of_ble_eq_true rfl) ?_
  have k1 := goCall_hook hr
  have k2 := goCall_hook hh
  have q1 := fun s => inF_eq refRR i s hi
  have hb : isByte i.op = true := by simp only [okI, Bool.and_eq_true] at hi; exact hi.1
  have q2 := fun s => byteH_eq kindR i.op s hb rfl
  simp only [In.cells, refRR, kindR] at q1 q2
  generalize hQ : Fin _ _ = Q
  simp only [ir48, In.cells, k1, k2, q1, q2, hb, w0, w1, w2, w3, w4, w5, w6, w7, w8, w9, w10, w11, w12, w13, w14, w15, w16, Nat.reduceAdd, Nat.reduceEqDiff, Nat.reduceLeDiff, Nat.reduceLT, Nat.reduceMul, Nat.add_zero, Nat.add_assoc, Nat.add_left_cancel_iff, Nat.reduceBEq, Int.reduceLT, Int.reduceLE, Int.reduceEq, Int.reduceAdd, Int.reduceSub, Int.cast_ofNat_Int, Int.reduceMul, Int.reduceMod, Int.reduceTMod, Int.reduceTDiv, Int.reduceNeg, Nat.reduceSub, Nat.reduceDiv, Nat.mul_one, Nat.one_mul, Int.lt_irrefl, decide_true, decide_false, reduceIte, reduceCtorEq, Nat.zero_add, Nat.le_refl, Nat.zero_le, and_self, and_true, true_and, List.length_cons, List.length_nil, List.drop_succ_cons, List.drop_zero, List.take_succ_cons, List.take_zero, List.getElem?_cons_succ, List.getElem?_cons_zero, List.cons_append, List.nil_append, List.append_nil, List.all_cons, List.all_nil, Bool.and_true, Nat.left_eq_add, Nat.add_eq_left, Nat.succ_ne_self, Bool.not_true, Bool.not_false, Option.some.injEq, exists_eq_left']
  repeat' ((first | refine goC_split (fun h => ?_) (fun h => ?_) | refine goG_split_t (fun h => ?_) (fun h => ?_) | refine goG_split_f (fun h => ?_) (fun h => ?_)) <;> (try simp only [Bool.not_eq_true', Bool.not_eq_false'] at h) <;> (try simp only [h, In.cells, k1, k2, q1, q2, hb, w0, w1, w2, w3, w4, w5, w6, w7, w8, w9, w10, w11, w12, w13, w14, w15, w16, Nat.reduceAdd, Nat.reduceEqDiff, Nat.reduceLeDiff, Nat.reduceLT, Nat.reduceMul, Nat.add_zero, Nat.add_assoc, Nat.add_left_cancel_iff, Nat.reduceBEq, Int.reduceLT, Int.reduceLE, Int.reduceEq, Int.reduceAdd, Int.reduceSub, Int.cast_ofNat_Int, Int.reduceMul, Int.reduceMod, Int.reduceTMod, Int.reduceTDiv, Int.reduceNeg, Nat.reduceSub, Nat.reduceDiv, Nat.mul_one, Nat.one_mul, Int.lt_irrefl, decide_true, decide_false, reduceIte, reduceCtorEq, Nat.zero_add, Nat.le_refl, Nat.zero_le, and_self, and_true, true_and, List.length_cons, List.length_nil, List.drop_succ_cons, List.drop_zero, List.take_succ_cons, List.take_zero, List.getElem?_cons_succ, List.getElem?_cons_zero, List.cons_append, List.nil_append, List.append_nil, List.all_cons, List.all_nil, Bool.and_true, Nat.left_eq_add, Nat.add_eq_left, Nat.succ_ne_self, Bool.not_true, Bool.not_false, Option.some.injEq, exists_eq_left']))
  all_goals subst hQ
  all_goals clear k1 k2 q1 q2
  all_goals simp only [ir48, w0, w1, w2, w3, w4, w5, w6, w7, w8, w9, w10, w11, w12, w13, w14, w15, w16, Nat.reduceAdd, Nat.reduceEqDiff, Nat.reduceLeDiff, Nat.reduceLT, Nat.reduceMul, Nat.add_zero, Nat.add_assoc, Nat.add_left_cancel_iff, Nat.reduceBEq, Int.reduceLT, Int.reduceLE, Int.reduceEq, Int.reduceAdd, Int.reduceSub, Int.cast_ofNat_Int, Int.reduceMul, Int.reduceMod, Int.reduceTMod, Int.reduceTDiv, Int.reduceNeg, Nat.reduceSub, Nat.reduceDiv, Nat.mul_one, Nat.one_mul, Int.lt_irrefl, decide_true, decide_false, reduceIte, reduceCtorEq, Nat.zero_add, Nat.le_refl, Nat.zero_le, and_self, and_true, true_and, List.length_cons, List.length_nil, List.drop_succ_cons, List.drop_zero, List.take_succ_cons, List.take_zero, List.getElem?_cons_succ, List.getElem?_cons_zero, List.cons_append, List.nil_append, List.append_nil, List.all_cons, List.all_nil, Bool.and_true, Nat.left_eq_add, Nat.add_eq_left, Nat.succ_ne_self, Bool.not_true, Bool.not_false, Option.some.injEq, exists_eq_left']
  all_goals refine ⟨?_, by (repeat (first | exact Ext.refl hs | refine Ext.add ?_ _))⟩
  all_goals simp_all [rWritesPredR, rWritesPredF]
theorem rreadsPred_ran (hc : T 49 = some (.code ir49)) (hr : T 44 = some (.hook (pureH (inF refRR)))) (hh : T 46 = some (.hook (litH (byteG kindR)))) (s : St) (hs : WFS s) (i : In) (hi : okI i = true) :
    Ran T 49 [.agg i.cells] s fun v s' => v = rReadsPredR i ∧ Ext s s' := by
  refine ran_code hc (Nat.le_of_ble_eq_true rfl) ?_
  have k1 := goCall_hook hr
  have k2 := goCall_hook hh
  have q1 := fun s => inF_eq refRR i s hi
  have hb : isByte i.op = true := by simp only [okI, Bool.and_eq_true] at hi; exact hi.1
  have q2 := fun s => byteH_eq kindR i.op s hb rfl
  simp only [In.cells, refRR, kindR] at q1 q2
  generalize hQ : Fin _ _ = Q
  simp only [ir49, In.cells, k1, k2, q1, q2, hb, w0, w1, w2, w3, w4, w5, w6, w7, w8, w9, w10, w11, w12, w13, w14, w15, w16, Nat.reduceAdd, Nat.reduceEqDiff, Nat.reduceLeDiff, Nat.reduceLT, Nat.reduceMul, Nat.add_zero, Nat.add_assoc, Nat.add_left_cancel_iff, Nat.reduceBEq, Int.reduceLT, Int.reduceLE, Int.reduceEq, Int.reduceAdd, Int.reduceSub, Int.cast_ofNat_Int, Int.reduceMul, Int.reduceMod, Int.reduceTMod, Int.reduceTDiv, Int.reduceNeg, Nat.reduceSub, Nat.reduceDiv, Nat.mul_one, Nat.one_mul, Int.lt_irrefl, decide_true, decide_false, reduceIte, reduceCtorEq, Nat.zero_add, Nat.le_refl, Nat.zero_le, and_self, and_true, true_and, List.length_cons, List.length_nil, List.drop_succ_cons, List.drop_zero, List.take_succ_cons, List.take_zero, List.getElem?_cons_succ, List.getElem?_cons_zero, List.cons_append, List.nil_append, List.append_nil, List.all_cons, List.all_nil, Bool.and_true, Nat.left_eq_add, Nat.add_eq_left, Nat.succ_ne_self, Bool.not_true, Bool.not_false, Option.some.injEq, exists_eq_left']
  repeat' ((first | refine goC_split (fun h => ?_) (fun h => ?_) | refine goG_split_t (fun h => ?_) (fun h => ?_) | refine goG_split_f (fun h => ?_) (fun h => ?_)) <;> (try simp only [Bool.not_eq_true', Bool.not_eq_false'] at h) <;> (try simp only [h, In.cells, k1, k2, q1, q2, hb, w0, w1, w2, w3, w4, w5, w6, w7, w8, w9, w10, w11, w12, w13, w14, w15, w16, Nat.reduceAdd, Nat.reduceEqDiff, Nat.reduceLeDiff, Nat.reduceLT, Nat.reduceMul, Nat.add_zero, Nat.add_assoc, Nat.add_left_cancel_iff, Nat.reduceBEq, Int.reduceLT, Int.reduceLE, Int.reduceEq, Int.reduceAdd, Int.reduceSub, Int.cast_ofNat_Int, Int.reduceMul, Int.reduceMod, Int.reduceTMod, Int.reduceTDiv, Int.reduceNeg, Nat.reduceSub, Nat.reduceDiv, Nat.mul_one, Nat.one_mul, Int.lt_irrefl, decide_true, decide_false, reduceIte, reduceCtorEq, Nat.zero_add, Nat.le_refl, Nat.zero_le, and_self, and_true, true_and, List.length_cons, List.length_nil, List.drop_succ_cons, List.drop_zero, List.take_succ_cons, List.take_zero, List.getElem?_cons_succ, List.getElem?_cons_zero, List.cons_append, List.nil_append, List.append_nil, List.all_cons, List.all_nil, Bool.and_true, Nat.left_eq_add, Nat.add_eq_left, Nat.succ_ne_self, Bool.not_true, Bool.not_false, Option.some.injEq, exists_eq_left']))
  all_goals subst hQ
  all_goals clear k1 k2 q1 q2
  all_goals simp only [ir49, w0, w1, w2, w3, w4, w5, w6, w7, w8, w9, w10, w11, w12, w13, w14, w15, w16, Nat.reduceAdd, Nat.reduceEqDiff, Nat.reduceLeDiff, Nat.reduceLT, Nat.reduceMul, Nat.add_zero, Nat.add_assoc, Nat.add_left_cancel_iff, Nat.reduceBEq, Int.reduceLT, Int.reduceLE, Int.reduceEq, Int.reduceAdd, Int.reduceSub, Int.cast_ofNat_Int, Int.reduceMul, Int.reduceMod, Int.reduceTMod, Int.reduceTDiv, Int.reduceNeg, Nat.reduceSub, Nat.reduceDiv, Nat.mul_one, Nat.one_mul, Int.lt_irrefl, decide_true, decide_false, reduceIte, reduceCtorEq, Nat.zero_add, Nat.le_refl, Nat.zero_le, and_self, and_true, true_and, List.length_cons, List.length_nil, List.drop_succ_cons, List.drop_zero, List.take_succ_cons, List.take_zero, List.getElem?_cons_succ, List.getElem?_cons_zero, List.cons_append, List.nil_append, List.append_nil, List.all_cons, List.all_nil, Bool.and_true, Nat.left_eq_add, Nat.add_eq_left, Nat.succ_ne_self, Bool.not_true, Bool.not_false, Option.some.injEq, exists_eq_left']
  all_goals refine ⟨?_, by (repeat (first | exact Ext.refl hs | refine Ext.add ?_ _))⟩
  all_goals simp_all [rReadsPredR, rReadsPredF]
theorem rtarget_ran (hc : T 50 = some (.code ir50)) (hr : T 44 = some (.hook (pureH (inF refRR)))) (hh : T 46 = some (.hook (litH (byteG kindR)))) (s : St) (hs : WFS s) (i : In) (hi : okI i = true) :
    Ran T 50 [.agg i.cells] s fun v s' => v = rTargetR i ∧ Ext s s' := by
  refine ran_code hc (Nat.le_of_ble_eq_true rfl) ?_
  have k1 := goCall_hook hr
  have k2 := goCall_hook hh
  have q1 := fun s => inF_eq refRR i s hi
  have hb : isByte i.op = true := by simp only [okI, Bool.and_eq_true] at hi; exact hi.1
  have q2 := fun s => byteH_eq kindR i.op s hb rfl
  simp only [In.cells, refRR, kindR] at q1 q2
  generalize hQ : Fin _ _ = Q
  simp only [ir50, In.cells, k1, k2, q1, q2, hb, w0, w1, w2, w3, w4, w5, w6, w7, w8, w9, w10, w11, w12, w13, w14, w15, w16, Nat.reduceAdd, Nat.reduceEqDiff, Nat.reduceLeDiff, Nat.reduceLT, Nat.reduceMul, Nat.add_zero, Nat.add_assoc, Nat.add_left_cancel_iff, Nat.reduceBEq, Int.reduceLT, Int.reduceLE, Int.reduceEq, Int.reduceAdd, Int.reduceSub, Int.cast_ofNat_Int, Int.reduceMul, Int.reduceMod, Int.reduceTMod, Int.reduceTDiv, Int.reduceNeg, Nat.reduceSub, Nat.reduceDiv, Nat.mul_one, Nat.one_mul, Int.lt_irrefl, decide_true, decide_false, reduceIte, reduceCtorEq, Nat.zero_add, Nat.le_refl, Nat.zero_le, and_self, and_true, true_and, List.length_cons, List.length_nil, List.drop_succ_cons, List.drop_zero, List.take_succ_cons, List.take_zero, List.getElem?_cons_succ, List.getElem?_cons_zero, List.cons_append, List.nil_append, List.append_nil, List.all_cons, List.all_nil, Bool.and_true, Nat.left_eq_add, Nat.add_eq_left, Nat.succ_ne_self, Bool.not_true, Bool.not_false, Option.some.injEq, exists_eq_left']
  repeat' ((first | refine goC_split (fun h => ?_) (fun h => ?_) | refine goG_split_t (fun h => ?_) (fun h => ?_) | refine goG_split_f (fun h => ?_) (fun h => ?_)) <;> (try simp only [Bool.not_eq_true', Bool.not_eq_false'] at h) <;> (try simp only [h, In.cells, k1, k2, q1, q2, hb, w0, w1, w2, w3, w4, w5, w6, w7, w8, w9, w10, w11, w12, w13, w14, w15, w16, Nat.reduceAdd, Nat.reduceEqDiff, Nat.reduceLeDiff, Nat.reduceLT, Nat.reduceMul, Nat.add_zero, Nat.add_assoc, Nat.add_left_cancel_iff, Nat.reduceBEq, Int.reduceLT, Int.reduceLE, Int.reduceEq, Int.reduceAdd, Int.reduceSub, Int.cast_ofNat_Int, Int.reduceMul, Int.reduceMod, Int.reduceTMod, Int.reduceTDiv, Int.reduceNeg, Nat.reduceSub, Nat.reduceDiv, Nat.mul_one, Nat.one_mul, Int.lt_irrefl, decide_true, decide_false, reduceIte, reduceCtorEq, Nat.zero_add, Nat.le_refl, Nat.zero_le, and_self, and_true, true_and, List.length_cons, List.length_nil, List.drop_succ_cons, List.drop_zero, List.take_succ_cons, List.take_zero, List.getElem?_cons_succ, List.getElem?_cons_zero, List.cons_append, List.nil_append, List.append_nil, List.all_cons, List.all_nil, Bool.and_true, Nat.left_eq_add, Nat.add_eq_left, Nat.succ_ne_self, Bool.not_true, Bool.not_false, Option.some.injEq, exists_eq_left']))
  all_goals subst hQ
  all_goals clear k1 k2 q1 q2
  all_goals simp only [ir50, w0, w1, w2, w3, w4, w5, w6, w7, w8, w9, w10, w11, w12, w13, w14, w15, w16, Nat.reduceAdd, Nat.reduceEqDiff, Nat.reduceLeDiff, Nat.reduceLT, Nat.reduceMul, Nat.add_zero, Nat.add_assoc, Nat.add_left_cancel_iff, Nat.reduceBEq, Int.reduceLT, Int.reduceLE, Int.reduceEq, Int.reduceAdd, Int.reduceSub, Int.cast_ofNat_Int, Int.reduceMul, Int.reduceMod, Int.reduceTMod, Int.reduceTDiv, Int.reduceNeg, Nat.reduceSub, Nat.reduceDiv, Nat.mul_one, Nat.one_mul, Int.lt_irrefl, decide_true, decide_false, reduceIte, reduceCtorEq, Nat.zero_add, Nat.le_refl, Nat.zero_le, and_self, and_true, true_and, List.length_cons, List.length_nil, List.drop_succ_cons, List.drop_zero, List.take_succ_cons, List.take_zero, List.getElem?_cons_succ, List.getElem?_cons_zero, List.cons_append, List.nil_append, List.append_nil, List.all_cons, List.all_nil, Bool.and_true, Nat.left_eq_add, Nat.add_eq_left, Nat.succ_ne_self, Bool.not_true, Bool.not_false, Option.some.injEq, exists_eq_left']
  all_goals refine ⟨?_, by (repeat (first | exact Ext.refl hs | refine Ext.add ?_ _))⟩
  all_goals simp_all [rTargetR, rTargetF]
end
end Go.V
