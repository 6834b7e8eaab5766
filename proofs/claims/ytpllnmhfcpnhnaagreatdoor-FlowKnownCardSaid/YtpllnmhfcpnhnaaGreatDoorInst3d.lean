/- inst: Writes, WritesPred, ReadsPred, Target, Reads. -/
import Derived.Test.YtpllnmhfcpnhnaaGreatDoorInst2
set_option linter.unusedVariables false
set_option linter.unusedSimpArgs false
set_option linter.unusedSectionVars false
/- inst: Writes, WritesPred, ReadsPred, Target, Reads. -/
namespace Go.V
open Go
set_option linter.unusedSimpArgs false
set_option linter.unusedVariables false
-- coxless/inst.Writes
def ir232 : IFunc := ⟨18, [.tmp 2, .tmp 3], (.seq (.region [⟨some 1, none, [], (.box (.t 0))⟩, ⟨some 2, none, [], (.move (.c (.int .u8 0)))⟩, ⟨some 3, none, [], (.move (.c (.bool false)))⟩] false)
 (.seq (.block 0 (.seq (.region [⟨some 5, none, [], (.load true 11 (.t 1))⟩, ⟨some 6, none, [], (.call 187 [(.t 5)])⟩, ⟨some 7, none, [], (.un .not (.t 6))⟩, ⟨some 4, none, [], (.move (.t 7))⟩] false)
 (.cond (.t 4) (.seq (.region [⟨some 2, none, [], (.move (.c (.int .u8 0)))⟩, ⟨some 3, none, [], (.move (.c (.bool false)))⟩] false)
 .ret) (.seq (.region [⟨some 9, none, [], (.fieldAddr 0 (.t 1))⟩, ⟨some 10, none, [], (.load false 1 (.t 9))⟩, ⟨some 11, none, [], (.bin .eql (.t 10) (.c (.int .u8 29)))⟩, ⟨some 8, none, [], (.move (.t 11))⟩] false)
 (.cond (.t 8) (.seq (.region [⟨some 2, none, [], (.move (.c (.int .u8 31)))⟩, ⟨some 3, none, [], (.move (.c (.bool true)))⟩] false)
 .ret) (.seq (.region [⟨some 13, none, [], (.load true 11 (.t 1))⟩, ⟨some 14, none, [], (.call 272 [(.t 13), (.c (.int .u8 3))])⟩, ⟨some 15, none, [], (.un .not (.t 14))⟩, ⟨some 12, none, [], (.move (.t 15))⟩] false)
 (.cond (.t 12) (.seq (.region [⟨some 2, none, [], (.move (.c (.int .u8 0)))⟩, ⟨some 3, none, [], (.move (.c (.bool false)))⟩] false)
 .ret) .skip)))))))
 (.seq (.region [⟨some 16, none, [], (.fieldAddr 1 (.t 1))⟩, ⟨some 17, none, [], (.load false 1 (.t 16))⟩, ⟨some 2, none, [], (.move (.t 17))⟩, ⟨some 3, none, [], (.move (.c (.bool true)))⟩] false)
 .ret)))⟩
-- coxless/inst.WritesPred
def ir231 : IFunc := ⟨14, [.tmp 2, .tmp 3], (.seq (.region [⟨some 1, none, [], (.box (.t 0))⟩, ⟨some 2, none, [], (.move (.c (.int .u8 0)))⟩, ⟨some 3, none, [], (.move (.c (.bool false)))⟩] false)
 (.seq (.seq (.region [⟨some 4, none, [], (.load true 11 (.t 1))⟩, ⟨some 5, none, [], (.call 187 [(.t 4)])⟩, ⟨some 6, none, [], (.un .not (.t 5))⟩, ⟨some 7, none, [], (.move (.t 6))⟩, ⟨some 8, some (7, false), [], (.load true 11 (.t 1))⟩, ⟨some 9, some (7, false), [], (.call 272 [(.t 8), (.c (.int .u8 4))])⟩, ⟨some 10, some (7, false), [], (.un .not (.t 9))⟩, ⟨some 11, none, [], (.pick (.t 7) (.c (.bool true)) (.t 10))⟩] false)
 (.cond (.t 11) (.seq (.region [⟨some 2, none, [], (.move (.c (.int .u8 0)))⟩, ⟨some 3, none, [], (.move (.c (.bool false)))⟩] false)
 .ret) .skip))
 (.seq (.region [⟨some 12, none, [], (.fieldAddr 1 (.t 1))⟩, ⟨some 13, none, [], (.load false 1 (.t 12))⟩, ⟨some 2, none, [], (.move (.t 13))⟩, ⟨some 3, none, [], (.move (.c (.bool true)))⟩] false)
 .ret)))⟩
-- coxless/inst.ReadsPred
def ir229 : IFunc := ⟨23, [.tmp 2, .tmp 3, .tmp 4], (.seq (.region [⟨some 1, none, [], (.box (.t 0))⟩, ⟨some 2, none, [], (.move (.c (.int .u8 0)))⟩, ⟨some 3, none, [], (.move (.c (.bool false)))⟩, ⟨some 4, none, [], (.move (.c (.bool false)))⟩] false)
 (.seq (.seq (.region [⟨some 5, none, [], (.load true 11 (.t 1))⟩, ⟨some 6, none, [], (.call 187 [(.t 5)])⟩, ⟨some 7, none, [], (.un .not (.t 6))⟩, ⟨some 8, none, [], (.move (.t 7))⟩, ⟨some 9, some (8, false), [], (.fieldAddr 0 (.t 1))⟩, ⟨some 10, some (8, false), [], (.load false 1 (.t 9))⟩, ⟨some 11, some (8, false), [], (.bin .neq (.t 10) (.c (.int .u8 14)))⟩, ⟨some 12, some (8, false), [], (.move (.t 11))⟩, ⟨some 13, some (12, true), [], (.fieldAddr 6 (.t 1))⟩, ⟨some 14, some (12, true), [], (.load false 1 (.t 13))⟩, ⟨some 15, some (12, true), [], (.bin .eql (.t 14) (.c (.int .u8 0)))⟩, ⟨some 16, some (8, false), [], (.pick (.t 12) (.t 15) (.c (.bool false)))⟩, ⟨some 17, none, [], (.pick (.t 8) (.c (.bool true)) (.t 16))⟩] false)
 (.cond (.t 17) (.seq (.region [⟨some 2, none, [], (.move (.c (.int .u8 0)))⟩, ⟨some 3, none, [], (.move (.c (.bool false)))⟩, ⟨some 4, none, [], (.move (.c (.bool false)))⟩] false)
 .ret) .skip))
 (.seq (.region [⟨some 18, none, [], (.fieldAddr 5 (.t 1))⟩, ⟨some 19, none, [], (.load false 1 (.t 18))⟩, ⟨some 20, none, [], (.fieldAddr 6 (.t 1))⟩, ⟨some 21, none, [], (.load false 1 (.t 20))⟩, ⟨some 22, none, [], (.bin .geq (.t 21) (.c (.int .u8 3)))⟩, ⟨some 2, none, [], (.move (.t 19))⟩, ⟨some 3, none, [], (.move (.t 22))⟩, ⟨some 4, none, [], (.move (.c (.bool true)))⟩] true)
 .ret)))⟩

def okI (i : In) : Bool := isByte i.op && isI64 i.imm
def inF (r : In → AV) (args : List AV) : Option AV := match args with
  | [x] => match getIn x with
    | some i => match okI i with
      | true => some (r i)
      | false => none
    | none => none
  | _ => none
theorem inF_ok {T : Tab} {f : FuncId} {r : In → AV} (hp : ∀ i, plain (r i) = true) (h : ∀ s, WFS s → ∀ i, okI i = true → Ran T f [.agg i.cells] s fun v s' => v = r i ∧ Ext s s') (args : List AV) (v : AV) (hv : inF r args = some v) :
    plain v = true ∧ ∀ s, WFS s → Ran T f args s fun v' s' => v' = v ∧ Ext s s' := by
  unfold inF at hv
  split at hv
  · split at hv
    · rename_i i hi
      rw [getIn_eq hi]
      split at hv
      · rename_i hb; cases hv
        exact ⟨hp i, fun s hs => h s hs i hb⟩
      · cases hv
    · cases hv
  · cases hv
theorem inF_eq (r : In → AV) (i : In) (s : St) (h : okI i = true) : pureH (inF r) [.agg i.cells] s = some (r i, s) := by
  have hi : getIn (.agg i.cells) = some i := rfl
  simp only [pureH, inF, hi, h]

def rightR (i : In) : AV := .bool (rightF i)
def writesF (i : In) : Int × Bool := if rightF i = true then (if i.op = 29 then (31, true) else if hasF i.op 3 = true then (i.d, true) else (0, false)) else (0, false)
def writesR (i : In) : AV := .tuple [.int .u8 (writesF i).1, .bool (writesF i).2]
def writesPredF (i : In) : Int × Bool := if rightF i = true ∧ hasF i.op 4 = true then (i.d, true) else (0, false)
def writesPredR (i : In) : AV := .tuple [.int .u8 (writesPredF i).1, .bool (writesPredF i).2]
def readsPredF (i : In) : Int × Bool × Bool := if rightF i = true ∧ ¬ (i.op ≠ 14 ∧ i.mode = 0) then (i.pred, decide (3 ≤ i.mode), true) else (0, false, false)
def readsPredR (i : In) : AV := .tuple [.int .u8 (readsPredF i).1, .bool (readsPredF i).2.1, .bool (readsPredF i).2.2]
def targetF (i : In) : Int × Bool := if rightF i = true ∧ hasF i.op 10 = true then (i.imm % 4294967296, true) else (0, false)
def targetR (i : In) : AV := .tuple [.int .u32 (targetF i).1, .bool (targetF i).2]

section
variable {T : Tab}
theorem writes_ran (hc : T 232 = some (.code ir232)) (hr : T 187 = some (.hook (pureH (inF rightR)))) (hh : T 272 = some (.hook (pureH hasG))) (s : St) (hs : WFS s) (i : In) (hi : okI i = true) :
    Ran T 232 [.agg i.cells] s fun v s' => v = writesR i ∧ Ext s s' := by
  refine ran_code hc (Nat.le_of_ble_eq_true rfl) ?_
  have k1 := goCall_hook hr
  have k2 := goCall_hook hh
  have q1 := fun s => inF_eq rightR i s hi
  have q2 := hasH_eq i
  have hb : isByte i.op = true := by simp only [okI, Bool.and_eq_true] at hi; exact hi.1
  simp only [In.cells, rightR] at q1 q2
  generalize hQ : Fin _ _ = Q
  simp only [ir232, In.cells, k1, k2, q1, q2, hb, w0, w1, w2, w3, w4, w5, w6, w7, w8, w9, w10, w11, w12, w13, w14, w15, w16, Nat.reduceAdd, Nat.reduceEqDiff, Nat.reduceLeDiff, Nat.reduceLT, Nat.reduceMul, Nat.add_zero, Nat.add_assoc, Nat.add_left_cancel_iff, Nat.reduceBEq, Int.reduceLT, Int.reduceLE, Int.reduceEq, Int.reduceAdd, Int.reduceSub, Int.cast_ofNat_Int, Int.reduceMul, Int.reduceMod, Int.reduceTMod, Int.reduceTDiv, Int.reduceNeg, Nat.reduceSub, Nat.reduceDiv, Nat.mul_one, Nat.one_mul, Int.lt_irrefl, decide_true, decide_false, reduceIte, reduceCtorEq, Nat.zero_add, Nat.le_refl, Nat.zero_le, and_self, and_true, true_and, List.length_cons, List.length_nil, List.drop_succ_cons, List.drop_zero, List.take_succ_cons, List.take_zero, List.getElem?_cons_succ, List.getElem?_cons_zero, List.cons_append, List.nil_append, List.append_nil, List.all_cons, List.all_nil, Bool.and_true, Nat.left_eq_add, Nat.add_eq_left, Nat.succ_ne_self, Bool.not_true, Bool.not_false, Option.some.injEq, exists_eq_left']
  repeat' ((first | refine goC_split (fun h => ?_) (fun h => ?_) | refine goG_split_t (fun h => ?_) (fun h => ?_) | refine goG_split_f (fun h => ?_) (fun h => ?_)) <;> (try simp only [Bool.not_eq_true', Bool.not_eq_false'] at h) <;> (try simp only [h, In.cells, k1, k2, q1, q2, hb, w0, w1, w2, w3, w4, w5, w6, w7, w8, w9, w10, w11, w12, w13, w14, w15, w16, Nat.reduceAdd, Nat.reduceEqDiff, Nat.reduceLeDiff, Nat.reduceLT, Nat.reduceMul, Nat.add_zero, Nat.add_assoc, Nat.add_left_cancel_iff, Nat.reduceBEq, Int.reduceLT, Int.reduceLE, Int.reduceEq, Int.reduceAdd, Int.reduceSub, Int.cast_ofNat_Int, Int.reduceMul, Int.reduceMod, Int.reduceTMod, Int.reduceTDiv, Int.reduceNeg, Nat.reduceSub, Nat.reduceDiv, Nat.mul_one, Nat.one_mul, Int.lt_irrefl, decide_true, decide_false, reduceIte, reduceCtorEq, Nat.zero_add, Nat.le_refl, Nat.zero_le, and_self, and_true, true_and, List.length_cons, List.length_nil, List.drop_succ_cons, List.drop_zero, List.take_succ_cons, List.take_zero, List.getElem?_cons_succ, List.getElem?_cons_zero, List.cons_append, List.nil_append, List.append_nil, List.all_cons, List.all_nil, Bool.and_true, Nat.left_eq_add, Nat.add_eq_left, Nat.succ_ne_self, Bool.not_true, Bool.not_false, Option.some.injEq, exists_eq_left']))
  all_goals subst hQ
  all_goals clear k1 k2 q1 q2
  all_goals simp only [ir232, w0, w1, w2, w3, w4, w5, w6, w7, w8, w9, w10, w11, w12, w13, w14, w15, w16, Nat.reduceAdd, Nat.reduceEqDiff, Nat.reduceLeDiff, Nat.reduceLT, Nat.reduceMul, Nat.add_zero, Nat.add_assoc, Nat.add_left_cancel_iff, Nat.reduceBEq, Int.reduceLT, Int.reduceLE, Int.reduceEq, Int.reduceAdd, Int.reduceSub, Int.cast_ofNat_Int, Int.reduceMul, Int.reduceMod, Int.reduceTMod, Int.reduceTDiv, Int.reduceNeg, Nat.reduceSub, Nat.reduceDiv, Nat.mul_one, Nat.one_mul, Int.lt_irrefl, decide_true, decide_false, reduceIte, reduceCtorEq, Nat.zero_add, Nat.le_refl, Nat.zero_le, and_self, and_true, true_and, List.length_cons, List.length_nil, List.drop_succ_cons, List.drop_zero, List.take_succ_cons, List.take_zero, List.getElem?_cons_succ, List.getElem?_cons_zero, List.cons_append, List.nil_append, List.append_nil, List.all_cons, List.all_nil, Bool.and_true, Nat.left_eq_add, Nat.add_eq_left, Nat.succ_ne_self, Bool.not_true, Bool.not_false, Option.some.injEq, exists_eq_left']
  all_goals refine ⟨?_, by (repeat (first | exact Ext.refl hs | refine Ext.add ?_ _))⟩
  all_goals simp_all [writesR, writesF]
theorem writesPred_ran (hc : T 231 = some (.code ir231)) (hr : T 187 = some (.hook (pureH (inF rightR)))) (hh : T 272 = some (.hook (pureH hasG))) (s : St) (hs : WFS s) (i : In) (hi : okI i = true) :
    Ran T 231 [.agg i.cells] s fun v s' => v = writesPredR i ∧ Ext s s' := by
  refine ran_code hc (Nat.le_of_ble_eq_true rfl) ?_
  have k1 := goCall_hook hr
  have k2 := goCall_hook hh
  have q1 := fun s => inF_eq rightR i s hi
  have q2 := hasH_eq i
  have hb : isByte i.op = true := by simp only [okI, Bool.and_eq_true] at hi; exact hi.1
  simp only [In.cells, rightR] at q1 q2
  generalize hQ : Fin _ _ = Q
  simp only [ir231, In.cells, k1, k2, q1, q2, hb, w0, w1, w2, w3, w4, w5, w6, w7, w8, w9, w10, w11, w12, w13, w14, w15, w16, Nat.reduceAdd, Nat.reduceEqDiff, Nat.reduceLeDiff, Nat.reduceLT, Nat.reduceMul, Nat.add_zero, Nat.add_assoc, Nat.add_left_cancel_iff, Nat.reduceBEq, Int.reduceLT, Int.reduceLE, Int.reduceEq, Int.reduceAdd, Int.reduceSub, Int.cast_ofNat_Int, Int.reduceMul, Int.reduceMod, Int.reduceTMod, Int.reduceTDiv, Int.reduceNeg, Nat.reduceSub, Nat.reduceDiv, Nat.mul_one, Nat.one_mul, Int.lt_irrefl, decide_true, decide_false, reduceIte, reduceCtorEq, Nat.zero_add, Nat.le_refl, Nat.zero_le, and_self, and_true, true_and, List.length_cons, List.length_nil, List.drop_succ_cons, List.drop_zero, List.take_succ_cons, List.take_zero, List.getElem?_cons_succ, List.getElem?_cons_zero, List.cons_append, List.nil_append, List.append_nil, List.all_cons, List.all_nil, Bool.and_true, Nat.left_eq_add, Nat.add_eq_left, Nat.succ_ne_self, Bool.not_true, Bool.not_false, Option.some.injEq, exists_eq_left']
  repeat' ((first | refine goC_split (fun h => ?_) (fun h => ?_) | refine goG_split_t (fun h => ?_) (fun h => ?_) | refine goG_split_f (fun h => ?_) (fun h => ?_)) <;> (try simp only [Bool.not_eq_true', Bool.not_eq_false'] at h) <;> (try simp only [h, In.cells, k1, k2, q1, q2, hb, w0, w1, w2, w3, w4, w5, w6, w7, w8, w9, w10, w11, w12, w13, w14, w15, w16, Nat.reduceAdd, Nat.reduceEqDiff, Nat.reduceLeDiff, Nat.reduceLT, Nat.reduceMul, Nat.add_zero, Nat.add_assoc, Nat.add_left_cancel_iff, Nat.reduceBEq, Int.reduceLT, Int.reduceLE, Int.reduceEq, Int.reduceAdd, Int.reduceSub, Int.cast_ofNat_Int, Int.reduceMul, Int.reduceMod, Int.reduceTMod, Int.reduceTDiv, Int.reduceNeg, Nat.reduceSub, Nat.reduceDiv, Nat.mul_one, Nat.one_mul, Int.lt_irrefl, decide_true, decide_false, reduceIte, reduceCtorEq, Nat.zero_add, Nat.le_refl, Nat.zero_le, and_self, and_true, true_and, List.length_cons, List.length_nil, List.drop_succ_cons, List.drop_zero, List.take_succ_cons, List.take_zero, List.getElem?_cons_succ, List.getElem?_cons_zero, List.cons_append, List.nil_append, List.append_nil, List.all_cons, List.all_nil, Bool.and_true, Nat.left_eq_add, Nat.add_eq_left, Nat.succ_ne_self, Bool.not_true, Bool.not_false, Option.some.injEq, exists_eq_left']))
  all_goals subst hQ
  all_goals clear k1 k2 q1 q2
  all_goals simp only [ir231, w0, w1, w2, w3, w4, w5, w6, w7, w8, w9, w10, w11, w12, w13, w14, w15, w16, Nat.reduceAdd, Nat.reduceEqDiff, Nat.reduceLeDiff, Nat.reduceLT, Nat.reduceMul, Nat.add_zero, Nat.add_assoc, Nat.add_left_cancel_iff, Nat.reduceBEq, Int.reduceLT, Int.reduceLE, Int.reduceEq, Int.reduceAdd, Int.reduceSub, Int.cast_ofNat_Int, Int.reduceMul, Int.reduceMod, Int.reduceTMod, Int.reduceTDiv, Int.reduceNeg, Nat.reduceSub, Nat.reduceDiv, Nat.mul_one, Nat.one_mul, Int.lt_irrefl, decide_true, decide_false, reduceIte, reduceCtorEq, Nat.zero_add, Nat.le_refl, Nat.zero_le, and_self, and_true, true_and, List.length_cons, List.length_nil, List.drop_succ_cons, List.drop_zero, List.take_succ_cons, List.take_zero, List.getElem?_cons_succ, List.getElem?_cons_zero, List.cons_append, List.nil_append, List.append_nil, List.all_cons, List.all_nil, Bool.and_true, Nat.left_eq_add, Nat.add_eq_left, Nat.succ_ne_self, Bool.not_true, Bool.not_false, Option.some.injEq, exists_eq_left']
  all_goals refine ⟨?_, by (repeat (first | exact Ext.refl hs | refine Ext.add ?_ _))⟩
  all_goals simp_all [writesPredR, writesPredF]
theorem readsPred_ran (hc : T 229 = some (.code ir229)) (hr : T 187 = some (.hook (pureH (inF rightR)))) (hh : T 272 = some (.hook (pureH hasG))) (s : St) (hs : WFS s) (i : In) (hi : okI i = true) :
    Ran T 229 [.agg i.cells] s fun v s' => v = readsPredR i ∧ Ext s s' := by
  refine ran_code hc (Nat.le_of_ble_eq_true rfl) ?_
  have k1 := goCall_hook hr
  have k2 := goCall_hook hh
  have q1 := fun s => inF_eq rightR i s hi
  have q2 := hasH_eq i
  have hb : isByte i.op = true := by simp only [okI, Bool.and_eq_true] at hi; exact hi.1
  simp only [In.cells, rightR] at q1 q2
  generalize hQ : Fin _ _ = Q
  simp only [ir229, In.cells, k1, k2, q1, q2, hb, w0, w1, w2, w3, w4, w5, w6, w7, w8, w9, w10, w11, w12, w13, w14, w15, w16, Nat.reduceAdd, Nat.reduceEqDiff, Nat.reduceLeDiff, Nat.reduceLT, Nat.reduceMul, Nat.add_zero, Nat.add_assoc, Nat.add_left_cancel_iff, Nat.reduceBEq, Int.reduceLT, Int.reduceLE, Int.reduceEq, Int.reduceAdd, Int.reduceSub, Int.cast_ofNat_Int, Int.reduceMul, Int.reduceMod, Int.reduceTMod, Int.reduceTDiv, Int.reduceNeg, Nat.reduceSub, Nat.reduceDiv, Nat.mul_one, Nat.one_mul, Int.lt_irrefl, decide_true, decide_false, reduceIte, reduceCtorEq, Nat.zero_add, Nat.le_refl, Nat.zero_le, and_self, and_true, true_and, List.length_cons, List.length_nil, List.drop_succ_cons, List.drop_zero, List.take_succ_cons, List.take_zero, List.getElem?_cons_succ, List.getElem?_cons_zero, List.cons_append, List.nil_append, List.append_nil, List.all_cons, List.all_nil, Bool.and_true, Nat.left_eq_add, Nat.add_eq_left, Nat.succ_ne_self, Bool.not_true, Bool.not_false, Option.some.injEq, exists_eq_left']
  repeat' ((first | refine goC_split (fun h => ?_) (fun h => ?_) | refine goG_split_t (fun h => ?_) (fun h => ?_) | refine goG_split_f (fun h => ?_) (fun h => ?_)) <;> (try simp only [Bool.not_eq_true', Bool.not_eq_false'] at h) <;> (try simp only [h, In.cells, k1, k2, q1, q2, hb, w0, w1, w2, w3, w4, w5, w6, w7, w8, w9, w10, w11, w12, w13, w14, w15, w16, Nat.reduceAdd, Nat.reduceEqDiff, Nat.reduceLeDiff, Nat.reduceLT, Nat.reduceMul, Nat.add_zero, Nat.add_assoc, Nat.add_left_cancel_iff, Nat.reduceBEq, Int.reduceLT, Int.reduceLE, Int.reduceEq, Int.reduceAdd, Int.reduceSub, Int.cast_ofNat_Int, Int.reduceMul, Int.reduceMod, Int.reduceTMod, Int.reduceTDiv, Int.reduceNeg, Nat.reduceSub, Nat.reduceDiv, Nat.mul_one, Nat.one_mul, Int.lt_irrefl, decide_true, decide_false, reduceIte, reduceCtorEq, Nat.zero_add, Nat.le_refl, Nat.zero_le, and_self, and_true, true_and, List.length_cons, List.length_nil, List.drop_succ_cons, List.drop_zero, List.take_succ_cons, List.take_zero, List.getElem?_cons_succ, List.getElem?_cons_zero, List.cons_append, List.nil_append, List.append_nil, List.all_cons, List.all_nil, Bool.and_true, Nat.left_eq_add, Nat.add_eq_left, Nat.succ_ne_self, Bool.not_true, Bool.not_false, Option.some.injEq, exists_eq_left']))
  all_goals subst hQ
  all_goals clear k1 k2 q1 q2
  all_goals simp only [ir229, w0, w1, w2, w3, w4, w5, w6, w7, w8, w9, w10, w11, w12, w13, w14, w15, w16, Nat.reduceAdd, Nat.reduceEqDiff, Nat.reduceLeDiff, Nat.reduceLT, Nat.reduceMul, Nat.add_zero, Nat.add_assoc, Nat.add_left_cancel_iff, Nat.reduceBEq, Int.reduceLT, Int.reduceLE, Int.reduceEq, Int.reduceAdd, Int.reduceSub, Int.cast_ofNat_Int, Int.reduceMul, Int.reduceMod, Int.reduceTMod, Int.reduceTDiv, Int.reduceNeg, Nat.reduceSub, Nat.reduceDiv, Nat.mul_one, Nat.one_mul, Int.lt_irrefl, decide_true, decide_false, reduceIte, reduceCtorEq, Nat.zero_add, Nat.le_refl, Nat.zero_le, and_self, and_true, true_and, List.length_cons, List.length_nil, List.drop_succ_cons, List.drop_zero, List.take_succ_cons, List.take_zero, List.getElem?_cons_succ, List.getElem?_cons_zero, List.cons_append, List.nil_append, List.append_nil, List.all_cons, List.all_nil, Bool.and_true, Nat.left_eq_add, Nat.add_eq_left, Nat.succ_ne_self, Bool.not_true, Bool.not_false, Option.some.injEq, exists_eq_left']
  all_goals refine ⟨?_, by (repeat (first | exact Ext.refl hs | refine Ext.add ?_ _))⟩
  all_goals simp_all [readsPredR, readsPredF]
end
end Go.V
