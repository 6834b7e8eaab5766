/- The document's answer for inst: its small functions. -/
import Derived.Test.YtlpdekocilhciaaLTurn1
import Derived.Test.YtlpdekocilhciaaV44
import Derived.KernelRfl
set_option linter.unusedVariables false
set_option linter.unusedSimpArgs false
set_option linter.unusedSectionVars false
/- The document's answer for inst: its small functions. -/
namespace Go.V
open Go
set_option linter.unusedSimpArgs false
set_option linter.unusedVariables false
-- coxless/coxlessref04.Kind
def ir46 : IFunc := ⟨14, [.tmp 2], (.seq (.region [⟨some 2, none, [], (.move (.c (.int .i64 0)))⟩] false)
 (.seq (.region [⟨some 4, none, [], (.buildSlice 32 1 [(.int .i64 0)] [(0, 1, (.c (.int .i64 0))), (1, 1, (.c (.int .i64 17))), (2, 1, (.c (.int .i64 1))), (3, 1, (.c (.int .i64 1))), (4, 1, (.c (.int .i64 1))), (5, 1, (.c (.int .i64 1))), (6, 1, (.c (.int .i64 1))), (7, 1, (.c (.int .i64 2))), (8, 1, (.c (.int .i64 3))), (9, 1, (.c (.int .i64 4))), (10, 1, (.c (.int .i64 5))), (11, 1, (.c (.int .i64 5))), (12, 1, (.c (.int .i64 5))), (13, 1, (.c (.int .i64 6))), (14, 1, (.c (.int .i64 7))), (15, 1, (.c (.int .i64 8))), (16, 1, (.c (.int .i64 8))), (17, 1, (.c (.int .i64 8))), (18, 1, (.c (.int .i64 9))), (19, 1, (.c (.int .i64 9))), (20, 1, (.c (.int .i64 9))), (21, 1, (.c (.int .i64 10))), (22, 1, (.c (.int .i64 10))), (23, 1, (.c (.int .i64 10))), (24, 1, (.c (.int .i64 11))), (25, 1, (.c (.int .i64 11))), (26, 1, (.c (.int .i64 11))), (27, 1, (.c (.int .i64 12))), (28, 1, (.c (.int .i64 13))), (29, 1, (.c (.int .i64 14))), (30, 1, (.c (.int .i64 15))), (31, 1, (.c (.int .i64 16)))])⟩, ⟨some 3, none, [], (.move (.t 4))⟩] false)
 (.seq (.seq (.region [⟨some 5, none, [], (.move (.t 0))⟩, ⟨some 6, none, [], (.conv (.intInt .i64) (.t 5))⟩, ⟨some 7, none, [], (.move (.t 3))⟩, ⟨some 8, none, [], (.lenSl (.t 7))⟩, ⟨some 9, none, [], (.bin .lss (.t 6) (.t 8))⟩] false)
 (.cond (.t 9) (.seq (.region [⟨some 10, none, [], (.move (.t 3))⟩, ⟨some 11, none, [], (.move (.t 0))⟩, ⟨some 12, none, [], (.idxSl 1 (.t 10) (.t 11))⟩, ⟨some 13, none, [], (.load false 1 (.t 12))⟩, ⟨some 2, none, [], (.move (.t 13))⟩] false)
 .ret) .skip))
 (.seq (.region [⟨some 2, none, [], (.move (.c (.int .i64 0)))⟩] false)
 .ret))))⟩
-- coxless/coxlessref04.Class
def ir45 : IFunc := ⟨12, [.tmp 2], (.seq (.region [⟨some 2, none, [], (.move (.c (.int .u8 0)))⟩] false)
 (.seq (.seq (.region [⟨some 3, none, [], (.move (.t 0))⟩, ⟨some 4, none, [], (.bin .eql (.t 3) (.c (.int .u8 0)))⟩, ⟨some 5, none, [], (.move (.t 4))⟩, ⟨some 6, some (5, false), [], (.move (.t 0))⟩, ⟨some 7, some (5, false), [], (.bin .gtr (.t 6) (.c (.int .u8 31)))⟩, ⟨some 8, none, [], (.pick (.t 5) (.c (.bool true)) (.t 7))⟩] false)
 (.cond (.t 8) (.seq (.region [⟨some 2, none, [], (.move (.c (.int .u8 0)))⟩] false)
 .ret) .skip))
 (.seq (.region [⟨some 9, none, [], (.move (.t 0))⟩, ⟨some 10, none, [], (.idxStr (.c (.str [48, 49, 49, 49, 49, 49, 49, 49, 49, 49, 49, 49, 49, 49, 49, 50, 50, 50, 50, 50, 50, 51, 51, 51, 52, 52, 52, 53, 53, 53, 54, 54])) (.t 9))⟩, ⟨some 11, none, [], (.bin .sub (.t 10) (.c (.int .u8 48)))⟩, ⟨some 2, none, [], (.move (.t 11))⟩] false)
 .ret)))⟩
-- coxless/coxlessref04.scale
def ir72 : IFunc := ⟨10, [.tmp 2], (.seq (.region [⟨some 2, none, [], (.move (.c (.int .i64 0)))⟩] false)
 (.seq (.seq (.region [⟨some 3, none, [], (.move (.t 0))⟩] false)
 (.block 0 (.seq (.seq (.region [⟨some 5, none, [], (.bin .eql (.t 3) (.c (.int .u8 21)))⟩, ⟨some 4, none, [], (.move (.t 5))⟩] false)
 (.cond (.t 4) .skip (.region [⟨some 6, none, [], (.bin .eql (.t 3) (.c (.int .u8 24)))⟩, ⟨some 4, none, [], (.move (.t 6))⟩] false)))
 (.cond (.t 4) (.seq (.region [⟨some 2, none, [], (.move (.c (.int .i64 4)))⟩] false)
 .ret) (.seq (.seq (.region [⟨some 8, none, [], (.bin .eql (.t 3) (.c (.int .u8 22)))⟩, ⟨some 7, none, [], (.move (.t 8))⟩] false)
 (.cond (.t 7) .skip (.region [⟨some 9, none, [], (.bin .eql (.t 3) (.c (.int .u8 25)))⟩, ⟨some 7, none, [], (.move (.t 9))⟩] false)))
 (.cond (.t 7) (.seq (.region [⟨some 2, none, [], (.move (.c (.int .i64 2)))⟩] false)
 .ret) .skip))))))
 (.seq (.region [⟨some 2, none, [], (.move (.c (.int .i64 1)))⟩] false)
 .ret)))⟩
-- coxless/coxlessref04.cond
def ir70 : IFunc := ⟨21, [.tmp 2], (.seq (.region [⟨some 1, none, [], (.box (.t 0))⟩, ⟨some 2, none, [], (.move (.c (.bool false)))⟩] false)
 (.seq (.region [⟨some 3, none, [], (.fieldAddr 6 (.t 1))⟩, ⟨some 4, none, [], (.load false 1 (.t 3))⟩, ⟨some 5, none, [], (.bin .leq (.t 4) (.c (.int .u8 4)))⟩, ⟨some 6, none, [], (.move (.t 5))⟩, ⟨some 7, some (6, true), [], (.fieldAddr 5 (.t 1))⟩, ⟨some 8, some (6, true), [], (.load false 1 (.t 7))⟩, ⟨some 9, some (6, true), [], (.bin .leq (.t 8) (.c (.int .u8 3)))⟩, ⟨some 10, none, [], (.pick (.t 6) (.t 9) (.c (.bool false)))⟩, ⟨some 11, none, [], (.move (.t 10))⟩, ⟨some 12, some (11, true), [], (.fieldAddr 6 (.t 1))⟩, ⟨some 13, some (11, true), [], (.load false 1 (.t 12))⟩, ⟨some 14, some (11, true), [], (.bin .gtr (.t 13) (.c (.int .u8 0)))⟩, ⟨some 15, some (11, true), [], (.move (.t 14))⟩, ⟨some 16, some (15, false), [], (.fieldAddr 5 (.t 1))⟩, ⟨some 17, some (15, false), [], (.load false 1 (.t 16))⟩, ⟨some 18, some (15, false), [], (.bin .eql (.t 17) (.c (.int .u8 0)))⟩, ⟨some 19, some (11, true), [], (.pick (.t 15) (.c (.bool true)) (.t 18))⟩, ⟨some 20, none, [], (.pick (.t 11) (.t 19) (.c (.bool false)))⟩, ⟨some 2, none, [], (.move (.t 20))⟩] false)
 .ret))⟩
-- coxless/coxlessref04.target
def ir73 : IFunc := ⟨14, [.tmp 2], (.seq (.region [⟨some 2, none, [], (.move (.c (.bool false)))⟩] false)
 (.seq (.region [⟨some 3, none, [], (.move (.t 0))⟩, ⟨some 4, none, [], (.bin .geq (.t 3) (.c (.int .i64 0)))⟩, ⟨some 5, none, [], (.move (.t 4))⟩, ⟨some 6, some (5, true), [], (.move (.t 0))⟩, ⟨some 7, some (5, true), [], (.bin .leq (.t 6) (.c (.int .i64 4294967292)))⟩, ⟨some 8, none, [], (.pick (.t 5) (.t 7) (.c (.bool false)))⟩, ⟨some 9, none, [], (.move (.t 8))⟩, ⟨some 10, some (9, true), [], (.move (.t 0))⟩, ⟨some 11, some (9, true), [], (.bin .rem (.t 10) (.c (.int .i64 4)))⟩, ⟨some 12, some (9, true), [], (.bin .eql (.t 11) (.c (.int .i64 0)))⟩, ⟨some 13, none, [], (.pick (.t 9) (.t 12) (.c (.bool false)))⟩, ⟨some 2, none, [], (.move (.t 13))⟩] false)
 .ret))⟩
-- coxless/coxlessref04.within
def ir71 : IFunc := ⟨48, [.tmp 6], (.seq (.region [⟨some 3, none, [], (.box (.t 0))⟩, ⟨some 6, none, [], (.move (.c (.bool false)))⟩] false)
 (.seq (.seq (.region [⟨some 9, none, [], (.fieldAddr 8 (.t 3))⟩, ⟨some 10, none, [], (.load false 1 (.t 9))⟩] false)
 (.cond (.t 10) (.seq (.region [⟨some 11, none, [], (.fieldAddr 10 (.t 3))⟩, ⟨some 12, none, [], (.load false 1 (.t 11))⟩, ⟨some 13, none, [], (.bin .geq (.t 12) (.c (.int .i64 (-2147483648))))⟩, ⟨some 14, none, [], (.move (.t 13))⟩, ⟨some 15, some (14, true), [], (.fieldAddr 10 (.t 3))⟩, ⟨some 16, some (14, true), [], (.load false 1 (.t 15))⟩, ⟨some 17, some (14, true), [], (.bin .leq (.t 16) (.c (.int .i64 2147483647)))⟩, ⟨some 18, none, [], (.pick (.t 14) (.t 17) (.c (.bool false)))⟩, ⟨some 6, none, [], (.move (.t 18))⟩] false)
 .ret) .skip))
 (.seq (.region [⟨some 7, none, [], (.move (.c (.int .i64 1)))⟩] false)
 (.seq (.seq (.region [⟨some 8, none, [], (.move (.c (.int .i64 1)))⟩] false)
 (.block 0 (.loop (.seq (.seq (.region [⟨some 19, none, [], (.move (.t 8))⟩, ⟨some 20, none, [], (.move (.t 1))⟩, ⟨some 21, none, [], (.bin .lss (.t 19) (.t 20))⟩] false)
 (.cond (.t 21) .skip (.exit 0)))
 (.seq (.block 1 (.region [⟨some 24, none, [], (.move (.t 7))⟩, ⟨some 25, none, [], (.bin .mul (.t 24) (.c (.int .i64 2)))⟩, ⟨some 7, none, [], (.move (.t 25))⟩] false))
 (.region [⟨some 22, none, [], (.move (.t 8))⟩, ⟨some 23, none, [], (.bin .add (.t 22) (.c (.int .i64 1)))⟩, ⟨some 8, none, [], (.move (.t 23))⟩] false))))))
 (.seq (.region [⟨some 26, none, [], (.fieldAddr 10 (.t 3))⟩, ⟨some 27, none, [], (.load false 1 (.t 26))⟩, ⟨some 28, none, [], (.move (.t 2))⟩, ⟨some 29, none, [], (.bin .rem (.t 27) (.t 28))⟩, ⟨some 30, none, [], (.bin .eql (.t 29) (.c (.int .i64 0)))⟩, ⟨some 31, none, [], (.move (.t 30))⟩, ⟨some 32, some (31, true), [], (.fieldAddr 10 (.t 3))⟩, ⟨some 33, some (31, true), [], (.load false 1 (.t 32))⟩, ⟨some 34, some (31, true), [], (.move (.t 2))⟩, ⟨some 35, some (31, true), [], (.bin .quo (.t 33) (.t 34))⟩, ⟨some 36, some (31, true), [], (.move (.t 7))⟩, ⟨some 37, some (31, true), [], (.un .neg (.t 36))⟩, ⟨some 38, some (31, true), [], (.bin .geq (.t 35) (.t 37))⟩, ⟨some 39, none, [], (.pick (.t 31) (.t 38) (.c (.bool false)))⟩, ⟨some 40, none, [], (.move (.t 39))⟩, ⟨some 41, some (40, true), [], (.fieldAddr 10 (.t 3))⟩, ⟨some 42, some (40, true), [], (.load false 1 (.t 41))⟩, ⟨some 43, some (40, true), [], (.move (.t 2))⟩, ⟨some 44, some (40, true), [], (.bin .quo (.t 42) (.t 43))⟩, ⟨some 45, some (40, true), [], (.move (.t 7))⟩, ⟨some 46, some (40, true), [], (.bin .lss (.t 44) (.t 45))⟩, ⟨some 47, none, [], (.pick (.t 40) (.t 46) (.c (.bool false)))⟩, ⟨some 6, none, [], (.move (.t 47))⟩] false)
 .ret)))))⟩
def kindF (op : Int) : Int := match op with
  | .ofNat n => match [0, 17, 1, 1, 1, 1, 1, 2, 3, 4, 5, 5, 5, 6, 7, 8, 8, 8, 9, 9, 9, 10, 10, 10, 11, 11, 11, 12, 13, 14, 15, 16][n]? with
    | some k => k
    | none => 0
  | .negSucc _ => 0
def scaleF (op : Int) : Int := if op = 21 ∨ op = 24 then 4 else if op = 22 ∨ op = 25 then 2 else 1
def byteG (f : Int → AV) (args : List AV) : Option (AV × List AObj) := match args with
  | [.int .u8 op] => match isByte op with
    | true => some (f op, [])
    | false => none
  | _ => none
theorem byteH_eq (f : Int → AV) (op : Int) (s : St) (h : isByte op = true) (hp : plain (f op) = true) : litH (byteG f) [.int .u8 op] s = some (f op, s) := by
  simp only [litH, byteG, h, plain_sh hp]
  rfl
theorem byte_rows {T : Tab} {rec : Rec} {f : Nat} {r : Int → AV} (h : allBelow (fun n => compAuto (callF T rec f [.int .u8 (.ofNat n)] s0) (r (.ofNat n)) []) 256 = true) (args : List AV) (v : AV) (l : List AObj) (hg : byteG r args = some (v, l)) : args.all scalar = true ∧ ∃ ks, compOk (callF T rec f args s0) ks v l = true := by
  unfold byteG at hg
  split at hg
  · rename_i op
    split at hg
    · rename_i hb
      cases op with
      | ofNat n =>
        have hn : n < 256 := by simpa [isByte, Nat.blt_eq] using hb
        have e : (r (.ofNat n), ([] : List AObj)) = (v, l) := Option.some.inj hg
        have := allBelow_get h n hn
        cases e
        exact ⟨rfl, _, this⟩
      | negSucc n => simp [isByte] at hb
    · cases hg
  · cases hg
def kindR (op : Int) : AV := .int .i64 (kindF op)
def classR (op : Int) : AV := .int .u8 (classF op)
def scaleR (op : Int) : AV := .int .i64 (scaleF op)
def refCode1 : List (Nat × FnImp) := [(46, .code ir46), (45, .code ir45), (72, .code ir72)]
theorem kind_ev : allBelow (fun n => compAuto (callF (tabL refCode1) (evalF (tabL refCode1) 100) 46 [.int .u8 (.ofNat n)] s0) (kindR (.ofNat n)) []) 256 = true := by kernel_rfl
theorem class_ev : allBelow (fun n => compAuto (callF (tabL refCode1) (evalF (tabL refCode1) 100) 45 [.int .u8 (.ofNat n)] s0) (classR (.ofNat n)) []) 256 = true := by kernel_rfl
theorem scale_ev : allBelow (fun n => compAuto (callF (tabL refCode1) (evalF (tabL refCode1) 100) 72 [.int .u8 (.ofNat n)] s0) (scaleR (.ofNat n)) []) 256 = true := by kernel_rfl

def condRF (i : In) : Bool := decide (i.mode ≤ 4) && (decide (i.pred ≤ 3) && (decide (0 < i.mode) || decide (i.pred = 0)))
def targetRF (v : Int) : Bool := decide (0 ≤ v) && (decide (v ≤ 4294967292) && decide (v % 4 = 0))
def withinRF (i : In) (n sc : Int) : Bool := if i.ext = true then decide (-2147483648 ≤ i.imm) && decide (i.imm ≤ 2147483647) else decide (i.imm % sc = 0) && (decide (-(2 ^ (n - 1).toNat) ≤ Int.tdiv i.imm sc) && decide (Int.tdiv i.imm sc < 2 ^ (n - 1).toNat))
section
variable {T : Tab}
theorem condR_ran (hc : T 70 = some (.code ir70)) (s : St) (hs : WFS s) (i : In) : Ran T 70 [.agg i.cells] s fun v s' => v = .bool (condRF i) ∧ Ext s s' := by
  refine ran_code hc (Nat.le_of_ble_eq_true rfl) ?_
  generalize hQ : Fin _ _ = Q
  simp only [ir70, In.cells, w0, w1, w2, w3, w4, w5, w6, w7, w8, w9, w10, w11, w12, w13, w14, w15, w16, Nat.reduceAdd, Nat.reduceEqDiff, Nat.reduceLeDiff, Nat.reduceLT, Nat.reduceMul, Nat.add_zero, Nat.add_assoc, Nat.add_left_cancel_iff, Nat.reduceBEq, Int.reduceLT, Int.reduceLE, Int.reduceEq, Int.reduceAdd, Int.reduceSub, Int.cast_ofNat_Int, Int.reduceMul, Int.reduceMod, Int.reduceTMod, Int.reduceTDiv, Int.reduceNeg, Nat.reduceSub, Nat.reduceDiv, Nat.mul_one, Nat.one_mul, Int.lt_irrefl, decide_true, decide_false, reduceIte, reduceCtorEq, Nat.zero_add, Nat.le_refl, Nat.zero_le, and_self, and_true, true_and, List.length_cons, List.length_nil, List.drop_succ_cons, List.drop_zero, List.take_succ_cons, List.take_zero, List.getElem?_cons_succ, List.getElem?_cons_zero, List.cons_append, List.nil_append, List.append_nil, List.all_cons, List.all_nil, Bool.and_true, Nat.left_eq_add, Nat.add_eq_left, Nat.succ_ne_self, Bool.not_true, Bool.not_false, Option.some.injEq, exists_eq_left']
  repeat' (first | refine goC_split (fun h => ?_) (fun h => ?_) | refine goG_split_t (fun h => ?_) (fun h => ?_) | refine goG_split_f (fun h => ?_) (fun h => ?_)) <;> (try simp only [Bool.not_eq_true', Bool.not_eq_false'] at h) <;> (try simp only [h, w0, w1, w2, w3, w4, w5, w6, w7, w8, w9, w10, w11, w12, w13, w14, w15, w16, Nat.reduceAdd, Nat.reduceEqDiff, Nat.reduceLeDiff, Nat.reduceLT, Nat.reduceMul, Nat.add_zero, Nat.add_assoc, Nat.add_left_cancel_iff, Nat.reduceBEq, Int.reduceLT, Int.reduceLE, Int.reduceEq, Int.reduceAdd, Int.reduceSub, Int.cast_ofNat_Int, Int.reduceMul, Int.reduceMod, Int.reduceTMod, Int.reduceTDiv, Int.reduceNeg, Nat.reduceSub, Nat.reduceDiv, Nat.mul_one, Nat.one_mul, Int.lt_irrefl, decide_true, decide_false, reduceIte, reduceCtorEq, Nat.zero_add, Nat.le_refl, Nat.zero_le, and_self, and_true, true_and, List.length_cons, List.length_nil, List.drop_succ_cons, List.drop_zero, List.take_succ_cons, List.take_zero, List.getElem?_cons_succ, List.getElem?_cons_zero, List.cons_append, List.nil_append, List.append_nil, List.all_cons, List.all_nil, Bool.and_true, Nat.left_eq_add, Nat.add_eq_left, Nat.succ_ne_self, Bool.not_true, Bool.not_false, Option.some.injEq, exists_eq_left'])
  all_goals subst hQ
  all_goals simp only [ir70, w0, w1, w2, w3, w4, w5, w6, w7, w8, w9, w10, w11, w12, w13, w14, w15, w16, Nat.reduceAdd, Nat.reduceEqDiff, Nat.reduceLeDiff, Nat.reduceLT, Nat.reduceMul, Nat.add_zero, Nat.add_assoc, Nat.add_left_cancel_iff, Nat.reduceBEq, Int.reduceLT, Int.reduceLE, Int.reduceEq, Int.reduceAdd, Int.reduceSub, Int.cast_ofNat_Int, Int.reduceMul, Int.reduceMod, Int.reduceTMod, Int.reduceTDiv, Int.reduceNeg, Nat.reduceSub, Nat.reduceDiv, Nat.mul_one, Nat.one_mul, Int.lt_irrefl, decide_true, decide_false, reduceIte, reduceCtorEq, Nat.zero_add, Nat.le_refl, Nat.zero_le, and_self, and_true, true_and, List.length_cons, List.length_nil, List.drop_succ_cons, List.drop_zero, List.take_succ_cons, List.take_zero, List.getElem?_cons_succ, List.getElem?_cons_zero, List.cons_append, List.nil_append, List.append_nil, List.all_cons, List.all_nil, Bool.and_true, Nat.left_eq_add, Nat.add_eq_left, Nat.succ_ne_self, Bool.not_true, Bool.not_false, Option.some.injEq, exists_eq_left']
  all_goals refine ⟨?_, by (repeat (first | exact Ext.refl hs | refine Ext.add ?_ _))⟩
  all_goals simp_all [condRF]
  all_goals omega
theorem targetR_ran (hc : T 73 = some (.code ir73)) (s : St) (hs : WFS s) (v : Int) : Ran T 73 [.int .i64 v] s fun r s' => r = .bool (targetRF v) ∧ Ext s s' := by
  refine ran_code hc (Nat.le_of_ble_eq_true rfl) ?_
  have m4 : binV .rem (.int .i64 v) (.int .i64 4) = some (.int .i64 (Int.tmod v 4)) := by rw [b_rem, if_neg (by decide)]
  generalize hQ : Fin _ _ = Q
  simp only [ir73, m4, w0, w1, w2, w3, w4, w5, w6, w7, w8, w9, w10, w11, w12, w13, w14, w15, w16, Nat.reduceAdd, Nat.reduceEqDiff, Nat.reduceLeDiff, Nat.reduceLT, Nat.reduceMul, Nat.add_zero, Nat.add_assoc, Nat.add_left_cancel_iff, Nat.reduceBEq, Int.reduceLT, Int.reduceLE, Int.reduceEq, Int.reduceAdd, Int.reduceSub, Int.cast_ofNat_Int, Int.reduceMul, Int.reduceMod, Int.reduceTMod, Int.reduceTDiv, Int.reduceNeg, Nat.reduceSub, Nat.reduceDiv, Nat.mul_one, Nat.one_mul, Int.lt_irrefl, decide_true, decide_false, reduceIte, reduceCtorEq, Nat.zero_add, Nat.le_refl, Nat.zero_le, and_self, and_true, true_and, List.length_cons, List.length_nil, List.drop_succ_cons, List.drop_zero, List.take_succ_cons, List.take_zero, List.getElem?_cons_succ, List.getElem?_cons_zero, List.cons_append, List.nil_append, List.append_nil, List.all_cons, List.all_nil, Bool.and_true, Nat.left_eq_add, Nat.add_eq_left, Nat.succ_ne_self, Bool.not_true, Bool.not_false, Option.some.injEq, exists_eq_left']
  repeat' ((first | refine goC_split (fun h => ?_) (fun h => ?_) | refine goG_split_t (fun h => ?_) (fun h => ?_) | refine goG_split_f (fun h => ?_) (fun h => ?_)) <;> (try simp only [Bool.not_eq_true', Bool.not_eq_false'] at h) <;> (try simp only [h, m4, w0, w1, w2, w3, w4, w5, w6, w7, w8, w9, w10, w11, w12, w13, w14, w15, w16, Nat.reduceAdd, Nat.reduceEqDiff, Nat.reduceLeDiff, Nat.reduceLT, Nat.reduceMul, Nat.add_zero, Nat.add_assoc, Nat.add_left_cancel_iff, Nat.reduceBEq, Int.reduceLT, Int.reduceLE, Int.reduceEq, Int.reduceAdd, Int.reduceSub, Int.cast_ofNat_Int, Int.reduceMul, Int.reduceMod, Int.reduceTMod, Int.reduceTDiv, Int.reduceNeg, Nat.reduceSub, Nat.reduceDiv, Nat.mul_one, Nat.one_mul, Int.lt_irrefl, decide_true, decide_false, reduceIte, reduceCtorEq, Nat.zero_add, Nat.le_refl, Nat.zero_le, and_self, and_true, true_and, List.length_cons, List.length_nil, List.drop_succ_cons, List.drop_zero, List.take_succ_cons, List.take_zero, List.getElem?_cons_succ, List.getElem?_cons_zero, List.cons_append, List.nil_append, List.append_nil, List.all_cons, List.all_nil, Bool.and_true, Nat.left_eq_add, Nat.add_eq_left, Nat.succ_ne_self, Bool.not_true, Bool.not_false, Option.some.injEq, exists_eq_left']))
  all_goals subst hQ
  all_goals simp only [ir73, w0, w1, w2, w3, w4, w5, w6, w7, w8, w9, w10, w11, w12, w13, w14, w15, w16, Nat.reduceAdd, Nat.reduceEqDiff, Nat.reduceLeDiff, Nat.reduceLT, Nat.reduceMul, Nat.add_zero, Nat.add_assoc, Nat.add_left_cancel_iff, Nat.reduceBEq, Int.reduceLT, Int.reduceLE, Int.reduceEq, Int.reduceAdd, Int.reduceSub, Int.cast_ofNat_Int, Int.reduceMul, Int.reduceMod, Int.reduceTMod, Int.reduceTDiv, Int.reduceNeg, Nat.reduceSub, Nat.reduceDiv, Nat.mul_one, Nat.one_mul, Int.lt_irrefl, decide_true, decide_false, reduceIte, reduceCtorEq, Nat.zero_add, Nat.le_refl, Nat.zero_le, and_self, and_true, true_and, List.length_cons, List.length_nil, List.drop_succ_cons, List.drop_zero, List.take_succ_cons, List.take_zero, List.getElem?_cons_succ, List.getElem?_cons_zero, List.cons_append, List.nil_append, List.append_nil, List.all_cons, List.all_nil, Bool.and_true, Nat.left_eq_add, Nat.add_eq_left, Nat.succ_ne_self, Bool.not_true, Bool.not_false, Option.some.injEq, exists_eq_left']
  all_goals refine ⟨?_, by (repeat (first | exact Ext.refl hs | refine Ext.add ?_ _))⟩
  all_goals clear m4
  all_goals (try (have h0 : 0 ≤ v := by simp_all))
  all_goals (try rw [Int.tmod_eq_emod_of_nonneg h0])
  all_goals simp_all [targetRF]
  all_goals omega
set_option maxRecDepth 20000 in
set_option maxHeartbeats 2000000 in
theorem withinR_ran (hc : T 71 = some (.code ir71)) (s : St) (hs : WFS s) (i : In) (hI : isI64 i.imm = true) (n sc : Int) (hn : n = 12 ∨ n = 14) (hsc : sc = 1 ∨ sc = 2 ∨ sc = 4) :
    Ran T 71 [.agg i.cells, .int .i64 n, .int .i64 sc] s fun r s' => r = .bool (withinRF i n sc) ∧ Ext s s' := by
  refine ran_code hc (Nat.le_of_ble_eq_true rfl) ?_
  simp only [isI64, Bool.and_eq_true, decide_eq_true_eq] at hI
  obtain ⟨a1, a2, a3, a4, a5, a6, a7, a8, a9, a10, a11⟩ := i
  have hsc0 : ¬ (sc = 0) := by omega
  have hdv : ∃ q, q = Int.tdiv a11 sc ∧ -9223372036854775808 ≤ q ∧ q ≤ 9223372036854775807 := by
    refine ⟨_, rfl, ?_⟩
    simp only [] at hI
    rcases Int.le_total 0 a11 with h0 | h0
    · rw [Int.tdiv_eq_ediv_of_nonneg h0]
      rcases hsc with rfl | rfl | rfl <;> omega
    · have e : Int.tdiv a11 sc = -((-a11) / sc) := by
        rw [← Int.tdiv_eq_ediv_of_nonneg (by omega : 0 ≤ -a11), Int.neg_tdiv, Int.neg_neg]
      rw [e]
      rcases hsc with rfl | rfl | rfl <;> omega
  obtain ⟨q, hq, hq1, hq2⟩ := hdv
  have hmod : ∃ r, r = Int.tmod a11 sc := ⟨_, rfl⟩
  obtain ⟨r, hr⟩ := hmod
  have m4 : binV .rem (.int .i64 a11) (.int .i64 sc) = some (.int .i64 r) := by rw [b_rem, if_neg hsc0, hr]
  have d4 : binV .quo (.int .i64 a11) (.int .i64 sc) = some (.int .i64 q) := by rw [b_quo, if_neg hsc0, ← hq, wrap_i64 _ hq1 hq2]
  have hrz : r = 0 ↔ a11 % sc = 0 := by
    rw [hr]
    rcases hsc with rfl | rfl | rfl
    · simp
    · exact ⟨fun h => Int.emod_eq_zero_of_dvd (Int.dvd_of_tmod_eq_zero h), fun h => Int.tmod_eq_zero_of_dvd (Int.dvd_of_emod_eq_zero h)⟩
    · exact ⟨fun h => Int.emod_eq_zero_of_dvd (Int.dvd_of_tmod_eq_zero h), fun h => Int.tmod_eq_zero_of_dvd (Int.dvd_of_emod_eq_zero h)⟩
  rcases hn with rfl | rfl
  all_goals
    generalize hQ : Fin _ _ = Q
    simp only [ir71, In.cells, w0, w1, w2, w3, w4, w5, w6, w7, w8, w9, w10, w11, w12, w13, w14, w15, w16, Nat.reduceAdd, Nat.reduceEqDiff, Nat.reduceLeDiff, Nat.reduceLT, Nat.reduceMul, Nat.add_zero, Nat.add_assoc, Nat.add_left_cancel_iff, Nat.reduceBEq, Int.reduceLT, Int.reduceLE, Int.reduceEq, Int.reduceAdd, Int.reduceSub, Int.cast_ofNat_Int, Int.reduceMul, Int.reduceMod, Int.reduceTMod, Int.reduceTDiv, Int.reduceNeg, Nat.reduceSub, Nat.reduceDiv, Nat.mul_one, Nat.one_mul, Int.lt_irrefl, decide_true, decide_false, reduceIte, reduceCtorEq, Nat.zero_add, Nat.le_refl, Nat.zero_le, and_self, and_true, true_and, List.length_cons, List.length_nil, List.drop_succ_cons, List.drop_zero, List.take_succ_cons, List.take_zero, List.getElem?_cons_succ, List.getElem?_cons_zero, List.cons_append, List.nil_append, List.append_nil, List.all_cons, List.all_nil, Bool.and_true, Nat.left_eq_add, Nat.add_eq_left, Nat.succ_ne_self, Bool.not_true, Bool.not_false, Option.some.injEq, exists_eq_left']
    refine goC_split (fun h => ?_) (fun h => ?_)
  all_goals (try simp only [h, go_loop, m4, d4, w0, w1, w2, w3, w4, w5, w6, w7, w8, w9, w10, w11, w12, w13, w14, w15, w16, Nat.reduceAdd, Nat.reduceEqDiff, Nat.reduceLeDiff, Nat.reduceLT, Nat.reduceMul, Nat.add_zero, Nat.add_assoc, Nat.add_left_cancel_iff, Nat.reduceBEq, Int.reduceLT, Int.reduceLE, Int.reduceEq, Int.reduceAdd, Int.reduceSub, Int.cast_ofNat_Int, Int.reduceMul, Int.reduceMod, Int.reduceTMod, Int.reduceTDiv, Int.reduceNeg, Nat.reduceSub, Nat.reduceDiv, Nat.mul_one, Nat.one_mul, Int.lt_irrefl, decide_true, decide_false, reduceIte, reduceCtorEq, Nat.zero_add, Nat.le_refl, Nat.zero_le, and_self, and_true, true_and, List.length_cons, List.length_nil, List.drop_succ_cons, List.drop_zero, List.take_succ_cons, List.take_zero, List.getElem?_cons_succ, List.getElem?_cons_zero, List.cons_append, List.nil_append, List.append_nil, List.all_cons, List.all_nil, Bool.and_true, Nat.left_eq_add, Nat.add_eq_left, Nat.succ_ne_self, Bool.not_true, Bool.not_false, Option.some.injEq, exists_eq_left'])
  all_goals repeat' ((first | refine goC_split (fun h => ?_) (fun h => ?_) | refine goG_split_t (fun h => ?_) (fun h => ?_) | refine goG_split_f (fun h => ?_) (fun h => ?_)) <;> (try simp only [Bool.not_eq_true', Bool.not_eq_false'] at h) <;> (try simp only [h, m4, d4, w0, w1, w2, w3, w4, w5, w6, w7, w8, w9, w10, w11, w12, w13, w14, w15, w16, Nat.reduceAdd, Nat.reduceEqDiff, Nat.reduceLeDiff, Nat.reduceLT, Nat.reduceMul, Nat.add_zero, Nat.add_assoc, Nat.add_left_cancel_iff, Nat.reduceBEq, Int.reduceLT, Int.reduceLE, Int.reduceEq, Int.reduceAdd, Int.reduceSub, Int.cast_ofNat_Int, Int.reduceMul, Int.reduceMod, Int.reduceTMod, Int.reduceTDiv, Int.reduceNeg, Nat.reduceSub, Nat.reduceDiv, Nat.mul_one, Nat.one_mul, Int.lt_irrefl, decide_true, decide_false, reduceIte, reduceCtorEq, Nat.zero_add, Nat.le_refl, Nat.zero_le, and_self, and_true, true_and, List.length_cons, List.length_nil, List.drop_succ_cons, List.drop_zero, List.take_succ_cons, List.take_zero, List.getElem?_cons_succ, List.getElem?_cons_zero, List.cons_append, List.nil_append, List.append_nil, List.all_cons, List.all_nil, Bool.and_true, Nat.left_eq_add, Nat.add_eq_left, Nat.succ_ne_self, Bool.not_true, Bool.not_false, Option.some.injEq, exists_eq_left']))
  all_goals subst hQ
  all_goals simp only [ir71, w0, w1, w2, w3, w4, w5, w6, w7, w8, w9, w10, w11, w12, w13, w14, w15, w16, Nat.reduceAdd, Nat.reduceEqDiff, Nat.reduceLeDiff, Nat.reduceLT, Nat.reduceMul, Nat.add_zero, Nat.add_assoc, Nat.add_left_cancel_iff, Nat.reduceBEq, Int.reduceLT, Int.reduceLE, Int.reduceEq, Int.reduceAdd, Int.reduceSub, Int.cast_ofNat_Int, Int.reduceMul, Int.reduceMod, Int.reduceTMod, Int.reduceTDiv, Int.reduceNeg, Nat.reduceSub, Nat.reduceDiv, Nat.mul_one, Nat.one_mul, Int.lt_irrefl, decide_true, decide_false, reduceIte, reduceCtorEq, Nat.zero_add, Nat.le_refl, Nat.zero_le, and_self, and_true, true_and, List.length_cons, List.length_nil, List.drop_succ_cons, List.drop_zero, List.take_succ_cons, List.take_zero, List.getElem?_cons_succ, List.getElem?_cons_zero, List.cons_append, List.nil_append, List.append_nil, List.all_cons, List.all_nil, Bool.and_true, Nat.left_eq_add, Nat.add_eq_left, Nat.succ_ne_self, Bool.not_true, Bool.not_false, Option.some.injEq, exists_eq_left']
  all_goals refine ⟨?_, by (repeat (first | exact Ext.refl hs | refine Ext.add ?_ _))⟩
  all_goals clear m4 d4
  all_goals clear hc hs
  all_goals simp only [withinRF, ← hq, ← hrz]
  all_goals simp_all
  all_goals omega
end
end Go.V
