/- inst's small functions. -/
import Derived.Test.YtpllnmhfcpnhnaaGreatDoorIsa2
set_option linter.unusedVariables false
set_option linter.unusedSimpArgs false
set_option linter.unusedSectionVars false
/- inst's small functions. -/
namespace Go.V
open Go
set_option linter.unusedSimpArgs false
set_option linter.unusedVariables false

-- coxless/bits.Fits
def ir141 : IFunc := ⟨48, [.tmp 8], (.seq (.region [⟨some 8, none, [], (.move (.c (.bool false)))⟩] false)
 (.seq (.seq (.region [⟨some 9, none, [], (.move (.t 1))⟩, ⟨some 10, none, [], (.bin .lss (.t 9) (.c (.int .i64 1)))⟩, ⟨some 11, none, [], (.move (.t 10))⟩, ⟨some 12, some (11, false), [], (.move (.t 1))⟩, ⟨some 13, some (11, false), [], (.bin .gtr (.t 12) (.c (.int .i64 32)))⟩, ⟨some 14, none, [], (.pick (.t 11) (.c (.bool true)) (.t 13))⟩, ⟨some 15, none, [], (.move (.t 14))⟩, ⟨some 16, some (15, false), [], (.move (.t 2))⟩, ⟨some 17, some (15, false), [], (.bin .lss (.t 16) (.c (.int .i64 0)))⟩, ⟨some 18, none, [], (.pick (.t 15) (.c (.bool true)) (.t 17))⟩, ⟨some 19, none, [], (.move (.t 18))⟩, ⟨some 20, some (19, false), [], (.move (.t 2))⟩, ⟨some 21, some (19, false), [], (.bin .gtr (.t 20) (.c (.int .i64 8)))⟩, ⟨some 22, none, [], (.pick (.t 19) (.c (.bool true)) (.t 21))⟩, ⟨some 23, none, [], (.move (.t 22))⟩, ⟨some 24, some (23, false), [], (.move (.t 0))⟩, ⟨some 25, some (23, false), [], (.move (.t 2))⟩, ⟨some 26, some (23, false), [], (.bin .shl (.c (.int .i64 1)) (.t 25))⟩, ⟨some 27, some (23, false), [], (.bin .sub (.t 26) (.c (.int .i64 1)))⟩, ⟨some 28, some (23, false), [], (.bin .and (.t 24) (.t 27))⟩, ⟨some 29, some (23, false), [], (.bin .neq (.t 28) (.c (.int .i64 0)))⟩, ⟨some 30, none, [], (.pick (.t 23) (.c (.bool true)) (.t 29))⟩] false)
 (.cond (.t 30) (.seq (.region [⟨some 8, none, [], (.move (.c (.bool false)))⟩] false)
 .ret) .skip))
 (.seq (.region [⟨some 31, none, [], (.move (.t 0))⟩, ⟨some 32, none, [], (.move (.t 2))⟩, ⟨some 33, none, [], (.bin .shr (.t 31) (.t 32))⟩, ⟨some 0, none, [], (.move (.t 33))⟩] false)
 (.seq (.seq (.region [⟨some 34, none, [], (.move (.t 3))⟩] false)
 (.cond (.t 34) (.region [⟨some 35, none, [], (.move (.t 0))⟩, ⟨some 36, none, [], (.move (.t 1))⟩, ⟨some 37, none, [], (.bin .sub (.t 36) (.c (.int .i64 1)))⟩, ⟨some 38, none, [], (.bin .shl (.c (.int .i64 1)) (.t 37))⟩, ⟨some 39, none, [], (.bin .add (.t 35) (.t 38))⟩, ⟨some 0, none, [], (.move (.t 39))⟩] false) .skip))
 (.seq (.region [⟨some 40, none, [], (.move (.t 0))⟩, ⟨some 41, none, [], (.bin .geq (.t 40) (.c (.int .i64 0)))⟩, ⟨some 42, none, [], (.move (.t 41))⟩, ⟨some 43, some (42, true), [], (.move (.t 0))⟩, ⟨some 44, some (42, true), [], (.move (.t 1))⟩, ⟨some 45, some (42, true), [], (.bin .shl (.c (.int .i64 1)) (.t 44))⟩, ⟨some 46, some (42, true), [], (.bin .lss (.t 43) (.t 45))⟩, ⟨some 47, none, [], (.pick (.t 42) (.t 46) (.c (.bool false)))⟩, ⟨some 8, none, [], (.move (.t 47))⟩] false)
 .ret)))))⟩
-- coxless/inst.without
def ir224 : IFunc := ⟨40, [.cell 4 true 11], (.seq (.region [⟨some 2, none, [], (.box (.t 0))⟩, ⟨some 3, none, [], (.box (.t 1))⟩, ⟨some 4, none, [], (.alloc [(.int .u8 0), (.int .u8 0), (.int .u8 0), (.int .u8 0), (.int .u8 0), (.int .u8 0), (.int .u8 0), (.bool false), (.bool false), (.int .u16 0), (.int .i64 0)])⟩] false)
 (.seq (.seq (.region [⟨some 5, none, [], (.fieldAddr 0 (.t 3))⟩, ⟨some 6, none, [], (.load false 1 (.t 5))⟩] false)
 (.block 0 (.seq (.region [⟨some 8, none, [], (.bin .eql (.t 6) (.c (.int .u8 1)))⟩, ⟨some 7, none, [], (.move (.t 8))⟩] false)
 (.cond (.t 7) (.region [⟨some 9, none, [], (.fieldAddr 6 (.t 2))⟩, ⟨none, none, [], (.store 1 (.t 9) (.c (.int .u8 0)))⟩] false) (.seq (.region [⟨some 11, none, [], (.bin .eql (.t 6) (.c (.int .u8 2)))⟩, ⟨some 10, none, [], (.move (.t 11))⟩] false)
 (.cond (.t 10) (.region [⟨some 12, none, [], (.fieldAddr 5 (.t 2))⟩, ⟨none, none, [], (.store 1 (.t 12) (.c (.int .u8 0)))⟩] false) (.seq (.seq (.region [⟨some 14, none, [], (.bin .eql (.t 6) (.c (.int .u8 3)))⟩, ⟨some 13, none, [], (.move (.t 14))⟩] false)
 (.cond (.t 13) .skip (.region [⟨some 15, none, [], (.bin .eql (.t 6) (.c (.int .u8 4)))⟩, ⟨some 13, none, [], (.move (.t 15))⟩] false)))
 (.cond (.t 13) (.region [⟨some 16, none, [], (.fieldAddr 1 (.t 2))⟩, ⟨none, none, [], (.store 1 (.t 16) (.c (.int .u8 0)))⟩] false) (.seq (.region [⟨some 18, none, [], (.bin .eql (.t 6) (.c (.int .u8 5)))⟩, ⟨some 17, none, [], (.move (.t 18))⟩] false)
 (.cond (.t 17) (.region [⟨some 19, none, [], (.fieldAddr 2 (.t 2))⟩, ⟨none, none, [], (.store 1 (.t 19) (.c (.int .u8 0)))⟩] false) (.seq (.region [⟨some 21, none, [], (.bin .eql (.t 6) (.c (.int .u8 6)))⟩, ⟨some 20, none, [], (.move (.t 21))⟩] false)
 (.cond (.t 20) (.region [⟨some 22, none, [], (.fieldAddr 3 (.t 2))⟩, ⟨none, none, [], (.store 1 (.t 22) (.c (.int .u8 0)))⟩] false) (.seq (.region [⟨some 24, none, [], (.bin .eql (.t 6) (.c (.int .u8 7)))⟩, ⟨some 23, none, [], (.move (.t 24))⟩] false)
 (.cond (.t 23) (.region [⟨some 25, none, [], (.fieldAddr 4 (.t 2))⟩, ⟨none, none, [], (.store 1 (.t 25) (.c (.int .u8 0)))⟩] false) (.seq (.region [⟨some 27, none, [], (.bin .eql (.t 6) (.c (.int .u8 8)))⟩, ⟨some 26, none, [], (.move (.t 27))⟩] false)
 (.cond (.t 26) (.region [⟨some 28, none, [], (.fieldAddr 7 (.t 2))⟩, ⟨none, none, [], (.store 1 (.t 28) (.c (.bool false)))⟩] false) (.seq (.seq (.region [⟨some 30, none, [], (.bin .eql (.t 6) (.c (.int .u8 9)))⟩, ⟨some 29, none, [], (.move (.t 30))⟩] false)
 (.cond (.t 29) .skip (.region [⟨some 31, none, [], (.bin .eql (.t 6) (.c (.int .u8 10)))⟩, ⟨some 29, none, [], (.move (.t 31))⟩] false)))
 (.cond (.t 29) (.region [⟨some 32, none, [], (.fieldAddr 10 (.t 2))⟩, ⟨none, none, [], (.store 1 (.t 32) (.c (.int .i64 0)))⟩] false) (.seq (.region [⟨some 34, none, [], (.bin .eql (.t 6) (.c (.int .u8 11)))⟩, ⟨some 33, none, [], (.move (.t 34))⟩] false)
 (.cond (.t 33) (.region [⟨some 35, none, [], (.fieldAddr 9 (.t 2))⟩, ⟨none, none, [], (.store 1 (.t 35) (.c (.int .u16 0)))⟩] false) .skip))))))))))))))))))))
 (.seq (.seq (.region [⟨some 36, none, [], (.fieldAddr 4 (.t 3))⟩, ⟨some 37, none, [], (.load false 1 (.t 36))⟩] false)
 (.cond (.t 37) (.region [⟨some 38, none, [], (.fieldAddr 8 (.t 2))⟩, ⟨none, none, [], (.store 1 (.t 38) (.c (.bool false)))⟩] false) .skip))
 (.seq (.region [⟨some 39, none, [], (.load true 11 (.t 2))⟩, ⟨none, none, [], (.store 11 (.t 4) (.t 39))⟩] false)
 .ret))))⟩
-- coxless/inst.holds
def ir225 : IFunc := ⟨84, [.tmp 4], (.seq (.region [⟨some 2, none, [], (.box (.t 0))⟩, ⟨some 3, none, [], (.box (.t 1))⟩, ⟨some 4, none, [], (.move (.c (.bool false)))⟩] false)
 (.seq (.seq (.region [⟨some 5, none, [], (.fieldAddr 0 (.t 3))⟩, ⟨some 6, none, [], (.load false 1 (.t 5))⟩] false)
 (.block 0 (.seq (.region [⟨some 8, none, [], (.bin .eql (.t 6) (.c (.int .u8 1)))⟩, ⟨some 7, none, [], (.move (.t 8))⟩] false)
 (.cond (.t 7) (.seq (.region [⟨some 9, none, [], (.fieldAddr 6 (.t 2))⟩, ⟨some 10, none, [], (.load false 1 (.t 9))⟩, ⟨some 11, none, [], (.bin .leq (.t 10) (.c (.int .u8 4)))⟩, ⟨some 4, none, [], (.move (.t 11))⟩] false)
 .ret) (.seq (.region [⟨some 13, none, [], (.bin .eql (.t 6) (.c (.int .u8 2)))⟩, ⟨some 12, none, [], (.move (.t 13))⟩] false)
 (.cond (.t 12) (.seq (.region [⟨some 14, none, [], (.fieldAddr 5 (.t 2))⟩, ⟨some 15, none, [], (.load false 1 (.t 14))⟩, ⟨some 16, none, [], (.bin .lss (.t 15) (.c (.int .u8 4)))⟩, ⟨some 4, none, [], (.move (.t 16))⟩] false)
 .ret) (.seq (.region [⟨some 18, none, [], (.bin .eql (.t 6) (.c (.int .u8 3)))⟩, ⟨some 17, none, [], (.move (.t 18))⟩] false)
 (.cond (.t 17) (.seq (.region [⟨some 19, none, [], (.fieldAddr 1 (.t 2))⟩, ⟨some 20, none, [], (.load false 1 (.t 19))⟩, ⟨some 21, none, [], (.bin .lss (.t 20) (.c (.int .u8 32)))⟩, ⟨some 4, none, [], (.move (.t 21))⟩] false)
 .ret) (.seq (.region [⟨some 23, none, [], (.bin .eql (.t 6) (.c (.int .u8 4)))⟩, ⟨some 22, none, [], (.move (.t 23))⟩] false)
 (.cond (.t 22) (.seq (.region [⟨some 24, none, [], (.fieldAddr 1 (.t 2))⟩, ⟨some 25, none, [], (.load false 1 (.t 24))⟩, ⟨some 26, none, [], (.bin .lss (.t 25) (.c (.int .u8 4)))⟩, ⟨some 4, none, [], (.move (.t 26))⟩] false)
 .ret) (.seq (.region [⟨some 28, none, [], (.bin .eql (.t 6) (.c (.int .u8 5)))⟩, ⟨some 27, none, [], (.move (.t 28))⟩] false)
 (.cond (.t 27) (.seq (.region [⟨some 29, none, [], (.fieldAddr 2 (.t 2))⟩, ⟨some 30, none, [], (.load false 1 (.t 29))⟩, ⟨some 31, none, [], (.bin .lss (.t 30) (.c (.int .u8 32)))⟩, ⟨some 4, none, [], (.move (.t 31))⟩] false)
 .ret) (.seq (.region [⟨some 33, none, [], (.bin .eql (.t 6) (.c (.int .u8 6)))⟩, ⟨some 32, none, [], (.move (.t 33))⟩] false)
 (.cond (.t 32) (.seq (.region [⟨some 34, none, [], (.fieldAddr 3 (.t 2))⟩, ⟨some 35, none, [], (.load false 1 (.t 34))⟩, ⟨some 36, none, [], (.bin .lss (.t 35) (.c (.int .u8 32)))⟩, ⟨some 4, none, [], (.move (.t 36))⟩] false)
 .ret) (.seq (.region [⟨some 38, none, [], (.bin .eql (.t 6) (.c (.int .u8 7)))⟩, ⟨some 37, none, [], (.move (.t 38))⟩] false)
 (.cond (.t 37) (.seq (.region [⟨some 39, none, [], (.fieldAddr 4 (.t 2))⟩, ⟨some 40, none, [], (.load false 1 (.t 39))⟩, ⟨some 41, none, [], (.bin .lss (.t 40) (.c (.int .u8 2)))⟩, ⟨some 4, none, [], (.move (.t 41))⟩] false)
 .ret) (.seq (.region [⟨some 43, none, [], (.bin .eql (.t 6) (.c (.int .u8 9)))⟩, ⟨some 42, none, [], (.move (.t 43))⟩] false)
 (.cond (.t 42) (.seq (.seq (.region [⟨some 44, none, [], (.fieldAddr 8 (.t 2))⟩, ⟨some 45, none, [], (.load false 1 (.t 44))⟩] false)
 (.cond (.t 45) (.seq (.region [⟨some 46, none, [], (.fieldAddr 10 (.t 2))⟩, ⟨some 47, none, [], (.load false 1 (.t 46))⟩, ⟨some 48, none, [], (.bin .geq (.t 47) (.c (.int .i64 (-2147483648))))⟩, ⟨some 49, none, [], (.move (.t 48))⟩, ⟨some 50, some (49, true), [], (.fieldAddr 10 (.t 2))⟩, ⟨some 51, some (49, true), [], (.load false 1 (.t 50))⟩, ⟨some 52, some (49, true), [], (.bin .leq (.t 51) (.c (.int .i64 2147483647)))⟩, ⟨some 53, none, [], (.pick (.t 49) (.t 52) (.c (.bool false)))⟩, ⟨some 4, none, [], (.move (.t 53))⟩] false)
 .ret) .skip))
 (.seq (.region [⟨some 54, none, [], (.fieldAddr 10 (.t 2))⟩, ⟨some 55, none, [], (.load false 1 (.t 54))⟩, ⟨some 56, none, [], (.fieldAddr 1 (.t 3))⟩, ⟨some 57, none, [], (.load false 1 (.t 56))⟩, ⟨some 58, none, [], (.fieldAddr 2 (.t 3))⟩, ⟨some 59, none, [], (.load false 1 (.t 58))⟩, ⟨some 60, none, [], (.fieldAddr 3 (.t 3))⟩, ⟨some 61, none, [], (.load false 1 (.t 60))⟩, ⟨some 62, none, [], (.call 141 [(.t 55), (.t 57), (.t 59), (.t 61)])⟩, ⟨some 4, none, [], (.move (.t 62))⟩] false)
 .ret)) (.seq (.region [⟨some 64, none, [], (.bin .eql (.t 6) (.c (.int .u8 10)))⟩, ⟨some 63, none, [], (.move (.t 64))⟩] false)
 (.cond (.t 63) (.seq (.region [⟨some 65, none, [], (.fieldAddr 10 (.t 2))⟩, ⟨some 66, none, [], (.load false 1 (.t 65))⟩, ⟨some 67, none, [], (.bin .geq (.t 66) (.c (.int .i64 0)))⟩, ⟨some 68, none, [], (.move (.t 67))⟩, ⟨some 69, some (68, true), [], (.fieldAddr 10 (.t 2))⟩, ⟨some 70, some (68, true), [], (.load false 1 (.t 69))⟩, ⟨some 71, some (68, true), [], (.bin .lss (.t 70) (.c (.int .i64 4294967296)))⟩, ⟨some 72, none, [], (.pick (.t 68) (.t 71) (.c (.bool false)))⟩, ⟨some 73, none, [], (.move (.t 72))⟩, ⟨some 74, some (73, true), [], (.fieldAddr 10 (.t 2))⟩, ⟨some 75, some (73, true), [], (.load false 1 (.t 74))⟩, ⟨some 76, some (73, true), [], (.bin .rem (.t 75) (.c (.int .i64 4)))⟩, ⟨some 77, some (73, true), [], (.bin .eql (.t 76) (.c (.int .i64 0)))⟩, ⟨some 78, none, [], (.pick (.t 73) (.t 77) (.c (.bool false)))⟩, ⟨some 4, none, [], (.move (.t 78))⟩] false)
 .ret) (.seq (.region [⟨some 80, none, [], (.bin .eql (.t 6) (.c (.int .u8 11)))⟩, ⟨some 79, none, [], (.move (.t 80))⟩] false)
 (.cond (.t 79) (.seq (.region [⟨some 81, none, [], (.fieldAddr 9 (.t 2))⟩, ⟨some 82, none, [], (.load false 1 (.t 81))⟩, ⟨some 83, none, [], (.bin .lss (.t 82) (.c (.int .u16 2048)))⟩, ⟨some 4, none, [], (.move (.t 83))⟩] false)
 .ret) .skip))))))))))))))))))))))
 (.seq (.region [⟨some 4, none, [], (.move (.c (.bool true)))⟩] false)
 .ret)))⟩
structure In where
  op : Int
  d : Int
  s : Int
  t : Int
  n : Int
  pred : Int
  mode : Int
  nw : Bool
  ext : Bool
  count : Int
  imm : Int
  deriving DecidableEq
def In.cells (i : In) : List AV := [.int .u8 i.op, .int .u8 i.d, .int .u8 i.s, .int .u8 i.t, .int .u8 i.n, .int .u8 i.pred, .int .u8 i.mode, .bool i.nw, .bool i.ext, .int .u16 i.count, .int .i64 i.imm]
def In.zero : In := ⟨0, 0, 0, 0, 0, 0, 0, false, false, 0, 0⟩

def fitsSpec (v n sc : Int) (sg : Bool) : Bool := decide (v % 2 ^ sc.toNat = 0) && (match sg with
  | true => decide (-(2 ^ (n - 1).toNat) ≤ v / 2 ^ sc.toNat) && decide (v / 2 ^ sc.toNat < 2 ^ (n - 1).toNat)
  | false => decide (0 ≤ v) && decide (v / 2 ^ sc.toNat < 2 ^ n.toNat))
def fitsKnown : List (Int × Int × Bool) := [(14, 0, true), (5, 0, false), (12, 0, true), (12, 1, true), (12, 2, true)]

def withoutSpec (i : In) (f : Fld) : In :=
  let j := if f.kind = 1 then { i with mode := 0 } else if f.kind = 2 then { i with pred := 0 } else if f.kind = 3 then { i with d := 0 } else if f.kind = 4 then { i with d := 0 }
    else if f.kind = 5 then { i with s := 0 } else if f.kind = 6 then { i with t := 0 } else if f.kind = 7 then { i with n := 0 } else if f.kind = 8 then { i with nw := false }
    else if f.kind = 9 then { i with imm := 0 } else if f.kind = 10 then { i with imm := 0 } else if f.kind = 11 then { i with count := 0 } else i
  if f.ext = true then { j with ext := false } else j
def holdsSpec (i : In) (f : Fld) : Bool :=
  if f.kind = 1 then decide (i.mode ≤ 4) else if f.kind = 2 then decide (i.pred < 4) else if f.kind = 3 then decide (i.d < 32) else if f.kind = 4 then decide (i.d < 4)
    else if f.kind = 5 then decide (i.s < 32) else if f.kind = 6 then decide (i.t < 32) else if f.kind = 7 then decide (i.n < 2)
    else if f.kind = 9 then (if i.ext = true then decide (-2147483648 ≤ i.imm) && decide (i.imm ≤ 2147483647) else fitsSpec i.imm f.bits f.shift f.signed)
    else if f.kind = 10 then decide (0 ≤ i.imm) && (decide (i.imm < 4294967296) && decide (i.imm % 4 = 0)) else if f.kind = 11 then decide (i.count < 2048) else true
section
variable {T : Tab}
theorem without_ran (hc : T 224 = some (.code ir224)) (s : St) (hs : WFS s) (i : In) (f : Fld) :
    Ran T 224 [.agg i.cells, .agg f.cells] s fun v s' => v = .agg (withoutSpec i f).cells ∧ Ext s s' := by
  refine ran_code hc (Nat.le_of_ble_eq_true rfl) ?_
  simp only [ir224, In.cells, Fld.cells, w0, w1, w2, w3, w4, w5, w6, w7, w8, w9, w10, w11, w12, w13, w14, w15, w16, Nat.reduceAdd, Nat.reduceEqDiff, Nat.reduceLeDiff, Nat.reduceLT, Nat.reduceMul, Nat.add_zero, Nat.add_assoc, Nat.add_left_cancel_iff, Nat.reduceBEq, Int.reduceLT, Int.reduceLE, Int.reduceEq, Int.reduceAdd, Int.reduceSub, Int.cast_ofNat_Int, Int.reduceMul, Int.reduceMod, Int.reduceTMod, Int.reduceTDiv, Int.reduceNeg, Nat.reduceSub, Nat.reduceDiv, Nat.mul_one, Nat.one_mul, Int.lt_irrefl, decide_true, decide_false, reduceIte, reduceCtorEq, Nat.zero_add, Nat.le_refl, Nat.zero_le, and_self, and_true, true_and, List.length_cons, List.length_nil, List.drop_succ_cons, List.drop_zero, List.take_succ_cons, List.take_zero, List.getElem?_cons_succ, List.getElem?_cons_zero, List.cons_append, List.nil_append, List.append_nil, List.all_cons, List.all_nil, Bool.and_true, Nat.left_eq_add, Nat.add_eq_left, Nat.succ_ne_self, Bool.not_true, Bool.not_false, Option.some.injEq, exists_eq_left']
  repeat' (first | refine goC_split (fun h => ?_) (fun h => ?_) | refine goG_split_t (fun h => ?_) (fun h => ?_) | refine goG_split_f (fun h => ?_) (fun h => ?_)) <;> (try simp only [Bool.not_eq_true', Bool.not_eq_false'] at h) <;> (try simp only [h, w0, w1, w2, w3, w4, w5, w6, w7, w8, w9, w10, w11, w12, w13, w14, w15, w16, Nat.reduceAdd, Nat.reduceEqDiff, Nat.reduceLeDiff, Nat.reduceLT, Nat.reduceMul, Nat.add_zero, Nat.add_assoc, Nat.add_left_cancel_iff, Nat.reduceBEq, Int.reduceLT, Int.reduceLE, Int.reduceEq, Int.reduceAdd, Int.reduceSub, Int.cast_ofNat_Int, Int.reduceMul, Int.reduceMod, Int.reduceTMod, Int.reduceTDiv, Int.reduceNeg, Nat.reduceSub, Nat.reduceDiv, Nat.mul_one, Nat.one_mul, Int.lt_irrefl, decide_true, decide_false, reduceIte, reduceCtorEq, Nat.zero_add, Nat.le_refl, Nat.zero_le, and_self, and_true, true_and, List.length_cons, List.length_nil, List.drop_succ_cons, List.drop_zero, List.take_succ_cons, List.take_zero, List.getElem?_cons_succ, List.getElem?_cons_zero, List.cons_append, List.nil_append, List.append_nil, List.all_cons, List.all_nil, Bool.and_true, Nat.left_eq_add, Nat.add_eq_left, Nat.succ_ne_self, Bool.not_true, Bool.not_false, Option.some.injEq, exists_eq_left'])
  all_goals refine ⟨?_, by (repeat (first | exact Ext.refl hs | refine Ext.add ?_ _))⟩
  all_goals simp_all [withoutSpec]
theorem fits_ran (hc : T 141 = some (.code ir141)) (s : St) (hs : WFS s) (v n sc : Int) (sg : Bool) (hk : (n, sc, sg) ∈ fitsKnown) (h1 : -9223372036854775808 ≤ v) (h2 : v ≤ 9223372036854775807) :
    Ran T 141 [.int .i64 v, .int .i64 n, .int .i64 sc, .bool sg] s fun r s' => r = .bool (fitsSpec v n sc sg) ∧ Ext s s' := by
  refine ran_code hc (Nat.le_of_ble_eq_true rfl) ?_
  have s0 : binV .shl (.int .i64 1) (.int .i64 0) = some (.int .i64 1) := rfl
  have s1 : binV .shl (.int .i64 1) (.int .i64 1) = some (.int .i64 2) := rfl
  have s2 : binV .shl (.int .i64 1) (.int .i64 2) = some (.int .i64 4) := rfl
  have s5 : binV .shl (.int .i64 1) (.int .i64 5) = some (.int .i64 32) := rfl
  have s11 : binV .shl (.int .i64 1) (.int .i64 11) = some (.int .i64 2048) := rfl
  have s12 : binV .shl (.int .i64 1) (.int .i64 12) = some (.int .i64 4096) := rfl
  have s13 : binV .shl (.int .i64 1) (.int .i64 13) = some (.int .i64 8192) := rfl
  have s14 : binV .shl (.int .i64 1) (.int .i64 14) = some (.int .i64 16384) := rfl
  have r0 : binV .shr (.int .i64 v) (.int .i64 0) = some (.int .i64 v) := by simp [binV, binInt, mkInt]
  have r1 : binV .shr (.int .i64 v) (.int .i64 1) = some (.int .i64 (v / 2)) := b_shr .i64 .i64 v 1
  have r2 : binV .shr (.int .i64 v) (.int .i64 2) = some (.int .i64 (v / 4)) := b_shr .i64 .i64 v 2
  have a0 : binV .and (.int .i64 v) (.int .i64 0) = some (.int .i64 0) := by have := b_mask v 0 (by omega); simpa [Int.emod_one] using this
  have a1 : binV .and (.int .i64 v) (.int .i64 1) = some (.int .i64 (v % 2)) := b_mask v 1 (by omega)
  have a3 : binV .and (.int .i64 v) (.int .i64 3) = some (.int .i64 (v % 4)) := b_mask v 2 (by omega)
  simp only [fitsKnown, List.mem_cons, Prod.mk.injEq, List.not_mem_nil, or_false] at hk
  rcases hk with ⟨rfl, rfl, rfl⟩ | ⟨rfl, rfl, rfl⟩ | ⟨rfl, rfl, rfl⟩ | ⟨rfl, rfl, rfl⟩ | ⟨rfl, rfl, rfl⟩
  all_goals simp only [ir141, s0, s1, s2, s5, s11, s12, s13, s14, r0, r1, r2, a0, a1, a3, wrap_i64, w0, w1, w2, w3, w4, w5, w6, w7, w8, w9, w10, w11, w12, w13, w14, w15, w16, Nat.reduceAdd, Nat.reduceEqDiff, Nat.reduceLeDiff, Nat.reduceLT, Nat.reduceMul, Nat.add_zero, Nat.add_assoc, Nat.add_left_cancel_iff, Nat.reduceBEq, Int.reduceLT, Int.reduceLE, Int.reduceEq, Int.reduceAdd, Int.reduceSub, Int.cast_ofNat_Int, Int.reduceMul, Int.reduceMod, Int.reduceTMod, Int.reduceTDiv, Int.reduceNeg, Nat.reduceSub, Nat.reduceDiv, Nat.mul_one, Nat.one_mul, Int.lt_irrefl, decide_true, decide_false, reduceIte, reduceCtorEq, Nat.zero_add, Nat.le_refl, Nat.zero_le, and_self, and_true, true_and, List.length_cons, List.length_nil, List.drop_succ_cons, List.drop_zero, List.take_succ_cons, List.take_zero, List.getElem?_cons_succ, List.getElem?_cons_zero, List.cons_append, List.nil_append, List.append_nil, List.all_cons, List.all_nil, Bool.and_true, Nat.left_eq_add, Nat.add_eq_left, Nat.succ_ne_self, Bool.not_true, Bool.not_false, Option.some.injEq, exists_eq_left']
  all_goals repeat' ((first | refine goC_split (fun h => ?_) (fun h => ?_) | refine goG_split_t (fun h => ?_) (fun h => ?_) | refine goG_split_f (fun h => ?_) (fun h => ?_)) <;> (try simp only [Bool.not_eq_true', Bool.not_eq_false'] at h) <;> (try simp only [h, s0, s1, s2, s5, s11, s12, s13, s14, r0, r1, r2, wrap_i64, w0, w1, w2, w3, w4, w5, w6, w7, w8, w9, w10, w11, w12, w13, w14, w15, w16, Nat.reduceAdd, Nat.reduceEqDiff, Nat.reduceLeDiff, Nat.reduceLT, Nat.reduceMul, Nat.add_zero, Nat.add_assoc, Nat.add_left_cancel_iff, Nat.reduceBEq, Int.reduceLT, Int.reduceLE, Int.reduceEq, Int.reduceAdd, Int.reduceSub, Int.cast_ofNat_Int, Int.reduceMul, Int.reduceMod, Int.reduceTMod, Int.reduceTDiv, Int.reduceNeg, Nat.reduceSub, Nat.reduceDiv, Nat.mul_one, Nat.one_mul, Int.lt_irrefl, decide_true, decide_false, reduceIte, reduceCtorEq, Nat.zero_add, Nat.le_refl, Nat.zero_le, and_self, and_true, true_and, List.length_cons, List.length_nil, List.drop_succ_cons, List.drop_zero, List.take_succ_cons, List.take_zero, List.getElem?_cons_succ, List.getElem?_cons_zero, List.cons_append, List.nil_append, List.append_nil, List.all_cons, List.all_nil, Bool.and_true, Nat.left_eq_add, Nat.add_eq_left, Nat.succ_ne_self, Bool.not_true, Bool.not_false, Option.some.injEq, exists_eq_left']))
  all_goals refine ⟨?_, by (repeat (first | exact Ext.refl hs | refine Ext.add ?_ _))⟩
  all_goals (try (rw [wrap_i64_up _ (by omega) (by omega)] at *))
  all_goals clear s0 s1 s2 s5 s11 s12 s13 s14 r0 r1 r2 a0 a1 a3
  all_goals congr 1
  all_goals rw [Bool.eq_iff_iff]
  all_goals simp [fitsSpec] at *
  all_goals omega
theorem holds_ran (hc : T 225 = some (.code ir225)) (hf : T 141 = some (.code ir141)) (s : St) (hs : WFS s) (i : In) (f : Fld) (hk : f.kind = 9 → (f.bits, f.shift, f.signed) ∈ fitsKnown) (h1 : -9223372036854775808 ≤ i.imm) (h2 : i.imm ≤ 9223372036854775807) :
    Ran T 225 [.agg i.cells, .agg f.cells] s fun v s' => v = .bool (holdsSpec i f) ∧ Ext s s' := by
  refine ran_code hc (Nat.le_of_ble_eq_true rfl) ?_
  have m4 : binV .rem (.int .i64 i.imm) (.int .i64 4) = some (.int .i64 (Int.tmod i.imm 4)) := by rw [b_rem, if_neg (by decide)]
  simp only [ir225, m4, In.cells, Fld.cells, w0, w1, w2, w3, w4, w5, w6, w7, w8, w9, w10, w11, w12, w13, w14, w15, w16, Nat.reduceAdd, Nat.reduceEqDiff, Nat.reduceLeDiff, Nat.reduceLT, Nat.reduceMul, Nat.add_zero, Nat.add_assoc, Nat.add_left_cancel_iff, Nat.reduceBEq, Int.reduceLT, Int.reduceLE, Int.reduceEq, Int.reduceAdd, Int.reduceSub, Int.cast_ofNat_Int, Int.reduceMul, Int.reduceMod, Int.reduceTMod, Int.reduceTDiv, Int.reduceNeg, Nat.reduceSub, Nat.reduceDiv, Nat.mul_one, Nat.one_mul, Int.lt_irrefl, decide_true, decide_false, reduceIte, reduceCtorEq, Nat.zero_add, Nat.le_refl, Nat.zero_le, and_self, and_true, true_and, List.length_cons, List.length_nil, List.drop_succ_cons, List.drop_zero, List.take_succ_cons, List.take_zero, List.getElem?_cons_succ, List.getElem?_cons_zero, List.cons_append, List.nil_append, List.append_nil, List.all_cons, List.all_nil, Bool.and_true, Nat.left_eq_add, Nat.add_eq_left, Nat.succ_ne_self, Bool.not_true, Bool.not_false, Option.some.injEq, exists_eq_left']
  repeat' ((first | refine goC_split (fun h => ?_) (fun h => ?_) | refine goG_split_t (fun h => ?_) (fun h => ?_) | refine goG_split_f (fun h => ?_) (fun h => ?_) | (refine goCall_by (fits_ran hf _ (by repeat (first | exact hs | refine WFS.add ?_ _)) _ _ _ _ (hk (by simp_all)) h1 h2) ?_; rintro v s' ⟨rfl, hx⟩; simp only [w0, w1, w2, w3, w4, w5, w6, w7, w8, w9, w10, w11, w12, w13, w14, w15, w16, Nat.reduceAdd, Nat.reduceEqDiff, Nat.reduceLeDiff, Nat.reduceLT, Nat.reduceMul, Nat.add_zero, Nat.add_assoc, Nat.add_left_cancel_iff, Nat.reduceBEq, Int.reduceLT, Int.reduceLE, Int.reduceEq, Int.reduceAdd, Int.reduceSub, Int.cast_ofNat_Int, Int.reduceMul, Int.reduceMod, Int.reduceTMod, Int.reduceTDiv, Int.reduceNeg, Nat.reduceSub, Nat.reduceDiv, Nat.mul_one, Nat.one_mul, Int.lt_irrefl, decide_true, decide_false, reduceIte, reduceCtorEq, Nat.zero_add, Nat.le_refl, Nat.zero_le, and_self, and_true, true_and, List.length_cons, List.length_nil, List.drop_succ_cons, List.drop_zero, List.take_succ_cons, List.take_zero, List.getElem?_cons_succ, List.getElem?_cons_zero, List.cons_append, List.nil_append, List.append_nil, List.all_cons, List.all_nil, Bool.and_true, Nat.left_eq_add, Nat.add_eq_left, Nat.succ_ne_self, Bool.not_true, Bool.not_false, Option.some.injEq, exists_eq_left'])) <;> (try simp only [Bool.not_eq_true', Bool.not_eq_false'] at h) <;> (try simp only [h, m4, w0, w1, w2, w3, w4, w5, w6, w7, w8, w9, w10, w11, w12, w13, w14, w15, w16, Nat.reduceAdd, Nat.reduceEqDiff, Nat.reduceLeDiff, Nat.reduceLT, Nat.reduceMul, Nat.add_zero, Nat.add_assoc, Nat.add_left_cancel_iff, Nat.reduceBEq, Int.reduceLT, Int.reduceLE, Int.reduceEq, Int.reduceAdd, Int.reduceSub, Int.cast_ofNat_Int, Int.reduceMul, Int.reduceMod, Int.reduceTMod, Int.reduceTDiv, Int.reduceNeg, Nat.reduceSub, Nat.reduceDiv, Nat.mul_one, Nat.one_mul, Int.lt_irrefl, decide_true, decide_false, reduceIte, reduceCtorEq, Nat.zero_add, Nat.le_refl, Nat.zero_le, and_self, and_true, true_and, List.length_cons, List.length_nil, List.drop_succ_cons, List.drop_zero, List.take_succ_cons, List.take_zero, List.getElem?_cons_succ, List.getElem?_cons_zero, List.cons_append, List.nil_append, List.append_nil, List.all_cons, List.all_nil, Bool.and_true, Nat.left_eq_add, Nat.add_eq_left, Nat.succ_ne_self, Bool.not_true, Bool.not_false, Option.some.injEq, exists_eq_left']))
  all_goals clear m4
  all_goals refine ⟨?_, by first | (refine Ext.trans ?_ (by assumption); (repeat (first | exact Ext.refl hs | refine Ext.add ?_ _))) | (repeat (first | exact Ext.refl hs | refine Ext.add ?_ _))⟩
  all_goals (try (have htm : 0 ≤ i.imm := by simp_all))
  all_goals (try rw [Int.tmod_eq_emod_of_nonneg htm])
  all_goals simp_all [holdsSpec]
  all_goals omega
end
end Go.V
