/- The rest of the tables of mem's functions. (Printed by mkmem2.py.) -/
import Derived.Test.YtlpdekocilhciaaMemTab
import Derived.Test.YtlpdekocilhciaaMA
set_option linter.unusedVariables false
set_option linter.unusedSimpArgs false
set_option linter.unusedSectionVars false
/- The rest of the tables of mem's functions. (Printed by mkmem2.py.) -/
/- The rest of the tables of mem's functions. (Printed by mkmem2.py.) -/
namespace Go.V
open Go
set_option linter.unusedSimpArgs false
set_option linter.unusedVariables false
-- coxless/coxlessref24.Get
def ir27 : IFunc := ⟨24, [.tmp 4], (.seq (.region [⟨some 4, none, [], (.move (.c (.int .u8 0)))⟩] false)
 (.seq (.seq (.region [⟨some 5, none, [], (.move (.c (.int .i64 0)))⟩] false)
 (.block 0 (.loop (.seq (.seq (.region [⟨some 6, none, [], (.move (.t 5))⟩, ⟨some 7, none, [], (.move (.t 0))⟩, ⟨some 8, none, [], (.lenSl (.t 7))⟩, ⟨some 9, none, [], (.bin .lss (.t 6) (.t 8))⟩] false)
 (.cond (.t 9) .skip (.exit 0)))
 (.seq (.block 1 (.seq (.region [⟨some 12, none, [], (.move (.t 0))⟩, ⟨some 13, none, [], (.move (.t 5))⟩, ⟨some 14, none, [], (.idxSl 2 (.t 12) (.t 13))⟩, ⟨some 15, none, [], (.fieldAddr 0 (.t 14))⟩, ⟨some 16, none, [], (.load false 1 (.t 15))⟩, ⟨some 17, none, [], (.move (.t 1))⟩, ⟨some 18, none, [], (.bin .eql (.t 16) (.t 17))⟩] false)
 (.cond (.t 18) (.seq (.region [⟨some 19, none, [], (.move (.t 0))⟩, ⟨some 20, none, [], (.move (.t 5))⟩, ⟨some 21, none, [], (.idxSl 2 (.t 19) (.t 20))⟩, ⟨some 22, none, [], (.fieldAddr 1 (.t 21))⟩, ⟨some 23, none, [], (.load false 1 (.t 22))⟩, ⟨some 4, none, [], (.move (.t 23))⟩] false)
 .ret) .skip)))
 (.region [⟨some 10, none, [], (.move (.t 5))⟩, ⟨some 11, none, [], (.bin .add (.t 10) (.c (.int .i64 1)))⟩, ⟨some 5, none, [], (.move (.t 11))⟩] false))))))
 (.seq (.region [⟨some 4, none, [], (.move (.c (.int .u8 0)))⟩] false)
 .ret)))⟩
-- coxless/coxlessref24.Put
def ir22 : IFunc := ⟨58, [.tmp 6], (.seq (.region [⟨some 6, none, [], (.move (.c .nilSlice))⟩] false)
 (.seq (.region [⟨some 7, none, [], (.move (.c .nilSlice))⟩] false)
 (.seq (.region [⟨some 10, none, [], (.move (.t 2))⟩, ⟨some 11, none, [], (.bin .eql (.t 10) (.c (.int .u8 0)))⟩, ⟨some 8, none, [], (.move (.t 11))⟩] false)
 (.seq (.seq (.region [⟨some 9, none, [], (.move (.c (.int .i64 0)))⟩] false)
 (.block 0 (.loop (.seq (.seq (.region [⟨some 12, none, [], (.move (.t 9))⟩, ⟨some 13, none, [], (.move (.t 0))⟩, ⟨some 14, none, [], (.lenSl (.t 13))⟩, ⟨some 15, none, [], (.bin .lss (.t 12) (.t 14))⟩] false)
 (.cond (.t 15) .skip (.exit 0)))
 (.seq (.block 1 (.seq (.seq (.region [⟨some 18, none, [], (.move (.t 8))⟩, ⟨some 19, none, [], (.un .not (.t 18))⟩, ⟨some 20, none, [], (.move (.t 19))⟩, ⟨some 21, some (20, true), [], (.move (.t 0))⟩, ⟨some 22, some (20, true), [], (.move (.t 9))⟩, ⟨some 23, some (20, true), [], (.idxSl 2 (.t 21) (.t 22))⟩, ⟨some 24, some (20, true), [], (.fieldAddr 0 (.t 23))⟩, ⟨some 25, some (20, true), [], (.load false 1 (.t 24))⟩, ⟨some 26, some (20, true), [], (.move (.t 1))⟩, ⟨some 27, some (20, true), [], (.bin .gtr (.t 25) (.t 26))⟩, ⟨some 28, none, [], (.pick (.t 20) (.t 27) (.c (.bool false)))⟩] false)
 (.cond (.t 28) (.seq (.region [⟨some 29, none, [], (.move (.t 7))⟩, ⟨some 30, none, [], (.move (.t 1))⟩, ⟨some 31, none, [], (.move (.t 2))⟩, ⟨some 32, none, [], (.build [(.int .u32 0), (.int .u8 0)] [(0, 1, (.t 30)), (1, 1, (.t 31))])⟩, ⟨some 33, none, [], (.buildSlice 1 2 [(.int .u32 0), (.int .u8 0)] [(0, 2, (.t 32))])⟩, ⟨some 34, none, [], (.append 2 8 (.t 29) (.t 33))⟩, ⟨some 7, none, [], (.move (.t 34))⟩] false)
 (.region [⟨some 8, none, [], (.move (.c (.bool true)))⟩] false)) .skip))
 (.seq (.region [⟨some 35, none, [], (.move (.t 0))⟩, ⟨some 36, none, [], (.move (.t 9))⟩, ⟨some 37, none, [], (.idxSl 2 (.t 35) (.t 36))⟩, ⟨some 38, none, [], (.fieldAddr 0 (.t 37))⟩, ⟨some 39, none, [], (.load false 1 (.t 38))⟩, ⟨some 40, none, [], (.move (.t 1))⟩, ⟨some 41, none, [], (.bin .neq (.t 39) (.t 40))⟩] false)
 (.cond (.t 41) (.region [⟨some 42, none, [], (.move (.t 7))⟩, ⟨some 43, none, [], (.move (.t 0))⟩, ⟨some 44, none, [], (.move (.t 9))⟩, ⟨some 45, none, [], (.idxSl 2 (.t 43) (.t 44))⟩, ⟨some 46, none, [], (.load true 2 (.t 45))⟩, ⟨some 47, none, [], (.buildSlice 1 2 [(.int .u32 0), (.int .u8 0)] [(0, 2, (.t 46))])⟩, ⟨some 48, none, [], (.append 2 8 (.t 42) (.t 47))⟩, ⟨some 7, none, [], (.move (.t 48))⟩] false) .skip))))
 (.region [⟨some 16, none, [], (.move (.t 9))⟩, ⟨some 17, none, [], (.bin .add (.t 16) (.c (.int .i64 1)))⟩, ⟨some 9, none, [], (.move (.t 17))⟩] false))))))
 (.seq (.seq (.region [⟨some 49, none, [], (.move (.t 8))⟩, ⟨some 50, none, [], (.un .not (.t 49))⟩] false)
 (.cond (.t 50) (.region [⟨some 51, none, [], (.move (.t 7))⟩, ⟨some 52, none, [], (.move (.t 1))⟩, ⟨some 53, none, [], (.move (.t 2))⟩, ⟨some 54, none, [], (.build [(.int .u32 0), (.int .u8 0)] [(0, 1, (.t 52)), (1, 1, (.t 53))])⟩, ⟨some 55, none, [], (.buildSlice 1 2 [(.int .u32 0), (.int .u8 0)] [(0, 2, (.t 54))])⟩, ⟨some 56, none, [], (.append 2 8 (.t 51) (.t 55))⟩, ⟨some 7, none, [], (.move (.t 56))⟩] false) .skip))
 (.seq (.region [⟨some 57, none, [], (.move (.t 7))⟩, ⟨some 6, none, [], (.move (.t 57))⟩] false)
 .ret))))))⟩
-- coxless/coxlessref24.Right
def ir20 : IFunc := ⟨25, [.tmp 4], (.seq (.region [⟨some 4, none, [], (.move (.c (.bool false)))⟩] false)
 (.seq (.region [⟨some 5, none, [], (.move (.t 1))⟩, ⟨some 6, none, [], (.bin .eql (.t 5) (.c (.int .i64 1)))⟩, ⟨some 7, none, [], (.move (.t 6))⟩, ⟨some 8, some (7, false), [], (.move (.t 1))⟩, ⟨some 9, some (7, false), [], (.bin .eql (.t 8) (.c (.int .i64 2)))⟩, ⟨some 10, some (7, false), [], (.move (.t 9))⟩, ⟨some 11, some (10, true), [], (.move (.t 0))⟩, ⟨some 12, some (10, true), [], (.bin .rem (.t 11) (.c (.int .u32 2)))⟩, ⟨some 13, some (10, true), [], (.bin .eql (.t 12) (.c (.int .u32 0)))⟩, ⟨some 14, some (7, false), [], (.pick (.t 10) (.t 13) (.c (.bool false)))⟩, ⟨some 15, none, [], (.pick (.t 7) (.c (.bool true)) (.t 14))⟩, ⟨some 16, none, [], (.move (.t 15))⟩, ⟨some 17, some (16, false), [], (.move (.t 1))⟩, ⟨some 18, some (16, false), [], (.bin .eql (.t 17) (.c (.int .i64 4)))⟩, ⟨some 19, some (16, false), [], (.move (.t 18))⟩, ⟨some 20, some (19, true), [], (.move (.t 0))⟩, ⟨some 21, some (19, true), [], (.bin .rem (.t 20) (.c (.int .u32 4)))⟩, ⟨some 22, some (19, true), [], (.bin .eql (.t 21) (.c (.int .u32 0)))⟩, ⟨some 23, some (16, false), [], (.pick (.t 19) (.t 22) (.c (.bool false)))⟩, ⟨some 24, none, [], (.pick (.t 16) (.c (.bool true)) (.t 23))⟩, ⟨some 4, none, [], (.move (.t 24))⟩] false)
 .ret))⟩
-- coxless/coxlessref24.Word
def ir24 : IFunc := ⟨26, [.tmp 6], (.seq (.region [⟨some 6, none, [], (.move (.c (.int .u32 0)))⟩] false)
 (.seq (.region [⟨some 7, none, [], (.move (.c (.int .u32 0)))⟩] false)
 (.seq (.seq (.region [⟨some 9, none, [], (.move (.t 2))⟩, ⟨some 10, none, [], (.bin .sub (.t 9) (.c (.int .i64 1)))⟩, ⟨some 8, none, [], (.move (.t 10))⟩] false)
 (.block 0 (.loop (.seq (.seq (.region [⟨some 11, none, [], (.move (.t 8))⟩, ⟨some 12, none, [], (.bin .geq (.t 11) (.c (.int .i64 0)))⟩] false)
 (.cond (.t 12) .skip (.exit 0)))
 (.seq (.block 1 (.region [⟨some 15, none, [], (.move (.t 7))⟩, ⟨some 16, none, [], (.bin .mul (.c (.int .u32 256)) (.t 15))⟩, ⟨some 17, none, [], (.move (.t 0))⟩, ⟨some 18, none, [], (.move (.t 1))⟩, ⟨some 19, none, [], (.move (.t 8))⟩, ⟨some 20, none, [], (.conv (.intInt .u32) (.t 19))⟩, ⟨some 21, none, [], (.bin .add (.t 18) (.t 20))⟩, ⟨some 22, none, [], (.call 27 [(.t 17), (.t 21)])⟩, ⟨some 23, none, [], (.conv (.intInt .u32) (.t 22))⟩, ⟨some 24, none, [], (.bin .add (.t 16) (.t 23))⟩, ⟨some 7, none, [], (.move (.t 24))⟩] false))
 (.region [⟨some 13, none, [], (.move (.t 8))⟩, ⟨some 14, none, [], (.bin .sub (.t 13) (.c (.int .i64 1)))⟩, ⟨some 8, none, [], (.move (.t 14))⟩] false))))))
 (.seq (.region [⟨some 25, none, [], (.move (.t 7))⟩, ⟨some 6, none, [], (.move (.t 25))⟩] false)
 .ret))))⟩
-- coxless/coxlessref24.Store
def ir23 : IFunc := ⟨27, [.tmp 8], (.seq (.region [⟨some 8, none, [], (.move (.c .nilSlice))⟩] false)
 (.seq (.seq (.region [⟨some 9, none, [], (.move (.c (.int .i64 0)))⟩] false)
 (.block 0 (.loop (.seq (.seq (.region [⟨some 10, none, [], (.move (.t 9))⟩, ⟨some 11, none, [], (.move (.t 2))⟩, ⟨some 12, none, [], (.bin .lss (.t 10) (.t 11))⟩] false)
 (.cond (.t 12) .skip (.exit 0)))
 (.seq (.block 1 (.seq (.region [⟨some 15, none, [], (.move (.t 0))⟩, ⟨some 16, none, [], (.move (.t 1))⟩, ⟨some 17, none, [], (.move (.t 9))⟩, ⟨some 18, none, [], (.conv (.intInt .u32) (.t 17))⟩, ⟨some 19, none, [], (.bin .add (.t 16) (.t 18))⟩, ⟨some 20, none, [], (.move (.t 3))⟩, ⟨some 21, none, [], (.bin .rem (.t 20) (.c (.int .u32 256)))⟩, ⟨some 22, none, [], (.conv (.intInt .u8) (.t 21))⟩, ⟨some 23, none, [], (.call 22 [(.t 15), (.t 19), (.t 22)])⟩, ⟨some 0, none, [], (.move (.t 23))⟩] false)
 (.region [⟨some 24, none, [], (.move (.t 3))⟩, ⟨some 25, none, [], (.bin .quo (.t 24) (.c (.int .u32 256)))⟩, ⟨some 3, none, [], (.move (.t 25))⟩] false)))
 (.region [⟨some 13, none, [], (.move (.t 9))⟩, ⟨some 14, none, [], (.bin .add (.t 13) (.c (.int .i64 1)))⟩, ⟨some 9, none, [], (.move (.t 14))⟩] false))))))
 (.seq (.region [⟨some 26, none, [], (.move (.t 0))⟩, ⟨some 8, none, [], (.move (.t 26))⟩] false)
 .ret)))⟩
-- coxless/coxlesslaw24.Great
def ir18 : IFunc := ⟨20, [.tmp 2], (.seq (.region [⟨some 2, none, [], (.move (.c (.bool false)))⟩] false)
 (.seq (.seq (.region [⟨some 4, none, [], (.move (.t 0))⟩, ⟨some 5, none, [], (.lenSl (.t 4))⟩, ⟨some 6, none, [], (.bin .gtr (.t 5) (.c (.int .i64 60)))⟩] false)
 (.cond (.t 6) (.seq (.region [⟨some 2, none, [], (.move (.c (.bool true)))⟩] false)
 .ret) .skip))
 (.seq (.seq (.region [⟨some 3, none, [], (.move (.c (.int .i64 0)))⟩] false)
 (.block 0 (.loop (.seq (.seq (.region [⟨some 7, none, [], (.move (.t 3))⟩, ⟨some 8, none, [], (.move (.t 0))⟩, ⟨some 9, none, [], (.lenSl (.t 8))⟩, ⟨some 10, none, [], (.bin .lss (.t 7) (.t 9))⟩] false)
 (.cond (.t 10) .skip (.exit 0)))
 (.seq (.block 1 (.seq (.region [⟨some 13, none, [], (.move (.t 0))⟩, ⟨some 14, none, [], (.move (.t 3))⟩, ⟨some 15, none, [], (.idxSl 5 (.t 13) (.t 14))⟩, ⟨some 16, none, [], (.fieldAddr 4 (.t 15))⟩, ⟨some 17, none, [], (.load false 1 (.t 16))⟩, ⟨some 18, none, [], (.lenStr (.t 17))⟩, ⟨some 19, none, [], (.bin .gtr (.t 18) (.c (.int .i64 60)))⟩] false)
 (.cond (.t 19) (.seq (.region [⟨some 2, none, [], (.move (.c (.bool true)))⟩] false)
 .ret) .skip)))
 (.region [⟨some 11, none, [], (.move (.t 3))⟩, ⟨some 12, none, [], (.bin .add (.t 11) (.c (.int .i64 1)))⟩, ⟨some 3, none, [], (.move (.t 12))⟩] false))))))
 (.seq (.region [⟨some 2, none, [], (.move (.c (.bool false)))⟩] false)
 .ret))))⟩
-- coxless/coxlesslaw24.done
def ir33 : IFunc := ⟨46, [], (.seq (.region [⟨some 4, none, [], (.move (.c (.int .i64 0)))⟩] false)
 (.block 0 (.loop (.seq (.seq (.region [⟨some 6, none, [], (.move (.t 4))⟩, ⟨some 7, none, [], (.move (.t 1))⟩, ⟨some 8, none, [], (.lenSl (.t 7))⟩, ⟨some 9, none, [], (.bin .lss (.t 6) (.t 8))⟩] false)
 (.cond (.t 9) .skip (.exit 0)))
 (.seq (.block 1 (.seq (.region [⟨some 12, none, [], (.move (.t 1))⟩, ⟨some 13, none, [], (.move (.t 4))⟩, ⟨some 14, none, [], (.idxSl 5 (.t 12) (.t 13))⟩, ⟨some 15, none, [], (.load true 5 (.t 14))⟩, ⟨some 5, none, [], (.alloc [(.int .u8 0), (.int .u32 0), (.int .i64 0), (.int .u32 0), (.str [])])⟩, ⟨none, none, [], (.store 5 (.t 5) (.t 15))⟩] false)
 (.seq (.region [⟨some 16, none, [], (.fieldAddr 0 (.t 5))⟩, ⟨some 17, none, [], (.load false 1 (.t 16))⟩] false)
 (.block 2 (.seq (.region [⟨some 19, none, [], (.bin .eql (.t 17) (.c (.int .u8 0)))⟩, ⟨some 18, none, [], (.move (.t 19))⟩] false)
 (.cond (.t 18) (.region [⟨some 20, none, [], (.move (.t 0))⟩, ⟨some 21, none, [], (.fieldAddr 1 (.t 5))⟩, ⟨some 22, none, [], (.load false 1 (.t 21))⟩, ⟨some 23, none, [], (.fieldAddr 3 (.t 5))⟩, ⟨some 24, none, [], (.load false 1 (.t 23))⟩, ⟨some 25, none, [], (.conv (.intInt .u8) (.t 24))⟩, ⟨some 26, none, [], (.call 21 [(.t 20), (.t 22), (.t 25)])⟩] false) (.seq (.region [⟨some 28, none, [], (.bin .eql (.t 17) (.c (.int .u8 1)))⟩, ⟨some 27, none, [], (.move (.t 28))⟩] false)
 (.cond (.t 27) (.region [⟨some 29, none, [], (.move (.t 0))⟩, ⟨some 30, none, [], (.fieldAddr 1 (.t 5))⟩, ⟨some 31, none, [], (.load false 1 (.t 30))⟩, ⟨some 32, none, [], (.fieldAddr 2 (.t 5))⟩, ⟨some 33, none, [], (.load false 1 (.t 32))⟩, ⟨some 34, none, [], (.fieldAddr 3 (.t 5))⟩, ⟨some 35, none, [], (.load false 1 (.t 34))⟩, ⟨some 36, none, [], (.call 16 [(.t 29), (.t 31), (.t 33), (.t 35)])⟩] false) (.seq (.region [⟨some 38, none, [], (.bin .eql (.t 17) (.c (.int .u8 3)))⟩, ⟨some 37, none, [], (.move (.t 38))⟩] false)
 (.cond (.t 37) (.region [⟨some 39, none, [], (.move (.t 0))⟩, ⟨some 40, none, [], (.fieldAddr 1 (.t 5))⟩, ⟨some 41, none, [], (.load false 1 (.t 40))⟩, ⟨some 42, none, [], (.fieldAddr 4 (.t 5))⟩, ⟨some 43, none, [], (.load false 1 (.t 42))⟩, ⟨some 44, none, [], (.conv .strBytes (.t 43))⟩, ⟨some 45, none, [], (.call 25 [(.t 39), (.t 41), (.t 44)])⟩] false) .skip))))))))))
 (.region [⟨some 10, none, [], (.move (.t 4))⟩, ⟨some 11, none, [], (.bin .add (.t 10) (.c (.int .i64 1)))⟩, ⟨some 4, none, [], (.move (.t 11))⟩] false))))))⟩

def mem2Code : List (Nat × FnImp) := [(27, .code ir27), (22, .code ir22), (20, .code ir20), (24, .code ir24), (23, .code ir23), (18, .code ir18), (33, .code ir33)]
end Go.V
/- mem: Same, Cells, Copy; the document's functions. -/
namespace Go.V
open Go
set_option linter.unusedSimpArgs false
set_option linter.unusedVariables false
open Go.V.KU
abbrev memFl0 : ICode := (.loop (.seq (.seq (.region [⟨some 12, none, [], (.move (.t 6))⟩, ⟨some 13, none, [], (.move (.t 3))⟩, ⟨some 14, none, [], (.lenSl (.t 13))⟩, ⟨some 15, none, [], (.bin .lss (.t 12) (.t 14))⟩, ⟨some 16, none, [], (.move (.t 15))⟩, ⟨some 17, some (16, true), [], (.move (.t 6))⟩, ⟨some 18, some (16, true), [], (.move (.t 4))⟩, ⟨some 19, some (16, true), [], (.lenSl (.t 18))⟩, ⟨some 20, some (16, true), [], (.bin .lss (.t 17) (.t 19))⟩, ⟨some 21, none, [], (.pick (.t 16) (.t 20) (.c (.bool false)))⟩] false)
 (.cond (.t 21) .skip (.exit 0)))
 (.seq (.block 1 (.region [⟨some 24, none, [], (.move (.t 5))⟩, ⟨some 25, none, [], (.move (.t 3))⟩, ⟨some 26, none, [], (.move (.t 6))⟩, ⟨some 27, none, [], (.idxSl 1 (.t 25) (.t 26))⟩, ⟨some 28, none, [], (.load false 1 (.t 27))⟩, ⟨some 29, none, [], (.move (.t 4))⟩, ⟨some 30, none, [], (.move (.t 6))⟩, ⟨some 31, none, [], (.idxSl 1 (.t 29) (.t 30))⟩, ⟨some 32, none, [], (.load false 1 (.t 31))⟩, ⟨some 33, none, [], (.build [(.int .u32 0), (.int .u8 0)] [(0, 1, (.t 28)), (1, 1, (.t 32))])⟩, ⟨some 34, none, [], (.buildSlice 1 2 [(.int .u32 0), (.int .u8 0)] [(0, 2, (.t 33))])⟩, ⟨some 35, none, [], (.append 2 8 (.t 24) (.t 34))⟩, ⟨some 5, none, [], (.move (.t 35))⟩] true))
 (.region [⟨some 22, none, [], (.move (.t 6))⟩, ⟨some 23, none, [], (.bin .add (.t 22) (.c (.int .i64 1)))⟩, ⟨some 6, none, [], (.move (.t 23))⟩] false))))
abbrev memFq1 : Fr := .seq (.seq (.region [⟨some 36, none, [], (.move (.t 5))⟩, ⟨some 2, none, [], (.move (.t 36))⟩] false)
 .ret)
def encP (p : Pr) : List AV := [.int .u32 (p.1 : Int), .int .u8 (p.2 : Int)]
def encW (W : List Pr) : List AV := W.flatMap encP
theorem encW_snoc (W : List Pr) (p : Pr) : encW W ++ [.int .u32 (p.1 : Int), .int .u8 (p.2 : Int)] = encW (W ++ [p]) := by
  unfold encW; rw [List.flatMap_append]; rfl
theorem pairs_len (L : List ME) : (pairs L).length = L.length := by unfold pairs; rw [List.length_map, skeys_len]
theorem Slc.lenEq {b : Nat} {s : St} {es n m : Nat} {v : AV} {xs : List AV} (h : Slc b s es n v xs) (e : n = m) : Slc b s es m v xs := e ▸ h
structure PartsTab (T : Tab) : Prop where
  p : T 30 = some (.code ir30)
  k : T 59 = some (.code ir59)
  s : T 58 = some (.hook (sortedH 1000000000 82))
  e1 : T 61 = some (.code ir61)
  e2 : T 62 = some (.code ir62)
  m : T 32 = some (.code ir32)
  c : T 29 = some (.code ir29)
  y : T 31 = some (.code ir31)
  cl : T 60 = some (.code ir60)
  ce : T 83 = some (.ext .mapsClone)
section
variable {T : Tab}
set_option maxHeartbeats 4000000 in
theorem same_ran (hT : PartsTab T) {s : St} {pa ra pb rb : Nat} {La Lb : List ME} {ca cb : Nat} (ha : MemAt s pa ra La ca) (hb : MemAt s pb rb Lb cb) (hca : ca ≤ 100000) (hcb : cb ≤ 100000) :
    Ran T 32 [mptr pa, mptr pb] s fun v s' => Ext s s' ∧ v = .bool (decide (pairs La = pairs Lb)) := by
  have hla := ha.ok.len
  have hlb := hb.ok.len
  refine ran_code hT.m (Nat.le_of_ble_eq_true rfl) ?_
  generalize hQ : Fin _ _ = Q
  simp only [ir32, wk, wk1, wk2, Option.some.injEq, exists_eq_left', decide_true, decide_false, Nat.reduceAdd, Nat.reduceEqDiff, Nat.reduceLeDiff, Nat.reduceLT, Nat.reduceMul, Nat.reduceBEq, Int.reduceLT, Int.reduceLE, Int.reduceEq, Int.reduceAdd, Int.reduceSub, Int.reduceMul, Int.reduceMod, Int.reduceTMod, Int.reduceTDiv, Int.reduceNeg, Nat.reduceSub, Nat.reduceDiv, reduceIte, reduceCtorEq]
  refine goCall_by (parts_ran hT.p hT.k hT.s ha hca) ?_
  rintro _ s1 ⟨hE1, x, p, rfl, hx, hp⟩
  simp only [wk, wk1, wk2, Option.some.injEq, exists_eq_left', decide_true, decide_false, Nat.reduceAdd, Nat.reduceEqDiff, Nat.reduceLeDiff, Nat.reduceLT, Nat.reduceMul, Nat.reduceBEq, Int.reduceLT, Int.reduceLE, Int.reduceEq, Int.reduceAdd, Int.reduceSub, Int.reduceMul, Int.reduceMod, Int.reduceTMod, Int.reduceTDiv, Int.reduceNeg, Nat.reduceSub, Nat.reduceDiv, reduceIte, reduceCtorEq]
  refine goCall_by (parts_ran hT.p hT.k hT.s (hb.ext hE1) hcb) ?_
  rintro _ s2 ⟨hE2, y, q, rfl, hy, hq⟩
  simp only [wk, wk1, wk2, Option.some.injEq, exists_eq_left', decide_true, decide_false, Nat.reduceAdd, Nat.reduceEqDiff, Nat.reduceLeDiff, Nat.reduceLT, Nat.reduceMul, Nat.reduceBEq, Int.reduceLT, Int.reduceLE, Int.reduceEq, Int.reduceAdd, Int.reduceSub, Int.reduceMul, Int.reduceMod, Int.reduceTMod, Int.reduceTDiv, Int.reduceNeg, Nat.reduceSub, Nat.reduceDiv, reduceIte, reduceCtorEq]
  have hx' : Slc s.next s2 1 (skeys La).length x ((skeys La).map fun k : Nat => .int .u32 (k : Int)) := (hx.ext hE2).lenEq (skeys_len La).symm
  have hy' : Slc s1.next s2 1 (skeys Lb).length y ((skeys Lb).map fun k : Nat => .int .u32 (k : Int)) := hy.lenEq (skeys_len Lb).symm
  have hp' : Slc s.next s2 1 ((skeys La).map (mget La)).length p (((skeys La).map (mget La)).map fun k : Nat => .int .u8 (k : Int)) := by
    rw [List.map_map]; exact (hp.ext hE2).lenEq (by rw [List.length_map, skeys_len])
  have hq' : Slc s1.next s2 1 ((skeys Lb).map (mget Lb)).length q (((skeys Lb).map (mget Lb)).map fun k : Nat => .int .u8 (k : Int)) := by
    rw [List.map_map]; exact hq.lenEq (by rw [List.length_map, skeys_len])
  have l1 := skeys_len La
  have l2 := skeys_len Lb
  refine goCall_by (eqU_ran hT.e1 hx' hy' (by omega) (by omega)) ?_
  rintro _ s3 ⟨rfl, rfl⟩
  by_cases h1 : skeys La = skeys Lb
  · simp only [h1, wk, wk1, wk2, Option.some.injEq, exists_eq_left', decide_true, decide_false, Nat.reduceAdd, Nat.reduceEqDiff, Nat.reduceLeDiff, Nat.reduceLT, Nat.reduceMul, Nat.reduceBEq, Int.reduceLT, Int.reduceLE, Int.reduceEq, Int.reduceAdd, Int.reduceSub, Int.reduceMul, Int.reduceMod, Int.reduceTMod, Int.reduceTDiv, Int.reduceNeg, Nat.reduceSub, Nat.reduceDiv, reduceIte, reduceCtorEq]
    rw [h1] at hp'
    refine goCall_by (eqB_ran hT.e2 hp' hq' (by rw [List.length_map]; omega) (by rw [List.length_map]; omega)) ?_
    rintro _ s3 ⟨rfl, rfl⟩
    subst hQ
    simp only [ir32, wk, wk1, wk2, Option.some.injEq, exists_eq_left', decide_true, decide_false, Nat.reduceAdd, Nat.reduceEqDiff, Nat.reduceLeDiff, Nat.reduceLT, Nat.reduceMul, Nat.reduceBEq, Int.reduceLT, Int.reduceLE, Int.reduceEq, Int.reduceAdd, Int.reduceSub, Int.reduceMul, Int.reduceMod, Int.reduceTMod, Int.reduceTDiv, Int.reduceNeg, Nat.reduceSub, Nat.reduceDiv, reduceIte, reduceCtorEq]
    refine ⟨hE1.trans hE2, ?_⟩
    congr 1
    rw [decide_eq_decide, pairs_split, h1]
    simp
  · have hne : ¬ pairs La = pairs Lb := fun e => h1 ((pairs_split La Lb).1 e).1
    simp only [h1, wk, wk1, wk2, Option.some.injEq, exists_eq_left', decide_true, decide_false, Nat.reduceAdd, Nat.reduceEqDiff, Nat.reduceLeDiff, Nat.reduceLT, Nat.reduceMul, Nat.reduceBEq, Int.reduceLT, Int.reduceLE, Int.reduceEq, Int.reduceAdd, Int.reduceSub, Int.reduceMul, Int.reduceMod, Int.reduceTMod, Int.reduceTDiv, Int.reduceNeg, Nat.reduceSub, Nat.reduceDiv, reduceIte, reduceCtorEq]
    subst hQ
    simp only [ir32, hne, wk, wk1, wk2, Option.some.injEq, exists_eq_left', decide_true, decide_false, Nat.reduceAdd, Nat.reduceEqDiff, Nat.reduceLeDiff, Nat.reduceLT, Nat.reduceMul, Nat.reduceBEq, Int.reduceLT, Int.reduceLE, Int.reduceEq, Int.reduceAdd, Int.reduceSub, Int.reduceMul, Int.reduceMod, Int.reduceTMod, Int.reduceTDiv, Int.reduceNeg, Nat.reduceSub, Nat.reduceDiv, reduceIte, reduceCtorEq]
    exact hE1.trans hE2
set_option maxHeartbeats 4000000 in
theorem cells_loop {Q : Post} {s1 : St} {b : Nat} {L : List ME} {x y : AV} (hl : L.length ≤ 100000) (hx : Slc b s1 1 L.length x (kcells L)) (hy : Slc b s1 1 L.length y (bcells L))
    (K : ∀ (e : Env) (s : St) (v : AV), opd e (.t 5) = v → Slc s1.next s 2 L.length v (encW (pairs L)) → Ext s1 s → Ret T Q [memFq1] .normal e s) :
    ∀ (m i : Nat) (e : Env) (s : St) (v : AV), m + i = L.length → Ext s1 s → Slc s1.next s 2 i v (encW ((pairs L).take i)) → opd e (.t 3) = x → opd e (.t 4) = y → opd e (.t 5) = v → opd e (.t 6) = .int .i64 (i : Int) →
      Go T Q (memFl0) [.block 0, memFq1] e s := by
  have hpl := pairs_len L
  intro m
  induction m with
  | zero =>
    intro i e s v hm hE hv h3 h4 h5 h6
    have hin : i = L.length := by omega
    subst hin
    rw [List.take_of_length_le (by omega)] at hv
    have hK := fun e => K e s v
    rw [go_loop]
    generalize ([memFq1] : List Fr) = FF at *
    rcases hx.len with ⟨hz, a, rfl⟩ | ⟨rfl, hl0⟩
    · simp only [h3, h6, wk, wk1, wk2, Option.some.injEq, exists_eq_left', decide_true, decide_false, Nat.reduceAdd, Nat.reduceEqDiff, Nat.reduceLeDiff, Nat.reduceLT, Nat.reduceMul, Nat.reduceBEq, Int.reduceLT, Int.reduceLE, Int.reduceEq, Int.reduceAdd, Int.reduceSub, Int.reduceMul, Int.reduceMod, Int.reduceTMod, Int.reduceTDiv, Int.reduceNeg, Nat.reduceSub, Nat.reduceDiv, reduceIte, reduceCtorEq]
      refine hK _ ?_ hv hE
      simp only [h5, wk, wk1, wk2, Option.some.injEq, exists_eq_left', decide_true, decide_false, Nat.reduceAdd, Nat.reduceEqDiff, Nat.reduceLeDiff, Nat.reduceLT, Nat.reduceMul, Nat.reduceBEq, Int.reduceLT, Int.reduceLE, Int.reduceEq, Int.reduceAdd, Int.reduceSub, Int.reduceMul, Int.reduceMod, Int.reduceTMod, Int.reduceTDiv, Int.reduceNeg, Nat.reduceSub, Nat.reduceDiv, reduceIte, reduceCtorEq]
    · simp only [h3, h6, hl0, wk, wk1, wk2, Option.some.injEq, exists_eq_left', decide_true, decide_false, Nat.reduceAdd, Nat.reduceEqDiff, Nat.reduceLeDiff, Nat.reduceLT, Nat.reduceMul, Nat.reduceBEq, Int.reduceLT, Int.reduceLE, Int.reduceEq, Int.reduceAdd, Int.reduceSub, Int.reduceMul, Int.reduceMod, Int.reduceTMod, Int.reduceTDiv, Int.reduceNeg, Nat.reduceSub, Nat.reduceDiv, reduceIte, reduceCtorEq]
      refine hK _ ?_ hv hE
      simp only [h5, wk, wk1, wk2, Option.some.injEq, exists_eq_left', decide_true, decide_false, Nat.reduceAdd, Nat.reduceEqDiff, Nat.reduceLeDiff, Nat.reduceLT, Nat.reduceMul, Nat.reduceBEq, Int.reduceLT, Int.reduceLE, Int.reduceEq, Int.reduceAdd, Int.reduceSub, Int.reduceMul, Int.reduceMod, Int.reduceTMod, Int.reduceTDiv, Int.reduceNeg, Nat.reduceSub, Nat.reduceDiv, reduceIte, reduceCtorEq]
  | succ m ih =>
    intro i e s v hm hE hv h3 h4 h5 h6
    have hi : i < L.length := by omega
    obtain ⟨_, ⟨hn0, _⟩ | ⟨hn0, id, inc, rfl, _, hlt, hrow⟩⟩ := hx
    · omega
    obtain ⟨_, ⟨hn0, _⟩ | ⟨hn0, id2, inc2, rfl, _, hlt2, hrow2⟩⟩ := hy
    · omega
    have hrow : s.heap.get id = some (.cells (kcells L) 0 inc false) := by rw [hE.2.2 id hlt]; exact hrow
    have hrow2 : s.heap.get id2 = some (.cells (bcells L) 0 inc2 false) := by rw [hE.2.2 id2 hlt2]; exact hrow2
    obtain ⟨u, hu⟩ : ∃ x, (skeys L)[i]? = some x := ⟨_, List.getElem?_eq_getElem (by rw [skeys_len]; exact hi)⟩
    have hld : List.take 1 (List.drop i (kcells L)) = [.int .u32 (u : Int)] := take_map _ i u hu
    have hld2 : List.take 1 (List.drop i (bcells L)) = [.int .u8 (mget L u : Int)] := take_map (f := fun k : Nat => AV.int .u8 (mget L k : Int)) _ i u hu
    have hc : (i : Int) < (L.length : Int) := by omega
    have hi1 : i + 1 ≤ L.length := hi
    have u5 : wrapF .i64 ((i : Int) + 1) = ((i + 1 : Nat) : Int) := i64_add1 (by omega)
    obtain ⟨v', s', hap, hv', hE'⟩ := hv.app hE (more := [.int .u32 (u : Int), .int .u8 (mget L u : Int)]) rfl rfl (by omega) (by omega)
    have htk : encW ((pairs L).take i) ++ [.int .u32 (u : Int), .int .u8 (mget L u : Int)] = encW ((pairs L).take (i + 1)) := by
      rw [encW_snoc _ (u, mget L u), List.take_add_one]
      unfold pairs
      rw [List.getElem?_map, hu]
      rfl
    rw [htk] at hv'
    rw [go_loop]
    simp only [h3, h4, h5, h6, hc, hi, hi1, hrow, hrow2, hld, hld2, hap, u5, Nat.mul_one, wk, wk1, wk2, Option.some.injEq, exists_eq_left', decide_true, decide_false, Nat.reduceAdd, Nat.reduceEqDiff, Nat.reduceLeDiff, Nat.reduceLT, Nat.reduceMul, Nat.reduceBEq, Int.reduceLT, Int.reduceLE, Int.reduceEq, Int.reduceAdd, Int.reduceSub, Int.reduceMul, Int.reduceMod, Int.reduceTMod, Int.reduceTDiv, Int.reduceNeg, Nat.reduceSub, Nat.reduceDiv, reduceIte, reduceCtorEq]
    refine ih (i + 1) _ s' v' (by omega) hE' hv' ?_ ?_ ?_ ?_ <;> simp only [h3, h4, h5, h6, u5, wk, wk1, Nat.reduceEqDiff, reduceIte, decide_true]
set_option maxHeartbeats 4000000 in
theorem cells_ran (hT : PartsTab T) {s : St} {pm r : Nat} {L : List ME} {c : Nat} (h : MemAt s pm r L c) (hcl : c ≤ 100000) :
    Ran T 29 [mptr pm] s fun v s' => Ext s s' ∧ Slc s.next s' 2 L.length v (encW (pairs L)) := by
  have hla := h.ok.len
  refine ran_code hT.c (Nat.le_of_ble_eq_true rfl) ?_
  generalize hQ : Fin _ _ = Q
  simp only [ir29, wk, wk1, wk2, Option.some.injEq, exists_eq_left', decide_true, decide_false, Nat.reduceAdd, Nat.reduceEqDiff, Nat.reduceLeDiff, Nat.reduceLT, Nat.reduceMul, Nat.reduceBEq, Int.reduceLT, Int.reduceLE, Int.reduceEq, Int.reduceAdd, Int.reduceSub, Int.reduceMul, Int.reduceMod, Int.reduceTMod, Int.reduceTDiv, Int.reduceNeg, Nat.reduceSub, Nat.reduceDiv, reduceIte, reduceCtorEq]
  refine goCall_by (parts_ran hT.p hT.k hT.s h hcl) ?_
  rintro _ s1 ⟨hE1, x, p, rfl, hx, hp⟩
  simp only [wk, wk1, wk2, Option.some.injEq, exists_eq_left', decide_true, decide_false, Nat.reduceAdd, Nat.reduceEqDiff, Nat.reduceLeDiff, Nat.reduceLT, Nat.reduceMul, Nat.reduceBEq, Int.reduceLT, Int.reduceLE, Int.reduceEq, Int.reduceAdd, Int.reduceSub, Int.reduceMul, Int.reduceMod, Int.reduceTMod, Int.reduceTDiv, Int.reduceNeg, Nat.reduceSub, Nat.reduceDiv, reduceIte, reduceCtorEq]
  refine cells_loop (L := L) (by omega) hx hp ?_ L.length 0 _ s1 .nilSlice (by omega) (Ext.refl hE1.1) (Slc.nil _ _ _) ?_ ?_ ?_ ?_
  · intro e s2 w h5 hw hE2
    simp only [h5, wk, wk1, wk2, Option.some.injEq, exists_eq_left', decide_true, decide_false, Nat.reduceAdd, Nat.reduceEqDiff, Nat.reduceLeDiff, Nat.reduceLT, Nat.reduceMul, Nat.reduceBEq, Int.reduceLT, Int.reduceLE, Int.reduceEq, Int.reduceAdd, Int.reduceSub, Int.reduceMul, Int.reduceMod, Int.reduceTMod, Int.reduceTDiv, Int.reduceNeg, Nat.reduceSub, Nat.reduceDiv, reduceIte, reduceCtorEq]
    subst hQ
    simp only [ir29, h5, wk, wk1, wk2, Option.some.injEq, exists_eq_left', decide_true, decide_false, Nat.reduceAdd, Nat.reduceEqDiff, Nat.reduceLeDiff, Nat.reduceLT, Nat.reduceMul, Nat.reduceBEq, Int.reduceLT, Int.reduceLE, Int.reduceEq, Int.reduceAdd, Int.reduceSub, Int.reduceMul, Int.reduceMod, Int.reduceTMod, Int.reduceTDiv, Int.reduceNeg, Nat.reduceSub, Nat.reduceDiv, reduceIte, reduceCtorEq]
    exact ⟨hE1.trans hE2, hw.mono hE1.2.1⟩
  all_goals (try simp only [wk, wk1, Nat.reduceEqDiff, reduceIte, decide_true])
  all_goals rfl
end
end Go.V
/- mem: Copy; the document's functions over the small language. -/
namespace Go.V
open Go
set_option linter.unusedSimpArgs false
set_option linter.unusedVariables false
open Go.V.KU
abbrev memGl0 : ICode := (.loop (.seq (.seq (.region [⟨some 6, none, [], (.move (.t 5))⟩, ⟨some 7, none, [], (.move (.t 0))⟩, ⟨some 8, none, [], (.lenSl (.t 7))⟩, ⟨some 9, none, [], (.bin .lss (.t 6) (.t 8))⟩] false)
 (.cond (.t 9) .skip (.exit 0)))
 (.seq (.block 1 (.seq (.region [⟨some 12, none, [], (.move (.t 0))⟩, ⟨some 13, none, [], (.move (.t 5))⟩, ⟨some 14, none, [], (.idxSl 2 (.t 12) (.t 13))⟩, ⟨some 15, none, [], (.fieldAddr 0 (.t 14))⟩, ⟨some 16, none, [], (.load false 1 (.t 15))⟩, ⟨some 17, none, [], (.move (.t 1))⟩, ⟨some 18, none, [], (.bin .eql (.t 16) (.t 17))⟩] false)
 (.cond (.t 18) (.seq (.region [⟨some 19, none, [], (.move (.t 0))⟩, ⟨some 20, none, [], (.move (.t 5))⟩, ⟨some 21, none, [], (.idxSl 2 (.t 19) (.t 20))⟩, ⟨some 22, none, [], (.fieldAddr 1 (.t 21))⟩, ⟨some 23, none, [], (.load false 1 (.t 22))⟩, ⟨some 4, none, [], (.move (.t 23))⟩] false)
 .ret) .skip)))
 (.region [⟨some 10, none, [], (.move (.t 5))⟩, ⟨some 11, none, [], (.bin .add (.t 10) (.c (.int .i64 1)))⟩, ⟨some 5, none, [], (.move (.t 11))⟩] false))))
abbrev memGl1 : ICode := (.loop (.seq (.seq (.region [⟨some 12, none, [], (.move (.t 9))⟩, ⟨some 13, none, [], (.move (.t 0))⟩, ⟨some 14, none, [], (.lenSl (.t 13))⟩, ⟨some 15, none, [], (.bin .lss (.t 12) (.t 14))⟩] false)
 (.cond (.t 15) .skip (.exit 0)))
 (.seq (.block 1 (.seq (.seq (.region [⟨some 18, none, [], (.move (.t 8))⟩, ⟨some 19, none, [], (.un .not (.t 18))⟩, ⟨some 20, none, [], (.move (.t 19))⟩, ⟨some 21, some (20, true), [], (.move (.t 0))⟩, ⟨some 22, some (20, true), [], (.move (.t 9))⟩, ⟨some 23, some (20, true), [], (.idxSl 2 (.t 21) (.t 22))⟩, ⟨some 24, some (20, true), [], (.fieldAddr 0 (.t 23))⟩, ⟨some 25, some (20, true), [], (.load false 1 (.t 24))⟩, ⟨some 26, some (20, true), [], (.move (.t 1))⟩, ⟨some 27, some (20, true), [], (.bin .gtr (.t 25) (.t 26))⟩, ⟨some 28, none, [], (.pick (.t 20) (.t 27) (.c (.bool false)))⟩] false)
 (.cond (.t 28) (.seq (.region [⟨some 29, none, [], (.move (.t 7))⟩, ⟨some 30, none, [], (.move (.t 1))⟩, ⟨some 31, none, [], (.move (.t 2))⟩, ⟨some 32, none, [], (.build [(.int .u32 0), (.int .u8 0)] [(0, 1, (.t 30)), (1, 1, (.t 31))])⟩, ⟨some 33, none, [], (.buildSlice 1 2 [(.int .u32 0), (.int .u8 0)] [(0, 2, (.t 32))])⟩, ⟨some 34, none, [], (.append 2 8 (.t 29) (.t 33))⟩, ⟨some 7, none, [], (.move (.t 34))⟩] false)
 (.region [⟨some 8, none, [], (.move (.c (.bool true)))⟩] false)) .skip))
 (.seq (.region [⟨some 35, none, [], (.move (.t 0))⟩, ⟨some 36, none, [], (.move (.t 9))⟩, ⟨some 37, none, [], (.idxSl 2 (.t 35) (.t 36))⟩, ⟨some 38, none, [], (.fieldAddr 0 (.t 37))⟩, ⟨some 39, none, [], (.load false 1 (.t 38))⟩, ⟨some 40, none, [], (.move (.t 1))⟩, ⟨some 41, none, [], (.bin .neq (.t 39) (.t 40))⟩] false)
 (.cond (.t 41) (.region [⟨some 42, none, [], (.move (.t 7))⟩, ⟨some 43, none, [], (.move (.t 0))⟩, ⟨some 44, none, [], (.move (.t 9))⟩, ⟨some 45, none, [], (.idxSl 2 (.t 43) (.t 44))⟩, ⟨some 46, none, [], (.load true 2 (.t 45))⟩, ⟨some 47, none, [], (.buildSlice 1 2 [(.int .u32 0), (.int .u8 0)] [(0, 2, (.t 46))])⟩, ⟨some 48, none, [], (.append 2 8 (.t 42) (.t 47))⟩, ⟨some 7, none, [], (.move (.t 48))⟩] false) .skip))))
 (.region [⟨some 16, none, [], (.move (.t 9))⟩, ⟨some 17, none, [], (.bin .add (.t 16) (.c (.int .i64 1)))⟩, ⟨some 9, none, [], (.move (.t 17))⟩] false))))
abbrev memGq2 : Fr := .seq (.seq (.seq (.region [⟨some 49, none, [], (.move (.t 8))⟩, ⟨some 50, none, [], (.un .not (.t 49))⟩] false)
 (.cond (.t 50) (.region [⟨some 51, none, [], (.move (.t 7))⟩, ⟨some 52, none, [], (.move (.t 1))⟩, ⟨some 53, none, [], (.move (.t 2))⟩, ⟨some 54, none, [], (.build [(.int .u32 0), (.int .u8 0)] [(0, 1, (.t 52)), (1, 1, (.t 53))])⟩, ⟨some 55, none, [], (.buildSlice 1 2 [(.int .u32 0), (.int .u8 0)] [(0, 2, (.t 54))])⟩, ⟨some 56, none, [], (.append 2 8 (.t 51) (.t 55))⟩, ⟨some 7, none, [], (.move (.t 56))⟩] false) .skip))
 (.seq (.region [⟨some 57, none, [], (.move (.t 7))⟩, ⟨some 6, none, [], (.move (.t 57))⟩] false)
 .ret))
section
variable {T : Tab}
theorem clone_ran (hT : PartsTab T) {s : St} {r : Nat} {es : List AEntry} {c : Nat} (h : s.heap.get r = some (.map es c)) :
    Ran T 60 [.map r] s fun v s' => v = .map s.next ∧ s' = s.add (.map es c) := by
  refine ran_code hT.cl (Nat.le_of_ble_eq_true rfl) ?_
  generalize hQ : Fin _ _ = Q
  simp only [ir60, eqV, nilEq, wk, wk1, wk2, Option.some.injEq, exists_eq_left', decide_true, decide_false, Nat.reduceAdd, Nat.reduceEqDiff, Nat.reduceLeDiff, Nat.reduceLT, Nat.reduceMul, Nat.reduceBEq, Int.reduceLT, Int.reduceLE, Int.reduceEq, Int.reduceAdd, Int.reduceSub, Int.reduceMul, Int.reduceMod, Int.reduceTMod, Int.reduceTDiv, Int.reduceNeg, Nat.reduceSub, Nat.reduceDiv, reduceIte, reduceCtorEq]
  refine goCall_by (ran_ext (K := fun v s' => v = .iface 65 (.map s.next) ∧ s' = s.add (.map es c)) hT.ce (by simp only [extV, h]) ⟨rfl, rfl⟩) ?_
  rintro _ _ ⟨rfl, rfl⟩
  simp only [wk, wk1, wk2, Option.some.injEq, exists_eq_left', decide_true, decide_false, Nat.reduceAdd, Nat.reduceEqDiff, Nat.reduceLeDiff, Nat.reduceLT, Nat.reduceMul, Nat.reduceBEq, Int.reduceLT, Int.reduceLE, Int.reduceEq, Int.reduceAdd, Int.reduceSub, Int.reduceMul, Int.reduceMod, Int.reduceTMod, Int.reduceTDiv, Int.reduceNeg, Nat.reduceSub, Nat.reduceDiv, reduceIte, reduceCtorEq]
  subst hQ
  simp only [ir60, wk, wk1, wk2, Option.some.injEq, exists_eq_left', decide_true, decide_false, Nat.reduceAdd, Nat.reduceEqDiff, Nat.reduceLeDiff, Nat.reduceLT, Nat.reduceMul, Nat.reduceBEq, Int.reduceLT, Int.reduceLE, Int.reduceEq, Int.reduceAdd, Int.reduceSub, Int.reduceMul, Int.reduceMod, Int.reduceTMod, Int.reduceTDiv, Int.reduceNeg, Nat.reduceSub, Nat.reduceDiv, reduceIte, reduceCtorEq]
theorem copy_ran (hT : PartsTab T) {s : St} {pm r : Nat} {L : List ME} {c : Nat} (h : MemAt s pm r L c) :
    Ran T 31 [mptr pm] s fun v s' => ∃ pm' r', v = mptr pm' ∧ s.next ≤ pm' ∧ s.next ≤ r' ∧ MemAt s' pm' r' L c ∧ Ext s s' := by
  have hb := h.box
  refine ran_code hT.y (Nat.le_of_ble_eq_true rfl) ?_
  generalize hQ : Fin _ _ = Q
  simp only [ir31, hb, eqV, nilEq, wk, wk1, wk2, Option.some.injEq, exists_eq_left', decide_true, decide_false, Nat.reduceAdd, Nat.reduceEqDiff, Nat.reduceLeDiff, Nat.reduceLT, Nat.reduceMul, Nat.reduceBEq, Int.reduceLT, Int.reduceLE, Int.reduceEq, Int.reduceAdd, Int.reduceSub, Int.reduceMul, Int.reduceMod, Int.reduceTMod, Int.reduceTDiv, Int.reduceNeg, Nat.reduceSub, Nat.reduceDiv, reduceIte, reduceCtorEq]
  refine goCall_by (clone_ran hT h.map) ?_
  rintro _ _ ⟨rfl, rfl⟩
  simp only [wk, wk1, wk2, Option.some.injEq, exists_eq_left', decide_true, decide_false, Nat.reduceAdd, Nat.reduceEqDiff, Nat.reduceLeDiff, Nat.reduceLT, Nat.reduceMul, Nat.reduceBEq, Int.reduceLT, Int.reduceLE, Int.reduceEq, Int.reduceAdd, Int.reduceSub, Int.reduceMul, Int.reduceMod, Int.reduceTMod, Int.reduceTDiv, Int.reduceNeg, Nat.reduceSub, Nat.reduceDiv, reduceIte, reduceCtorEq]
  subst hQ
  simp only [ir31, wk, wk1, wk2, Option.some.injEq, exists_eq_left', decide_true, decide_false, Nat.reduceAdd, Nat.reduceEqDiff, Nat.reduceLeDiff, Nat.reduceLT, Nat.reduceMul, Nat.reduceBEq, Int.reduceLT, Int.reduceLE, Int.reduceEq, Int.reduceAdd, Int.reduceSub, Int.reduceMul, Int.reduceMod, Int.reduceTMod, Int.reduceTDiv, Int.reduceNeg, Nat.reduceSub, Nat.reduceDiv, reduceIte, reduceCtorEq]
  refine ⟨s.next + 1, s.next, rfl, by omega, by omega, ⟨?_, ?_, h.ok, ?_, ?_, (h.wfs.add _).add _⟩, (Ext.add (Ext.add (Ext.refl h.wfs) _) _)⟩
  all_goals simp only [wk, wk1, Nat.reduceEqDiff, reduceIte, decide_true]
  all_goals first | rfl | omega

theorem ew0 (W : List Pr) (i : Nat) (p : Pr) (h : W[i]? = some p) : List.take 2 (List.drop (i * 2) (encW W)) = [.int .u32 (p.1 : Int), .int .u8 (p.2 : Int)] :=
  take_cell (f := encP) (fun _ => rfl) W i p h
theorem ew1 (W : List Pr) (i : Nat) (p : Pr) (h : W[i]? = some p) : List.take 1 (List.drop (i * 2) (encW W)) = [.int .u32 (p.1 : Int)] := by
  have := congrArg (List.take 1) (ew0 W i p h)
  rw [List.take_take] at this
  exact this
theorem ew2 (W : List Pr) (i : Nat) (p : Pr) (h : W[i]? = some p) : List.take 1 (List.drop (i * 2 + 1) (encW W)) = [.int .u8 (p.2 : Int)] := by
  have := congrArg (List.drop 1) (ew0 W i p h)
  rw [List.drop_take, List.drop_drop] at this
  exact this
set_option maxHeartbeats 4000000 in
theorem rget_loop {Q : Post} {s : St} {b : Nat} {W : List Pr} {x : AV} (k : Nat) (hl : W.length ≤ 200000) (hx : Slc b s 2 W.length x (encW W))
    (K0 : wget W k = 0 → ∀ e : Env, Ret T Q [.seq (.seq (.region [⟨some 4, none, [], (.move (.c (.int .u8 0)))⟩] false)
 .ret)] .normal e s)
    (K1 : ∀ e : Env, opd e (.t 4) = .int .u8 (wget W k : Int) → Ret T Q [.seq (.seq (.region [⟨some 4, none, [], (.move (.c (.int .u8 0)))⟩] false)
 .ret)] .ret e s) :
    ∀ (m i : Nat) (e : Env), m + i = W.length → wget (W.drop i) k = wget W k → opd e (.t 0) = x → opd e (.t 1) = .int .u32 (k : Int) → opd e (.t 5) = .int .i64 (i : Int) →
      Go T Q (memGl0) [.block 0, .seq (.seq (.region [⟨some 4, none, [], (.move (.c (.int .u8 0)))⟩] false)
 .ret)] e s := by
  intro m
  induction m with
  | zero =>
    intro i e hm hg h0 h1 h5
    have hin : i = W.length := by omega
    subst hin
    rw [List.drop_length] at hg
    have hK := K0 hg.symm
    rw [go_loop]
    generalize ([.seq (.seq (.region [⟨some 4, none, [], (.move (.c (.int .u8 0)))⟩] false)
 .ret)] : List Fr) = FF at *
    rcases hx.len with ⟨hz, a, rfl⟩ | ⟨rfl, hl0⟩
    · simp only [h0, h5, hK, wk, wk1, wk2, Option.some.injEq, exists_eq_left', decide_true, decide_false, Nat.reduceAdd, Nat.reduceEqDiff, Nat.reduceLeDiff, Nat.reduceLT, Nat.reduceMul, Nat.reduceBEq, Int.reduceLT, Int.reduceLE, Int.reduceEq, Int.reduceAdd, Int.reduceSub, Int.reduceMul, Int.reduceMod, Int.reduceTMod, Int.reduceTDiv, Int.reduceNeg, Nat.reduceSub, Nat.reduceDiv, reduceIte, reduceCtorEq]
    · simp only [h0, h5, hl0, hK, wk, wk1, wk2, Option.some.injEq, exists_eq_left', decide_true, decide_false, Nat.reduceAdd, Nat.reduceEqDiff, Nat.reduceLeDiff, Nat.reduceLT, Nat.reduceMul, Nat.reduceBEq, Int.reduceLT, Int.reduceLE, Int.reduceEq, Int.reduceAdd, Int.reduceSub, Int.reduceMul, Int.reduceMod, Int.reduceTMod, Int.reduceTDiv, Int.reduceNeg, Nat.reduceSub, Nat.reduceDiv, reduceIte, reduceCtorEq]
  | succ m ih =>
    intro i e hm hg h0 h1 h5
    have hi : i < W.length := by omega
    obtain ⟨_, ⟨hn0, _⟩ | ⟨hn0, id, inc, rfl, _, hlt, hrow⟩⟩ := hx
    · omega
    obtain ⟨p, hp⟩ : ∃ x, W[i]? = some x := ⟨_, List.getElem?_eq_getElem hi⟩
    have hd : W.drop i = p :: W.drop (i + 1) := by
      rw [List.drop_eq_getElem_cons hi]
      rw [List.getElem?_eq_getElem hi] at hp
      rw [Option.some.inj hp]
    rw [hd] at hg
    simp only [wget] at hg
    have hld := ew1 W i p hp
    have hld2 := ew2 W i p hp
    have hc : (i : Int) < (W.length : Int) := by omega
    have hi1 : i * 2 + 1 ≤ W.length * 2 := by omega
    have hi2 : i * 2 + 2 ≤ W.length * 2 := by omega
    have u5 : wrapF .i64 ((i : Int) + 1) = ((i + 1 : Nat) : Int) := i64_add1 (by omega)
    rw [go_loop]
    by_cases hk : p.1 = k
    · rw [if_pos hk] at hg
      have hk' : (p.1 : Int) = (k : Int) := by omega
      rw [← hg] at K1
      generalize ([.seq (.seq (.region [⟨some 4, none, [], (.move (.c (.int .u8 0)))⟩] false)
 .ret)] : List Fr) = FF at *
      simp only [h0, h1, h5, hc, hi, hi1, hi2, hrow, hld, hld2, hk', u5, wk, wk1, wk2, Option.some.injEq, exists_eq_left', decide_true, decide_false, Nat.reduceAdd, Nat.reduceEqDiff, Nat.reduceLeDiff, Nat.reduceLT, Nat.reduceMul, Nat.reduceBEq, Int.reduceLT, Int.reduceLE, Int.reduceEq, Int.reduceAdd, Int.reduceSub, Int.reduceMul, Int.reduceMod, Int.reduceTMod, Int.reduceTDiv, Int.reduceNeg, Nat.reduceSub, Nat.reduceDiv, reduceIte, reduceCtorEq]
      exact K1 _ (by simp only [wk, wk1, Nat.reduceEqDiff, reduceIte, decide_true])
    · rw [if_neg hk] at hg
      have hk' : ¬ (p.1 : Int) = (k : Int) := by omega
      simp only [h0, h1, h5, hc, hi, hi1, hi2, hrow, hld, hld2, hk', u5, wk, wk1, wk2, Option.some.injEq, exists_eq_left', decide_true, decide_false, Nat.reduceAdd, Nat.reduceEqDiff, Nat.reduceLeDiff, Nat.reduceLT, Nat.reduceMul, Nat.reduceBEq, Int.reduceLT, Int.reduceLE, Int.reduceEq, Int.reduceAdd, Int.reduceSub, Int.reduceMul, Int.reduceMod, Int.reduceTMod, Int.reduceTDiv, Int.reduceNeg, Nat.reduceSub, Nat.reduceDiv, reduceIte, reduceCtorEq]
      refine ih (i + 1) _ (by omega) hg ?_ ?_ ?_ <;> simp only [h0, h1, h5, u5, wk, wk1, Nat.reduceEqDiff, reduceIte, decide_true]
theorem rget_ran (hc : T 27 = some (.code ir27)) {s : St} {b : Nat} {W : List Pr} {x : AV} (k : Nat) (hl : W.length ≤ 200000) (hx : Slc b s 2 W.length x (encW W)) :
    Ran T 27 [x, .int .u32 (k : Int)] s fun v s' => v = .int .u8 (wget W k : Int) ∧ s' = s := by
  refine ran_code hc (Nat.le_of_ble_eq_true rfl) ?_
  generalize hQ : Fin _ _ = Q
  simp only [ir27, wk, wk1, wk2, Option.some.injEq, exists_eq_left', decide_true, decide_false, Nat.reduceAdd, Nat.reduceEqDiff, Nat.reduceLeDiff, Nat.reduceLT, Nat.reduceMul, Nat.reduceBEq, Int.reduceLT, Int.reduceLE, Int.reduceEq, Int.reduceAdd, Int.reduceSub, Int.reduceMul, Int.reduceMod, Int.reduceTMod, Int.reduceTDiv, Int.reduceNeg, Nat.reduceSub, Nat.reduceDiv, reduceIte, reduceCtorEq]
  refine rget_loop k hl hx ?_ ?_ W.length 0 _ (by omega) rfl ?_ ?_ ?_
  · intro h0 e
    subst hQ
    simp only [ir27, h0, wk, wk1, wk2, Option.some.injEq, exists_eq_left', decide_true, decide_false, Nat.reduceAdd, Nat.reduceEqDiff, Nat.reduceLeDiff, Nat.reduceLT, Nat.reduceMul, Nat.reduceBEq, Int.reduceLT, Int.reduceLE, Int.reduceEq, Int.reduceAdd, Int.reduceSub, Int.reduceMul, Int.reduceMod, Int.reduceTMod, Int.reduceTDiv, Int.reduceNeg, Nat.reduceSub, Nat.reduceDiv, reduceIte, reduceCtorEq]
  · intro e h4
    subst hQ
    simp only [ir27, h4, wk, wk1, wk2, Option.some.injEq, exists_eq_left', decide_true, decide_false, Nat.reduceAdd, Nat.reduceEqDiff, Nat.reduceLeDiff, Nat.reduceLT, Nat.reduceMul, Nat.reduceBEq, Int.reduceLT, Int.reduceLE, Int.reduceEq, Int.reduceAdd, Int.reduceSub, Int.reduceMul, Int.reduceMod, Int.reduceTMod, Int.reduceTDiv, Int.reduceNeg, Nat.reduceSub, Nat.reduceDiv, reduceIte, reduceCtorEq]
  all_goals (try simp only [wk, wk1, Nat.reduceEqDiff, reduceIte, decide_true])
  all_goals rfl

theorem wpl_len (k b : Nat) : ∀ (W : List Pr) (d : Bool), (wpl k b d W).length ≤ W.length + 1
  | W, true => by rw [wpl_true]; have := List.length_filter_le (fun p : Pr => p.1 != k) W; omega
  | [], false => by simp [wpl]
  | p :: w, false => by
    simp only [wpl, true_and, Bool.false_or, List.length_append, List.length_cons]
    by_cases h1 : k < p.1
    · rw [if_pos h1, if_neg (by omega), decide_eq_true h1, wpl_true]
      have := List.length_filter_le (fun p : Pr => p.1 != k) w
      simp only [List.length_cons, List.length_nil]; omega
    · rw [if_neg h1, decide_eq_false h1]
      have := wpl_len k b w false
      split <;> simp <;> omega
set_option maxHeartbeats 4000000 in
theorem rput_loop {Q : Post} {s0 : St} {b0 : Nat} {W : List Pr} {x : AV} (k b : Nat) (hl : W.length ≤ 200000) (hx : Slc b0 s0 2 W.length x (encW W))
    (K : ∀ (e : Env) (s : St) (v : AV) (out : List Pr) (d : Bool), out ++ wpl k b d [] = wput W k b → Ext s0 s → Slc s0.next s 2 out.length v (encW out) → opd e (.t 1) = .int .u32 (k : Int) → opd e (.t 2) = .int .u8 (b : Int) → opd e (.t 7) = v → opd e (.t 8) = .bool d → Ret T Q [memGq2] .normal e s) :
    ∀ (m i : Nat) (e : Env) (s : St) (v : AV) (out : List Pr) (d : Bool), m + i = W.length → out ++ wpl k b d (W.drop i) = wput W k b → Ext s0 s → Slc s0.next s 2 out.length v (encW out) → opd e (.t 0) = x → opd e (.t 1) = .int .u32 (k : Int) → opd e (.t 2) = .int .u8 (b : Int) → opd e (.t 7) = v → opd e (.t 8) = .bool d → opd e (.t 9) = .int .i64 (i : Int) →
      Go T Q (memGl1) [.block 0, memGq2] e s := by
  have hwl := wpl_len k b W (decide (b = 0))
  intro m
  induction m with
  | zero =>
    intro i e s v out d hm hg hE hv h0 h1 h2 h7 h8 h9
    have hin : i = W.length := by omega
    subst hin
    rw [List.drop_length] at hg
    have hK := fun e => K e s v out d hg hE hv
    rw [go_loop]
    generalize ([memGq2] : List Fr) = FF at *
    rcases hx.len with ⟨hz, a, rfl⟩ | ⟨rfl, hl0⟩
    · simp only [h0, h9, wk, wk1, wk2, Option.some.injEq, exists_eq_left', decide_true, decide_false, Nat.reduceAdd, Nat.reduceEqDiff, Nat.reduceLeDiff, Nat.reduceLT, Nat.reduceMul, Nat.reduceBEq, Int.reduceLT, Int.reduceLE, Int.reduceEq, Int.reduceAdd, Int.reduceSub, Int.reduceMul, Int.reduceMod, Int.reduceTMod, Int.reduceTDiv, Int.reduceNeg, Nat.reduceSub, Nat.reduceDiv, reduceIte, reduceCtorEq]
      refine hK _ ?_ ?_ ?_ ?_ <;> simp only [h1, h2, h7, h8, wk, wk1, Nat.reduceEqDiff, reduceIte, decide_true]
    · simp only [h0, h9, hl0, wk, wk1, wk2, Option.some.injEq, exists_eq_left', decide_true, decide_false, Nat.reduceAdd, Nat.reduceEqDiff, Nat.reduceLeDiff, Nat.reduceLT, Nat.reduceMul, Nat.reduceBEq, Int.reduceLT, Int.reduceLE, Int.reduceEq, Int.reduceAdd, Int.reduceSub, Int.reduceMul, Int.reduceMod, Int.reduceTMod, Int.reduceTDiv, Int.reduceNeg, Nat.reduceSub, Nat.reduceDiv, reduceIte, reduceCtorEq]
      refine hK _ ?_ ?_ ?_ ?_ <;> simp only [h1, h2, h7, h8, wk, wk1, Nat.reduceEqDiff, reduceIte, decide_true]
  | succ m ih =>
    intro i e s v out d hm hg hE hv h0 h1 h2 h7 h8 h9
    have hi : i < W.length := by omega
    obtain ⟨_, ⟨hn0, _⟩ | ⟨hn0, id, inc, rfl, _, hlt, hrow⟩⟩ := hx
    · omega
    obtain ⟨p, hp⟩ : ∃ x, W[i]? = some x := ⟨_, List.getElem?_eq_getElem hi⟩
    have hd : W.drop i = p :: W.drop (i + 1) := by
      rw [List.drop_eq_getElem_cons hi]
      rw [List.getElem?_eq_getElem hi] at hp
      rw [Option.some.inj hp]
    rw [hd] at hg
    simp only [wpl] at hg
    have hol : out.length ≤ 200001 := by
      have := congrArg List.length hg
      unfold wput at this
      rw [List.length_append] at this; omega
    have hld := ew1 W i p hp
    have hld2 := ew0 W i p hp
    have hc : (i : Int) < (W.length : Int) := by omega
    have hi1 : i * 2 + 1 ≤ W.length * 2 := by omega
    have hi2 : i * 2 + 2 ≤ W.length * 2 := by omega
    have u5 : wrapF .i64 ((i : Int) + 1) = ((i + 1 : Nat) : Int) := i64_add1 (by omega)
    have hr0 : s.heap.get id = some (.cells (encW W) 0 inc false) := by rw [hE.2.2 id hlt]; exact hrow
    have fin : ∀ (e' : Env) (s' : St) (v' : AV) (out' : List Pr) (d' : Bool), out' ++ wpl k b d' (W.drop (i + 1)) = wput W k b → Ext s0 s' → Slc s0.next s' 2 out'.length v' (encW out') → opd e' (.t 0) = .slice ⟨id, 0, inc, W.length * 2⟩ W.length W.length false 2 → opd e' (.t 1) = .int .u32 (k : Int) → opd e' (.t 2) = .int .u8 (b : Int) → opd e' (.t 7) = v' → opd e' (.t 8) = .bool d' → opd e' (.t 9) = .int .i64 ((i + 1 : Nat) : Int) → Go T Q (memGl1) [.block 0, memGq2] e' s' :=
      fun e' s' v' out' d' a1 a2 a3 a4 a5 a6 a7 a8 a9 => ih (i + 1) e' s' v' out' d' (by omega) a1 a2 a3 a4 a5 a6 a7 a8 a9
    have hnk : k < p.1 → ¬ p.1 = k := by omega
    rw [go_loop]
    by_cases hk : p.1 = k
    · have hk' : (p.1 : Int) = (k : Int) := by omega
      have hlt' : ¬ (k : Int) < (p.1 : Int) := by omega
      have hlt2 : ¬ k < p.1 := by omega
      rw [if_pos hk, if_neg (fun e => hlt2 e.2), decide_eq_false hlt2, Bool.or_false, List.nil_append, List.nil_append] at hg
      cases d with
      | true =>
        simp only [h0, h1, h2, h7, h8, h9, hc, hi, hi1, hi2, hr0, hld, hld2, hk', hlt', u5, wk, wk1, wk2, Option.some.injEq, exists_eq_left', decide_true, decide_false, Nat.reduceAdd, Nat.reduceEqDiff, Nat.reduceLeDiff, Nat.reduceLT, Nat.reduceMul, Nat.reduceBEq, Int.reduceLT, Int.reduceLE, Int.reduceEq, Int.reduceAdd, Int.reduceSub, Int.reduceMul, Int.reduceMod, Int.reduceTMod, Int.reduceTDiv, Int.reduceNeg, Nat.reduceSub, Nat.reduceDiv, reduceIte, reduceCtorEq]
        refine fin _ s v out true hg hE hv ?_ ?_ ?_ ?_ ?_ ?_ <;> simp only [h0, h1, h2, h7, h8, h9, u5, wk, wk1, Nat.reduceEqDiff, reduceIte, decide_true]
      | false =>
        simp only [h0, h1, h2, h7, h8, h9, hc, hi, hi1, hi2, hr0, hld, hld2, hk', hlt', u5, wk, wk1, wk2, Option.some.injEq, exists_eq_left', decide_true, decide_false, Nat.reduceAdd, Nat.reduceEqDiff, Nat.reduceLeDiff, Nat.reduceLT, Nat.reduceMul, Nat.reduceBEq, Int.reduceLT, Int.reduceLE, Int.reduceEq, Int.reduceAdd, Int.reduceSub, Int.reduceMul, Int.reduceMod, Int.reduceTMod, Int.reduceTDiv, Int.reduceNeg, Nat.reduceSub, Nat.reduceDiv, reduceIte, reduceCtorEq]
        refine fin _ s v out false hg hE hv ?_ ?_ ?_ ?_ ?_ ?_ <;> simp only [h0, h1, h2, h7, h8, h9, u5, wk, wk1, Nat.reduceEqDiff, reduceIte, decide_true]
    · have hk' : ¬ (p.1 : Int) = (k : Int) := by omega
      rw [if_neg hk] at hg
      by_cases hlt2 : d = false ∧ k < p.1
      · obtain ⟨rfl, hlt2⟩ := hlt2
        have hlt' : (k : Int) < (p.1 : Int) := by omega
        rw [if_pos ⟨rfl, hlt2⟩, decide_eq_true hlt2] at hg
        obtain ⟨v1, s1, hap, hv1, hE1⟩ := hv.app hE (more := [.int .u32 (k : Int), .int .u8 (b : Int)]) rfl rfl (by omega) (by omega)
        rw [encW_snoc out (k, b)] at hv1
        have hr1 : s1.heap.get id = some (.cells (encW W) 0 inc false) := by rw [hE1.2.2 id hlt]; exact hrow
        obtain ⟨v2, s2, hap2, hv2, hE2⟩ := hv1.app hE1 (more := [.int .u32 (p.1 : Int), .int .u8 (p.2 : Int)]) rfl rfl (by omega) (by omega)
        rw [encW_snoc _ p] at hv2
        simp only [h0, h1, h2, h7, h8, h9, hc, hi, hi1, hi2, hr0, hr1, hld, hld2, hk', hlt', hap, hap2, u5, wk, wk1, wk2, Option.some.injEq, exists_eq_left', decide_true, decide_false, Nat.reduceAdd, Nat.reduceEqDiff, Nat.reduceLeDiff, Nat.reduceLT, Nat.reduceMul, Nat.reduceBEq, Int.reduceLT, Int.reduceLE, Int.reduceEq, Int.reduceAdd, Int.reduceSub, Int.reduceMul, Int.reduceMod, Int.reduceTMod, Int.reduceTDiv, Int.reduceNeg, Nat.reduceSub, Nat.reduceDiv, reduceIte, reduceCtorEq]
        refine fin _ s2 v2 (out ++ [(k, b)] ++ [p]) true ?_ hE2 (hv2.lenEq (by simp)) ?_ ?_ ?_ ?_ ?_ ?_
        · rw [← hg]; simp
        all_goals simp only [h0, h1, h2, h7, h8, h9, u5, wk, wk1, Nat.reduceEqDiff, reduceIte, decide_true]
      · rw [if_neg hlt2, List.nil_append] at hg
        obtain ⟨v2, s2, hap2, hv2, hE2⟩ := hv.app hE (more := [.int .u32 (p.1 : Int), .int .u8 (p.2 : Int)]) rfl rfl (by omega) (by omega)
        rw [encW_snoc _ p] at hv2
        cases d with
        | true =>
          simp only [h0, h1, h2, h7, h8, h9, hc, hi, hi1, hi2, hr0, hld, hld2, hk', hap2, u5, wk, wk1, wk2, Option.some.injEq, exists_eq_left', decide_true, decide_false, Nat.reduceAdd, Nat.reduceEqDiff, Nat.reduceLeDiff, Nat.reduceLT, Nat.reduceMul, Nat.reduceBEq, Int.reduceLT, Int.reduceLE, Int.reduceEq, Int.reduceAdd, Int.reduceSub, Int.reduceMul, Int.reduceMod, Int.reduceTMod, Int.reduceTDiv, Int.reduceNeg, Nat.reduceSub, Nat.reduceDiv, reduceIte, reduceCtorEq]
          refine fin _ s2 v2 (out ++ [p]) true ?_ hE2 (hv2.lenEq (by simp)) ?_ ?_ ?_ ?_ ?_ ?_
          · rw [← hg]; simp
          all_goals simp only [h0, h1, h2, h7, h8, h9, u5, wk, wk1, Nat.reduceEqDiff, reduceIte, decide_true]
        | false =>
          have hlt3 : ¬ k < p.1 := fun e => hlt2 ⟨rfl, e⟩
          have hlt' : ¬ (k : Int) < (p.1 : Int) := by omega
          rw [decide_eq_false hlt3] at hg
          simp only [h0, h1, h2, h7, h8, h9, hc, hi, hi1, hi2, hr0, hld, hld2, hk', hlt', hap2, u5, wk, wk1, wk2, Option.some.injEq, exists_eq_left', decide_true, decide_false, Nat.reduceAdd, Nat.reduceEqDiff, Nat.reduceLeDiff, Nat.reduceLT, Nat.reduceMul, Nat.reduceBEq, Int.reduceLT, Int.reduceLE, Int.reduceEq, Int.reduceAdd, Int.reduceSub, Int.reduceMul, Int.reduceMod, Int.reduceTMod, Int.reduceTDiv, Int.reduceNeg, Nat.reduceSub, Nat.reduceDiv, reduceIte, reduceCtorEq]
          refine fin _ s2 v2 (out ++ [p]) false ?_ hE2 (hv2.lenEq (by simp)) ?_ ?_ ?_ ?_ ?_ ?_
          · rw [← hg]; simp
          all_goals simp only [h0, h1, h2, h7, h8, h9, u5, wk, wk1, Nat.reduceEqDiff, reduceIte, decide_true]
set_option maxHeartbeats 4000000 in
theorem rput_ran (hc : T 22 = some (.code ir22)) {s : St} {b0 : Nat} {W : List Pr} {x : AV} (k b : Nat) (hw : WFS s) (hl : W.length ≤ 200000) (hx : Slc b0 s 2 W.length x (encW W)) :
    Ran T 22 [x, .int .u32 (k : Int), .int .u8 (b : Int)] s fun v s' => Ext s s' ∧ Slc s.next s' 2 (wput W k b).length v (encW (wput W k b)) := by
  have hwl := wpl_len k b W (decide (b = 0))
  refine ran_code hc (Nat.le_of_ble_eq_true rfl) ?_
  generalize hQ : Fin _ _ = Q
  have hb : (decide ((b : Int) = 0)) = decide (b = 0) := by rw [decide_eq_decide]; omega
  simp only [ir22, hb, wk, wk1, wk2, Option.some.injEq, exists_eq_left', decide_true, decide_false, Nat.reduceAdd, Nat.reduceEqDiff, Nat.reduceLeDiff, Nat.reduceLT, Nat.reduceMul, Nat.reduceBEq, Int.reduceLT, Int.reduceLE, Int.reduceEq, Int.reduceAdd, Int.reduceSub, Int.reduceMul, Int.reduceMod, Int.reduceTMod, Int.reduceTDiv, Int.reduceNeg, Nat.reduceSub, Nat.reduceDiv, reduceIte, reduceCtorEq]
  refine rput_loop k b hl hx ?_ W.length 0 _ s .nilSlice [] (decide (b = 0)) (by omega) rfl (Ext.refl hw) (Slc.nil _ _ _) ?_ ?_ ?_ ?_ ?_ ?_
  · intro e s2 v out d hg hE hv h1 h2 h7 h8
    cases d with
    | true =>
      simp only [wpl, if_true, List.append_nil] at hg
      subst hg
      simp only [h7, h8, wk, wk1, wk2, Option.some.injEq, exists_eq_left', decide_true, decide_false, Nat.reduceAdd, Nat.reduceEqDiff, Nat.reduceLeDiff, Nat.reduceLT, Nat.reduceMul, Nat.reduceBEq, Int.reduceLT, Int.reduceLE, Int.reduceEq, Int.reduceAdd, Int.reduceSub, Int.reduceMul, Int.reduceMod, Int.reduceTMod, Int.reduceTDiv, Int.reduceNeg, Nat.reduceSub, Nat.reduceDiv, reduceIte, reduceCtorEq]
      subst hQ
      simp only [ir22, h7, wk, wk1, wk2, Option.some.injEq, exists_eq_left', decide_true, decide_false, Nat.reduceAdd, Nat.reduceEqDiff, Nat.reduceLeDiff, Nat.reduceLT, Nat.reduceMul, Nat.reduceBEq, Int.reduceLT, Int.reduceLE, Int.reduceEq, Int.reduceAdd, Int.reduceSub, Int.reduceMul, Int.reduceMod, Int.reduceTMod, Int.reduceTDiv, Int.reduceNeg, Nat.reduceSub, Nat.reduceDiv, reduceIte, reduceCtorEq]
      exact ⟨hE, hv⟩
    | false =>
      simp only [wpl, Bool.false_eq_true, if_false] at hg
      have hol : out.length ≤ 200001 := by
        have := congrArg List.length hg
        unfold wput at this
        rw [List.length_append] at this; omega
      obtain ⟨v1, s1, hap, hv1, hE1⟩ := hv.app hE (more := [.int .u32 (k : Int), .int .u8 (b : Int)]) rfl rfl (by omega) (by omega)
      rw [encW_snoc out (k, b), hg] at hv1
      simp only [h1, h2, h7, h8, hap, wk, wk1, wk2, Option.some.injEq, exists_eq_left', decide_true, decide_false, Nat.reduceAdd, Nat.reduceEqDiff, Nat.reduceLeDiff, Nat.reduceLT, Nat.reduceMul, Nat.reduceBEq, Int.reduceLT, Int.reduceLE, Int.reduceEq, Int.reduceAdd, Int.reduceSub, Int.reduceMul, Int.reduceMod, Int.reduceTMod, Int.reduceTDiv, Int.reduceNeg, Nat.reduceSub, Nat.reduceDiv, reduceIte, reduceCtorEq]
      subst hQ
      simp only [ir22, wk, wk1, wk2, Option.some.injEq, exists_eq_left', decide_true, decide_false, Nat.reduceAdd, Nat.reduceEqDiff, Nat.reduceLeDiff, Nat.reduceLT, Nat.reduceMul, Nat.reduceBEq, Int.reduceLT, Int.reduceLE, Int.reduceEq, Int.reduceAdd, Int.reduceSub, Int.reduceMul, Int.reduceMod, Int.reduceTMod, Int.reduceTDiv, Int.reduceNeg, Nat.reduceSub, Nat.reduceDiv, reduceIte, reduceCtorEq]
      exact ⟨hE1, hv1.lenEq (by rw [← hg]; simp)⟩
  all_goals (try simp only [wk, wk1, Nat.reduceEqDiff, reduceIte, decide_true])
  all_goals rfl
end
end Go.V
/- mem: the document's words, and its rows compared. -/
namespace Go.V
open Go
set_option linter.unusedSimpArgs false
set_option linter.unusedVariables false
open Go.V.KU
abbrev memHl0 : ICode := (.loop (.seq (.seq (.region [⟨some 11, none, [], (.move (.t 8))⟩, ⟨some 12, none, [], (.bin .geq (.t 11) (.c (.int .i64 0)))⟩] false)
 (.cond (.t 12) .skip (.exit 0)))
 (.seq (.block 1 (.region [⟨some 15, none, [], (.move (.t 7))⟩, ⟨some 16, none, [], (.bin .mul (.c (.int .u32 256)) (.t 15))⟩, ⟨some 17, none, [], (.move (.t 0))⟩, ⟨some 18, none, [], (.move (.t 1))⟩, ⟨some 19, none, [], (.move (.t 8))⟩, ⟨some 20, none, [], (.conv (.intInt .u32) (.t 19))⟩, ⟨some 21, none, [], (.bin .add (.t 18) (.t 20))⟩, ⟨some 22, none, [], (.call 27 [(.t 17), (.t 21)])⟩, ⟨some 23, none, [], (.conv (.intInt .u32) (.t 22))⟩, ⟨some 24, none, [], (.bin .add (.t 16) (.t 23))⟩, ⟨some 7, none, [], (.move (.t 24))⟩] false))
 (.region [⟨some 13, none, [], (.move (.t 8))⟩, ⟨some 14, none, [], (.bin .sub (.t 13) (.c (.int .i64 1)))⟩, ⟨some 8, none, [], (.move (.t 14))⟩] false))))
abbrev memHl1 : ICode := (.loop (.seq (.seq (.region [⟨some 10, none, [], (.move (.t 9))⟩, ⟨some 11, none, [], (.move (.t 2))⟩, ⟨some 12, none, [], (.bin .lss (.t 10) (.t 11))⟩] false)
 (.cond (.t 12) .skip (.exit 0)))
 (.seq (.block 1 (.seq (.region [⟨some 15, none, [], (.move (.t 0))⟩, ⟨some 16, none, [], (.move (.t 1))⟩, ⟨some 17, none, [], (.move (.t 9))⟩, ⟨some 18, none, [], (.conv (.intInt .u32) (.t 17))⟩, ⟨some 19, none, [], (.bin .add (.t 16) (.t 18))⟩, ⟨some 20, none, [], (.move (.t 3))⟩, ⟨some 21, none, [], (.bin .rem (.t 20) (.c (.int .u32 256)))⟩, ⟨some 22, none, [], (.conv (.intInt .u8) (.t 21))⟩, ⟨some 23, none, [], (.call 22 [(.t 15), (.t 19), (.t 22)])⟩, ⟨some 0, none, [], (.move (.t 23))⟩] false)
 (.region [⟨some 24, none, [], (.move (.t 3))⟩, ⟨some 25, none, [], (.bin .quo (.t 24) (.c (.int .u32 256)))⟩, ⟨some 3, none, [], (.move (.t 25))⟩] false)))
 (.region [⟨some 13, none, [], (.move (.t 9))⟩, ⟨some 14, none, [], (.bin .add (.t 13) (.c (.int .i64 1)))⟩, ⟨some 9, none, [], (.move (.t 14))⟩] false))))
abbrev memHq2 : Fr := .seq (.seq (.region [⟨some 25, none, [], (.move (.t 7))⟩, ⟨some 6, none, [], (.move (.t 25))⟩] false)
 .ret)
abbrev memHq3 : Fr := .seq (.seq (.region [⟨some 26, none, [], (.move (.t 0))⟩, ⟨some 8, none, [], (.move (.t 26))⟩] false)
 .ret)
section
variable {T : Tab}
theorem rright_ran (hc : T 20 = some (.code ir20)) (s : St) (k : Nat) (n : Int) :
    Ran T 20 [.int .u32 (k : Int), .int .i64 n] s fun v s' => v = .bool (rightW k n) ∧ s' = s := by
  refine ran_code hc (Nat.le_of_ble_eq_true rfl) ?_
  have e2 : Int.tmod (k : Int) 2 = ((k % 2 : Nat) : Int) := by rw [Int.tmod_eq_emod_of_nonneg (by omega)]; omega
  have e4 : Int.tmod (k : Int) 4 = ((k % 4 : Nat) : Int) := by rw [Int.tmod_eq_emod_of_nonneg (by omega)]; omega
  have w2 : ((k % 2 : Nat) : Int) % 4294967296 = ((k % 2 : Nat) : Int) := by omega
  have w4 : ((k % 4 : Nat) : Int) % 4294967296 = ((k % 4 : Nat) : Int) := by omega
  have d2 : decide (((k % 2 : Nat) : Int) = 0) = decide (k % 2 = 0) := by rw [decide_eq_decide]; omega
  have d4 : decide (((k % 4 : Nat) : Int) = 0) = decide (k % 4 = 0) := by rw [decide_eq_decide]; omega
  by_cases h1 : n = 1
  · subst h1
    simp only [ir20, wk, wk1, wk2, Option.some.injEq, exists_eq_left', decide_true, decide_false, Nat.reduceAdd, Nat.reduceEqDiff, Nat.reduceLeDiff, Nat.reduceLT, Nat.reduceMul, Nat.reduceBEq, Int.reduceLT, Int.reduceLE, Int.reduceEq, Int.reduceAdd, Int.reduceSub, Int.reduceMul, Int.reduceMod, Int.reduceTMod, Int.reduceTDiv, Int.reduceNeg, Nat.reduceSub, Nat.reduceDiv, reduceIte, reduceCtorEq]
    simp [rightW]
  · by_cases h2 : n = 2
    · subst h2
      simp only [ir20, e2, w2, d2, wk, wk1, wk2, Option.some.injEq, exists_eq_left', decide_true, decide_false, Nat.reduceAdd, Nat.reduceEqDiff, Nat.reduceLeDiff, Nat.reduceLT, Nat.reduceMul, Nat.reduceBEq, Int.reduceLT, Int.reduceLE, Int.reduceEq, Int.reduceAdd, Int.reduceSub, Int.reduceMul, Int.reduceMod, Int.reduceTMod, Int.reduceTDiv, Int.reduceNeg, Nat.reduceSub, Nat.reduceDiv, reduceIte, reduceCtorEq]
      cases hd : decide (k % 2 = 0) with
      | true => simp only [wk, wk1, wk2, Option.some.injEq, exists_eq_left', decide_true, decide_false, Nat.reduceAdd, Nat.reduceEqDiff, Nat.reduceLeDiff, Nat.reduceLT, Nat.reduceMul, Nat.reduceBEq, Int.reduceLT, Int.reduceLE, Int.reduceEq, Int.reduceAdd, Int.reduceSub, Int.reduceMul, Int.reduceMod, Int.reduceTMod, Int.reduceTDiv, Int.reduceNeg, Nat.reduceSub, Nat.reduceDiv, reduceIte, reduceCtorEq]; simp [rightW]; simpa using hd
      | false => simp only [wk, wk1, wk2, Option.some.injEq, exists_eq_left', decide_true, decide_false, Nat.reduceAdd, Nat.reduceEqDiff, Nat.reduceLeDiff, Nat.reduceLT, Nat.reduceMul, Nat.reduceBEq, Int.reduceLT, Int.reduceLE, Int.reduceEq, Int.reduceAdd, Int.reduceSub, Int.reduceMul, Int.reduceMod, Int.reduceTMod, Int.reduceTDiv, Int.reduceNeg, Nat.reduceSub, Nat.reduceDiv, reduceIte, reduceCtorEq]; simp [rightW]; simpa using hd
    · by_cases h4 : n = 4
      · subst h4
        simp only [ir20, e4, w4, d4, wk, wk1, wk2, Option.some.injEq, exists_eq_left', decide_true, decide_false, Nat.reduceAdd, Nat.reduceEqDiff, Nat.reduceLeDiff, Nat.reduceLT, Nat.reduceMul, Nat.reduceBEq, Int.reduceLT, Int.reduceLE, Int.reduceEq, Int.reduceAdd, Int.reduceSub, Int.reduceMul, Int.reduceMod, Int.reduceTMod, Int.reduceTDiv, Int.reduceNeg, Nat.reduceSub, Nat.reduceDiv, reduceIte, reduceCtorEq]
        simp [rightW]
      · simp only [ir20, h1, h2, h4, wk, wk1, wk2, Option.some.injEq, exists_eq_left', decide_true, decide_false, Nat.reduceAdd, Nat.reduceEqDiff, Nat.reduceLeDiff, Nat.reduceLT, Nat.reduceMul, Nat.reduceBEq, Int.reduceLT, Int.reduceLE, Int.reduceEq, Int.reduceAdd, Int.reduceSub, Int.reduceMul, Int.reduceMod, Int.reduceTMod, Int.reduceTDiv, Int.reduceNeg, Nat.reduceSub, Nat.reduceDiv, reduceIte, reduceCtorEq]
        simp [rightW, h1, h2, h4]

theorem horner {L : List ME} {c k n i v : Nat} (hM : MOk L c) (hn : n ≤ 4) (hi : i + 1 ≤ n) (hv : v < 256 ^ (n - (i + 1))) (h : wordN L k n = wordN L k (i + 1) + 256 ^ (i + 1) * v) :
    wordN L k n = wordN L k i + 256 ^ i * (256 * v + mget L (k + i)) ∧ 256 * v + mget L (k + i) < 256 ^ (n - i) ∧ 256 * v + mget L (k + i) < 4294967296 := by
  have hg := mget_lt hM (k + i)
  have h1 : 256 * v + mget L (k + i) < 256 ^ (n - i) := by
    have : n - i = (n - (i + 1)) + 1 := by omega
    rw [this, Nat.pow_succ]; omega
  refine ⟨?_, h1, ?_⟩
  · rw [h]; simp only [wordN]
    rw [Nat.pow_succ, Nat.mul_add, Nat.add_assoc, Nat.mul_comm (mget L (k + i))]
    congr 1
    rw [Nat.add_comm, Nat.mul_assoc]
  · refine Nat.lt_of_lt_of_le h1 ?_
    exact Nat.le_trans (Nat.pow_le_pow_right (by omega) (show n - i ≤ 4 by omega)) (by decide)
set_option maxHeartbeats 4000000 in
theorem rword_loop (hG : T 27 = some (.code ir27)) {Q : Post} {s : St} {b : Nat} {W : List Pr} {L : List ME} {c : Nat} {x : AV} (k n : Nat) (hn : n ≤ 4) (hk : k + n ≤ 4294967296) (hl : W.length ≤ 200000) (hx : Slc b s 2 W.length x (encW W)) (hR : Rep W L) (hM : MOk L c)
    (K : ∀ e : Env, opd e (.t 7) = .int .u32 (wordN L k n : Int) → Ret T Q [memHq2] .normal e s) :
    ∀ (i : Nat) (e : Env) (v : Nat), i ≤ n → v < 256 ^ (n - i) → wordN L k n = wordN L k i + 256 ^ i * v → opd e (.t 0) = x → opd e (.t 1) = .int .u32 (k : Int) → opd e (.t 7) = .int .u32 (v : Int) → opd e (.t 8) = .int .i64 ((i : Int) - 1) →
      Go T Q (memHl0) [.block 0, memHq2] e s := by
  intro i
  induction i with
  | zero =>
    intro e v hi hv hw h0 h1 h7 h8
    have hvw : v = wordN L k n := by rw [hw]; simp [wordN]
    subst hvw
    rw [go_loop]
    generalize ([memHq2] : List Fr) = FF at *
    simp only [h0, h1, h7, h8, wk, wk1, wk2, Option.some.injEq, exists_eq_left', decide_true, decide_false, Nat.reduceAdd, Nat.reduceEqDiff, Nat.reduceLeDiff, Nat.reduceLT, Nat.reduceMul, Nat.reduceBEq, Int.reduceLT, Int.reduceLE, Int.reduceEq, Int.reduceAdd, Int.reduceSub, Int.reduceMul, Int.reduceMod, Int.reduceTMod, Int.reduceTDiv, Int.reduceNeg, Nat.reduceSub, Nat.reduceDiv, reduceIte, reduceCtorEq]
    exact K _ (by simp only [h7, wk, wk1, Nat.reduceEqDiff, reduceIte, decide_true])
  | succ i ih =>
    intro e v hi hv hw h0 h1 h7 h8
    obtain ⟨w1', w2', w3'⟩ := horner hM hn hi hv hw
    have hg := mget_lt hM (k + i)
    have h8' : opd e (.t 8) = .int .i64 (i : Int) := by rw [h8]; congr 1; omega
    have hc : (0 : Int) ≤ (i : Int) := by omega
    have u1 : (i : Int) % 4294967296 = (i : Int) := by omega
    have u2 : ((k : Int) + (i : Int)) % 4294967296 = ((k + i : Nat) : Int) := by omega
    have u3 : (mget L (k + i) : Int) % 4294967296 = (mget L (k + i) : Int) := by omega
    have u4 : (256 * (v : Int)) % 4294967296 = ((256 * v : Nat) : Int) := by omega
    have u6 : (((256 * v : Nat) : Int) + (mget L (k + i) : Int)) % 4294967296 = ((256 * v + mget L (k + i) : Nat) : Int) := by omega
    have u7 : wrapF .i64 ((i : Int) - 1) = (i : Int) - 1 := wrap_i64 _ (by omega) (by omega)
    have hget : wget W (k + i) = mget L (k + i) := hR.get _
    rw [go_loop]
    simp only [h0, h1, h7, h8', hc, u1, u2, u4, wk, wk1, wk2, Option.some.injEq, exists_eq_left', decide_true, decide_false, Nat.reduceAdd, Nat.reduceEqDiff, Nat.reduceLeDiff, Nat.reduceLT, Nat.reduceMul, Nat.reduceBEq, Int.reduceLT, Int.reduceLE, Int.reduceEq, Int.reduceAdd, Int.reduceSub, Int.reduceMul, Int.reduceMod, Int.reduceTMod, Int.reduceTDiv, Int.reduceNeg, Nat.reduceSub, Nat.reduceDiv, reduceIte, reduceCtorEq]
    refine goCall_by (rget_ran hG (k + i) hl hx) ?_
    rintro _ _ ⟨rfl, rfl⟩
    rw [hget]
    simp only [h0, h1, h7, h8', u3, u6, u7, wk, wk1, wk2, Option.some.injEq, exists_eq_left', decide_true, decide_false, Nat.reduceAdd, Nat.reduceEqDiff, Nat.reduceLeDiff, Nat.reduceLT, Nat.reduceMul, Nat.reduceBEq, Int.reduceLT, Int.reduceLE, Int.reduceEq, Int.reduceAdd, Int.reduceSub, Int.reduceMul, Int.reduceMod, Int.reduceTMod, Int.reduceTDiv, Int.reduceNeg, Nat.reduceSub, Nat.reduceDiv, reduceIte, reduceCtorEq]
    refine ih _ _ (by omega) w2' w1' ?_ ?_ ?_ ?_ <;> simp only [h0, h1, h7, h8', u3, u6, u7, wk, wk1, Nat.reduceEqDiff, reduceIte, decide_true]
theorem rword_ran (hc : T 24 = some (.code ir24)) (hG : T 27 = some (.code ir27)) {s : St} {b : Nat} {W : List Pr} {L : List ME} {c : Nat} {x : AV} (k n : Nat) (hn : n ≤ 4) (hk : k + n ≤ 4294967296) (hl : W.length ≤ 200000) (hx : Slc b s 2 W.length x (encW W)) (hR : Rep W L) (hM : MOk L c) :
    Ran T 24 [x, .int .u32 (k : Int), .int .i64 (n : Int)] s fun v s' => v = .int .u32 (wordN L k n : Int) ∧ s' = s := by
  refine ran_code hc (Nat.le_of_ble_eq_true rfl) ?_
  generalize hQ : Fin _ _ = Q
  have u7 : wrapF .i64 ((n : Int) - 1) = (n : Int) - 1 := wrap_i64 _ (by omega) (by omega)
  simp only [ir24, u7, wk, wk1, wk2, Option.some.injEq, exists_eq_left', decide_true, decide_false, Nat.reduceAdd, Nat.reduceEqDiff, Nat.reduceLeDiff, Nat.reduceLT, Nat.reduceMul, Nat.reduceBEq, Int.reduceLT, Int.reduceLE, Int.reduceEq, Int.reduceAdd, Int.reduceSub, Int.reduceMul, Int.reduceMod, Int.reduceTMod, Int.reduceTDiv, Int.reduceNeg, Nat.reduceSub, Nat.reduceDiv, reduceIte, reduceCtorEq]
  refine rword_loop hG k n hn hk hl hx hR hM ?_ n _ 0 (Nat.le_refl _) ?_ (by simp) ?_ ?_ ?_ ?_
  · intro e h7
    simp only [h7, wk, wk1, wk2, Option.some.injEq, exists_eq_left', decide_true, decide_false, Nat.reduceAdd, Nat.reduceEqDiff, Nat.reduceLeDiff, Nat.reduceLT, Nat.reduceMul, Nat.reduceBEq, Int.reduceLT, Int.reduceLE, Int.reduceEq, Int.reduceAdd, Int.reduceSub, Int.reduceMul, Int.reduceMod, Int.reduceTMod, Int.reduceTDiv, Int.reduceNeg, Nat.reduceSub, Nat.reduceDiv, reduceIte, reduceCtorEq]
    subst hQ
    simp only [ir24, h7, wk, wk1, wk2, Option.some.injEq, exists_eq_left', decide_true, decide_false, Nat.reduceAdd, Nat.reduceEqDiff, Nat.reduceLeDiff, Nat.reduceLT, Nat.reduceMul, Nat.reduceBEq, Int.reduceLT, Int.reduceLE, Int.reduceEq, Int.reduceAdd, Int.reduceSub, Int.reduceMul, Int.reduceMod, Int.reduceTMod, Int.reduceTDiv, Int.reduceNeg, Nat.reduceSub, Nat.reduceDiv, reduceIte, reduceCtorEq]
  · simp
  all_goals (try simp only [wk, wk1, Nat.reduceEqDiff, reduceIte, decide_true])
  all_goals rfl

theorem storeN_clk (k v : Nat) (p : List ME × Nat) : ∀ n, (storeN k v n p).2 ≤ p.2 + n
  | 0 => Nat.le_refl _
  | n + 1 => by
    have := storeN_clk k v p n
    have := mput_clk (storeN k v n p).1 (storeN k v n p).2 (k + n) (v / 256 ^ n % 256)
    simp only [storeN]; omega
theorem loadN_clk (k : Nat) (bs : List UInt8) (p : List ME × Nat) : ∀ n, (loadN k bs n p).2 ≤ p.2 + n
  | 0 => Nat.le_refl _
  | n + 1 => by
    have := loadN_clk k bs p n
    have := mput_clk (loadN k bs n p).1 (loadN k bs n p).2 (k + n) (bs.getD n 0).toNat
    simp only [loadN]; omega
theorem Rep.len {W : List Pr} {L : List ME} {c : Nat} (h : Rep W L) (hM : MOk L c) : W.length ≤ c := by
  rw [← h.eq hM, pairs_len]; exact hM.len
set_option maxHeartbeats 4000000 in
theorem rstore_loop (hP : T 22 = some (.code ir22)) {Q : Post} {s0 : St} {b : Nat} {L : List ME} {c : Nat} (hb : b ≤ s0.next) (k v n : Nat) (hn : n ≤ 4) (hk : k + n ≤ 4294967296) (hv : v < 4294967296) (hM : MOk L c) (hcl : c ≤ 100000)
    (K : ∀ (e : Env) (s : St) (y : AV) (W : List Pr), opd e (.t 0) = y → Ext s0 s → Slc b s 2 W.length y (encW W) → Rep W (storeN k v n (L, c)).1 → Ret T Q [memHq3] .normal e s) :
    ∀ (m i : Nat) (e : Env) (s : St) (y : AV) (W : List Pr), m + i = n → Ext s0 s → Slc b s 2 W.length y (encW W) → Rep W (storeN k v i (L, c)).1 → opd e (.t 0) = y → opd e (.t 1) = .int .u32 (k : Int) → opd e (.t 2) = .int .i64 (n : Int) → opd e (.t 3) = .int .u32 ((v / 256 ^ i : Nat) : Int) → opd e (.t 9) = .int .i64 (i : Int) →
      Go T Q (memHl1) [.block 0, memHq3] e s := by
  intro m
  induction m with
  | zero =>
    intro i e s y W hm hE hy hR h0 h1 h2 h3 h9
    have hin : i = n := by omega
    subst hin
    rw [go_loop]
    have hK := fun e => K e s y W
    generalize ([memHq3] : List Fr) = FF at *
    simp only [h0, h1, h2, h3, h9, wk, wk1, wk2, Option.some.injEq, exists_eq_left', decide_true, decide_false, Nat.reduceAdd, Nat.reduceEqDiff, Nat.reduceLeDiff, Nat.reduceLT, Nat.reduceMul, Nat.reduceBEq, Int.reduceLT, Int.reduceLE, Int.reduceEq, Int.reduceAdd, Int.reduceSub, Int.reduceMul, Int.reduceMod, Int.reduceTMod, Int.reduceTDiv, Int.reduceNeg, Nat.reduceSub, Nat.reduceDiv, reduceIte, reduceCtorEq]
    exact hK _ (by simp only [h0, wk, wk1, Nat.reduceEqDiff, reduceIte, decide_true]) hE hy hR
  | succ m ih =>
    intro i e s y W hm hE hy hR h0 h1 h2 h3 h9
    have hc : (i : Int) < (n : Int) := by omega
    have hMi := storeN_ok (v := v) (n := i) hM (k := k) (by omega)
    have hclk := storeN_clk k v (L, c) i
    have hwl := hR.len hMi
    have hq : v / 256 ^ i < 4294967296 := Nat.lt_of_le_of_lt (Nat.div_le_self _ _) hv
    generalize hqe : v / 256 ^ i = q at *
    have hq2 : v / 256 ^ (i + 1) = q / 256 := by rw [Nat.pow_succ, ← Nat.div_div_eq_div_mul, hqe]
    have u1 : (i : Int) % 4294967296 = (i : Int) := by omega
    have u2 : ((k : Int) + (i : Int)) % 4294967296 = ((k + i : Nat) : Int) := by omega
    have e1 : Int.tmod (q : Int) 256 = ((q % 256 : Nat) : Int) := by rw [Int.tmod_eq_emod_of_nonneg (by omega)]; omega
    have e2 : Int.tdiv (q : Int) 256 = ((q / 256 : Nat) : Int) := by rw [Int.tdiv_eq_ediv_of_nonneg (by omega)]; omega
    have u3 : ((q % 256 : Nat) : Int) % 4294967296 = ((q % 256 : Nat) : Int) := by omega
    have u4 : ((q % 256 : Nat) : Int) % 256 = ((q % 256 : Nat) : Int) := by omega
    have u6 : ((q / 256 : Nat) : Int) % 4294967296 = ((q / 256 : Nat) : Int) := by omega
    have u5 : wrapF .i64 ((i : Int) + 1) = ((i + 1 : Nat) : Int) := i64_add1 (by omega)
    rw [go_loop]
    simp only [h0, h1, h2, h3, h9, hc, u1, u2, u3, u4, e1, wk, wk1, wk2, Option.some.injEq, exists_eq_left', decide_true, decide_false, Nat.reduceAdd, Nat.reduceEqDiff, Nat.reduceLeDiff, Nat.reduceLT, Nat.reduceMul, Nat.reduceBEq, Int.reduceLT, Int.reduceLE, Int.reduceEq, Int.reduceAdd, Int.reduceSub, Int.reduceMul, Int.reduceMod, Int.reduceTMod, Int.reduceTDiv, Int.reduceNeg, Nat.reduceSub, Nat.reduceDiv, reduceIte, reduceCtorEq]
    refine goCall_by (rput_ran hP (k + i) (q % 256) hE.1 (by simp only [] at hclk; omega) hy) ?_
    rintro y' s' ⟨hE', hy'⟩
    simp only [h0, h1, h2, h3, h9, e2, u6, u5, wk, wk1, wk2, Option.some.injEq, exists_eq_left', decide_true, decide_false, Nat.reduceAdd, Nat.reduceEqDiff, Nat.reduceLeDiff, Nat.reduceLT, Nat.reduceMul, Nat.reduceBEq, Int.reduceLT, Int.reduceLE, Int.reduceEq, Int.reduceAdd, Int.reduceSub, Int.reduceMul, Int.reduceMod, Int.reduceTMod, Int.reduceTDiv, Int.reduceNeg, Nat.reduceSub, Nat.reduceDiv, reduceIte, reduceCtorEq]
    refine ih (i + 1) _ s' y' (wput W (k + i) (q % 256)) (by omega) (hE.trans hE') (hy'.mono (Nat.le_trans hb hE.2.1)) ?_ ?_ ?_ ?_ ?_ ?_
    · have := hR.put hMi (k + i) (q % 256)
      simp only [storeN, hqe]
      exact this
    · simp only [wk, wk1, wk2, Option.some.injEq, exists_eq_left', decide_true, decide_false, Nat.reduceAdd, Nat.reduceEqDiff, Nat.reduceLeDiff, Nat.reduceLT, Nat.reduceMul, Nat.reduceBEq, Int.reduceLT, Int.reduceLE, Int.reduceEq, Int.reduceAdd, Int.reduceSub, Int.reduceMul, Int.reduceMod, Int.reduceTMod, Int.reduceTDiv, Int.reduceNeg, Nat.reduceSub, Nat.reduceDiv, reduceIte, reduceCtorEq]
    · simp only [h1, wk, wk1, wk2, Option.some.injEq, exists_eq_left', decide_true, decide_false, Nat.reduceAdd, Nat.reduceEqDiff, Nat.reduceLeDiff, Nat.reduceLT, Nat.reduceMul, Nat.reduceBEq, Int.reduceLT, Int.reduceLE, Int.reduceEq, Int.reduceAdd, Int.reduceSub, Int.reduceMul, Int.reduceMod, Int.reduceTMod, Int.reduceTDiv, Int.reduceNeg, Nat.reduceSub, Nat.reduceDiv, reduceIte, reduceCtorEq]
    · simp only [h2, wk, wk1, wk2, Option.some.injEq, exists_eq_left', decide_true, decide_false, Nat.reduceAdd, Nat.reduceEqDiff, Nat.reduceLeDiff, Nat.reduceLT, Nat.reduceMul, Nat.reduceBEq, Int.reduceLT, Int.reduceLE, Int.reduceEq, Int.reduceAdd, Int.reduceSub, Int.reduceMul, Int.reduceMod, Int.reduceTMod, Int.reduceTDiv, Int.reduceNeg, Nat.reduceSub, Nat.reduceDiv, reduceIte, reduceCtorEq]
    · rw [hq2]; simp only [h3, wk, wk1, wk2, Option.some.injEq, exists_eq_left', decide_true, decide_false, Nat.reduceAdd, Nat.reduceEqDiff, Nat.reduceLeDiff, Nat.reduceLT, Nat.reduceMul, Nat.reduceBEq, Int.reduceLT, Int.reduceLE, Int.reduceEq, Int.reduceAdd, Int.reduceSub, Int.reduceMul, Int.reduceMod, Int.reduceTMod, Int.reduceTDiv, Int.reduceNeg, Nat.reduceSub, Nat.reduceDiv, reduceIte, reduceCtorEq]
    · simp only [h9, u5, wk, wk1, wk2, Option.some.injEq, exists_eq_left', decide_true, decide_false, Nat.reduceAdd, Nat.reduceEqDiff, Nat.reduceLeDiff, Nat.reduceLT, Nat.reduceMul, Nat.reduceBEq, Int.reduceLT, Int.reduceLE, Int.reduceEq, Int.reduceAdd, Int.reduceSub, Int.reduceMul, Int.reduceMod, Int.reduceTMod, Int.reduceTDiv, Int.reduceNeg, Nat.reduceSub, Nat.reduceDiv, reduceIte, reduceCtorEq]
theorem rstore_ran (hc : T 23 = some (.code ir23)) (hP : T 22 = some (.code ir22)) {s : St} {b : Nat} {L : List ME} {c : Nat} {W : List Pr} {x : AV} (hw : WFS s) (hb : b ≤ s.next) (k v n : Nat) (hn : n ≤ 4) (hk : k + n ≤ 4294967296) (hv : v < 4294967296) (hM : MOk L c) (hcl : c ≤ 100000) (hx : Slc b s 2 W.length x (encW W)) (hR : Rep W L) :
    Ran T 23 [x, .int .u32 (k : Int), .int .i64 (n : Int), .int .u32 (v : Int)] s fun y s' => Ext s s' ∧ ∃ W' : List Pr, Slc b s' 2 W'.length y (encW W') ∧ Rep W' (storeN k v n (L, c)).1 := by
  refine ran_code hc (Nat.le_of_ble_eq_true rfl) ?_
  generalize hQ : Fin _ _ = Q
  simp only [ir23, wk, wk1, wk2, Option.some.injEq, exists_eq_left', decide_true, decide_false, Nat.reduceAdd, Nat.reduceEqDiff, Nat.reduceLeDiff, Nat.reduceLT, Nat.reduceMul, Nat.reduceBEq, Int.reduceLT, Int.reduceLE, Int.reduceEq, Int.reduceAdd, Int.reduceSub, Int.reduceMul, Int.reduceMod, Int.reduceTMod, Int.reduceTDiv, Int.reduceNeg, Nat.reduceSub, Nat.reduceDiv, reduceIte, reduceCtorEq]
  refine rstore_loop (s0 := s) (L := L) (c := c) hP hb k v n hn hk hv hM hcl ?_ n 0 _ s x W (by omega) (Ext.refl hw) hx hR ?_ ?_ ?_ ?_ ?_
  · intro e s2 y W2 h0 hE hy hR2
    simp only [h0, wk, wk1, wk2, Option.some.injEq, exists_eq_left', decide_true, decide_false, Nat.reduceAdd, Nat.reduceEqDiff, Nat.reduceLeDiff, Nat.reduceLT, Nat.reduceMul, Nat.reduceBEq, Int.reduceLT, Int.reduceLE, Int.reduceEq, Int.reduceAdd, Int.reduceSub, Int.reduceMul, Int.reduceMod, Int.reduceTMod, Int.reduceTDiv, Int.reduceNeg, Nat.reduceSub, Nat.reduceDiv, reduceIte, reduceCtorEq]
    subst hQ
    simp only [ir23, h0, wk, wk1, wk2, Option.some.injEq, exists_eq_left', decide_true, decide_false, Nat.reduceAdd, Nat.reduceEqDiff, Nat.reduceLeDiff, Nat.reduceLT, Nat.reduceMul, Nat.reduceBEq, Int.reduceLT, Int.reduceLE, Int.reduceEq, Int.reduceAdd, Int.reduceSub, Int.reduceMul, Int.reduceMod, Int.reduceTMod, Int.reduceTDiv, Int.reduceNeg, Nat.reduceSub, Nat.reduceDiv, reduceIte, reduceCtorEq]
    exact ⟨hE, W2, hy, hR2⟩
  all_goals (try simp only [wk, wk1, Nat.reduceEqDiff, reduceIte, decide_true])
  all_goals (try simp)
  all_goals rfl
end
end Go.V
/- mem: rows compared; acts; what is done. -/
namespace Go.V
open Go
set_option linter.unusedSimpArgs false
set_option linter.unusedVariables false
open Go.V.KU
abbrev memIl0 : ICode := (.loop (.seq (.seq (.region [⟨some 11, none, [], (.move (.t 5))⟩, ⟨some 12, none, [], (.move (.t 0))⟩, ⟨some 13, none, [], (.lenSl (.t 12))⟩, ⟨some 14, none, [], (.bin .lss (.t 11) (.t 13))⟩] false)
 (.cond (.t 14) .skip (.exit 0)))
 (.seq (.block 1 (.seq (.region [⟨some 17, none, [], (.move (.t 0))⟩, ⟨some 18, none, [], (.move (.t 5))⟩, ⟨some 19, none, [], (.idxSl 2 (.t 17) (.t 18))⟩, ⟨some 20, none, [], (.load true 2 (.t 19))⟩, ⟨some 21, none, [], (.move (.t 1))⟩, ⟨some 22, none, [], (.move (.t 5))⟩, ⟨some 23, none, [], (.idxSl 2 (.t 21) (.t 22))⟩, ⟨some 24, none, [], (.load true 2 (.t 23))⟩, ⟨some 25, none, [], (.eq true (.agg [(0, 1, false, (.prim .int)), (1, 1, false, (.prim .int))]) (.t 20) (.t 24))⟩] true)
 (.cond (.t 25) (.seq (.region [⟨some 4, none, [], (.move (.c (.bool false)))⟩] false)
 .ret) .skip)))
 (.region [⟨some 15, none, [], (.move (.t 5))⟩, ⟨some 16, none, [], (.bin .add (.t 15) (.c (.int .i64 1)))⟩, ⟨some 5, none, [], (.move (.t 16))⟩] false))))
abbrev memIl1 : ICode := (.loop (.seq (.seq (.region [⟨some 7, none, [], (.move (.t 3))⟩, ⟨some 8, none, [], (.move (.t 0))⟩, ⟨some 9, none, [], (.lenSl (.t 8))⟩, ⟨some 10, none, [], (.bin .lss (.t 7) (.t 9))⟩] false)
 (.cond (.t 10) .skip (.exit 0)))
 (.seq (.block 1 (.seq (.region [⟨some 13, none, [], (.move (.t 0))⟩, ⟨some 14, none, [], (.move (.t 3))⟩, ⟨some 15, none, [], (.idxSl 5 (.t 13) (.t 14))⟩, ⟨some 16, none, [], (.fieldAddr 4 (.t 15))⟩, ⟨some 17, none, [], (.load false 1 (.t 16))⟩, ⟨some 18, none, [], (.lenStr (.t 17))⟩, ⟨some 19, none, [], (.bin .gtr (.t 18) (.c (.int .i64 60)))⟩] false)
 (.cond (.t 19) (.seq (.region [⟨some 2, none, [], (.move (.c (.bool true)))⟩] false)
 .ret) .skip)))
 (.region [⟨some 11, none, [], (.move (.t 3))⟩, ⟨some 12, none, [], (.bin .add (.t 11) (.c (.int .i64 1)))⟩, ⟨some 3, none, [], (.move (.t 12))⟩] false))))
structure Act where
  d : Nat
  k : Nat
  n : Int
  v : Nat
  b : List UInt8
def actC (a : Act) : List AV := [.int .u8 (a.d : Int), .int .u32 (a.k : Int), .int .i64 a.n, .int .u32 (a.v : Int), .str a.b]
def ActOk (a : Act) : Prop := a.k < 4294967296 ∧ a.v < 4294967296 ∧ a.d < 256
/-- Acts that came in. -/
structure Acts (bnd : Nat) (s : St) (x : AV) (l : List Act) : Prop where
  ok : ∀ a ∈ l, ActOk a
  sl : (l.length = 0 ∧ (x = .nilSlice ∨ x = .empty)) ∨ (0 < l.length ∧ ∃ id cap, x = .slice ⟨id, 0, 0, l.length * 5⟩ l.length cap true 5 ∧ id < bnd ∧ id < s.next ∧ s.heap.get id = some (.cells (l.flatMap actC) 0 0 true))
theorem Acts.ext {bnd : Nat} {s s' : St} {x : AV} {l : List Act} (h : Acts bnd s x l) (he : Ext s s') : Acts bnd s' x l := by
  refine ⟨h.ok, ?_⟩
  rcases h.sl with h | ⟨h0, id, cap, h1, h2, h3, h4⟩
  · exact .inl h
  · exact .inr ⟨h0, id, cap, h1, h2, Nat.lt_of_lt_of_le h3 he.2.1, by rw [he.2.2 id h3]; exact h4⟩
theorem Acts.only {bnd r : Nat} {s s' : St} {x : AV} {l : List Act} (h : Acts bnd s x l) (hr : bnd ≤ r) (he : Only r s s') : Acts bnd s' x l := by
  refine ⟨h.ok, ?_⟩
  rcases h.sl with h | ⟨h0, id, cap, h1, h2, h3, h4⟩
  · exact .inl h
  · exact .inr ⟨h0, id, cap, h1, h2, Nat.lt_of_lt_of_le h3 he.next, by rw [he.same id h3 (by omega)]; exact h4⟩
theorem act_take (l : List Act) (i : Nat) (a : Act) (h : l[i]? = some a) : List.take 5 (List.drop (i * 5) (l.flatMap actC)) = [.int .u8 (a.d : Int), .int .u32 (a.k : Int), .int .i64 a.n, .int .u32 (a.v : Int), .str a.b] :=
  take_cell (f := actC) (fun _ => rfl) l i a h
theorem act_take4 (l : List Act) (i : Nat) (a : Act) (h : l[i]? = some a) : List.take 1 (List.drop (i * 5 + 4) (l.flatMap actC)) = [.str a.b] := by
  have := congrArg (List.drop 4) (act_take l i a h)
  rw [List.drop_take, List.drop_drop] at this
  exact this
theorem eq_cell (a b c d : Int) : eqV (.agg [(0, 1, false, .prim .int), (1, 1, false, .prim .int)]) (.agg [.int .u32 a, .int .u8 b]) (.agg [.int .u32 c, .int .u8 d]) = some (decide (a = c) && decide (b = d)) := by
  by_cases h1 : a = c
  · by_cases h2 : b = d
    · simp [eqV, eqParts, partAV, primEq, h1, h2]
    · simp [eqV, eqParts, partAV, primEq, h1, h2]
  · simp [eqV, eqParts, partAV, primEq, h1]
section
variable {T : Tab}
set_option maxHeartbeats 4000000 in
theorem rsame_loop {Q : Post} {s : St} {b1 b2 : Nat} {x y : AV} {l1 l2 : List Pr} (hx : Slc b1 s 2 l1.length x (encW l1)) (hy : Slc b2 s 2 l1.length y (encW l2)) (hl : l1.length < 1000000) (hll : l2.length = l1.length)
    (Kt : l1 = l2 → ∀ e : Env, Ret T Q [.seq (.seq (.region [⟨some 4, none, [], (.move (.c (.bool true)))⟩] false)
 .ret)] .normal e s) (Kf : l1 ≠ l2 → ∀ e : Env, opd e (.t 4) = .bool false → Ret T Q [.seq (.seq (.region [⟨some 4, none, [], (.move (.c (.bool true)))⟩] false)
 .ret)] .ret e s) :
    ∀ (m i : Nat) (e : Env), m + i = l1.length → l1.take i = l2.take i → opd e (.t 0) = x → opd e (.t 1) = y → opd e (.t 5) = .int .i64 (i : Int) →
      Go T Q (memIl0) [.block 0, .seq (.seq (.region [⟨some 4, none, [], (.move (.c (.bool true)))⟩] false)
 .ret)] e s := by
  intro m
  induction m with
  | zero =>
    intro i e hm ht h0 h1 h5
    have hin : i = l1.length := by omega
    subst hin
    rw [List.take_length, List.take_of_length_le (by omega)] at ht
    have hK := Kt ht
    rw [go_loop]
    generalize ([.seq (.seq (.region [⟨some 4, none, [], (.move (.c (.bool true)))⟩] false)
 .ret)] : List Fr) = FF at *
    rcases hx.len with ⟨hz, a, rfl⟩ | ⟨rfl, hl0⟩
    · simp only [h0, h5, hK, wk, wk1, wk2, Option.some.injEq, exists_eq_left', decide_true, decide_false, Nat.reduceAdd, Nat.reduceEqDiff, Nat.reduceLeDiff, Nat.reduceLT, Nat.reduceMul, Nat.reduceBEq, Int.reduceLT, Int.reduceLE, Int.reduceEq, Int.reduceAdd, Int.reduceSub, Int.reduceMul, Int.reduceMod, Int.reduceTMod, Int.reduceTDiv, Int.reduceNeg, Nat.reduceSub, Nat.reduceDiv, reduceIte, reduceCtorEq]
    · simp only [h0, h5, hl0, hK, wk, wk1, wk2, Option.some.injEq, exists_eq_left', decide_true, decide_false, Nat.reduceAdd, Nat.reduceEqDiff, Nat.reduceLeDiff, Nat.reduceLT, Nat.reduceMul, Nat.reduceBEq, Int.reduceLT, Int.reduceLE, Int.reduceEq, Int.reduceAdd, Int.reduceSub, Int.reduceMul, Int.reduceMod, Int.reduceTMod, Int.reduceTDiv, Int.reduceNeg, Nat.reduceSub, Nat.reduceDiv, reduceIte, reduceCtorEq]
  | succ m ih =>
    intro i e hm ht h0 h1 h5
    have hi : i < l1.length := by omega
    obtain ⟨_, ⟨hn0, _⟩ | ⟨hn0, id, inc, rfl, _, _, hrow⟩⟩ := hx
    · omega
    obtain ⟨_, ⟨hn0, _⟩ | ⟨hn0, id2, inc2, rfl, _, _, hrow2⟩⟩ := hy
    · omega
    obtain ⟨u, hu⟩ : ∃ x, l1[i]? = some x := ⟨_, List.getElem?_eq_getElem hi⟩
    obtain ⟨w, hw⟩ : ∃ x, l2[i]? = some x := ⟨_, List.getElem?_eq_getElem (by omega)⟩
    have hld := ew0 l1 i u hu
    have hld2 := ew0 l2 i w hw
    have hc : (i : Int) < (l1.length : Int) := by omega
    have hi2 : i * 2 + 2 ≤ l1.length * 2 := by omega
    have u5 : wrapF .i64 ((i : Int) + 1) = ((i + 1 : Nat) : Int) := i64_add1 (by omega)
    have hq := eq_cell (u.1 : Int) (u.2 : Int) (w.1 : Int) (w.2 : Int)
    rw [go_loop]
    by_cases huw : u = w
    · have hb : (decide ((u.1 : Int) = (w.1 : Int)) && decide ((u.2 : Int) = (w.2 : Int))) = true := by rw [huw]; simp
      rw [hb] at hq
      simp only [h0, h1, h5, hc, hi, hi2, hrow, hrow2, hld, hld2, hq, u5, wk, wk1, wk2, Option.some.injEq, exists_eq_left', decide_true, decide_false, Nat.reduceAdd, Nat.reduceEqDiff, Nat.reduceLeDiff, Nat.reduceLT, Nat.reduceMul, Nat.reduceBEq, Int.reduceLT, Int.reduceLE, Int.reduceEq, Int.reduceAdd, Int.reduceSub, Int.reduceMul, Int.reduceMod, Int.reduceTMod, Int.reduceTDiv, Int.reduceNeg, Nat.reduceSub, Nat.reduceDiv, reduceIte, reduceCtorEq]
      refine ih (i + 1) _ (by omega) ?_ ?_ ?_ ?_
      · rw [List.take_add_one, List.take_add_one, ht, hu, hw, huw]
      all_goals simp only [h0, h1, h5, u5, wk, wk1, Nat.reduceEqDiff, reduceIte, decide_true]
    · have hb : (decide ((u.1 : Int) = (w.1 : Int)) && decide ((u.2 : Int) = (w.2 : Int))) = false := by
        rw [Bool.and_eq_false_iff, decide_eq_false_iff_not, decide_eq_false_iff_not]
        by_cases h1 : u.1 = w.1
        · right; intro h2; exact huw (Prod.ext h1 (by omega))
        · left; omega
      rw [hb] at hq
      have hne : l1 ≠ l2 := by intro e; rw [e] at hu; rw [hu] at hw; exact huw (Option.some.inj hw)
      have hKf := Kf hne
      generalize ([.seq (.seq (.region [⟨some 4, none, [], (.move (.c (.bool true)))⟩] false)
 .ret)] : List Fr) = FF at *
      simp only [h0, h1, h5, hc, hi, hi2, hrow, hrow2, hld, hld2, hq, u5, wk, wk1, wk2, Option.some.injEq, exists_eq_left', decide_true, decide_false, Nat.reduceAdd, Nat.reduceEqDiff, Nat.reduceLeDiff, Nat.reduceLT, Nat.reduceMul, Nat.reduceBEq, Int.reduceLT, Int.reduceLE, Int.reduceEq, Int.reduceAdd, Int.reduceSub, Int.reduceMul, Int.reduceMod, Int.reduceTMod, Int.reduceTDiv, Int.reduceNeg, Nat.reduceSub, Nat.reduceDiv, reduceIte, reduceCtorEq]
      refine hKf _ ?_
      simp only [wk, wk1, wk2, Option.some.injEq, exists_eq_left', decide_true, decide_false, Nat.reduceAdd, Nat.reduceEqDiff, Nat.reduceLeDiff, Nat.reduceLT, Nat.reduceMul, Nat.reduceBEq, Int.reduceLT, Int.reduceLE, Int.reduceEq, Int.reduceAdd, Int.reduceSub, Int.reduceMul, Int.reduceMod, Int.reduceTMod, Int.reduceTDiv, Int.reduceNeg, Nat.reduceSub, Nat.reduceDiv, reduceIte, reduceCtorEq]
set_option maxHeartbeats 4000000 in
theorem rsame_ran (hc : T 28 = some (.code ir28)) {s : St} {b1 b2 : Nat} {x y : AV} {l1 l2 : List Pr} (hx : Slc b1 s 2 l1.length x (encW l1)) (hy : Slc b2 s 2 l2.length y (encW l2)) (hl : l1.length < 1000000) (hl2 : l2.length < 1000000) :
    Ran T 28 [x, y] s fun v s' => s' = s ∧ v = .bool (decide (l1 = l2)) := by
  refine ran_code hc (Nat.le_of_ble_eq_true rfl) ?_
  generalize hQ : Fin _ _ = Q
  have hlx := hx.len
  have hly := hy.len
  have hloop := fun hll => rsame_loop (T := T) (Q := Q) (l1 := l1) (l2 := l2) hx (hll ▸ hy) hl hll
  by_cases hll : l2.length = l1.length
  · have hlp := hloop hll ?_ ?_ l1.length 0
    · have hll' : (l2.length : Int) = (l1.length : Int) := by omega
      rcases hlx with ⟨hz, a, rfl⟩ | ⟨rfl, hl0⟩ <;> rcases hly with ⟨hz', b, rfl⟩ | ⟨rfl, hl0'⟩
      · simp only [ir28, hll', wk, wk1, wk2, Option.some.injEq, exists_eq_left', decide_true, decide_false, Nat.reduceAdd, Nat.reduceEqDiff, Nat.reduceLeDiff, Nat.reduceLT, Nat.reduceMul, Nat.reduceBEq, Int.reduceLT, Int.reduceLE, Int.reduceEq, Int.reduceAdd, Int.reduceSub, Int.reduceMul, Int.reduceMod, Int.reduceTMod, Int.reduceTDiv, Int.reduceNeg, Nat.reduceSub, Nat.reduceDiv, reduceIte, reduceCtorEq]
        refine hlp _ (by omega) rfl ?_ ?_ ?_ <;> simp only [wk, wk1, Nat.reduceEqDiff, reduceIte, decide_true] <;> rfl
      · omega
      · omega
      · simp only [ir28, wk, wk1, wk2, Option.some.injEq, exists_eq_left', decide_true, decide_false, Nat.reduceAdd, Nat.reduceEqDiff, Nat.reduceLeDiff, Nat.reduceLT, Nat.reduceMul, Nat.reduceBEq, Int.reduceLT, Int.reduceLE, Int.reduceEq, Int.reduceAdd, Int.reduceSub, Int.reduceMul, Int.reduceMod, Int.reduceTMod, Int.reduceTDiv, Int.reduceNeg, Nat.reduceSub, Nat.reduceDiv, reduceIte, reduceCtorEq]
        refine hlp _ (by omega) rfl ?_ ?_ ?_ <;> simp only [hl0, wk, wk1, Nat.reduceEqDiff, reduceIte, decide_true] <;> rfl
    · intro heq e
      subst hQ
      simp only [ir28, heq, wk, wk1, wk2, Option.some.injEq, exists_eq_left', decide_true, decide_false, Nat.reduceAdd, Nat.reduceEqDiff, Nat.reduceLeDiff, Nat.reduceLT, Nat.reduceMul, Nat.reduceBEq, Int.reduceLT, Int.reduceLE, Int.reduceEq, Int.reduceAdd, Int.reduceSub, Int.reduceMul, Int.reduceMod, Int.reduceTMod, Int.reduceTDiv, Int.reduceNeg, Nat.reduceSub, Nat.reduceDiv, reduceIte, reduceCtorEq]
    · intro hne e h4
      subst hQ
      simp only [ir28, h4, hne, wk, wk1, wk2, Option.some.injEq, exists_eq_left', decide_true, decide_false, Nat.reduceAdd, Nat.reduceEqDiff, Nat.reduceLeDiff, Nat.reduceLT, Nat.reduceMul, Nat.reduceBEq, Int.reduceLT, Int.reduceLE, Int.reduceEq, Int.reduceAdd, Int.reduceSub, Int.reduceMul, Int.reduceMod, Int.reduceTMod, Int.reduceTDiv, Int.reduceNeg, Nat.reduceSub, Nat.reduceDiv, reduceIte, reduceCtorEq]
  · have hne : l1 ≠ l2 := by intro e; rw [e] at hll; exact hll rfl
    have hll' : ¬ (l1.length : Int) = (l2.length : Int) := by omega
    subst hQ
    rcases hlx with ⟨hz, a, rfl⟩ | ⟨rfl, hl0⟩ <;> rcases hly with ⟨hz', b, rfl⟩ | ⟨rfl, hl0'⟩
    · simp only [ir28, hll', wk, wk1, wk2, Option.some.injEq, exists_eq_left', decide_true, decide_false, Nat.reduceAdd, Nat.reduceEqDiff, Nat.reduceLeDiff, Nat.reduceLT, Nat.reduceMul, Nat.reduceBEq, Int.reduceLT, Int.reduceLE, Int.reduceEq, Int.reduceAdd, Int.reduceSub, Int.reduceMul, Int.reduceMod, Int.reduceTMod, Int.reduceTDiv, Int.reduceNeg, Nat.reduceSub, Nat.reduceDiv, reduceIte, reduceCtorEq]
      simp [hne]
    · have hz2 : ¬ (l1.length : Int) = 0 := by omega
      simp only [ir28, hz2, wk, wk1, wk2, Option.some.injEq, exists_eq_left', decide_true, decide_false, Nat.reduceAdd, Nat.reduceEqDiff, Nat.reduceLeDiff, Nat.reduceLT, Nat.reduceMul, Nat.reduceBEq, Int.reduceLT, Int.reduceLE, Int.reduceEq, Int.reduceAdd, Int.reduceSub, Int.reduceMul, Int.reduceMod, Int.reduceTMod, Int.reduceTDiv, Int.reduceNeg, Nat.reduceSub, Nat.reduceDiv, reduceIte, reduceCtorEq]
      simp [hne]
    · have hz2 : ¬ (0 : Int) = (l2.length : Int) := by omega
      simp only [ir28, hz2, wk, wk1, wk2, Option.some.injEq, exists_eq_left', decide_true, decide_false, Nat.reduceAdd, Nat.reduceEqDiff, Nat.reduceLeDiff, Nat.reduceLT, Nat.reduceMul, Nat.reduceBEq, Int.reduceLT, Int.reduceLE, Int.reduceEq, Int.reduceAdd, Int.reduceSub, Int.reduceMul, Int.reduceMod, Int.reduceTMod, Int.reduceTDiv, Int.reduceNeg, Nat.reduceSub, Nat.reduceDiv, reduceIte, reduceCtorEq]
      simp [hne]
    · omega

def great (l : List Act) : Bool := decide (60 < l.length) || l.any fun a => decide (60 < a.b.length)
set_option maxHeartbeats 4000000 in
theorem great_loop {Q : Post} {s : St} {bnd : Nat} {x : AV} {l : List Act} (hl : l.length ≤ 60) (hx : Acts bnd s x l)
    (Kf : (l.any fun a => decide (60 < a.b.length)) = false → ∀ e : Env, Ret T Q [.seq (.seq (.region [⟨some 2, none, [], (.move (.c (.bool false)))⟩] false)
 .ret)] .normal e s) (Kt : (l.any fun a => decide (60 < a.b.length)) = true → ∀ e : Env, opd e (.t 2) = .bool true → Ret T Q [.seq (.seq (.region [⟨some 2, none, [], (.move (.c (.bool false)))⟩] false)
 .ret)] .ret e s) :
    ∀ (m i : Nat) (e : Env), m + i = l.length → ((l.take i).any fun a => decide (60 < a.b.length)) = false → opd e (.t 0) = x → opd e (.t 3) = .int .i64 (i : Int) →
      Go T Q (memIl1) [.block 0, .seq (.seq (.region [⟨some 2, none, [], (.move (.c (.bool false)))⟩] false)
 .ret)] e s := by
  intro m
  induction m with
  | zero =>
    intro i e hm ht h0 h3
    have hin : i = l.length := by omega
    subst hin
    rw [List.take_length] at ht
    have hK := Kf ht
    rw [go_loop]
    generalize ([.seq (.seq (.region [⟨some 2, none, [], (.move (.c (.bool false)))⟩] false)
 .ret)] : List Fr) = FF at *
    rcases hx.sl with ⟨hl0, rfl | rfl⟩ | ⟨hz, id, cap, rfl, _⟩
    · simp only [h0, h3, hl0, hK, wk, wk1, wk2, Option.some.injEq, exists_eq_left', decide_true, decide_false, Nat.reduceAdd, Nat.reduceEqDiff, Nat.reduceLeDiff, Nat.reduceLT, Nat.reduceMul, Nat.reduceBEq, Int.reduceLT, Int.reduceLE, Int.reduceEq, Int.reduceAdd, Int.reduceSub, Int.reduceMul, Int.reduceMod, Int.reduceTMod, Int.reduceTDiv, Int.reduceNeg, Nat.reduceSub, Nat.reduceDiv, reduceIte, reduceCtorEq]
    · simp only [h0, h3, hl0, hK, wk, wk1, wk2, Option.some.injEq, exists_eq_left', decide_true, decide_false, Nat.reduceAdd, Nat.reduceEqDiff, Nat.reduceLeDiff, Nat.reduceLT, Nat.reduceMul, Nat.reduceBEq, Int.reduceLT, Int.reduceLE, Int.reduceEq, Int.reduceAdd, Int.reduceSub, Int.reduceMul, Int.reduceMod, Int.reduceTMod, Int.reduceTDiv, Int.reduceNeg, Nat.reduceSub, Nat.reduceDiv, reduceIte, reduceCtorEq]
    · simp only [h0, h3, hK, wk, wk1, wk2, Option.some.injEq, exists_eq_left', decide_true, decide_false, Nat.reduceAdd, Nat.reduceEqDiff, Nat.reduceLeDiff, Nat.reduceLT, Nat.reduceMul, Nat.reduceBEq, Int.reduceLT, Int.reduceLE, Int.reduceEq, Int.reduceAdd, Int.reduceSub, Int.reduceMul, Int.reduceMod, Int.reduceTMod, Int.reduceTDiv, Int.reduceNeg, Nat.reduceSub, Nat.reduceDiv, reduceIte, reduceCtorEq]
  | succ m ih =>
    intro i e hm ht h0 h3
    have hi : i < l.length := by omega
    rcases hx.sl with ⟨hl0, _⟩ | ⟨hz, id, cap, rfl, _, _, hrow⟩
    · omega
    obtain ⟨a, ha⟩ : ∃ x, l[i]? = some x := ⟨_, List.getElem?_eq_getElem hi⟩
    have hld := act_take4 l i a ha
    have hc : (i : Int) < (l.length : Int) := by omega
    have hi5 : i * 5 + 5 ≤ l.length * 5 := by omega
    have u5 : wrapF .i64 ((i : Int) + 1) = ((i + 1 : Nat) : Int) := i64_add1 (by omega)
    rw [go_loop]
    by_cases hg : 60 < a.b.length
    · have hg' : (60 : Int) < (a.b.length : Int) := by omega
      have hKt := Kt (List.any_eq_true.2 ⟨a, List.mem_of_getElem? ha, by simpa using hg⟩)
      generalize ([.seq (.seq (.region [⟨some 2, none, [], (.move (.c (.bool false)))⟩] false)
 .ret)] : List Fr) = FF at *
      simp only [h0, h3, hc, hi, hi5, hrow, hld, hg', u5, wk, wk1, wk2, Option.some.injEq, exists_eq_left', decide_true, decide_false, Nat.reduceAdd, Nat.reduceEqDiff, Nat.reduceLeDiff, Nat.reduceLT, Nat.reduceMul, Nat.reduceBEq, Int.reduceLT, Int.reduceLE, Int.reduceEq, Int.reduceAdd, Int.reduceSub, Int.reduceMul, Int.reduceMod, Int.reduceTMod, Int.reduceTDiv, Int.reduceNeg, Nat.reduceSub, Nat.reduceDiv, reduceIte, reduceCtorEq]
      exact hKt _ (by simp only [wk, wk1, Nat.reduceEqDiff, reduceIte, decide_true])
    · have hg' : ¬ (60 : Int) < (a.b.length : Int) := by omega
      simp only [h0, h3, hc, hi, hi5, hrow, hld, hg', u5, wk, wk1, wk2, Option.some.injEq, exists_eq_left', decide_true, decide_false, Nat.reduceAdd, Nat.reduceEqDiff, Nat.reduceLeDiff, Nat.reduceLT, Nat.reduceMul, Nat.reduceBEq, Int.reduceLT, Int.reduceLE, Int.reduceEq, Int.reduceAdd, Int.reduceSub, Int.reduceMul, Int.reduceMod, Int.reduceTMod, Int.reduceTDiv, Int.reduceNeg, Nat.reduceSub, Nat.reduceDiv, reduceIte, reduceCtorEq]
      refine ih (i + 1) _ (by omega) ?_ ?_ ?_
      · rw [List.take_add_one, ha, List.any_append, ht]; simp [hg]
      all_goals simp only [h0, h3, u5, wk, wk1, Nat.reduceEqDiff, reduceIte, decide_true]
theorem great_ran (hc : T 18 = some (.code ir18)) {s : St} {bnd : Nat} {x : AV} {l : List Act} (hx : Acts bnd s x l) :
    Ran T 18 [x] s fun v s' => s' = s ∧ v = .bool (great l) := by
  refine ran_code hc (Nat.le_of_ble_eq_true rfl) ?_
  by_cases hl : l.length ≤ 60
  · generalize hQ : Fin _ _ = Q
    have hd : decide (60 < l.length) = false := decide_eq_false (by omega)
    have hl' : ¬ (60 : Int) < (l.length : Int) := by omega
    have hlp := great_loop (T := T) (Q := Q) hl hx ?_ ?_ l.length 0
    · rcases hx.sl with ⟨hl0, rfl | rfl⟩ | ⟨hz, id, cap, rfl, _⟩
      · simp only [ir18, wk, wk1, wk2, Option.some.injEq, exists_eq_left', decide_true, decide_false, Nat.reduceAdd, Nat.reduceEqDiff, Nat.reduceLeDiff, Nat.reduceLT, Nat.reduceMul, Nat.reduceBEq, Int.reduceLT, Int.reduceLE, Int.reduceEq, Int.reduceAdd, Int.reduceSub, Int.reduceMul, Int.reduceMod, Int.reduceTMod, Int.reduceTDiv, Int.reduceNeg, Nat.reduceSub, Nat.reduceDiv, reduceIte, reduceCtorEq]
        refine hlp _ (by omega) rfl ?_ ?_ <;> simp only [wk, wk1, Nat.reduceEqDiff, reduceIte, decide_true] <;> rfl
      · simp only [ir18, wk, wk1, wk2, Option.some.injEq, exists_eq_left', decide_true, decide_false, Nat.reduceAdd, Nat.reduceEqDiff, Nat.reduceLeDiff, Nat.reduceLT, Nat.reduceMul, Nat.reduceBEq, Int.reduceLT, Int.reduceLE, Int.reduceEq, Int.reduceAdd, Int.reduceSub, Int.reduceMul, Int.reduceMod, Int.reduceTMod, Int.reduceTDiv, Int.reduceNeg, Nat.reduceSub, Nat.reduceDiv, reduceIte, reduceCtorEq]
        refine hlp _ (by omega) rfl ?_ ?_ <;> simp only [wk, wk1, Nat.reduceEqDiff, reduceIte, decide_true] <;> rfl
      · simp only [ir18, hl', wk, wk1, wk2, Option.some.injEq, exists_eq_left', decide_true, decide_false, Nat.reduceAdd, Nat.reduceEqDiff, Nat.reduceLeDiff, Nat.reduceLT, Nat.reduceMul, Nat.reduceBEq, Int.reduceLT, Int.reduceLE, Int.reduceEq, Int.reduceAdd, Int.reduceSub, Int.reduceMul, Int.reduceMod, Int.reduceTMod, Int.reduceTDiv, Int.reduceNeg, Nat.reduceSub, Nat.reduceDiv, reduceIte, reduceCtorEq]
        refine hlp _ (by omega) rfl ?_ ?_ <;> simp only [wk, wk1, Nat.reduceEqDiff, reduceIte, decide_true] <;> rfl
    · intro h e
      subst hQ
      simp only [ir18, wk, wk1, wk2, Option.some.injEq, exists_eq_left', decide_true, decide_false, Nat.reduceAdd, Nat.reduceEqDiff, Nat.reduceLeDiff, Nat.reduceLT, Nat.reduceMul, Nat.reduceBEq, Int.reduceLT, Int.reduceLE, Int.reduceEq, Int.reduceAdd, Int.reduceSub, Int.reduceMul, Int.reduceMod, Int.reduceTMod, Int.reduceTDiv, Int.reduceNeg, Nat.reduceSub, Nat.reduceDiv, reduceIte, reduceCtorEq]
      simp [great, hd, h]
    · intro h e h2
      subst hQ
      simp only [ir18, h2, wk, wk1, wk2, Option.some.injEq, exists_eq_left', decide_true, decide_false, Nat.reduceAdd, Nat.reduceEqDiff, Nat.reduceLeDiff, Nat.reduceLT, Nat.reduceMul, Nat.reduceBEq, Int.reduceLT, Int.reduceLE, Int.reduceEq, Int.reduceAdd, Int.reduceSub, Int.reduceMul, Int.reduceMod, Int.reduceTMod, Int.reduceTDiv, Int.reduceNeg, Nat.reduceSub, Nat.reduceDiv, reduceIte, reduceCtorEq]
      simp only [great, hd, h, Bool.false_or]
  · have hl' : (60 : Int) < (l.length : Int) := by omega
    have hd : decide (60 < l.length) = true := decide_eq_true (by omega)
    rcases hx.sl with ⟨hl0, rfl | rfl⟩ | ⟨hz, id, cap, rfl, _⟩
    · omega
    · omega
    · simp only [ir18, hl', wk, wk1, wk2, Option.some.injEq, exists_eq_left', decide_true, decide_false, Nat.reduceAdd, Nat.reduceEqDiff, Nat.reduceLeDiff, Nat.reduceLT, Nat.reduceMul, Nat.reduceBEq, Int.reduceLT, Int.reduceLE, Int.reduceEq, Int.reduceAdd, Int.reduceSub, Int.reduceMul, Int.reduceMod, Int.reduceTMod, Int.reduceTDiv, Int.reduceNeg, Nat.reduceSub, Nat.reduceDiv, reduceIte, reduceCtorEq]
      simp [great, hd]
end
end Go.V
/- mem: what is done with a memory. -/
namespace Go.V
open Go
set_option linter.unusedSimpArgs false
set_option linter.unusedVariables false
open Go.V.KU
abbrev memJl0 : ICode := (.loop (.seq (.seq (.region [⟨some 6, none, [], (.move (.t 4))⟩, ⟨some 7, none, [], (.move (.t 1))⟩, ⟨some 8, none, [], (.lenSl (.t 7))⟩, ⟨some 9, none, [], (.bin .lss (.t 6) (.t 8))⟩] false)
 (.cond (.t 9) .skip (.exit 0)))
 (.seq (.block 1 (.seq (.region [⟨some 12, none, [], (.move (.t 1))⟩, ⟨some 13, none, [], (.move (.t 4))⟩, ⟨some 14, none, [], (.idxSl 5 (.t 12) (.t 13))⟩, ⟨some 15, none, [], (.load true 5 (.t 14))⟩, ⟨some 5, none, [], (.alloc [(.int .u8 0), (.int .u32 0), (.int .i64 0), (.int .u32 0), (.str [])])⟩, ⟨none, none, [], (.store 5 (.t 5) (.t 15))⟩] false)
 (.seq (.region [⟨some 16, none, [], (.fieldAddr 0 (.t 5))⟩, ⟨some 17, none, [], (.load false 1 (.t 16))⟩] false)
 (.block 2 (.seq (.region [⟨some 19, none, [], (.bin .eql (.t 17) (.c (.int .u8 0)))⟩, ⟨some 18, none, [], (.move (.t 19))⟩] false)
 (.cond (.t 18) (.region [⟨some 20, none, [], (.move (.t 0))⟩, ⟨some 21, none, [], (.fieldAddr 1 (.t 5))⟩, ⟨some 22, none, [], (.load false 1 (.t 21))⟩, ⟨some 23, none, [], (.fieldAddr 3 (.t 5))⟩, ⟨some 24, none, [], (.load false 1 (.t 23))⟩, ⟨some 25, none, [], (.conv (.intInt .u8) (.t 24))⟩, ⟨some 26, none, [], (.call 21 [(.t 20), (.t 22), (.t 25)])⟩] false) (.seq (.region [⟨some 28, none, [], (.bin .eql (.t 17) (.c (.int .u8 1)))⟩, ⟨some 27, none, [], (.move (.t 28))⟩] false)
 (.cond (.t 27) (.region [⟨some 29, none, [], (.move (.t 0))⟩, ⟨some 30, none, [], (.fieldAddr 1 (.t 5))⟩, ⟨some 31, none, [], (.load false 1 (.t 30))⟩, ⟨some 32, none, [], (.fieldAddr 2 (.t 5))⟩, ⟨some 33, none, [], (.load false 1 (.t 32))⟩, ⟨some 34, none, [], (.fieldAddr 3 (.t 5))⟩, ⟨some 35, none, [], (.load false 1 (.t 34))⟩, ⟨some 36, none, [], (.call 16 [(.t 29), (.t 31), (.t 33), (.t 35)])⟩] false) (.seq (.region [⟨some 38, none, [], (.bin .eql (.t 17) (.c (.int .u8 3)))⟩, ⟨some 37, none, [], (.move (.t 38))⟩] false)
 (.cond (.t 37) (.region [⟨some 39, none, [], (.move (.t 0))⟩, ⟨some 40, none, [], (.fieldAddr 1 (.t 5))⟩, ⟨some 41, none, [], (.load false 1 (.t 40))⟩, ⟨some 42, none, [], (.fieldAddr 4 (.t 5))⟩, ⟨some 43, none, [], (.load false 1 (.t 42))⟩, ⟨some 44, none, [], (.conv .strBytes (.t 43))⟩, ⟨some 45, none, [], (.call 25 [(.t 39), (.t 41), (.t 44)])⟩] false) .skip))))))))))
 (.region [⟨some 10, none, [], (.move (.t 4))⟩, ⟨some 11, none, [], (.bin .add (.t 10) (.c (.int .i64 1)))⟩, ⟨some 4, none, [], (.move (.t 11))⟩] false))))
structure DoTab (T : Tab) : Prop where
  put : T 57 = some (.code ir57)
  Put : T 21 = some (.code ir21)
  may : T 52 = some (.code ir52)
  word : T 14 = some (.code ir14)
  store : T 16 = some (.code ir16)
  load : T 25 = some (.code ir25)
  get : T 26 = some (.code ir26)
  new : T 12 = some (.code ir12)
  great : T 18 = some (.code ir18)
  done : T 33 = some (.code ir33)
  awake : T 19 = some (.code ir19)
section
variable {T : Tab}
set_option maxHeartbeats 4000000 in
theorem awake_ran (hT : DoTab T) {s : St} (hs : WFS s) : Ran T 19 [] s fun v s' => v = .bool true ∧ Ext s s' := by
  refine ran_code hT.awake (Nat.le_of_ble_eq_true rfl) ?_
  generalize hQ : Fin _ _ = Q
  simp only [ir19, wk, wk1, wk2, Option.some.injEq, exists_eq_left', decide_true, decide_false, Nat.reduceAdd, Nat.reduceEqDiff, Nat.reduceLeDiff, Nat.reduceLT, Nat.reduceMul, Nat.reduceBEq, Int.reduceLT, Int.reduceLE, Int.reduceEq, Int.reduceAdd, Int.reduceSub, Int.reduceMul, Int.reduceMod, Int.reduceTMod, Int.reduceTDiv, Int.reduceNeg, Nat.reduceSub, Nat.reduceDiv, reduceIte, reduceCtorEq]
  refine goCall_by (new_ran hT.new s hs) ?_
  rintro _ s1 ⟨pm, r, rfl, hpm, hr, hM, hE⟩
  simp only [wk, wk1, wk2, Option.some.injEq, exists_eq_left', decide_true, decide_false, Nat.reduceAdd, Nat.reduceEqDiff, Nat.reduceLeDiff, Nat.reduceLT, Nat.reduceMul, Nat.reduceBEq, Int.reduceLT, Int.reduceLE, Int.reduceEq, Int.reduceAdd, Int.reduceSub, Int.reduceMul, Int.reduceMod, Int.reduceTMod, Int.reduceTDiv, Int.reduceNeg, Nat.reduceSub, Nat.reduceDiv, reduceIte, reduceCtorEq]
  refine goCall_by (store_ran hT.store hT.may hT.put hM 4 16909060 (by omega) 4) ?_
  rintro v s2 h2
  rw [if_pos (by decide)] at h2
  obtain ⟨rfl, hM2, hO⟩ := h2
  have hE2 : Ext s s2 := ⟨hM2.wfs, Nat.le_trans hE.2.1 hO.next, fun id hid => by rw [hO.same id (Nat.lt_of_lt_of_le hid hE.2.1) (by omega), hE.2.2 id hid]⟩
  simp only [wk, wk1, wk2, Option.some.injEq, exists_eq_left', decide_true, decide_false, Nat.reduceAdd, Nat.reduceEqDiff, Nat.reduceLeDiff, Nat.reduceLT, Nat.reduceMul, Nat.reduceBEq, Int.reduceLT, Int.reduceLE, Int.reduceEq, Int.reduceAdd, Int.reduceSub, Int.reduceMul, Int.reduceMod, Int.reduceTMod, Int.reduceTDiv, Int.reduceNeg, Nat.reduceSub, Nat.reduceDiv, reduceIte, reduceCtorEq]
  refine goCall_by (word_ran hT.word hT.may hM2 6 (by omega) 2) ?_
  rintro _ _ ⟨rfl, rfl⟩
  have a1 : rightW 6 2 = true := by decide
  have a2 : wordN (storeN 4 16909060 (4 : Int).toNat ([], 0)).1 6 (2 : Int).toNat = 258 := by decide
  rw [if_pos a1, a2]
  simp only [wk, wk1, wk2, Option.some.injEq, exists_eq_left', decide_true, decide_false, Nat.reduceAdd, Nat.reduceEqDiff, Nat.reduceLeDiff, Nat.reduceLT, Nat.reduceMul, Nat.reduceBEq, Int.reduceLT, Int.reduceLE, Int.reduceEq, Int.reduceAdd, Int.reduceSub, Int.reduceMul, Int.reduceMod, Int.reduceTMod, Int.reduceTDiv, Int.reduceNeg, Nat.reduceSub, Nat.reduceDiv, reduceIte, reduceCtorEq]
  refine goCall_by (word_ran hT.word hT.may hM2 6 (by omega) 4) ?_
  rintro _ _ ⟨rfl, rfl⟩
  have a3 : ¬ rightW 6 4 = true := by decide
  rw [if_neg a3]
  simp only [eqV, nilEq, wk, wk1, wk2, Option.some.injEq, exists_eq_left', decide_true, decide_false, Nat.reduceAdd, Nat.reduceEqDiff, Nat.reduceLeDiff, Nat.reduceLT, Nat.reduceMul, Nat.reduceBEq, Int.reduceLT, Int.reduceLE, Int.reduceEq, Int.reduceAdd, Int.reduceSub, Int.reduceMul, Int.reduceMod, Int.reduceTMod, Int.reduceTDiv, Int.reduceNeg, Nat.reduceSub, Nat.reduceDiv, reduceIte, reduceCtorEq]
  refine goCall_by (get_ran hT.get hM2 4) ?_
  rintro _ _ ⟨rfl, rfl⟩
  have a4 : mget (storeN 4 16909060 (4 : Int).toNat ([], 0)).1 4 = 4 := by decide
  rw [a4]
  subst hQ
  simp only [ir19, wk, wk1, wk2, Option.some.injEq, exists_eq_left', decide_true, decide_false, Nat.reduceAdd, Nat.reduceEqDiff, Nat.reduceLeDiff, Nat.reduceLT, Nat.reduceMul, Nat.reduceBEq, Int.reduceLT, Int.reduceLE, Int.reduceEq, Int.reduceAdd, Int.reduceSub, Int.reduceMul, Int.reduceMod, Int.reduceTMod, Int.reduceTDiv, Int.reduceNeg, Nat.reduceSub, Nat.reduceDiv, reduceIte, reduceCtorEq]
  exact hE2

/-- What an act leaves. -/
def does (a : Act) (p : List ME × Nat) : List ME × Nat :=
  if a.d = 0 then mput p.1 p.2 a.k (a.v % 256) else if a.d = 1 then (if rightW a.k a.n = true then storeN a.k a.v a.n.toNat p else p) else if a.d = 3 then (if a.k + a.b.length ≤ 4294967296 then loadN a.k a.b a.b.length p else p) else p
theorem does_clk {a : Act} (h : a.b.length ≤ 60) (p : List ME × Nat) : (does a p).2 ≤ p.2 + 60 := by
  unfold does
  split
  · have := mput_clk p.1 p.2 a.k (a.v % 256); omega
  · split
    · split
      · rename_i hr
        obtain ⟨m, hm, h4, _⟩ := rightW_n hr
        have := storeN_clk a.k a.v p a.n.toNat
        omega
      · omega
    · split
      · split
        · have := loadN_clk a.k a.b p a.b.length; omega
        · omega
      · omega
set_option maxHeartbeats 8000000 in
theorem done_loop (hT : DoTab T) {Q : Post} {s0 : St} {bnd pm r c0 : Nat} {x : AV} {l : List Act} (hl : l.length ≤ 60) (hb : ∀ a ∈ l, a.b.length ≤ 60) (hx : Acts bnd s0 x l) (hr : bnd ≤ r)
    (K : ∀ (e : Env) (s : St) (L : List ME) (c : Nat), MemAt s pm r L c → c ≤ c0 + 60 * l.length → Only r s0 s → Ret T Q [] .normal e s) :
    ∀ (m i : Nat) (e : Env) (s : St) (L : List ME) (c : Nat), m + i = l.length → MemAt s pm r L c → c ≤ c0 + 60 * i → Only r s0 s → opd e (.t 0) = mptr pm → opd e (.t 1) = x → opd e (.t 4) = .int .i64 (i : Int) →
      Go T Q (memJl0) [.block 0] e s := by
  intro m
  induction m with
  | zero =>
    intro i e s L c hm hM hcl hO h0 h1 h4
    have hin : i = l.length := by omega
    subst hin
    have hK := fun e => K e s L c hM hcl hO
    rw [go_loop]
    generalize ([] : List Fr) = FF at *
    rcases hx.sl with ⟨hl0, rfl | rfl⟩ | ⟨hz, id, cap, rfl, _⟩
    · simp only [h1, h4, hl0, hK, wk, wk1, wk2, Option.some.injEq, exists_eq_left', decide_true, decide_false, Nat.reduceAdd, Nat.reduceEqDiff, Nat.reduceLeDiff, Nat.reduceLT, Nat.reduceMul, Nat.reduceBEq, Int.reduceLT, Int.reduceLE, Int.reduceEq, Int.reduceAdd, Int.reduceSub, Int.reduceMul, Int.reduceMod, Int.reduceTMod, Int.reduceTDiv, Int.reduceNeg, Nat.reduceSub, Nat.reduceDiv, reduceIte, reduceCtorEq]
    · simp only [h1, h4, hl0, hK, wk, wk1, wk2, Option.some.injEq, exists_eq_left', decide_true, decide_false, Nat.reduceAdd, Nat.reduceEqDiff, Nat.reduceLeDiff, Nat.reduceLT, Nat.reduceMul, Nat.reduceBEq, Int.reduceLT, Int.reduceLE, Int.reduceEq, Int.reduceAdd, Int.reduceSub, Int.reduceMul, Int.reduceMod, Int.reduceTMod, Int.reduceTDiv, Int.reduceNeg, Nat.reduceSub, Nat.reduceDiv, reduceIte, reduceCtorEq]
    · simp only [h1, h4, hK, wk, wk1, wk2, Option.some.injEq, exists_eq_left', decide_true, decide_false, Nat.reduceAdd, Nat.reduceEqDiff, Nat.reduceLeDiff, Nat.reduceLT, Nat.reduceMul, Nat.reduceBEq, Int.reduceLT, Int.reduceLE, Int.reduceEq, Int.reduceAdd, Int.reduceSub, Int.reduceMul, Int.reduceMod, Int.reduceTMod, Int.reduceTDiv, Int.reduceNeg, Nat.reduceSub, Nat.reduceDiv, reduceIte, reduceCtorEq]
  | succ m ih =>
    intro i e s L c hm hM hcl hO h0 h1 h4
    have hi : i < l.length := by omega
    have hxs := hx.only hr hO
    rcases hxs.sl with ⟨hl0, _⟩ | ⟨hz, id, cap, rfl, _, _, hrow⟩
    · omega
    obtain ⟨a, ha⟩ : ∃ x, l[i]? = some x := ⟨_, List.getElem?_eq_getElem hi⟩
    have hal := List.mem_of_getElem? ha
    obtain ⟨k1, k2, k3⟩ := hx.ok a hal
    have k4 := hb a hal
    have hld := act_take l i a ha
    have hc : (i : Int) < (l.length : Int) := by omega
    have hi5 : i * 5 + 5 ≤ l.length * 5 := by omega
    have u5 : wrapF .i64 ((i : Int) + 1) = ((i + 1 : Nat) : Int) := i64_add1 (by omega)
    have hE1 : Ext s (s.add (.cells [.int .u8 (a.d : Int), .int .u32 (a.k : Int), .int .i64 a.n, .int .u32 (a.v : Int), .str a.b] 0 0 false)) := (Ext.refl hM.wfs).add _
    have hM1 := hM.ext hE1
    have hO1 := hO.trans (Only.ext (r := r) hE1)
    have hnx : s.next ≠ r := by have := hM.lt2; omega
    rw [go_loop]
    by_cases d0 : a.d = 0
    · have d0' : (a.d : Int) = 0 := by omega
      have u1 : (a.v : Int) % 256 = ((a.v % 256 : Nat) : Int) := by omega
      simp only [h0, h1, h4, hc, hi, hi5, hrow, hld, d0', u1, wk, wk1, wk2, Option.some.injEq, exists_eq_left', decide_true, decide_false, Nat.reduceAdd, Nat.reduceEqDiff, Nat.reduceLeDiff, Nat.reduceLT, Nat.reduceMul, Nat.reduceBEq, Int.reduceLT, Int.reduceLE, Int.reduceEq, Int.reduceAdd, Int.reduceSub, Int.reduceMul, Int.reduceMod, Int.reduceTMod, Int.reduceTDiv, Int.reduceNeg, Nat.reduceSub, Nat.reduceDiv, reduceIte, reduceCtorEq]
      rw [d0'] at hE1 hM1 hO1
      refine goCall_by (Put_ran hT.Put hT.put hM1 a.k (a.v % 256)) ?_
      rintro _ s2 ⟨rfl, hs2⟩
      have hM2 := hM1.put (b := a.v % 256) k1 (by omega)
      have hO2 := hO1.trans (Only.put hM1.wfs hM1.lt2 (.map (ments (mput L c a.k (a.v % 256)).1) (mput L c a.k (a.v % 256)).2))
      rw [← hs2] at hM2 hO2
      simp only [h0, h1, h4, u5, wk, wk1, wk2, Option.some.injEq, exists_eq_left', decide_true, decide_false, Nat.reduceAdd, Nat.reduceEqDiff, Nat.reduceLeDiff, Nat.reduceLT, Nat.reduceMul, Nat.reduceBEq, Int.reduceLT, Int.reduceLE, Int.reduceEq, Int.reduceAdd, Int.reduceSub, Int.reduceMul, Int.reduceMod, Int.reduceTMod, Int.reduceTDiv, Int.reduceNeg, Nat.reduceSub, Nat.reduceDiv, reduceIte, reduceCtorEq]
      have hcl2 := mput_clk L c a.k (a.v % 256)
      refine ih (i + 1) _ _ _ _ (by omega) hM2 (by omega) hO2 ?_ ?_ ?_ <;> simp only [h0, h1, h4, u5, wk, wk1, Nat.reduceEqDiff, reduceIte, decide_true]
    · have d0' : ¬ (a.d : Int) = 0 := by omega
      by_cases d1 : a.d = 1
      · have d1' : (a.d : Int) = 1 := by omega
        simp only [h0, h1, h4, hc, hi, hi5, hrow, hld, d1', wk, wk1, wk2, Option.some.injEq, exists_eq_left', decide_true, decide_false, Nat.reduceAdd, Nat.reduceEqDiff, Nat.reduceLeDiff, Nat.reduceLT, Nat.reduceMul, Nat.reduceBEq, Int.reduceLT, Int.reduceLE, Int.reduceEq, Int.reduceAdd, Int.reduceSub, Int.reduceMul, Int.reduceMod, Int.reduceTMod, Int.reduceTDiv, Int.reduceNeg, Nat.reduceSub, Nat.reduceDiv, reduceIte, reduceCtorEq]
        rw [d1'] at hE1 hM1 hO1
        refine goCall_by (store_ran hT.store hT.may hT.put hM1 a.k a.v k1 a.n) ?_
        intro v s2 h2
        cases hr2 : rightW a.k a.n with
        | true =>
          rw [if_pos hr2] at h2
          obtain ⟨rfl, hM2, hO2⟩ := h2
          obtain ⟨m', hm', hm4, _⟩ := rightW_n hr2
          have hcl2 := storeN_clk a.k a.v (L, c) a.n.toNat
          simp only [h0, h1, h4, u5, wk, wk1, wk2, Option.some.injEq, exists_eq_left', decide_true, decide_false, Nat.reduceAdd, Nat.reduceEqDiff, Nat.reduceLeDiff, Nat.reduceLT, Nat.reduceMul, Nat.reduceBEq, Int.reduceLT, Int.reduceLE, Int.reduceEq, Int.reduceAdd, Int.reduceSub, Int.reduceMul, Int.reduceMod, Int.reduceTMod, Int.reduceTDiv, Int.reduceNeg, Nat.reduceSub, Nat.reduceDiv, reduceIte, reduceCtorEq]
          refine ih (i + 1) _ _ _ _ (by omega) hM2 (by simp only [] at hcl2; omega) (hO1.trans hO2) ?_ ?_ ?_ <;> simp only [h0, h1, h4, u5, wk, wk1, Nat.reduceEqDiff, reduceIte, decide_true]
        | false =>
          rw [if_neg (by simp [hr2])] at h2
          obtain ⟨rfl, rfl⟩ := h2
          simp only [h0, h1, h4, u5, wk, wk1, wk2, Option.some.injEq, exists_eq_left', decide_true, decide_false, Nat.reduceAdd, Nat.reduceEqDiff, Nat.reduceLeDiff, Nat.reduceLT, Nat.reduceMul, Nat.reduceBEq, Int.reduceLT, Int.reduceLE, Int.reduceEq, Int.reduceAdd, Int.reduceSub, Int.reduceMul, Int.reduceMod, Int.reduceTMod, Int.reduceTDiv, Int.reduceNeg, Nat.reduceSub, Nat.reduceDiv, reduceIte, reduceCtorEq]
          refine ih (i + 1) _ _ _ _ (by omega) hM1 (by omega) hO1 ?_ ?_ ?_ <;> simp only [h0, h1, h4, u5, wk, wk1, Nat.reduceEqDiff, reduceIte, decide_true]
      · have d1' : ¬ (a.d : Int) = 1 := by omega
        by_cases d3 : a.d = 3
        · have d3' : (a.d : Int) = 3 := by omega
          have hsb : a.b.length * 65536 ≤ 1099511627776 := by omega
          simp only [h0, h1, h4, hc, hi, hi5, hrow, hld, d3', wo_strBytes, strB, hsb, wk, wk1, wk2, Option.some.injEq, exists_eq_left', decide_true, decide_false, Nat.reduceAdd, Nat.reduceEqDiff, Nat.reduceLeDiff, Nat.reduceLT, Nat.reduceMul, Nat.reduceBEq, Int.reduceLT, Int.reduceLE, Int.reduceEq, Int.reduceAdd, Int.reduceSub, Int.reduceMul, Int.reduceMod, Int.reduceTMod, Int.reduceTDiv, Int.reduceNeg, Nat.reduceSub, Nat.reduceDiv, reduceIte, reduceCtorEq]
          rw [d3'] at hE1 hM1 hO1
          have hE2 : Ext _ _ := hE1.add (.cells (a.b.map fun b => .int .u8 b.toNat) 0 0 false)
          have hM2 := hM.ext hE2
          have hO2 := hO.trans (Only.ext (r := r) hE2)
          have hB : ((s.add (.cells [.int .u8 3, .int .u32 (a.k : Int), .int .i64 a.n, .int .u32 (a.v : Int), .str a.b] 0 0 false)).add (.cells (a.b.map fun b => .int .u8 b.toNat) 0 0 false)).heap.get (s.next + 1) = some (.cells (a.b.map fun b => .int .u8 b.toNat) 0 0 false) := by
            rw [add_get, if_pos (show s.next + 1 = (s.add _).next from rfl)]
          refine goCall_by (load_ran hT.load hT.put hM2 a.k k1 a.b (by omega) hB (by have := hM.lt2; omega) (by show s.next + 1 < s.next + 1 + 1; omega)) ?_
          intro v s2 h2
          by_cases hfit : a.k + a.b.length ≤ 4294967296
          · rw [if_pos hfit] at h2
            obtain ⟨rfl, hM3, hO3⟩ := h2
            have hcl2 := loadN_clk a.k a.b (L, c) a.b.length
            simp only [h0, h1, h4, u5, wk, wk1, wk2, Option.some.injEq, exists_eq_left', decide_true, decide_false, Nat.reduceAdd, Nat.reduceEqDiff, Nat.reduceLeDiff, Nat.reduceLT, Nat.reduceMul, Nat.reduceBEq, Int.reduceLT, Int.reduceLE, Int.reduceEq, Int.reduceAdd, Int.reduceSub, Int.reduceMul, Int.reduceMod, Int.reduceTMod, Int.reduceTDiv, Int.reduceNeg, Nat.reduceSub, Nat.reduceDiv, reduceIte, reduceCtorEq]
            refine ih (i + 1) _ _ _ _ (by omega) hM3 (by simp only [] at hcl2; omega) (hO2.trans hO3) ?_ ?_ ?_ <;> simp only [h0, h1, h4, u5, wk, wk1, Nat.reduceEqDiff, reduceIte, decide_true]
          · rw [if_neg hfit] at h2
            obtain ⟨rfl, rfl⟩ := h2
            simp only [h0, h1, h4, u5, wk, wk1, wk2, Option.some.injEq, exists_eq_left', decide_true, decide_false, Nat.reduceAdd, Nat.reduceEqDiff, Nat.reduceLeDiff, Nat.reduceLT, Nat.reduceMul, Nat.reduceBEq, Int.reduceLT, Int.reduceLE, Int.reduceEq, Int.reduceAdd, Int.reduceSub, Int.reduceMul, Int.reduceMod, Int.reduceTMod, Int.reduceTDiv, Int.reduceNeg, Nat.reduceSub, Nat.reduceDiv, reduceIte, reduceCtorEq]
            refine ih (i + 1) _ _ _ _ (by omega) hM2 (by omega) hO2 ?_ ?_ ?_ <;> simp only [h0, h1, h4, u5, wk, wk1, Nat.reduceEqDiff, reduceIte, decide_true]
        · have d3' : ¬ (a.d : Int) = 3 := by omega
          simp only [h0, h1, h4, hc, hi, hi5, hrow, hld, d0', d1', d3', u5, wk, wk1, wk2, Option.some.injEq, exists_eq_left', decide_true, decide_false, Nat.reduceAdd, Nat.reduceEqDiff, Nat.reduceLeDiff, Nat.reduceLT, Nat.reduceMul, Nat.reduceBEq, Int.reduceLT, Int.reduceLE, Int.reduceEq, Int.reduceAdd, Int.reduceSub, Int.reduceMul, Int.reduceMod, Int.reduceTMod, Int.reduceTDiv, Int.reduceNeg, Nat.reduceSub, Nat.reduceDiv, reduceIte, reduceCtorEq]
          refine ih (i + 1) _ _ _ _ (by omega) hM1 (by omega) hO1 ?_ ?_ ?_ <;> simp only [h0, h1, h4, u5, wk, wk1, Nat.reduceEqDiff, reduceIte, decide_true]
set_option maxHeartbeats 4000000 in
theorem done_ran (hT : DoTab T) {s : St} {bnd pm r c : Nat} {L : List ME} {x : AV} {l : List Act} (hM : MemAt s pm r L c) (hl : l.length ≤ 60) (hb : ∀ a ∈ l, a.b.length ≤ 60) (hx : Acts bnd s x l) (hr : bnd ≤ r) :
    Ran T 33 [mptr pm, x] s fun _ s' => ∃ L' c', MemAt s' pm r L' c' ∧ c' ≤ c + 60 * l.length ∧ Only r s s' := by
  refine ran_code hT.done (Nat.le_of_ble_eq_true rfl) ?_
  generalize hQ : Fin _ _ = Q
  simp only [ir33, wk, wk1, wk2, Option.some.injEq, exists_eq_left', decide_true, decide_false, Nat.reduceAdd, Nat.reduceEqDiff, Nat.reduceLeDiff, Nat.reduceLT, Nat.reduceMul, Nat.reduceBEq, Int.reduceLT, Int.reduceLE, Int.reduceEq, Int.reduceAdd, Int.reduceSub, Int.reduceMul, Int.reduceMod, Int.reduceTMod, Int.reduceTDiv, Int.reduceNeg, Nat.reduceSub, Nat.reduceDiv, reduceIte, reduceCtorEq]
  refine done_loop hT (c0 := c) hl hb hx hr ?_ l.length 0 _ s L c (by omega) hM (by omega) (Only.refl hM.wfs) ?_ ?_ ?_
  · intro e s2 L2 c2 h2 hc2 hO
    simp only [wk, wk1, wk2, Option.some.injEq, exists_eq_left', decide_true, decide_false, Nat.reduceAdd, Nat.reduceEqDiff, Nat.reduceLeDiff, Nat.reduceLT, Nat.reduceMul, Nat.reduceBEq, Int.reduceLT, Int.reduceLE, Int.reduceEq, Int.reduceAdd, Int.reduceSub, Int.reduceMul, Int.reduceMod, Int.reduceTMod, Int.reduceTDiv, Int.reduceNeg, Nat.reduceSub, Nat.reduceDiv, reduceIte, reduceCtorEq]
    subst hQ
    simp only [ir33, wk, wk1, wk2, Option.some.injEq, exists_eq_left', decide_true, decide_false, Nat.reduceAdd, Nat.reduceEqDiff, Nat.reduceLeDiff, Nat.reduceLT, Nat.reduceMul, Nat.reduceBEq, Int.reduceLT, Int.reduceLE, Int.reduceEq, Int.reduceAdd, Int.reduceSub, Int.reduceMul, Int.reduceMod, Int.reduceTMod, Int.reduceTDiv, Int.reduceNeg, Nat.reduceSub, Nat.reduceDiv, reduceIte, reduceCtorEq]
    exact ⟨L2, c2, h2, hc2, hO⟩
  all_goals (try simp only [wk, wk1, Nat.reduceEqDiff, reduceIte, decide_true])
  all_goals rfl
end
end Go.V
