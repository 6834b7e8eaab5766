/- Functions in the small language. -/
import Derived.Test.YtpccibieeikllaaGreatDoorTraceIr0
set_option linter.unusedVariables false
set_option linter.unusedSimpArgs false
set_option linter.unusedSectionVars false
/- Functions in the small language. -/
namespace Go.V
open Go
set_option linter.unusedSimpArgs false
set_option linter.unusedVariables false
-- (coxless/sub.field).puts
def ir288 : IFunc := ⟨67, [.tmp 4, .tmp 5], (.seq (.region [⟨some 2, none, [], (.box (.t 0))⟩, ⟨some 3, none, [], (.box (.t 1))⟩, ⟨some 4, none, [], (.move (.c (.int .u32 0)))⟩, ⟨some 5, none, [], (.move (.c (.bool false)))⟩] false)
 (.seq (.seq (.region [⟨some 8, none, [], (.fieldAddr 0 (.t 2))⟩, ⟨some 9, none, [], (.load false 1 (.t 8))⟩] false)
 (.block 0 (.seq (.region [⟨some 11, none, [], (.bin .eql (.t 9) (.c (.int .i64 1)))⟩, ⟨some 10, none, [], (.move (.t 11))⟩] false)
 (.cond (.t 10) (.seq (.region [⟨some 12, none, [], (.fieldAddr 1 (.t 3))⟩, ⟨some 13, none, [], (.load false 1 (.t 12))⟩, ⟨some 14, none, [], (.call 294 [(.t 13)])⟩, ⟨some 15, none, [], (.extract (.t 14) 0)⟩, ⟨some 16, none, [], (.extract (.t 14) 1)⟩, ⟨some 4, none, [], (.move (.t 15))⟩, ⟨some 5, none, [], (.move (.t 16))⟩] false)
 .ret) (.seq (.region [⟨some 18, none, [], (.bin .eql (.t 9) (.c (.int .i64 2)))⟩, ⟨some 17, none, [], (.move (.t 18))⟩] false)
 (.cond (.t 17) (.seq (.region [⟨some 19, none, [], (.fieldAddr 2 (.t 3))⟩, ⟨some 20, none, [], (.load false 1 (.t 19))⟩, ⟨some 21, none, [], (.call 294 [(.t 20)])⟩, ⟨some 22, none, [], (.extract (.t 21) 0)⟩, ⟨some 23, none, [], (.extract (.t 21) 1)⟩, ⟨some 4, none, [], (.move (.t 22))⟩, ⟨some 5, none, [], (.move (.t 23))⟩] false)
 .ret) (.seq (.region [⟨some 25, none, [], (.bin .eql (.t 9) (.c (.int .i64 3)))⟩, ⟨some 24, none, [], (.move (.t 25))⟩] false)
 (.cond (.t 24) (.seq (.region [⟨some 26, none, [], (.fieldAddr 3 (.t 3))⟩, ⟨some 27, none, [], (.load false 1 (.t 26))⟩, ⟨some 28, none, [], (.call 294 [(.t 27)])⟩, ⟨some 29, none, [], (.extract (.t 28) 0)⟩, ⟨some 30, none, [], (.extract (.t 28) 1)⟩, ⟨some 4, none, [], (.move (.t 29))⟩, ⟨some 5, none, [], (.move (.t 30))⟩] false)
 .ret) (.seq (.region [⟨some 32, none, [], (.bin .eql (.t 9) (.c (.int .i64 4)))⟩, ⟨some 31, none, [], (.move (.t 32))⟩] false)
 (.cond (.t 31) (.seq (.region [⟨some 34, none, [], (.fieldAddr 1 (.t 3))⟩, ⟨some 35, none, [], (.load false 1 (.t 34))⟩, ⟨some 36, none, [], (.call 294 [(.t 35)])⟩, ⟨some 33, none, [], (.move (.t 36))⟩, ⟨some 37, none, [], (.extract (.t 33) 0)⟩, ⟨some 38, none, [], (.extract (.t 33) 1)⟩, ⟨some 6, none, [], (.move (.t 37))⟩, ⟨some 7, none, [], (.move (.t 38))⟩] false)
 (.seq (.region [⟨some 39, none, [], (.move (.t 6))⟩, ⟨some 40, none, [], (.move (.t 7))⟩, ⟨some 41, none, [], (.move (.t 40))⟩, ⟨some 42, some (41, true), [], (.fieldAddr 1 (.t 3))⟩, ⟨some 43, some (41, true), [], (.load false 1 (.t 42))⟩, ⟨some 44, some (41, true), [], (.fieldAddr 2 (.t 3))⟩, ⟨some 45, some (41, true), [], (.load false 1 (.t 44))⟩, ⟨some 46, some (41, true), [], (.bin .eql (.t 43) (.t 45))⟩, ⟨some 47, none, [], (.pick (.t 41) (.t 46) (.c (.bool false)))⟩, ⟨some 4, none, [], (.move (.t 39))⟩, ⟨some 5, none, [], (.move (.t 47))⟩] true)
 .ret)) (.seq (.seq (.region [⟨some 49, none, [], (.bin .eql (.t 9) (.c (.int .i64 5)))⟩, ⟨some 48, none, [], (.move (.t 49))⟩] false)
 (.cond (.t 48) .skip (.region [⟨some 50, none, [], (.bin .eql (.t 9) (.c (.int .i64 6)))⟩, ⟨some 48, none, [], (.move (.t 50))⟩] false)))
 (.cond (.t 48) (.seq (.region [⟨some 51, none, [], (.fieldAddr 10 (.t 3))⟩, ⟨some 52, none, [], (.load false 1 (.t 51))⟩, ⟨some 53, none, [], (.fieldAddr 2 (.t 2))⟩, ⟨some 54, none, [], (.load false 1 (.t 53))⟩, ⟨some 55, none, [], (.bin .shr (.t 52) (.t 54))⟩, ⟨some 56, none, [], (.conv (.intInt .u32) (.t 55))⟩, ⟨some 57, none, [], (.fieldAddr 10 (.t 3))⟩, ⟨some 58, none, [], (.load false 1 (.t 57))⟩, ⟨some 59, none, [], (.fieldAddr 1 (.t 2))⟩, ⟨some 60, none, [], (.load false 1 (.t 59))⟩, ⟨some 61, none, [], (.fieldAddr 2 (.t 2))⟩, ⟨some 62, none, [], (.load false 1 (.t 61))⟩, ⟨some 63, none, [], (.fieldAddr 0 (.t 2))⟩, ⟨some 64, none, [], (.load false 1 (.t 63))⟩, ⟨some 65, none, [], (.bin .eql (.t 64) (.c (.int .i64 6)))⟩, ⟨some 66, none, [(.t 51), (.t 53)], (.call 163 [(.t 58), (.t 60), (.t 62), (.t 65)])⟩, ⟨some 4, none, [], (.move (.t 56))⟩, ⟨some 5, none, [], (.move (.t 66))⟩] true)
 .ret) .skip))))))))))))
 (.seq (.region [⟨some 4, none, [], (.move (.c (.int .u32 0)))⟩, ⟨some 5, none, [], (.move (.c (.bool true)))⟩] false)
 .ret)))⟩
-- coxless/sub.small
def ir294 : IFunc := ⟨19, [.tmp 2, .tmp 3], (.seq (.region [⟨some 2, none, [], (.move (.c (.int .u32 0)))⟩, ⟨some 3, none, [], (.move (.c (.bool false)))⟩] false)
 (.seq (.block 0 (.seq (.region [⟨some 5, none, [], (.move (.t 0))⟩, ⟨some 6, none, [], (.bin .lss (.t 5) (.c (.int .u8 8)))⟩, ⟨some 4, none, [], (.move (.t 6))⟩] false)
 (.cond (.t 4) (.seq (.region [⟨some 7, none, [], (.move (.t 0))⟩, ⟨some 8, none, [], (.conv (.intInt .u32) (.t 7))⟩, ⟨some 2, none, [], (.move (.t 8))⟩, ⟨some 3, none, [], (.move (.c (.bool true)))⟩] false)
 .ret) (.seq (.region [⟨some 10, none, [], (.move (.t 0))⟩, ⟨some 11, none, [], (.bin .geq (.t 10) (.c (.int .u8 16)))⟩, ⟨some 12, none, [], (.move (.t 11))⟩, ⟨some 13, some (12, true), [], (.move (.t 0))⟩, ⟨some 14, some (12, true), [], (.bin .lss (.t 13) (.c (.int .u8 24)))⟩, ⟨some 15, none, [], (.pick (.t 12) (.t 14) (.c (.bool false)))⟩, ⟨some 9, none, [], (.move (.t 15))⟩] false)
 (.cond (.t 9) (.seq (.region [⟨some 16, none, [], (.move (.t 0))⟩, ⟨some 17, none, [], (.bin .sub (.t 16) (.c (.int .u8 8)))⟩, ⟨some 18, none, [], (.conv (.intInt .u32) (.t 17))⟩, ⟨some 2, none, [], (.move (.t 18))⟩, ⟨some 3, none, [], (.move (.c (.bool true)))⟩] false)
 .ret) .skip)))))
 (.seq (.region [⟨some 2, none, [], (.move (.c (.int .u32 0)))⟩, ⟨some 3, none, [], (.move (.c (.bool false)))⟩] false)
 .ret)))⟩
-- coxless/rules.Check
def ir111 : IFunc := ⟨65, [.tmp 2], (.seq (.region [⟨some 1, none, [], (.box (.t 0))⟩, ⟨some 2, none, [], (.move (.c (.int .i64 0)))⟩] false)
 (.seq (.region [⟨some 7, none, [], (.fieldAddr 0 (.t 1))⟩, ⟨some 8, none, [], (.load false 1 (.t 7))⟩, ⟨some 3, none, [], (.alloc [.nilSlice])⟩, ⟨none, none, [], (.store 1 (.t 3) (.t 8))⟩] false)
 (.seq (.region [⟨some 4, none, [], (.move (.c (.int .i64 0)))⟩] false)
 (.seq (.seq (.region [⟨some 9, none, [], (.load false 1 (.t 3))⟩, ⟨some 10, none, [], (.lenSl (.t 9))⟩, ⟨some 11, none, [], (.move (.c (.int .i64 0)))⟩] false)
 (.block 0 (.loop (.seq (.region [⟨some 12, none, [], (.bin .lss (.t 11) (.t 10))⟩] false)
 (.seq (.cond (.t 12) .skip (.exit 0))
 (.seq (.block 1 (.seq (.region [⟨some 13, none, [], (.idxSl 11 (.t 9) (.t 11))⟩, ⟨some 14, none, [], (.load true 11 (.t 13))⟩, ⟨some 6, none, [], (.alloc [(.int .u8 0), (.int .u8 0), (.int .u8 0), (.int .u8 0), (.int .u8 0), (.int .u8 0), (.int .u8 0), (.bool false), (.bool false), (.int .u16 0), (.int .i64 0)])⟩, ⟨none, none, [], (.store 11 (.t 6) (.t 14))⟩] false)
 (.seq (.region [⟨some 17, none, [], (.load true 11 (.t 6))⟩, ⟨some 15, none, [], (.buildSlice 1 1 [(.int .u8 0)] [(0, 1, (.c (.int .u8 5)))])⟩, ⟨some 16, none, [(.t 6)], (.call 152 [(.t 15)])⟩, ⟨some 18, none, [], (.callVal (.t 16) [(.t 17)])⟩] true)
 (.cond (.t 18) (.region [⟨some 19, none, [], (.move (.t 4))⟩, ⟨some 20, none, [], (.bin .add (.t 19) (.c (.int .i64 1)))⟩, ⟨some 4, none, [], (.move (.t 20))⟩] false) .skip))))
 (.region [⟨some 21, none, [], (.bin .add (.t 11) (.c (.int .i64 1)))⟩, ⟨some 11, none, [], (.move (.t 21))⟩] false)))))))
 (.seq (.block 2 (.seq (.region [⟨some 23, none, [], (.load false 1 (.t 3))⟩, ⟨some 24, none, [], (.lenSl (.t 23))⟩, ⟨some 25, none, [], (.bin .lss (.t 24) (.c (.int .i64 1)))⟩, ⟨some 26, none, [], (.move (.t 25))⟩, ⟨some 27, some (26, false), [], (.load false 1 (.t 3))⟩, ⟨some 28, some (26, false), [], (.lenSl (.t 27))⟩, ⟨some 29, some (26, false), [], (.bin .gtr (.t 28) (.c (.int .i64 4)))⟩, ⟨some 30, none, [], (.pick (.t 26) (.c (.bool true)) (.t 29))⟩, ⟨some 31, none, [], (.move (.t 30))⟩, ⟨some 32, some (31, false), [], (.fieldAddr 3 (.t 1))⟩, ⟨some 33, some (31, false), [], (.load false 1 (.t 32))⟩, ⟨some 34, some (31, false), [], (.move (.t 33))⟩, ⟨some 35, some (34, true), [], (.fieldAddr 4 (.t 1))⟩, ⟨some 36, some (34, true), [], (.load false 1 (.t 35))⟩, ⟨some 37, some (31, false), [], (.pick (.t 34) (.t 36) (.c (.bool false)))⟩, ⟨some 38, none, [], (.pick (.t 31) (.c (.bool true)) (.t 37))⟩, ⟨some 22, none, [], (.move (.t 38))⟩] false)
 (.cond (.t 22) (.seq (.region [⟨some 2, none, [], (.move (.c (.int .i64 8)))⟩] false)
 .ret) (.seq (.region [⟨some 40, none, [], (.load false 1 (.t 3))⟩, ⟨some 41, none, [], (.call 153 [(.t 40), (.c (.func 154 [] []))])⟩, ⟨some 39, none, [], (.move (.t 41))⟩] false)
 (.cond (.t 39) (.seq (.region [⟨some 2, none, [], (.move (.c (.int .i64 8)))⟩] false)
 .ret) (.seq (.region [⟨some 43, none, [], (.move (.t 4))⟩, ⟨some 44, none, [], (.bin .gtr (.t 43) (.c (.int .i64 1)))⟩, ⟨some 42, none, [], (.move (.t 44))⟩] false)
 (.cond (.t 42) (.seq (.region [⟨some 2, none, [], (.move (.c (.int .i64 14)))⟩] false)
 .ret) (.seq (.region [⟨some 46, none, [], (.load false 1 (.t 3))⟩, ⟨some 47, none, [], (.call 155 [(.t 46)])⟩, ⟨some 45, none, [], (.move (.t 47))⟩] false)
 (.cond (.t 45) (.seq (.region [⟨some 2, none, [], (.move (.c (.int .i64 11)))⟩] false)
 .ret) (.seq (.region [⟨some 49, none, [], (.load false 1 (.t 3))⟩, ⟨some 50, none, [], (.mkFunc 156 [] [(.t 3)])⟩, ⟨some 51, none, [], (.call 153 [(.t 49), (.t 50)])⟩, ⟨some 48, none, [], (.move (.t 51))⟩] false)
 (.cond (.t 48) (.seq (.region [⟨some 2, none, [], (.move (.c (.int .i64 12)))⟩] false)
 .ret) (.seq (.region [⟨some 53, none, [], (.fieldAddr 1 (.t 1))⟩, ⟨some 54, none, [], (.load false 1 (.t 53))⟩, ⟨some 55, none, [], (.move (.t 54))⟩, ⟨some 56, some (55, false), [], (.fieldAddr 2 (.t 1))⟩, ⟨some 57, some (55, false), [], (.load false 1 (.t 56))⟩, ⟨some 58, none, [], (.pick (.t 55) (.c (.bool true)) (.t 57))⟩, ⟨some 59, none, [], (.move (.t 58))⟩, ⟨some 60, some (59, true), [], (.load false 1 (.t 3))⟩, ⟨some 61, some (59, true), [], (.buildSlice 2 1 [(.int .u8 0)] [(0, 1, (.c (.int .u8 5))), (1, 1, (.c (.int .u8 6)))])⟩, ⟨some 62, some (59, true), [(.t 3)], (.call 152 [(.t 61)])⟩, ⟨some 63, some (59, true), [], (.call 153 [(.t 60), (.t 62)])⟩, ⟨some 64, none, [], (.pick (.t 59) (.t 63) (.c (.bool false)))⟩, ⟨some 52, none, [], (.move (.t 64))⟩] true)
 (.cond (.t 52) (.seq (.region [⟨some 2, none, [], (.move (.c (.int .i64 13)))⟩] false)
 .ret) .skip)))))))))))))
 (.seq (.region [⟨some 2, none, [], (.move (.c (.int .i64 0)))⟩] false)
 .ret))))))⟩
-- slices.ContainsFunc[[]coxless/api.Inst,coxless/api.Inst]
def ir153 : IFunc := ⟨9, [.tmp 4], (.seq (.region [⟨some 4, none, [], (.move (.c (.bool false)))⟩] false)
 (.seq (.region [⟨some 5, none, [], (.move (.t 0))⟩, ⟨some 6, none, [], (.move (.t 1))⟩, ⟨some 7, none, [], (.call 208 [(.t 5), (.t 6)])⟩, ⟨some 8, none, [], (.bin .geq (.t 7) (.c (.int .i64 0)))⟩, ⟨some 4, none, [], (.move (.t 8))⟩] false)
 .ret))⟩
-- slices.IndexFunc[[]coxless/api.Inst,coxless/api.Inst]
def ir208 : IFunc := ⟨19, [.tmp 4], (.seq (.region [⟨some 4, none, [], (.move (.c (.int .i64 0)))⟩] false)
 (.seq (.seq (.region [⟨some 6, none, [], (.move (.t 0))⟩, ⟨some 7, none, [], (.lenSl (.t 6))⟩, ⟨some 8, none, [], (.move (.c (.int .i64 0)))⟩] false)
 (.block 0 (.loop (.seq (.region [⟨some 9, none, [], (.bin .lss (.t 8) (.t 7))⟩] false)
 (.seq (.cond (.t 9) .skip (.exit 0))
 (.seq (.block 1 (.seq (.region [⟨some 10, none, [], (.move (.t 8))⟩, ⟨some 5, none, [], (.move (.t 10))⟩] false)
 (.seq (.region [⟨some 11, none, [], (.move (.t 1))⟩, ⟨some 12, none, [], (.move (.t 0))⟩, ⟨some 13, none, [], (.move (.t 5))⟩, ⟨some 14, none, [], (.idxSl 11 (.t 12) (.t 13))⟩, ⟨some 15, none, [], (.load true 11 (.t 14))⟩, ⟨some 16, none, [], (.callVal (.t 11) [(.t 15)])⟩] false)
 (.cond (.t 16) (.seq (.region [⟨some 17, none, [], (.move (.t 5))⟩, ⟨some 4, none, [], (.move (.t 17))⟩] false)
 .ret) .skip))))
 (.region [⟨some 18, none, [], (.bin .add (.t 8) (.c (.int .i64 1)))⟩, ⟨some 8, none, [], (.move (.t 18))⟩] false)))))))
 (.seq (.region [⟨some 4, none, [], (.move (.c (.int .i64 (-1))))⟩] false)
 .ret)))⟩
-- coxless/rules.of
def ir152 : IFunc := ⟨4, [.tmp 2], (.seq (.region [⟨some 1, none, [], (.box (.t 0))⟩, ⟨some 2, none, [], (.move (.c .nilFunc))⟩] false)
 (.seq (.region [⟨some 3, none, [], (.mkFunc 206 [] [(.t 1)])⟩, ⟨some 2, none, [], (.move (.t 3))⟩] false)
 .ret))⟩
-- coxless/rules.of$1
def ir206 : IFunc := ⟨8, [.tmp 3], (.seq (.region [⟨some 2, none, [], (.box (.t 0))⟩, ⟨some 3, none, [], (.move (.c (.bool false)))⟩] false)
 (.seq (.region [⟨some 4, none, [], (.load false 1 (.t 1))⟩, ⟨some 5, none, [], (.load true 11 (.t 2))⟩, ⟨some 6, none, [(.t 1)], (.call 123 [(.t 5)])⟩, ⟨some 7, none, [], (.call 207 [(.t 4), (.t 6)])⟩, ⟨some 3, none, [], (.move (.t 7))⟩] true)
 .ret))⟩
-- slices.Contains[[]uint8,uint8]
def ir207 : IFunc := ⟨9, [.tmp 4], (.seq (.region [⟨some 4, none, [], (.move (.c (.bool false)))⟩] false)
 (.seq (.region [⟨some 5, none, [], (.move (.t 0))⟩, ⟨some 6, none, [], (.move (.t 1))⟩, ⟨some 7, none, [], (.call 245 [(.t 5), (.t 6)])⟩, ⟨some 8, none, [], (.bin .geq (.t 7) (.c (.int .i64 0)))⟩, ⟨some 4, none, [], (.move (.t 8))⟩] false)
 .ret))⟩
-- slices.Index[[]uint8,uint8]
def ir245 : IFunc := ⟨19, [.tmp 4], (.seq (.region [⟨some 4, none, [], (.move (.c (.int .i64 0)))⟩] false)
 (.seq (.seq (.region [⟨some 6, none, [], (.move (.t 0))⟩, ⟨some 7, none, [], (.lenSl (.t 6))⟩, ⟨some 8, none, [], (.move (.c (.int .i64 0)))⟩] false)
 (.block 0 (.loop (.seq (.region [⟨some 9, none, [], (.bin .lss (.t 8) (.t 7))⟩] false)
 (.seq (.cond (.t 9) .skip (.exit 0))
 (.seq (.block 1 (.seq (.region [⟨some 10, none, [], (.move (.t 8))⟩, ⟨some 5, none, [], (.move (.t 10))⟩] false)
 (.seq (.region [⟨some 11, none, [], (.move (.t 1))⟩, ⟨some 12, none, [], (.move (.t 0))⟩, ⟨some 13, none, [], (.move (.t 5))⟩, ⟨some 14, none, [], (.idxSl 1 (.t 12) (.t 13))⟩, ⟨some 15, none, [], (.load false 1 (.t 14))⟩, ⟨some 16, none, [], (.bin .eql (.t 11) (.t 15))⟩] false)
 (.cond (.t 16) (.seq (.region [⟨some 17, none, [], (.move (.t 5))⟩, ⟨some 4, none, [], (.move (.t 17))⟩] false)
 .ret) .skip))))
 (.region [⟨some 18, none, [], (.bin .add (.t 8) (.c (.int .i64 1)))⟩, ⟨some 8, none, [], (.move (.t 18))⟩] false)))))))
 (.seq (.region [⟨some 4, none, [], (.move (.c (.int .i64 (-1))))⟩] false)
 .ret)))⟩
-- coxless/rules.Check$2
def ir156 : IFunc := ⟨8, [.tmp 3], (.seq (.region [⟨some 2, none, [], (.box (.t 0))⟩, ⟨some 3, none, [], (.move (.c (.bool false)))⟩] false)
 (.seq (.region [⟨some 4, none, [], (.load true 11 (.t 2))⟩, ⟨some 5, none, [], (.load false 1 (.t 1))⟩, ⟨some 6, none, [], (.call 157 [(.t 4), (.t 5)])⟩, ⟨some 7, none, [], (.un .not (.t 6))⟩, ⟨some 3, none, [], (.move (.t 7))⟩] false)
 .ret))⟩
-- coxless/rules.fed
def ir157 : IFunc := ⟨62, [.tmp 4], (.seq (.region [⟨some 2, none, [], (.box (.t 0))⟩, ⟨some 4, none, [], (.move (.c (.bool false)))⟩] false)
 (.seq (.seq (.region [⟨some 15, none, [], (.load true 11 (.t 2))⟩, ⟨some 16, none, [], (.call 211 [(.t 15)])⟩, ⟨some 14, none, [], (.move (.t 16))⟩, ⟨some 17, none, [], (.extract (.t 14) 0)⟩, ⟨some 18, none, [], (.extract (.t 14) 1)⟩, ⟨some 19, none, [], (.extract (.t 14) 2)⟩, ⟨some 5, none, [], (.alloc [(.int .u8 0)])⟩, ⟨none, none, [], (.store 1 (.t 5) (.t 17))⟩, ⟨some 6, none, [], (.move (.t 18))⟩, ⟨some 7, none, [], (.move (.t 19))⟩] false)
 (.seq (.region [⟨some 20, none, [], (.move (.t 6))⟩] false)
 (.cond (.t 20) (.seq (.region [⟨some 21, none, [], (.move (.t 1))⟩, ⟨some 22, none, [], (.mkFunc 212 [] [(.t 5)])⟩, ⟨some 23, none, [], (.call 153 [(.t 21), (.t 22)])⟩, ⟨some 4, none, [], (.move (.t 23))⟩] false)
 .ret) .skip)))
 (.seq (.seq (.region [⟨some 24, none, [], (.fieldAddr 7 (.t 2))⟩, ⟨some 25, none, [], (.load false 1 (.t 24))⟩, ⟨some 26, none, [], (.un .not (.t 25))⟩] false)
 (.cond (.t 26) (.seq (.region [⟨some 4, none, [], (.move (.c (.bool true)))⟩] false)
 .ret) .skip))
 (.seq (.region [⟨some 8, none, [], (.move (.c (.int .i64 0)))⟩, ⟨some 9, none, [], (.move (.c (.bool true)))⟩] false)
 (.seq (.seq (.region [⟨some 27, none, [], (.move (.t 1))⟩, ⟨some 28, none, [], (.lenSl (.t 27))⟩, ⟨some 29, none, [], (.move (.c (.int .i64 0)))⟩] false)
 (.block 0 (.loop (.seq (.region [⟨some 30, none, [], (.bin .lss (.t 29) (.t 28))⟩] false)
 (.seq (.cond (.t 30) .skip (.exit 0))
 (.seq (.block 1 (.seq (.region [⟨some 31, none, [], (.idxSl 11 (.t 27) (.t 29))⟩, ⟨some 32, none, [], (.load true 11 (.t 31))⟩, ⟨some 11, none, [], (.alloc [(.int .u8 0), (.int .u8 0), (.int .u8 0), (.int .u8 0), (.int .u8 0), (.int .u8 0), (.int .u8 0), (.bool false), (.bool false), (.int .u16 0), (.int .i64 0)])⟩, ⟨none, none, [], (.store 11 (.t 11) (.t 32))⟩] false)
 (.seq (.region [⟨some 34, none, [], (.load true 11 (.t 11))⟩, ⟨some 35, none, [], (.call 213 [(.t 34)])⟩, ⟨some 33, none, [], (.move (.t 35))⟩, ⟨some 36, none, [], (.extract (.t 33) 0)⟩, ⟨some 37, none, [], (.extract (.t 33) 1)⟩, ⟨some 12, none, [], (.move (.t 36))⟩, ⟨some 13, none, [], (.move (.t 37))⟩] false)
 (.seq (.region [⟨some 38, none, [], (.move (.t 13))⟩, ⟨some 39, none, [], (.move (.t 38))⟩, ⟨some 40, some (39, true), [], (.move (.t 12))⟩, ⟨some 41, some (39, true), [], (.fieldAddr 3 (.t 2))⟩, ⟨some 42, some (39, true), [], (.load false 1 (.t 41))⟩, ⟨some 43, some (39, true), [], (.bin .eql (.t 40) (.t 42))⟩, ⟨some 44, none, [], (.pick (.t 39) (.t 43) (.c (.bool false)))⟩] false)
 (.cond (.t 44) (.seq (.region [⟨some 45, none, [], (.move (.t 8))⟩, ⟨some 46, none, [], (.bin .add (.t 45) (.c (.int .i64 1)))⟩, ⟨some 8, none, [], (.move (.t 46))⟩] false)
 (.region [⟨some 47, none, [], (.fieldAddr 6 (.t 11))⟩, ⟨some 48, none, [], (.load false 1 (.t 47))⟩, ⟨some 49, none, [], (.bin .eql (.t 48) (.c (.int .u8 0)))⟩, ⟨some 50, none, [], (.move (.t 49))⟩, ⟨some 53, some (50, true), [], (.load true 11 (.t 11))⟩, ⟨some 51, some (50, true), [], (.buildSlice 2 1 [(.int .u8 0)] [(0, 1, (.c (.int .u8 1))), (1, 1, (.c (.int .u8 2)))])⟩, ⟨some 52, some (50, true), [(.t 11)], (.call 152 [(.t 51)])⟩, ⟨some 54, some (50, true), [], (.callVal (.t 52) [(.t 53)])⟩, ⟨some 55, none, [], (.pick (.t 50) (.t 54) (.c (.bool false)))⟩, ⟨some 9, none, [], (.move (.t 55))⟩] true)) .skip)))))
 (.region [⟨some 56, none, [], (.bin .add (.t 29) (.c (.int .i64 1)))⟩, ⟨some 29, none, [], (.move (.t 56))⟩] false)))))))
 (.seq (.region [⟨some 57, none, [], (.move (.t 8))⟩, ⟨some 58, none, [], (.bin .eql (.t 57) (.c (.int .i64 1)))⟩, ⟨some 59, none, [], (.move (.t 58))⟩, ⟨some 60, some (59, true), [], (.move (.t 9))⟩, ⟨some 61, none, [], (.pick (.t 59) (.t 60) (.c (.bool false)))⟩, ⟨some 4, none, [], (.move (.t 61))⟩] false)
 .ret))))))⟩
-- coxless/rules.fed$1
def ir212 : IFunc := ⟨17, [.tmp 3], (.seq (.region [⟨some 2, none, [], (.box (.t 0))⟩, ⟨some 3, none, [], (.move (.c (.bool false)))⟩] false)
 (.seq (.region [⟨some 7, none, [], (.load true 11 (.t 2))⟩, ⟨some 8, none, [], (.call 122 [(.t 7)])⟩, ⟨some 6, none, [], (.move (.t 8))⟩, ⟨some 9, none, [], (.extract (.t 6) 0)⟩, ⟨some 10, none, [], (.extract (.t 6) 1)⟩, ⟨some 4, none, [], (.move (.t 9))⟩, ⟨some 5, none, [], (.move (.t 10))⟩] false)
 (.seq (.region [⟨some 11, none, [], (.move (.t 5))⟩, ⟨some 12, none, [], (.move (.t 11))⟩, ⟨some 13, some (12, true), [], (.move (.t 4))⟩, ⟨some 14, some (12, true), [], (.load false 1 (.t 1))⟩, ⟨some 15, some (12, true), [], (.bin .eql (.t 13) (.t 14))⟩, ⟨some 16, none, [], (.pick (.t 12) (.t 15) (.c (.bool false)))⟩, ⟨some 3, none, [], (.move (.t 16))⟩] false)
 .ret)))⟩
-- coxless/rules.clashes
def ir155 : IFunc := ⟨19, [.tmp 2], (.seq (.region [⟨some 2, none, [], (.move (.c (.bool false)))⟩] false)
 (.seq (.seq (.region [⟨some 5, none, [], (.move (.t 0))⟩, ⟨some 6, none, [], (.lenSl (.t 5))⟩, ⟨some 7, none, [], (.move (.c (.int .i64 0)))⟩] false)
 (.block 0 (.loop (.seq (.region [⟨some 8, none, [], (.bin .lss (.t 7) (.t 6))⟩] false)
 (.seq (.cond (.t 8) .skip (.exit 0))
 (.seq (.block 1 (.seq (.region [⟨some 9, none, [], (.move (.t 7))⟩, ⟨some 10, none, [], (.idxSl 11 (.t 5) (.t 7))⟩, ⟨some 11, none, [], (.load true 11 (.t 10))⟩, ⟨some 4, none, [], (.alloc [(.int .u8 0), (.int .u8 0), (.int .u8 0), (.int .u8 0), (.int .u8 0), (.int .u8 0), (.int .u8 0), (.bool false), (.bool false), (.int .u16 0), (.int .i64 0)])⟩, ⟨some 3, none, [], (.move (.t 9))⟩, ⟨none, none, [], (.store 11 (.t 4) (.t 11))⟩] false)
 (.seq (.region [⟨some 12, none, [], (.move (.t 0))⟩, ⟨some 13, none, [], (.move (.t 3))⟩, ⟨some 14, none, [], (.bin .add (.t 13) (.c (.int .i64 1)))⟩, ⟨some 15, none, [], (.sliceSl 11 (.t 12) (some (.t 14)) none none)⟩, ⟨some 16, none, [], (.mkFunc 209 [] [(.t 4)])⟩, ⟨some 17, none, [], (.call 153 [(.t 15), (.t 16)])⟩] false)
 (.cond (.t 17) (.seq (.region [⟨some 2, none, [], (.move (.c (.bool true)))⟩] false)
 .ret) .skip))))
 (.region [⟨some 18, none, [], (.bin .add (.t 7) (.c (.int .i64 1)))⟩, ⟨some 7, none, [], (.move (.t 18))⟩] false)))))))
 (.seq (.region [⟨some 2, none, [], (.move (.c (.bool false)))⟩] false)
 .ret)))⟩
-- coxless/rules.clashes$1
def ir209 : IFunc := ⟨7, [.tmp 3], (.seq (.region [⟨some 2, none, [], (.box (.t 0))⟩, ⟨some 3, none, [], (.move (.c (.bool false)))⟩] false)
 (.seq (.region [⟨some 4, none, [], (.load true 11 (.t 1))⟩, ⟨some 5, none, [], (.load true 11 (.t 2))⟩, ⟨some 6, none, [], (.call 210 [(.t 4), (.t 5)])⟩, ⟨some 3, none, [], (.move (.t 6))⟩] false)
 .ret))⟩
-- coxless/rules.Clash
def ir210 : IFunc := ⟨53, [.tmp 4], (.seq (.region [⟨some 2, none, [], (.box (.t 0))⟩, ⟨some 3, none, [], (.box (.t 1))⟩, ⟨some 4, none, [], (.move (.c (.bool false)))⟩] false)
 (.seq (.region [⟨some 12, none, [], (.load true 11 (.t 2))⟩, ⟨some 13, none, [], (.call 213 [(.t 12)])⟩, ⟨some 11, none, [], (.move (.t 13))⟩, ⟨some 14, none, [], (.extract (.t 11) 0)⟩, ⟨some 15, none, [], (.extract (.t 11) 1)⟩, ⟨some 5, none, [], (.move (.t 14))⟩, ⟨some 6, none, [], (.move (.t 15))⟩] false)
 (.seq (.region [⟨some 17, none, [], (.load true 11 (.t 3))⟩, ⟨some 18, none, [], (.call 213 [(.t 17)])⟩, ⟨some 16, none, [], (.move (.t 18))⟩, ⟨some 19, none, [], (.extract (.t 16) 0)⟩, ⟨some 20, none, [], (.extract (.t 16) 1)⟩, ⟨some 7, none, [], (.move (.t 19))⟩, ⟨some 8, none, [], (.move (.t 20))⟩] false)
 (.seq (.seq (.region [⟨some 21, none, [], (.move (.t 6))⟩, ⟨some 22, none, [], (.move (.t 21))⟩, ⟨some 23, some (22, true), [], (.move (.t 8))⟩, ⟨some 24, none, [], (.pick (.t 22) (.t 23) (.c (.bool false)))⟩, ⟨some 25, none, [], (.move (.t 24))⟩, ⟨some 26, some (25, true), [], (.move (.t 5))⟩, ⟨some 27, some (25, true), [], (.move (.t 7))⟩, ⟨some 28, some (25, true), [], (.bin .eql (.t 26) (.t 27))⟩, ⟨some 29, none, [], (.pick (.t 25) (.t 28) (.c (.bool false)))⟩] false)
 (.cond (.t 29) (.seq (.region [⟨some 30, none, [], (.load true 11 (.t 2))⟩, ⟨some 31, none, [], (.load true 11 (.t 3))⟩, ⟨some 32, none, [], (.call 246 [(.t 30), (.t 31)])⟩, ⟨some 33, none, [], (.un .not (.t 32))⟩, ⟨some 4, none, [], (.move (.t 33))⟩] false)
 .ret) .skip))
 (.seq (.region [⟨some 35, none, [], (.load true 11 (.t 2))⟩, ⟨some 36, none, [], (.call 122 [(.t 35)])⟩, ⟨some 34, none, [], (.move (.t 36))⟩, ⟨some 37, none, [], (.extract (.t 34) 0)⟩, ⟨some 38, none, [], (.extract (.t 34) 1)⟩, ⟨some 9, none, [], (.move (.t 37))⟩, ⟨some 6, none, [], (.move (.t 38))⟩] false)
 (.seq (.region [⟨some 40, none, [], (.load true 11 (.t 3))⟩, ⟨some 41, none, [], (.call 122 [(.t 40)])⟩, ⟨some 39, none, [], (.move (.t 41))⟩, ⟨some 42, none, [], (.extract (.t 39) 0)⟩, ⟨some 43, none, [], (.extract (.t 39) 1)⟩, ⟨some 10, none, [], (.move (.t 42))⟩, ⟨some 8, none, [], (.move (.t 43))⟩] false)
 (.seq (.region [⟨some 44, none, [], (.move (.t 6))⟩, ⟨some 45, none, [], (.move (.t 44))⟩, ⟨some 46, some (45, true), [], (.move (.t 8))⟩, ⟨some 47, none, [], (.pick (.t 45) (.t 46) (.c (.bool false)))⟩, ⟨some 48, none, [], (.move (.t 47))⟩, ⟨some 49, some (48, true), [], (.move (.t 9))⟩, ⟨some 50, some (48, true), [], (.move (.t 10))⟩, ⟨some 51, some (48, true), [], (.bin .eql (.t 49) (.t 50))⟩, ⟨some 52, none, [], (.pick (.t 48) (.t 51) (.c (.bool false)))⟩, ⟨some 4, none, [], (.move (.t 52))⟩] false)
 .ret)))))))⟩
-- coxless/rules.apart
def ir246 : IFunc := ⟨36, [.tmp 4], (.seq (.region [⟨some 2, none, [], (.box (.t 0))⟩, ⟨some 3, none, [], (.box (.t 1))⟩, ⟨some 4, none, [], (.move (.c (.bool false)))⟩] false)
 (.seq (.seq (.region [⟨some 7, none, [], (.fieldAddr 5 (.t 2))⟩, ⟨some 8, none, [], (.load false 1 (.t 7))⟩, ⟨some 9, none, [], (.fieldAddr 5 (.t 3))⟩, ⟨some 10, none, [], (.load false 1 (.t 9))⟩, ⟨some 11, none, [], (.bin .neq (.t 8) (.t 10))⟩] false)
 (.cond (.t 11) (.seq (.region [⟨some 4, none, [], (.move (.c (.bool false)))⟩] false)
 .ret) .skip))
 (.seq (.region [⟨some 12, none, [], (.fieldAddr 6 (.t 2))⟩, ⟨some 13, none, [], (.load false 1 (.t 12))⟩, ⟨some 14, none, [], (.fieldAddr 6 (.t 3))⟩, ⟨some 15, none, [], (.load false 1 (.t 14))⟩, ⟨some 16, none, [], (.minmax false [(.t 13), (.t 15)])⟩, ⟨some 17, none, [], (.fieldAddr 6 (.t 2))⟩, ⟨some 18, none, [], (.load false 1 (.t 17))⟩, ⟨some 19, none, [], (.fieldAddr 6 (.t 3))⟩, ⟨some 20, none, [], (.load false 1 (.t 19))⟩, ⟨some 21, none, [], (.minmax true [(.t 18), (.t 20)])⟩, ⟨some 5, none, [], (.move (.t 16))⟩, ⟨some 6, none, [], (.move (.t 21))⟩] true)
 (.seq (.region [⟨some 22, none, [], (.move (.t 5))⟩, ⟨some 23, none, [], (.bin .eql (.t 22) (.c (.int .u8 1)))⟩, ⟨some 24, none, [], (.move (.t 23))⟩, ⟨some 25, some (24, true), [], (.move (.t 6))⟩, ⟨some 26, some (24, true), [], (.bin .eql (.t 25) (.c (.int .u8 2)))⟩, ⟨some 27, none, [], (.pick (.t 24) (.t 26) (.c (.bool false)))⟩, ⟨some 28, none, [], (.move (.t 27))⟩, ⟨some 29, some (28, false), [], (.move (.t 5))⟩, ⟨some 30, some (28, false), [], (.bin .eql (.t 29) (.c (.int .u8 3)))⟩, ⟨some 31, some (28, false), [], (.move (.t 30))⟩, ⟨some 32, some (31, true), [], (.move (.t 6))⟩, ⟨some 33, some (31, true), [], (.bin .eql (.t 32) (.c (.int .u8 4)))⟩, ⟨some 34, some (28, false), [], (.pick (.t 31) (.t 33) (.c (.bool false)))⟩, ⟨some 35, none, [], (.pick (.t 28) (.c (.bool true)) (.t 34))⟩, ⟨some 4, none, [], (.move (.t 35))⟩] false)
 .ret))))⟩
-- coxless/rules.Check$1
def ir154 : IFunc := ⟨6, [.tmp 2], (.seq (.region [⟨some 1, none, [], (.box (.t 0))⟩, ⟨some 2, none, [], (.move (.c (.bool false)))⟩] false)
 (.seq (.region [⟨some 3, none, [], (.load true 11 (.t 1))⟩, ⟨some 4, none, [], (.call 82 [(.t 3)])⟩, ⟨some 5, none, [], (.un .not (.t 4))⟩, ⟨some 2, none, [], (.move (.t 5))⟩] false)
 .ret))⟩
-- (*coxless/unpack.reader).reads
def ir80 : IFunc := ⟨69, [.tmp 2], (.seq (.region [⟨some 2, none, [], (.move (.c (.bool false)))⟩] false)
 (.seq (.region [⟨some 3, none, [], (.move (.c (.int .u32 0)))⟩, ⟨some 4, none, [], (.move (.c (.bool false)))⟩] false)
 (.seq (.seq (.region [⟨some 11, none, [], (.move (.t 0))⟩, ⟨some 12, none, [], (.nilCheck (.t 11))⟩, ⟨some 13, none, [], (.fieldAddr 0 (.t 12))⟩, ⟨some 14, none, [], (.load false 1 (.t 13))⟩, ⟨some 15, none, [], (.lenSl (.t 14))⟩, ⟨some 16, none, [], (.move (.c (.int .i64 0)))⟩] false)
 (.block 0 (.loop (.seq (.region [⟨some 17, none, [], (.bin .lss (.t 16) (.t 15))⟩] false)
 (.seq (.cond (.t 17) .skip (.exit 0))
 (.seq (.block 1 (.seq (.region [⟨some 18, none, [], (.move (.t 16))⟩, ⟨some 19, none, [], (.idxSl 1 (.t 14) (.t 16))⟩, ⟨some 20, none, [], (.load false 1 (.t 19))⟩, ⟨some 5, none, [], (.move (.t 18))⟩, ⟨some 6, none, [], (.move (.t 20))⟩] false)
 (.seq (.region [⟨some 22, none, [], (.move (.t 6))⟩, ⟨some 23, none, [], (.call 108 [(.t 22)])⟩, ⟨some 21, none, [], (.move (.t 23))⟩, ⟨some 24, none, [], (.extract (.t 21) 0)⟩, ⟨some 25, none, [], (.extract (.t 21) 1)⟩, ⟨some 26, none, [], (.extract (.t 21) 2)⟩, ⟨some 7, none, [], (.move (.t 24))⟩, ⟨some 8, none, [], (.move (.t 25))⟩, ⟨some 9, none, [], (.move (.t 26))⟩] false)
 (.seq (.region [⟨some 27, none, [], (.move (.t 5))⟩, ⟨some 28, none, [], (.move (.t 0))⟩, ⟨some 29, none, [], (.nilCheck (.t 28))⟩, ⟨some 30, none, [], (.fieldAddr 0 (.t 29))⟩, ⟨some 31, none, [], (.load false 1 (.t 30))⟩, ⟨some 32, none, [], (.lenSl (.t 31))⟩, ⟨some 33, none, [], (.bin .sub (.t 32) (.c (.int .i64 1)))⟩, ⟨some 34, none, [], (.bin .eql (.t 27) (.t 33))⟩, ⟨some 10, none, [], (.move (.t 34))⟩] false)
 (.seq (.block 2 (.seq (.region [⟨some 36, none, [], (.move (.t 10))⟩, ⟨some 37, none, [], (.move (.t 36))⟩, ⟨some 38, some (37, true), [], (.move (.t 9))⟩, ⟨some 39, some (37, true), [], (.bin .eql (.t 38) (.c (.int .u8 0)))⟩, ⟨some 40, none, [], (.pick (.t 37) (.t 39) (.c (.bool false)))⟩, ⟨some 35, none, [], (.move (.t 40))⟩] false)
 (.cond (.t 35) (.seq (.region [⟨some 41, none, [], (.move (.t 4))⟩, ⟨some 42, none, [], (.un .not (.t 41))⟩, ⟨some 43, none, [], (.move (.t 42))⟩, ⟨some 44, some (43, true), [], (.move (.t 0))⟩, ⟨some 45, some (43, true), [], (.move (.t 6))⟩, ⟨some 46, some (43, true), [], (.call 109 [(.t 44), (.t 45)])⟩, ⟨some 47, none, [], (.pick (.t 43) (.t 46) (.c (.bool false)))⟩, ⟨some 2, none, [], (.move (.t 47))⟩] false)
 .ret) (.seq (.region [⟨some 49, none, [], (.move (.t 7))⟩, ⟨some 50, none, [], (.bin .eql (.t 49) (.c (.int .u8 0)))⟩, ⟨some 51, none, [], (.move (.t 50))⟩, ⟨some 52, some (51, true), [], (.move (.t 4))⟩, ⟨some 53, some (51, true), [], (.move (.t 52))⟩, ⟨some 54, some (53, false), [], (.move (.t 10))⟩, ⟨some 55, some (51, true), [], (.pick (.t 53) (.c (.bool true)) (.t 54))⟩, ⟨some 56, none, [], (.pick (.t 51) (.t 55) (.c (.bool false)))⟩, ⟨some 48, none, [], (.move (.t 56))⟩] false)
 (.cond (.t 48) (.seq (.region [⟨some 2, none, [], (.move (.c (.bool false)))⟩] false)
 .ret) (.seq (.region [⟨some 58, none, [], (.move (.t 7))⟩, ⟨some 59, none, [], (.bin .eql (.t 58) (.c (.int .u8 0)))⟩, ⟨some 57, none, [], (.move (.t 59))⟩] false)
 (.cond (.t 57) (.seq (.region [⟨some 60, none, [], (.move (.t 8))⟩, ⟨some 3, none, [], (.move (.t 60))⟩, ⟨some 4, none, [], (.move (.c (.bool true)))⟩] false)
 (.exit 1)) (.seq (.region [⟨some 62, none, [], (.move (.t 0))⟩, ⟨some 63, none, [], (.move (.t 6))⟩, ⟨some 64, none, [], (.move (.t 3))⟩, ⟨some 65, none, [], (.move (.t 4))⟩, ⟨some 66, none, [], (.call 110 [(.t 62), (.t 63), (.t 64), (.t 65)])⟩, ⟨some 67, none, [], (.un .not (.t 66))⟩, ⟨some 61, none, [], (.move (.t 67))⟩] false)
 (.cond (.t 61) (.seq (.region [⟨some 2, none, [], (.move (.c (.bool false)))⟩] false)
 .ret) .skip)))))))))
 (.region [⟨some 3, none, [], (.move (.c (.int .u32 0)))⟩, ⟨some 4, none, [], (.move (.c (.bool false)))⟩] false))))))
 (.region [⟨some 68, none, [], (.bin .add (.t 16) (.c (.int .i64 1)))⟩, ⟨some 16, none, [], (.move (.t 68))⟩] false)))))))
 (.seq (.region [⟨some 2, none, [], (.move (.c (.bool true)))⟩] false)
 .ret))))⟩
-- (*coxless/unpack.reader).inst
def ir110 : IFunc := ⟨35, [.tmp 8], (.seq (.region [⟨some 8, none, [], (.move (.c (.bool false)))⟩] false)
 (.seq (.region [⟨some 12, none, [], (.move (.t 1))⟩, ⟨some 13, none, [], (.move (.t 2))⟩, ⟨some 14, none, [], (.move (.t 3))⟩, ⟨some 15, none, [], (.move (.t 0))⟩, ⟨some 16, none, [], (.nilCheck (.t 15))⟩, ⟨some 17, none, [], (.fieldAddr 1 (.t 16))⟩, ⟨some 18, none, [], (.load false 1 (.t 17))⟩, ⟨some 19, none, [], (.call 151 [(.t 12), (.t 13), (.t 14), (.t 18)])⟩, ⟨some 11, none, [], (.move (.t 19))⟩, ⟨some 20, none, [], (.extract (.t 11) 0)⟩, ⟨some 21, none, [], (.extract (.t 11) 1)⟩, ⟨some 9, none, [], (.alloc [(.int .u8 0), (.int .u8 0), (.int .u8 0), (.int .u8 0), (.int .u8 0), (.int .u8 0), (.int .u8 0), (.bool false), (.bool false), (.int .u16 0), (.int .i64 0)])⟩, ⟨none, none, [], (.store 11 (.t 9) (.t 20))⟩, ⟨some 10, none, [], (.move (.t 21))⟩] false)
 (.seq (.region [⟨some 22, none, [], (.move (.t 0))⟩, ⟨some 23, none, [], (.move (.t 0))⟩, ⟨some 24, none, [], (.nilCheck (.t 23))⟩, ⟨some 25, none, [], (.fieldAddr 2 (.t 24))⟩, ⟨some 26, none, [], (.fieldAddr 0 (.t 25))⟩, ⟨some 27, none, [], (.load false 1 (.t 26))⟩, ⟨some 28, none, [], (.load true 11 (.t 9))⟩, ⟨some 29, none, [], (.buildSlice 1 11 [(.int .u8 0), (.int .u8 0), (.int .u8 0), (.int .u8 0), (.int .u8 0), (.int .u8 0), (.int .u8 0), (.bool false), (.bool false), (.int .u16 0), (.int .i64 0)] [(0, 11, (.t 28))])⟩, ⟨some 30, none, [], (.append 11 24 (.t 27) (.t 29))⟩, ⟨some 31, none, [], (.nilCheck (.t 22))⟩, ⟨some 32, none, [], (.fieldAddr 2 (.t 31))⟩, ⟨some 33, none, [], (.fieldAddr 0 (.t 32))⟩, ⟨none, none, [], (.store 1 (.t 33) (.t 30))⟩] true)
 (.seq (.region [⟨some 34, none, [], (.move (.t 10))⟩, ⟨some 8, none, [], (.move (.t 34))⟩] false)
 .ret))))⟩
-- coxless/enc.Inst
def ir151 : IFunc := ⟨144, [.cell 8 true 11, .tmp 9], (.seq (.region [⟨some 8, none, [], (.alloc [(.int .u8 0), (.int .u8 0), (.int .u8 0), (.int .u8 0), (.int .u8 0), (.int .u8 0), (.int .u8 0), (.bool false), (.bool false), (.int .u16 0), (.int .i64 0)])⟩, ⟨some 9, none, [], (.move (.c (.bool false)))⟩] false)
 (.seq (.region [⟨some 24, none, [], (.move (.t 0))⟩, ⟨some 25, none, [], (.call 108 [(.t 24)])⟩, ⟨some 23, none, [], (.move (.t 25))⟩, ⟨some 26, none, [], (.extract (.t 23) 0)⟩, ⟨some 27, none, [], (.extract (.t 23) 1)⟩, ⟨some 28, none, [], (.extract (.t 23) 2)⟩, ⟨some 10, none, [], (.move (.t 26))⟩, ⟨some 11, none, [], (.move (.t 27))⟩, ⟨some 12, none, [], (.move (.t 28))⟩] false)
 (.seq (.region [⟨some 30, none, [], (.move (.t 10))⟩, ⟨some 31, none, [], (.call 115 [(.t 30)])⟩, ⟨some 29, none, [], (.move (.t 31))⟩, ⟨some 32, none, [], (.extract (.t 29) 0)⟩, ⟨some 33, none, [], (.extract (.t 29) 1)⟩, ⟨some 13, none, [], (.alloc [(.int .u8 0), (.str []), (.int .u8 0), (.int .u8 0), .nilSlice])⟩, ⟨none, none, [], (.store 5 (.t 13) (.t 32))⟩, ⟨some 14, none, [], (.move (.t 33))⟩] false)
 (.seq (.seq (.region [⟨some 34, none, [], (.move (.t 14))⟩, ⟨some 35, none, [], (.un .not (.t 34))⟩, ⟨some 36, none, [], (.move (.t 35))⟩, ⟨some 37, some (36, false), [], (.move (.t 2))⟩, ⟨some 38, some (36, false), [], (.move (.t 37))⟩, ⟨some 39, some (38, true), [], (.move (.t 10))⟩, ⟨some 40, some (38, true), [], (.call 202 [(.t 39)])⟩, ⟨some 41, some (38, true), [], (.un .not (.t 40))⟩, ⟨some 42, some (36, false), [], (.pick (.t 38) (.t 41) (.c (.bool false)))⟩, ⟨some 43, none, [], (.pick (.t 36) (.c (.bool true)) (.t 42))⟩, ⟨some 44, none, [], (.move (.t 43))⟩, ⟨some 45, some (44, false), [], (.move (.t 1))⟩, ⟨some 46, some (44, false), [], (.bin .shr (.t 45) (.c (.int .u64 24)))⟩, ⟨some 47, some (44, false), [], (.bin .neq (.t 46) (.c (.int .u32 0)))⟩, ⟨some 48, none, [], (.pick (.t 44) (.c (.bool true)) (.t 47))⟩] false)
 (.cond (.t 48) (.seq (.region [⟨some 49, none, [], (.build [(.int .u8 0), (.int .u8 0), (.int .u8 0), (.int .u8 0), (.int .u8 0), (.int .u8 0), (.int .u8 0), (.bool false), (.bool false), (.int .u16 0), (.int .i64 0)] [])⟩, ⟨none, none, [], (.store 11 (.t 8) (.t 49))⟩, ⟨some 9, none, [], (.move (.c (.bool false)))⟩] false)
 .ret) .skip))
 (.seq (.region [⟨some 50, none, [], (.move (.t 10))⟩, ⟨some 51, none, [], (.move (.t 2))⟩, ⟨some 52, none, [], (.build [(.int .u8 0), (.int .u8 0), (.int .u8 0), (.int .u8 0), (.int .u8 0), (.int .u8 0), (.int .u8 0), (.bool false), (.bool false), (.int .u16 0), (.int .i64 0)] [(0, 1, (.t 50)), (8, 1, (.t 51))])⟩, ⟨some 15, none, [], (.alloc [(.int .u8 0), (.int .u8 0), (.int .u8 0), (.int .u8 0), (.int .u8 0), (.int .u8 0), (.int .u8 0), (.bool false), (.bool false), (.int .u16 0), (.int .i64 0)])⟩, ⟨none, none, [], (.store 11 (.t 15) (.t 52))⟩] false)
 (.seq (.region [⟨some 53, none, [], (.move (.t 11))⟩, ⟨some 16, none, [], (.move (.t 53))⟩] false)
 (.seq (.seq (.region [⟨some 54, none, [], (.fieldAddr 4 (.t 13))⟩, ⟨some 55, none, [], (.load false 1 (.t 54))⟩, ⟨some 56, none, [], (.lenSl (.t 55))⟩, ⟨some 57, none, [], (.move (.c (.int .i64 0)))⟩] false)
 (.block 0 (.loop (.seq (.region [⟨some 58, none, [], (.bin .lss (.t 57) (.t 56))⟩] false)
 (.seq (.cond (.t 58) .skip (.exit 0))
 (.seq (.block 1 (.seq (.region [⟨some 59, none, [], (.idxSl 5 (.t 55) (.t 57))⟩, ⟨some 60, none, [], (.load true 5 (.t 59))⟩, ⟨some 18, none, [], (.alloc [(.int .u8 0), (.int .i64 0), (.int .i64 0), (.bool false), (.bool false)])⟩, ⟨none, none, [], (.store 5 (.t 18) (.t 60))⟩] false)
 (.seq (.region [⟨some 62, none, [], (.move (.t 10))⟩, ⟨some 63, none, [], (.fieldAddr 0 (.t 18))⟩, ⟨some 64, none, [], (.load false 1 (.t 63))⟩, ⟨some 65, none, [], (.call 164 [(.t 62), (.t 64)])⟩, ⟨some 61, none, [], (.move (.t 65))⟩, ⟨some 66, none, [], (.extract (.t 61) 0)⟩, ⟨some 67, none, [], (.extract (.t 61) 1)⟩, ⟨some 68, none, [], (.extract (.t 61) 2)⟩, ⟨some 19, none, [], (.alloc [(.int .u8 0), (.int .i64 0), (.int .i64 0), (.bool false), (.bool false)])⟩, ⟨none, none, [], (.store 5 (.t 19) (.t 66))⟩, ⟨some 20, none, [], (.move (.t 67))⟩, ⟨some 21, none, [], (.move (.t 68))⟩] false)
 (.seq (.region [⟨some 69, none, [], (.move (.t 11))⟩, ⟨some 70, none, [], (.move (.t 20))⟩, ⟨some 71, none, [], (.fieldAddr 1 (.t 18))⟩, ⟨some 72, none, [], (.load false 1 (.t 71))⟩, ⟨some 73, none, [], (.call 203 [(.t 69), (.t 70), (.t 72)])⟩, ⟨some 22, none, [], (.move (.t 73))⟩] false)
 (.seq (.region [⟨some 74, none, [], (.move (.t 16))⟩, ⟨some 75, none, [], (.move (.t 20))⟩, ⟨some 76, none, [], (.fieldAddr 1 (.t 18))⟩, ⟨some 77, none, [], (.load false 1 (.t 76))⟩, ⟨some 78, none, [], (.call 204 [(.t 74), (.t 75), (.t 77), (.c (.int .u32 0))])⟩, ⟨some 16, none, [], (.move (.t 78))⟩] false)
 (.seq (.region [⟨some 79, none, [], (.fieldAddr 0 (.t 18))⟩, ⟨some 80, none, [], (.load false 1 (.t 79))⟩] false)
 (.block 2 (.seq (.region [⟨some 94, none, [], (.bin .eql (.t 80) (.c (.int .u8 1)))⟩, ⟨some 93, none, [], (.move (.t 94))⟩] false)
 (.cond (.t 93) (.region [⟨some 95, none, [], (.move (.t 22))⟩, ⟨some 96, none, [], (.conv (.intInt .u8) (.t 95))⟩, ⟨some 97, none, [], (.fieldAddr 6 (.t 15))⟩, ⟨none, none, [], (.store 1 (.t 97) (.t 96))⟩] false) (.seq (.region [⟨some 99, none, [], (.bin .eql (.t 80) (.c (.int .u8 2)))⟩, ⟨some 98, none, [], (.move (.t 99))⟩] false)
 (.cond (.t 98) (.region [⟨some 100, none, [], (.move (.t 22))⟩, ⟨some 101, none, [], (.conv (.intInt .u8) (.t 100))⟩, ⟨some 102, none, [], (.fieldAddr 5 (.t 15))⟩, ⟨none, none, [], (.store 1 (.t 102) (.t 101))⟩] false) (.seq (.seq (.region [⟨some 104, none, [], (.bin .eql (.t 80) (.c (.int .u8 3)))⟩, ⟨some 103, none, [], (.move (.t 104))⟩] false)
 (.cond (.t 103) .skip (.region [⟨some 105, none, [], (.bin .eql (.t 80) (.c (.int .u8 4)))⟩, ⟨some 103, none, [], (.move (.t 105))⟩] false)))
 (.cond (.t 103) (.region [⟨some 106, none, [], (.move (.t 22))⟩, ⟨some 107, none, [], (.conv (.intInt .u8) (.t 106))⟩, ⟨some 108, none, [], (.fieldAddr 1 (.t 15))⟩, ⟨none, none, [], (.store 1 (.t 108) (.t 107))⟩] false) (.seq (.region [⟨some 110, none, [], (.bin .eql (.t 80) (.c (.int .u8 5)))⟩, ⟨some 109, none, [], (.move (.t 110))⟩] false)
 (.cond (.t 109) (.region [⟨some 111, none, [], (.move (.t 22))⟩, ⟨some 112, none, [], (.conv (.intInt .u8) (.t 111))⟩, ⟨some 113, none, [], (.fieldAddr 2 (.t 15))⟩, ⟨none, none, [], (.store 1 (.t 113) (.t 112))⟩] false) (.seq (.region [⟨some 115, none, [], (.bin .eql (.t 80) (.c (.int .u8 6)))⟩, ⟨some 114, none, [], (.move (.t 115))⟩] false)
 (.cond (.t 114) (.region [⟨some 116, none, [], (.move (.t 22))⟩, ⟨some 117, none, [], (.conv (.intInt .u8) (.t 116))⟩, ⟨some 118, none, [], (.fieldAddr 3 (.t 15))⟩, ⟨none, none, [], (.store 1 (.t 118) (.t 117))⟩] false) (.seq (.region [⟨some 120, none, [], (.bin .eql (.t 80) (.c (.int .u8 7)))⟩, ⟨some 119, none, [], (.move (.t 120))⟩] false)
 (.cond (.t 119) (.region [⟨some 121, none, [], (.move (.t 22))⟩, ⟨some 122, none, [], (.conv (.intInt .u8) (.t 121))⟩, ⟨some 123, none, [], (.fieldAddr 4 (.t 15))⟩, ⟨none, none, [], (.store 1 (.t 123) (.t 122))⟩] false) (.seq (.region [⟨some 125, none, [], (.bin .eql (.t 80) (.c (.int .u8 8)))⟩, ⟨some 124, none, [], (.move (.t 125))⟩] false)
 (.cond (.t 124) (.region [⟨some 126, none, [], (.move (.t 22))⟩, ⟨some 127, none, [], (.bin .eql (.t 126) (.c (.int .u32 1)))⟩, ⟨some 128, none, [], (.fieldAddr 7 (.t 15))⟩, ⟨none, none, [], (.store 1 (.t 128) (.t 127))⟩] false) (.seq (.region [⟨some 130, none, [], (.bin .eql (.t 80) (.c (.int .u8 11)))⟩, ⟨some 129, none, [], (.move (.t 130))⟩] false)
 (.cond (.t 129) (.region [⟨some 131, none, [], (.move (.t 22))⟩, ⟨some 132, none, [], (.conv (.intInt .u16) (.t 131))⟩, ⟨some 133, none, [], (.fieldAddr 9 (.t 15))⟩, ⟨none, none, [], (.store 1 (.t 133) (.t 132))⟩] false) (.seq (.region [⟨some 82, none, [], (.load true 11 (.t 15))⟩, ⟨some 83, none, [], (.load true 5 (.t 18))⟩, ⟨some 84, none, [], (.move (.t 22))⟩, ⟨some 85, none, [], (.move (.t 1))⟩, ⟨some 86, none, [], (.move (.t 3))⟩, ⟨some 87, none, [], (.call 205 [(.t 82), (.t 83), (.t 84), (.t 85), (.t 86)])⟩, ⟨some 81, none, [], (.move (.t 87))⟩, ⟨some 88, none, [], (.extract (.t 81) 0)⟩, ⟨some 89, none, [], (.extract (.t 81) 1)⟩, ⟨none, none, [], (.store 11 (.t 15) (.t 88))⟩, ⟨some 14, none, [], (.move (.t 89))⟩] false)
 (.seq (.region [⟨some 90, none, [], (.move (.t 14))⟩, ⟨some 91, none, [], (.un .not (.t 90))⟩] false)
 (.cond (.t 91) (.seq (.region [⟨some 92, none, [], (.build [(.int .u8 0), (.int .u8 0), (.int .u8 0), (.int .u8 0), (.int .u8 0), (.int .u8 0), (.int .u8 0), (.bool false), (.bool false), (.int .u16 0), (.int .i64 0)] [])⟩, ⟨none, none, [], (.store 11 (.t 8) (.t 92))⟩, ⟨some 9, none, [], (.move (.c (.bool false)))⟩] false)
 .ret) .skip))))))))))))))))))))))))))
 (.region [⟨some 134, none, [], (.bin .add (.t 57) (.c (.int .i64 1)))⟩, ⟨some 57, none, [], (.move (.t 134))⟩] false)))))))
 (.seq (.seq (.region [⟨some 135, none, [], (.move (.t 16))⟩, ⟨some 136, none, [], (.bin .neq (.t 135) (.c (.int .u32 0)))⟩, ⟨some 137, none, [], (.move (.t 136))⟩, ⟨some 138, some (137, false), [], (.load true 11 (.t 15))⟩, ⟨some 139, some (137, false), [], (.call 82 [(.t 138)])⟩, ⟨some 140, some (137, false), [], (.un .not (.t 139))⟩, ⟨some 141, none, [], (.pick (.t 137) (.c (.bool true)) (.t 140))⟩] false)
 (.cond (.t 141) (.seq (.region [⟨some 142, none, [], (.build [(.int .u8 0), (.int .u8 0), (.int .u8 0), (.int .u8 0), (.int .u8 0), (.int .u8 0), (.int .u8 0), (.bool false), (.bool false), (.int .u16 0), (.int .i64 0)] [])⟩, ⟨none, none, [], (.store 11 (.t 8) (.t 142))⟩, ⟨some 9, none, [], (.move (.c (.bool false)))⟩] false)
 .ret) .skip))
 (.seq (.region [⟨some 143, none, [], (.load true 11 (.t 15))⟩, ⟨none, none, [], (.store 11 (.t 8) (.t 143))⟩, ⟨some 9, none, [], (.move (.c (.bool true)))⟩] false)
 .ret)))))))))⟩
-- coxless/enc.valued
def ir205 : IFunc := ⟨59, [.cell 10 true 11, .tmp 11], (.seq (.region [⟨some 5, none, [], (.box (.t 0))⟩, ⟨some 6, none, [], (.box (.t 1))⟩, ⟨some 10, none, [], (.alloc [(.int .u8 0), (.int .u8 0), (.int .u8 0), (.int .u8 0), (.int .u8 0), (.int .u8 0), (.int .u8 0), (.bool false), (.bool false), (.int .u16 0), (.int .i64 0)])⟩, ⟨some 11, none, [], (.move (.c (.bool false)))⟩] false)
 (.seq (.region [⟨some 13, none, [], (.move (.t 2))⟩, ⟨some 14, none, [], (.fieldAddr 1 (.t 6))⟩, ⟨some 15, none, [], (.load false 1 (.t 14))⟩, ⟨some 17, none, [], (.fieldAddr 2 (.t 6))⟩, ⟨some 18, none, [], (.load false 1 (.t 17))⟩, ⟨some 16, none, [(.t 17)], (.call 242 [(.t 13), (.t 15)])⟩, ⟨some 19, none, [], (.bin .shl (.t 16) (.t 18))⟩, ⟨some 12, none, [], (.move (.t 19))⟩] true)
 (.seq (.block 0 (.seq (.region [⟨some 21, none, [], (.fieldAddr 8 (.t 5))⟩, ⟨some 22, none, [], (.load false 1 (.t 21))⟩, ⟨some 23, none, [], (.move (.t 22))⟩, ⟨some 24, some (23, true), [], (.fieldAddr 4 (.t 6))⟩, ⟨some 25, some (23, true), [], (.load false 1 (.t 24))⟩, ⟨some 26, some (23, true), [], (.un .not (.t 25))⟩, ⟨some 27, some (23, true), [], (.move (.t 26))⟩, ⟨some 28, some (27, false), [], (.move (.t 2))⟩, ⟨some 29, some (27, false), [], (.bin .shr (.t 28) (.c (.int .u64 8)))⟩, ⟨some 30, some (27, false), [], (.bin .neq (.t 29) (.c (.int .u32 0)))⟩, ⟨some 31, some (23, true), [], (.pick (.t 27) (.c (.bool true)) (.t 30))⟩, ⟨some 32, none, [], (.pick (.t 23) (.t 31) (.c (.bool false)))⟩, ⟨some 20, none, [], (.move (.t 32))⟩] false)
 (.cond (.t 20) (.seq (.region [⟨some 33, none, [], (.load true 11 (.t 5))⟩, ⟨none, none, [], (.store 11 (.t 10) (.t 33))⟩, ⟨some 11, none, [], (.move (.c (.bool false)))⟩] false)
 .ret) (.seq (.region [⟨some 35, none, [], (.fieldAddr 8 (.t 5))⟩, ⟨some 36, none, [], (.load false 1 (.t 35))⟩, ⟨some 34, none, [], (.move (.t 36))⟩] false)
 (.cond (.t 34) (.region [⟨some 37, none, [], (.move (.t 3))⟩, ⟨some 38, none, [], (.move (.t 2))⟩, ⟨some 39, none, [], (.call 243 [(.t 37), (.t 38)])⟩, ⟨some 12, none, [], (.move (.t 39))⟩] false) (.seq (.region [⟨some 41, none, [], (.fieldAddr 3 (.t 6))⟩, ⟨some 42, none, [], (.load false 1 (.t 41))⟩, ⟨some 43, none, [], (.un .not (.t 42))⟩, ⟨some 40, none, [], (.move (.t 43))⟩] false)
 (.cond (.t 40) (.region [⟨some 44, none, [], (.move (.t 2))⟩, ⟨some 45, none, [], (.conv (.intInt .i64) (.t 44))⟩, ⟨some 46, none, [], (.fieldAddr 2 (.t 6))⟩, ⟨some 47, none, [], (.load false 1 (.t 46))⟩, ⟨some 48, none, [], (.bin .shl (.t 45) (.t 47))⟩, ⟨some 12, none, [], (.move (.t 48))⟩] false) .skip)))))))
 (.seq (.region [⟨some 49, none, [], (.move (.t 12))⟩, ⟨some 50, none, [], (.fieldAddr 10 (.t 5))⟩, ⟨none, none, [], (.store 1 (.t 50) (.t 49))⟩] false)
 (.seq (.seq (.region [⟨some 51, none, [], (.fieldAddr 0 (.t 6))⟩, ⟨some 52, none, [], (.load false 1 (.t 51))⟩, ⟨some 53, none, [], (.bin .eql (.t 52) (.c (.int .u8 10)))⟩] false)
 (.cond (.t 53) (.region [⟨some 54, none, [], (.move (.t 12))⟩, ⟨some 55, none, [], (.move (.t 4))⟩, ⟨some 56, none, [], (.call 244 [(.t 54), (.t 55)])⟩, ⟨some 57, none, [], (.fieldAddr 10 (.t 5))⟩, ⟨none, none, [], (.store 1 (.t 57) (.t 56))⟩] false) .skip))
 (.seq (.region [⟨some 58, none, [], (.load true 11 (.t 5))⟩, ⟨none, none, [], (.store 11 (.t 10) (.t 58))⟩, ⟨some 11, none, [], (.move (.c (.bool true)))⟩] false)
 .ret))))))⟩
-- coxless/ext.Target
def ir244 : IFunc := ⟨10, [.tmp 4], (.seq (.region [⟨some 4, none, [], (.move (.c (.int .i64 0)))⟩] false)
 (.seq (.region [⟨some 5, none, [], (.move (.t 1))⟩, ⟨some 6, none, [], (.move (.t 0))⟩, ⟨some 7, none, [], (.conv (.intInt .u32) (.t 6))⟩, ⟨some 8, none, [], (.bin .add (.t 5) (.t 7))⟩, ⟨some 9, none, [], (.conv (.intInt .i64) (.t 8))⟩, ⟨some 4, none, [], (.move (.t 9))⟩] false)
 .ret))⟩
-- coxless/ext.Join
def ir243 : IFunc := ⟨12, [.tmp 4], (.seq (.region [⟨some 4, none, [], (.move (.c (.int .i64 0)))⟩] false)
 (.seq (.region [⟨some 6, none, [], (.move (.t 0))⟩, ⟨some 7, none, [], (.call 204 [(.c (.int .u32 0)), (.c (.int .i64 8)), (.c (.int .i64 24)), (.t 6)])⟩, ⟨some 5, none, [], (.move (.t 7))⟩] false)
 (.seq (.region [⟨some 8, none, [], (.move (.t 5))⟩, ⟨some 9, none, [], (.move (.t 1))⟩, ⟨some 10, none, [], (.call 204 [(.t 8), (.c (.int .i64 0)), (.c (.int .i64 8)), (.t 9)])⟩, ⟨some 11, none, [], (.call 242 [(.t 10), (.c (.int .i64 32))])⟩, ⟨some 4, none, [], (.move (.t 11))⟩] false)
 .ret)))⟩
-- coxless/ext.Extendable
def ir202 : IFunc := ⟨15, [.tmp 2], (.seq (.region [⟨some 2, none, [], (.move (.c (.bool false)))⟩] false)
 (.seq (.region [⟨some 6, none, [], (.move (.t 0))⟩, ⟨some 7, none, [], (.call 239 [(.t 6)])⟩, ⟨some 5, none, [], (.move (.t 7))⟩, ⟨some 8, none, [], (.extract (.t 5) 0)⟩, ⟨some 9, none, [], (.extract (.t 5) 1)⟩, ⟨some 3, none, [], (.alloc [(.int .u8 0), (.int .i64 0), (.int .i64 0), (.bool false), (.bool false)])⟩, ⟨none, none, [], (.store 5 (.t 3) (.t 8))⟩, ⟨some 4, none, [], (.move (.t 9))⟩] false)
 (.seq (.region [⟨some 10, none, [], (.move (.t 4))⟩, ⟨some 11, none, [], (.move (.t 10))⟩, ⟨some 12, some (11, true), [], (.fieldAddr 4 (.t 3))⟩, ⟨some 13, some (11, true), [], (.load false 1 (.t 12))⟩, ⟨some 14, none, [], (.pick (.t 11) (.t 13) (.c (.bool false)))⟩, ⟨some 2, none, [], (.move (.t 14))⟩] false)
 .ret)))⟩
-- coxless/ext.field
def ir239 : IFunc := ⟨26, [.cell 2 true 5, .tmp 3], (.seq (.region [⟨some 2, none, [], (.alloc [(.int .u8 0), (.int .i64 0), (.int .i64 0), (.bool false), (.bool false)])⟩, ⟨some 3, none, [], (.move (.c (.bool false)))⟩] false)
 (.seq (.seq (.region [⟨some 9, none, [], (.buildSlice 2 1 [(.int .u8 0)] [(0, 1, (.c (.int .u8 9))), (1, 1, (.c (.int .u8 10)))])⟩, ⟨some 10, none, [], (.lenSl (.t 9))⟩, ⟨some 11, none, [], (.move (.c (.int .i64 0)))⟩] false)
 (.block 0 (.loop (.seq (.region [⟨some 12, none, [], (.bin .lss (.t 11) (.t 10))⟩] false)
 (.seq (.cond (.t 12) .skip (.exit 0))
 (.seq (.block 1 (.seq (.region [⟨some 13, none, [], (.idxSl 1 (.t 9) (.t 11))⟩, ⟨some 14, none, [], (.load false 1 (.t 13))⟩, ⟨some 5, none, [], (.move (.t 14))⟩] false)
 (.seq (.region [⟨some 16, none, [], (.move (.t 0))⟩, ⟨some 17, none, [], (.move (.t 5))⟩, ⟨some 18, none, [], (.call 164 [(.t 16), (.t 17)])⟩, ⟨some 15, none, [], (.move (.t 18))⟩, ⟨some 19, none, [], (.extract (.t 15) 0)⟩, ⟨some 20, none, [], (.extract (.t 15) 1)⟩, ⟨some 21, none, [], (.extract (.t 15) 2)⟩, ⟨some 6, none, [], (.alloc [(.int .u8 0), (.int .i64 0), (.int .i64 0), (.bool false), (.bool false)])⟩, ⟨none, none, [], (.store 5 (.t 6) (.t 19))⟩, ⟨some 7, none, [], (.move (.t 20))⟩, ⟨some 8, none, [], (.move (.t 21))⟩] false)
 (.seq (.region [⟨some 22, none, [], (.move (.t 8))⟩] false)
 (.cond (.t 22) (.seq (.region [⟨some 23, none, [], (.load true 5 (.t 6))⟩, ⟨none, none, [], (.store 5 (.t 2) (.t 23))⟩, ⟨some 3, none, [], (.move (.c (.bool true)))⟩] false)
 .ret) .skip)))))
 (.region [⟨some 24, none, [], (.bin .add (.t 11) (.c (.int .i64 1)))⟩, ⟨some 11, none, [], (.move (.t 24))⟩] false)))))))
 (.seq (.region [⟨some 25, none, [], (.build [(.int .u8 0), (.int .i64 0), (.int .i64 0), (.bool false), (.bool false)] [])⟩, ⟨none, none, [], (.store 5 (.t 2) (.t 25))⟩, ⟨some 3, none, [], (.move (.c (.bool false)))⟩] false)
 .ret)))⟩
-- coxless/bits.Parts
def ir108 : IFunc := ⟨27, [.tmp 2, .tmp 3, .tmp 4], (.seq (.region [⟨some 2, none, [], (.move (.c (.int .u8 0)))⟩, ⟨some 3, none, [], (.move (.c (.int .u32 0)))⟩, ⟨some 4, none, [], (.move (.c (.int .u8 0)))⟩] false)
 (.seq (.region [⟨some 5, none, [], (.idxArr 2 2 (.c (.ptr ⟨2, 0, 0, 4⟩)) (.c (.int .i64 0)))⟩, ⟨some 6, none, [], (.load true 2 (.t 5))⟩, ⟨some 7, none, [], (.move (.t 0))⟩, ⟨some 9, none, [], (.idxArr 2 2 (.c (.ptr ⟨2, 0, 0, 4⟩)) (.c (.int .i64 1)))⟩, ⟨some 10, none, [], (.load true 2 (.t 9))⟩, ⟨some 11, none, [], (.move (.t 0))⟩, ⟨some 13, none, [], (.idxArr 2 2 (.c (.ptr ⟨2, 0, 0, 4⟩)) (.c (.int .i64 0)))⟩, ⟨some 14, none, [], (.fieldAddr 1 (.t 13))⟩, ⟨some 15, none, [], (.load false 1 (.t 14))⟩, ⟨some 8, none, [(.t 9), (.t 14)], (.call 149 [(.t 6), (.t 7)])⟩, ⟨some 12, none, [(.t 14)], (.call 149 [(.t 10), (.t 11)])⟩, ⟨some 16, none, [], (.bin .shl (.t 12) (.t 15))⟩, ⟨some 17, none, [], (.bin .or (.t 8) (.t 16))⟩, ⟨some 3, none, [], (.move (.t 17))⟩] true)
 (.seq (.region [⟨some 18, none, [], (.load true 2 (.c (.ptr ⟨3, 0, 0, 2⟩)))⟩, ⟨some 19, none, [], (.move (.t 0))⟩, ⟨some 22, none, [], (.move (.t 3))⟩, ⟨some 23, none, [], (.load true 2 (.c (.ptr ⟨4, 0, 0, 2⟩)))⟩, ⟨some 24, none, [], (.move (.t 0))⟩, ⟨some 20, none, [(.c (.ptr ⟨4, 0, 0, 2⟩))], (.call 149 [(.t 18), (.t 19)])⟩, ⟨some 21, none, [], (.conv (.intInt .u8) (.t 20))⟩, ⟨some 25, none, [], (.call 149 [(.t 23), (.t 24)])⟩, ⟨some 26, none, [], (.conv (.intInt .u8) (.t 25))⟩, ⟨some 2, none, [], (.move (.t 21))⟩, ⟨some 3, none, [], (.move (.t 22))⟩, ⟨some 4, none, [], (.move (.t 26))⟩] true)
 .ret)))⟩
-- (*coxless/unpack.reader).pair
def ir109 : IFunc := ⟨32, [.tmp 4], (.seq (.region [⟨some 4, none, [], (.move (.c (.bool false)))⟩] false)
 (.seq (.region [⟨some 9, none, [], (.move (.t 1))⟩, ⟨some 10, none, [], (.call 150 [(.t 9)])⟩, ⟨some 8, none, [], (.move (.t 10))⟩, ⟨some 11, none, [], (.extract (.t 8) 0)⟩, ⟨some 12, none, [], (.extract (.t 8) 1)⟩, ⟨some 13, none, [], (.extract (.t 8) 2)⟩, ⟨some 5, none, [], (.alloc [(.int .u8 0), (.int .u8 0), (.int .u8 0), (.int .u8 0), (.int .u8 0), (.int .u8 0), (.int .u8 0), (.bool false), (.bool false), (.int .u16 0), (.int .i64 0)])⟩, ⟨some 6, none, [], (.alloc [(.int .u8 0), (.int .u8 0), (.int .u8 0), (.int .u8 0), (.int .u8 0), (.int .u8 0), (.int .u8 0), (.bool false), (.bool false), (.int .u16 0), (.int .i64 0)])⟩, ⟨none, none, [], (.store 11 (.t 5) (.t 11))⟩, ⟨none, none, [], (.store 11 (.t 6) (.t 12))⟩, ⟨some 7, none, [], (.move (.t 13))⟩] false)
 (.seq (.region [⟨some 14, none, [], (.move (.t 0))⟩, ⟨some 15, none, [], (.move (.t 0))⟩, ⟨some 16, none, [], (.move (.t 0))⟩, ⟨some 17, none, [], (.nilCheck (.t 16))⟩, ⟨some 18, none, [], (.fieldAddr 2 (.t 17))⟩, ⟨some 19, none, [], (.fieldAddr 0 (.t 18))⟩, ⟨some 20, none, [], (.load false 1 (.t 19))⟩, ⟨some 21, none, [], (.load true 11 (.t 5))⟩, ⟨some 22, none, [], (.load true 11 (.t 6))⟩, ⟨some 23, none, [], (.buildSlice 2 11 [(.int .u8 0), (.int .u8 0), (.int .u8 0), (.int .u8 0), (.int .u8 0), (.int .u8 0), (.int .u8 0), (.bool false), (.bool false), (.int .u16 0), (.int .i64 0)] [(0, 11, (.t 21)), (11, 11, (.t 22))])⟩, ⟨some 24, none, [], (.append 11 24 (.t 20) (.t 23))⟩, ⟨some 25, none, [], (.nilCheck (.t 14))⟩, ⟨some 26, none, [], (.fieldAddr 2 (.t 25))⟩, ⟨some 27, none, [], (.fieldAddr 0 (.t 26))⟩, ⟨none, none, [], (.store 1 (.t 27) (.t 24))⟩, ⟨some 28, none, [], (.nilCheck (.t 15))⟩, ⟨some 29, none, [], (.fieldAddr 2 (.t 28))⟩, ⟨some 30, none, [], (.fieldAddr 4 (.t 29))⟩, ⟨none, none, [], (.store 1 (.t 30) (.c (.bool true)))⟩] true)
 (.seq (.region [⟨some 31, none, [], (.move (.t 7))⟩, ⟨some 4, none, [], (.move (.t 31))⟩] false)
 .ret))))⟩
-- coxless/duplex.Split
def ir150 : IFunc := ⟨52, [.cell 2 true 11, .cell 3 true 11, .tmp 4], (.seq (.region [⟨some 2, none, [], (.alloc [(.int .u8 0), (.int .u8 0), (.int .u8 0), (.int .u8 0), (.int .u8 0), (.int .u8 0), (.int .u8 0), (.bool false), (.bool false), (.int .u16 0), (.int .i64 0)])⟩, ⟨some 3, none, [], (.alloc [(.int .u8 0), (.int .u8 0), (.int .u8 0), (.int .u8 0), (.int .u8 0), (.int .u8 0), (.int .u8 0), (.bool false), (.bool false), (.int .u16 0), (.int .i64 0)])⟩, ⟨some 4, none, [], (.move (.c (.bool false)))⟩] false)
 (.seq (.seq (.region [⟨some 13, none, [], (.move (.t 0))⟩, ⟨some 14, none, [], (.call 108 [(.t 13)])⟩, ⟨some 12, none, [], (.move (.t 14))⟩, ⟨some 15, none, [], (.extract (.t 12) 0)⟩, ⟨some 16, none, [], (.extract (.t 12) 1)⟩, ⟨some 17, none, [], (.extract (.t 12) 2)⟩, ⟨some 5, none, [], (.move (.t 15))⟩, ⟨some 6, none, [], (.move (.t 16))⟩, ⟨some 7, none, [], (.move (.t 17))⟩] false)
 (.seq (.region [⟨some 18, none, [], (.move (.t 7))⟩, ⟨some 19, none, [], (.bin .neq (.t 18) (.c (.int .u8 0)))⟩] false)
 (.cond (.t 19) (.seq (.region [⟨some 20, none, [], (.build [(.int .u8 0), (.int .u8 0), (.int .u8 0), (.int .u8 0), (.int .u8 0), (.int .u8 0), (.int .u8 0), (.bool false), (.bool false), (.int .u16 0), (.int .i64 0)] [])⟩, ⟨some 21, none, [], (.build [(.int .u8 0), (.int .u8 0), (.int .u8 0), (.int .u8 0), (.int .u8 0), (.int .u8 0), (.int .u8 0), (.bool false), (.bool false), (.int .u16 0), (.int .i64 0)] [])⟩, ⟨none, none, [], (.store 11 (.t 2) (.t 20))⟩, ⟨none, none, [], (.store 11 (.t 3) (.t 21))⟩, ⟨some 4, none, [], (.move (.c (.bool false)))⟩] false)
 .ret) .skip)))
 (.seq (.region [⟨some 22, none, [], (.move (.t 0))⟩, ⟨some 23, none, [], (.call 199 [(.t 22)])⟩, ⟨some 8, none, [], (.move (.t 23))⟩] false)
 (.seq (.region [⟨some 25, none, [], (.move (.t 8))⟩, ⟨some 26, none, [], (.bin .shr (.t 25) (.c (.int .u64 15)))⟩, ⟨some 27, none, [], (.conv (.intInt .u16) (.t 26))⟩, ⟨some 28, none, [], (.call 200 [(.t 27)])⟩, ⟨some 24, none, [], (.move (.t 28))⟩, ⟨some 29, none, [], (.extract (.t 24) 0)⟩, ⟨some 30, none, [], (.extract (.t 24) 1)⟩, ⟨some 9, none, [], (.alloc [(.int .u8 0), (.int .u8 0), (.int .u8 0), (.int .u8 0), (.int .u8 0), (.int .u8 0), (.int .u8 0), (.bool false), (.bool false), (.int .u16 0), (.int .i64 0)])⟩, ⟨none, none, [], (.store 11 (.t 9) (.t 29))⟩, ⟨some 4, none, [], (.move (.t 30))⟩] false)
 (.seq (.region [⟨some 32, none, [], (.move (.t 8))⟩, ⟨some 33, none, [], (.bin .and (.t 32) (.c (.int .u32 32767)))⟩, ⟨some 34, none, [], (.conv (.intInt .u16) (.t 33))⟩, ⟨some 35, none, [], (.call 200 [(.t 34)])⟩, ⟨some 31, none, [], (.move (.t 35))⟩, ⟨some 36, none, [], (.extract (.t 31) 0)⟩, ⟨some 37, none, [], (.extract (.t 31) 1)⟩, ⟨some 10, none, [], (.alloc [(.int .u8 0), (.int .u8 0), (.int .u8 0), (.int .u8 0), (.int .u8 0), (.int .u8 0), (.int .u8 0), (.bool false), (.bool false), (.int .u16 0), (.int .i64 0)])⟩, ⟨none, none, [], (.store 11 (.t 10) (.t 36))⟩, ⟨some 11, none, [], (.move (.t 37))⟩] false)
 (.seq (.seq (.region [⟨some 38, none, [], (.move (.t 4))⟩, ⟨some 39, none, [], (.un .not (.t 38))⟩, ⟨some 40, none, [], (.move (.t 39))⟩, ⟨some 41, some (40, false), [], (.move (.t 11))⟩, ⟨some 42, some (40, false), [], (.un .not (.t 41))⟩, ⟨some 43, none, [], (.pick (.t 40) (.c (.bool true)) (.t 42))⟩, ⟨some 44, none, [], (.move (.t 43))⟩, ⟨some 45, some (44, false), [], (.load true 11 (.t 9))⟩, ⟨some 46, some (44, false), [], (.call 201 [(.t 45)])⟩, ⟨some 47, none, [], (.pick (.t 44) (.c (.bool true)) (.t 46))⟩] false)
 (.cond (.t 47) (.seq (.region [⟨some 48, none, [], (.build [(.int .u8 0), (.int .u8 0), (.int .u8 0), (.int .u8 0), (.int .u8 0), (.int .u8 0), (.int .u8 0), (.bool false), (.bool false), (.int .u16 0), (.int .i64 0)] [])⟩, ⟨some 49, none, [], (.build [(.int .u8 0), (.int .u8 0), (.int .u8 0), (.int .u8 0), (.int .u8 0), (.int .u8 0), (.int .u8 0), (.bool false), (.bool false), (.int .u16 0), (.int .i64 0)] [])⟩, ⟨none, none, [], (.store 11 (.t 2) (.t 48))⟩, ⟨none, none, [], (.store 11 (.t 3) (.t 49))⟩, ⟨some 4, none, [], (.move (.c (.bool false)))⟩] false)
 .ret) .skip))
 (.seq (.region [⟨some 50, none, [], (.load true 11 (.t 9))⟩, ⟨some 51, none, [], (.load true 11 (.t 10))⟩, ⟨none, none, [(.t 10)], (.store 11 (.t 2) (.t 50))⟩, ⟨none, none, [], (.store 11 (.t 3) (.t 51))⟩, ⟨some 4, none, [], (.move (.c (.bool true)))⟩] true)
 .ret)))))))⟩
-- coxless/bits.Thirty
def ir199 : IFunc := ⟨15, [.tmp 2], (.seq (.region [⟨some 2, none, [], (.move (.c (.int .u32 0)))⟩] false)
 (.seq (.region [⟨some 3, none, [], (.idxArr 2 2 (.c (.ptr ⟨2, 0, 0, 4⟩)) (.c (.int .i64 0)))⟩, ⟨some 4, none, [], (.load true 2 (.t 3))⟩, ⟨some 5, none, [], (.move (.t 0))⟩, ⟨some 7, none, [], (.load true 2 (.c (.ptr ⟨7, 0, 0, 2⟩)))⟩, ⟨some 8, none, [], (.move (.t 0))⟩, ⟨some 10, none, [], (.idxArr 2 2 (.c (.ptr ⟨2, 0, 0, 4⟩)) (.c (.int .i64 0)))⟩, ⟨some 11, none, [], (.fieldAddr 1 (.t 10))⟩, ⟨some 12, none, [], (.load false 1 (.t 11))⟩, ⟨some 6, none, [(.c (.ptr ⟨7, 0, 0, 2⟩)), (.t 11)], (.call 149 [(.t 4), (.t 5)])⟩, ⟨some 9, none, [(.t 11)], (.call 149 [(.t 7), (.t 8)])⟩, ⟨some 13, none, [], (.bin .shl (.t 9) (.t 12))⟩, ⟨some 14, none, [], (.bin .or (.t 6) (.t 13))⟩, ⟨some 2, none, [], (.move (.t 14))⟩] true)
 .ret))⟩
-- coxless/unpack.tags
def ir79 : IFunc := ⟨31, [.tmp 2, .tmp 3, .tmp 4], (.seq (.region [⟨some 2, none, [], (.move (.c (.bool false)))⟩, ⟨some 3, none, [], (.move (.c (.bool false)))⟩, ⟨some 4, none, [], (.move (.c (.bool false)))⟩] false)
 (.seq (.seq (.region [⟨some 7, none, [], (.move (.t 0))⟩, ⟨some 8, none, [], (.move (.t 0))⟩, ⟨some 9, none, [], (.lenSl (.t 8))⟩, ⟨some 10, none, [], (.bin .sub (.t 9) (.c (.int .i64 1)))⟩, ⟨some 11, none, [], (.sliceSl 1 (.t 7) none (some (.t 10)) none)⟩, ⟨some 12, none, [], (.lenSl (.t 11))⟩, ⟨some 13, none, [], (.move (.c (.int .i64 0)))⟩] false)
 (.block 0 (.loop (.seq (.region [⟨some 14, none, [], (.bin .lss (.t 13) (.t 12))⟩] false)
 (.seq (.cond (.t 14) .skip (.exit 0))
 (.seq (.block 1 (.seq (.region [⟨some 15, none, [], (.move (.t 13))⟩, ⟨some 16, none, [], (.idxSl 1 (.t 11) (.t 13))⟩, ⟨some 17, none, [], (.load false 1 (.t 16))⟩, ⟨some 5, none, [], (.move (.t 15))⟩, ⟨some 6, none, [], (.move (.t 17))⟩] false)
 (.block 2 (.seq (.region [⟨some 19, none, [], (.move (.t 6))⟩, ⟨some 20, none, [], (.call 78 [(.t 19)])⟩, ⟨some 21, none, [], (.bin .eql (.t 20) (.c (.int .u8 1)))⟩, ⟨some 18, none, [], (.move (.t 21))⟩] false)
 (.cond (.t 18) .skip (.seq (.region [⟨some 23, none, [], (.move (.t 5))⟩, ⟨some 24, none, [], (.bin .eql (.t 23) (.c (.int .i64 0)))⟩, ⟨some 22, none, [], (.move (.t 24))⟩] false)
 (.cond (.t 22) (.region [⟨some 2, none, [], (.move (.c (.bool true)))⟩] false) (.seq (.region [⟨some 26, none, [], (.move (.t 5))⟩, ⟨some 27, none, [], (.bin .eql (.t 26) (.c (.int .i64 1)))⟩, ⟨some 25, none, [], (.move (.t 27))⟩] false)
 (.cond (.t 25) (.region [⟨some 3, none, [], (.move (.c (.bool true)))⟩] false) (.seq (.region [⟨some 2, none, [], (.move (.c (.bool false)))⟩, ⟨some 3, none, [], (.move (.c (.bool false)))⟩, ⟨some 4, none, [], (.move (.c (.bool false)))⟩] false)
 .ret))))))))))
 (.region [⟨some 28, none, [], (.bin .add (.t 13) (.c (.int .i64 1)))⟩, ⟨some 13, none, [], (.move (.t 28))⟩] false)))))))
 (.seq (.region [⟨some 29, none, [], (.move (.t 2))⟩, ⟨some 30, none, [], (.move (.t 3))⟩, ⟨some 2, none, [], (.move (.t 29))⟩, ⟨some 3, none, [], (.move (.t 30))⟩, ⟨some 4, none, [], (.move (.c (.bool true)))⟩] false)
 .ret)))⟩
-- coxless/unpack.parse
def ir78 : IFunc := ⟨13, [.tmp 2], (.seq (.region [⟨some 2, none, [], (.move (.c (.int .u8 0)))⟩] false)
 (.seq (.region [⟨some 7, none, [], (.move (.t 0))⟩, ⟨some 8, none, [], (.call 108 [(.t 7)])⟩, ⟨some 6, none, [], (.move (.t 8))⟩, ⟨some 9, none, [], (.extract (.t 6) 0)⟩, ⟨some 10, none, [], (.extract (.t 6) 1)⟩, ⟨some 11, none, [], (.extract (.t 6) 2)⟩, ⟨some 3, none, [], (.move (.t 9))⟩, ⟨some 4, none, [], (.move (.t 10))⟩, ⟨some 5, none, [], (.move (.t 11))⟩] false)
 (.seq (.region [⟨some 12, none, [], (.move (.t 5))⟩, ⟨some 2, none, [], (.move (.t 12))⟩] false)
 .ret)))⟩
-- coxless/unpack.Length
def ir60 : IFunc := ⟨29, [.tmp 2, .tmp 3], (.seq (.region [⟨some 2, none, [], (.move (.c (.int .i64 0)))⟩, ⟨some 3, none, [], (.move (.c (.bool false)))⟩] false)
 (.seq (.seq (.region [⟨some 7, none, [], (.move (.t 0))⟩, ⟨some 8, none, [], (.move (.t 0))⟩, ⟨some 9, none, [], (.lenSl (.t 8))⟩, ⟨some 10, none, [], (.minmax false [(.t 9), (.c (.int .i64 4))])⟩, ⟨some 11, none, [], (.sliceSl 1 (.t 7) none (some (.t 10)) none)⟩, ⟨some 12, none, [], (.lenSl (.t 11))⟩, ⟨some 13, none, [], (.move (.c (.int .i64 0)))⟩] false)
 (.block 0 (.loop (.seq (.region [⟨some 14, none, [], (.bin .lss (.t 13) (.t 12))⟩] false)
 (.seq (.cond (.t 14) .skip (.exit 0))
 (.seq (.block 1 (.seq (.region [⟨some 15, none, [], (.move (.t 13))⟩, ⟨some 16, none, [], (.idxSl 1 (.t 11) (.t 13))⟩, ⟨some 17, none, [], (.load false 1 (.t 16))⟩, ⟨some 4, none, [], (.move (.t 15))⟩, ⟨some 5, none, [], (.move (.t 17))⟩] false)
 (.seq (.region [⟨some 18, none, [], (.move (.t 5))⟩, ⟨some 19, none, [], (.call 78 [(.t 18)])⟩, ⟨some 6, none, [], (.move (.t 19))⟩] false)
 (.seq (.region [⟨some 20, none, [], (.move (.t 6))⟩, ⟨some 21, none, [], (.bin .eql (.t 20) (.c (.int .u8 0)))⟩, ⟨some 22, none, [], (.move (.t 21))⟩, ⟨some 23, some (22, false), [], (.move (.t 6))⟩, ⟨some 24, some (22, false), [], (.bin .eql (.t 23) (.c (.int .u8 3)))⟩, ⟨some 25, none, [], (.pick (.t 22) (.c (.bool true)) (.t 24))⟩] false)
 (.cond (.t 25) (.seq (.region [⟨some 26, none, [], (.move (.t 4))⟩, ⟨some 27, none, [], (.bin .add (.t 26) (.c (.int .i64 1)))⟩, ⟨some 2, none, [], (.move (.t 27))⟩, ⟨some 3, none, [], (.move (.c (.bool true)))⟩] false)
 .ret) .skip)))))
 (.region [⟨some 28, none, [], (.bin .add (.t 13) (.c (.int .i64 1)))⟩, ⟨some 13, none, [], (.move (.t 28))⟩] false)))))))
 (.seq (.region [⟨some 2, none, [], (.move (.c (.int .i64 0)))⟩, ⟨some 3, none, [], (.move (.c (.bool false)))⟩] false)
 .ret)))⟩
-- coxless/show.Packet
def ir38 : IFunc := ⟨53, [.tmp 4], (.seq (.region [⟨some 2, none, [], (.box (.t 0))⟩, ⟨some 4, none, [], (.move (.c (.str [])))⟩] false)
 (.seq (.region [⟨some 5, none, [], (.move (.c .nilSlice))⟩] false)
 (.seq (.seq (.region [⟨some 11, none, [], (.fieldAddr 0 (.t 2))⟩, ⟨some 12, none, [], (.load false 1 (.t 11))⟩, ⟨some 13, none, [], (.lenSl (.t 12))⟩, ⟨some 14, none, [], (.move (.c (.int .i64 0)))⟩] false)
 (.block 0 (.loop (.seq (.region [⟨some 15, none, [], (.bin .lss (.t 14) (.t 13))⟩] false)
 (.seq (.cond (.t 15) .skip (.exit 0))
 (.seq (.block 1 (.seq (.region [⟨some 16, none, [], (.idxSl 11 (.t 12) (.t 14))⟩, ⟨some 17, none, [], (.load true 11 (.t 16))⟩, ⟨some 7, none, [], (.alloc [(.int .u8 0), (.int .u8 0), (.int .u8 0), (.int .u8 0), (.int .u8 0), (.int .u8 0), (.int .u8 0), (.bool false), (.bool false), (.int .u16 0), (.int .i64 0)])⟩, ⟨none, none, [], (.store 11 (.t 7) (.t 17))⟩] false)
 (.seq (.region [⟨some 18, none, [], (.load true 11 (.t 7))⟩, ⟨some 19, none, [], (.move (.t 1))⟩, ⟨some 20, none, [], (.call 62 [(.t 18), (.t 19)])⟩, ⟨some 8, none, [], (.move (.t 20))⟩] false)
 (.seq (.seq (.region [⟨some 21, none, [], (.move (.t 8))⟩, ⟨some 22, none, [], (.bin .eql (.t 21) (.c (.str [])))⟩] false)
 (.cond (.t 22) (.seq (.region [⟨some 4, none, [], (.move (.c (.str [])))⟩] false)
 .ret) .skip))
 (.region [⟨some 23, none, [], (.move (.t 5))⟩, ⟨some 24, none, [], (.move (.t 8))⟩, ⟨some 25, none, [], (.buildSlice 1 1 [(.str [])] [(0, 1, (.t 24))])⟩, ⟨some 26, none, [], (.append 1 16 (.t 23) (.t 25))⟩, ⟨some 5, none, [], (.move (.t 26))⟩] false)))))
 (.region [⟨some 27, none, [], (.bin .add (.t 14) (.c (.int .i64 1)))⟩, ⟨some 14, none, [], (.move (.t 27))⟩] false)))))))
 (.seq (.seq (.region [⟨some 28, none, [], (.move (.t 5))⟩, ⟨some 29, none, [], (.lenSl (.t 28))⟩, ⟨some 30, none, [], (.bin .eql (.t 29) (.c (.int .i64 0)))⟩] false)
 (.cond (.t 30) (.seq (.region [⟨some 4, none, [], (.move (.c (.str [])))⟩] false)
 .ret) .skip))
 (.seq (.region [⟨some 31, none, [], (.move (.t 5))⟩, ⟨some 32, none, [], (.call 63 [(.t 31), (.c (.str [32, 59, 32]))])⟩, ⟨some 9, none, [], (.alloc [(.str [])])⟩, ⟨none, none, [], (.store 1 (.t 9) (.t 32))⟩] false)
 (.seq (.seq (.region [⟨some 33, none, [], (.move (.t 5))⟩, ⟨some 34, none, [], (.lenSl (.t 33))⟩, ⟨some 35, none, [], (.bin .gtr (.t 34) (.c (.int .i64 1)))⟩] false)
 (.cond (.t 35) (.region [⟨some 36, none, [], (.load false 1 (.t 9))⟩, ⟨some 37, none, [], (.bin .add (.c (.str [123, 32])) (.t 36))⟩, ⟨some 38, none, [], (.bin .add (.t 37) (.c (.str [32, 125])))⟩, ⟨none, none, [], (.store 1 (.t 9) (.t 38))⟩] false) .skip))
 (.seq (.region [⟨some 39, none, [], (.mkFunc 64 [] [(.t 9)])⟩, ⟨some 10, none, [], (.move (.t 39))⟩] false)
 (.seq (.region [⟨some 40, none, [], (.move (.t 10))⟩, ⟨some 41, none, [], (.fieldAddr 1 (.t 2))⟩, ⟨some 42, none, [], (.load false 1 (.t 41))⟩, ⟨some 43, none, [], (.callVal (.t 40) [(.t 42), (.c (.str [32, 58, 101, 110, 100, 108, 111, 111, 112, 48]))])⟩] false)
 (.seq (.region [⟨some 44, none, [], (.move (.t 10))⟩, ⟨some 45, none, [], (.fieldAddr 2 (.t 2))⟩, ⟨some 46, none, [], (.load false 1 (.t 45))⟩, ⟨some 47, none, [], (.callVal (.t 44) [(.t 46), (.c (.str [32, 58, 101, 110, 100, 108, 111, 111, 112, 49]))])⟩] false)
 (.seq (.region [⟨some 48, none, [], (.move (.t 10))⟩, ⟨some 49, none, [], (.fieldAddr 3 (.t 2))⟩, ⟨some 50, none, [], (.load false 1 (.t 49))⟩, ⟨some 51, none, [], (.callVal (.t 48) [(.t 50), (.c (.str [32, 58, 114, 97, 119]))])⟩] false)
 (.seq (.region [⟨some 52, none, [], (.load false 1 (.t 9))⟩, ⟨some 4, none, [], (.move (.t 52))⟩] false)
 .ret)))))))))))⟩
-- coxless/show.Packet$1
def ir64 : IFunc := ⟨9, [], (.seq (.region [⟨some 5, none, [], (.move (.t 0))⟩] false)
 (.cond (.t 5) (.region [⟨some 6, none, [], (.load false 1 (.t 2))⟩, ⟨some 7, none, [], (.move (.t 1))⟩, ⟨some 8, none, [], (.bin .add (.t 6) (.t 7))⟩, ⟨none, none, [], (.store 1 (.t 2) (.t 8))⟩] false) .skip))⟩
-- strings.Join
def ir63 : IFunc := ⟨75, [.tmp 4], (.seq (.region [⟨some 4, none, [], (.move (.c (.str [])))⟩] false)
 (.seq (.seq (.region [⟨some 11, none, [], (.move (.t 0))⟩, ⟨some 12, none, [], (.lenSl (.t 11))⟩] false)
 (.block 0 (.seq (.region [⟨some 14, none, [], (.bin .eql (.t 12) (.c (.int .i64 0)))⟩, ⟨some 13, none, [], (.move (.t 14))⟩] false)
 (.cond (.t 13) (.seq (.region [⟨some 4, none, [], (.move (.c (.str [])))⟩] false)
 .ret) (.seq (.region [⟨some 16, none, [], (.bin .eql (.t 12) (.c (.int .i64 1)))⟩, ⟨some 15, none, [], (.move (.t 16))⟩] false)
 (.cond (.t 15) (.seq (.region [⟨some 17, none, [], (.move (.t 0))⟩, ⟨some 18, none, [], (.idxSl 1 (.t 17) (.c (.int .i64 0)))⟩, ⟨some 19, none, [], (.load false 1 (.t 18))⟩, ⟨some 4, none, [], (.move (.t 19))⟩] false)
 .ret) .skip))))))
 (.seq (.region [⟨some 5, none, [], (.move (.c (.int .i64 0)))⟩] false)
 (.seq (.seq (.region [⟨some 20, none, [], (.move (.t 1))⟩, ⟨some 21, none, [], (.lenStr (.t 20))⟩, ⟨some 22, none, [], (.bin .gtr (.t 21) (.c (.int .i64 0)))⟩] false)
 (.cond (.t 22) (.seq (.seq (.region [⟨some 23, none, [], (.move (.t 1))⟩, ⟨some 24, none, [], (.lenStr (.t 23))⟩, ⟨some 25, none, [], (.move (.t 0))⟩, ⟨some 26, none, [], (.lenSl (.t 25))⟩, ⟨some 27, none, [], (.bin .sub (.t 26) (.c (.int .i64 1)))⟩, ⟨some 28, none, [], (.bin .quo (.c (.int .i64 9223372036854775807)) (.t 27))⟩, ⟨some 29, none, [], (.bin .geq (.t 24) (.t 28))⟩] false)
 (.cond (.t 29) (.region [⟨some 30, none, [], (.mkIface 9 (.c (.str [115, 116, 114, 105, 110, 103, 115, 58, 32, 74, 111, 105, 110, 32, 111, 117, 116, 112, 117, 116, 32, 108, 101, 110, 103, 116, 104, 32, 111, 118, 101, 114, 102, 108, 111, 119])))⟩, ⟨none, none, [], (.panic (.t 30))⟩] false) .skip))
 (.region [⟨some 31, none, [], (.move (.t 5))⟩, ⟨some 32, none, [], (.move (.t 1))⟩, ⟨some 33, none, [], (.lenStr (.t 32))⟩, ⟨some 34, none, [], (.move (.t 0))⟩, ⟨some 35, none, [], (.lenSl (.t 34))⟩, ⟨some 36, none, [], (.bin .sub (.t 35) (.c (.int .i64 1)))⟩, ⟨some 37, none, [], (.bin .mul (.t 33) (.t 36))⟩, ⟨some 38, none, [], (.bin .add (.t 31) (.t 37))⟩, ⟨some 5, none, [], (.move (.t 38))⟩] false)) .skip))
 (.seq (.seq (.region [⟨some 39, none, [], (.move (.t 0))⟩, ⟨some 40, none, [], (.lenSl (.t 39))⟩, ⟨some 41, none, [], (.move (.c (.int .i64 0)))⟩] false)
 (.block 1 (.loop (.seq (.region [⟨some 42, none, [], (.bin .lss (.t 41) (.t 40))⟩] false)
 (.seq (.cond (.t 42) .skip (.exit 1))
 (.seq (.block 2 (.seq (.region [⟨some 43, none, [], (.idxSl 1 (.t 39) (.t 41))⟩, ⟨some 44, none, [], (.load false 1 (.t 43))⟩, ⟨some 7, none, [], (.move (.t 44))⟩] false)
 (.seq (.seq (.region [⟨some 45, none, [], (.move (.t 7))⟩, ⟨some 46, none, [], (.lenStr (.t 45))⟩, ⟨some 47, none, [], (.move (.t 5))⟩, ⟨some 48, none, [], (.bin .sub (.c (.int .i64 9223372036854775807)) (.t 47))⟩, ⟨some 49, none, [], (.bin .gtr (.t 46) (.t 48))⟩] false)
 (.cond (.t 49) (.region [⟨some 50, none, [], (.mkIface 9 (.c (.str [115, 116, 114, 105, 110, 103, 115, 58, 32, 74, 111, 105, 110, 32, 111, 117, 116, 112, 117, 116, 32, 108, 101, 110, 103, 116, 104, 32, 111, 118, 101, 114, 102, 108, 111, 119])))⟩, ⟨none, none, [], (.panic (.t 50))⟩] false) .skip))
 (.region [⟨some 51, none, [], (.move (.t 5))⟩, ⟨some 52, none, [], (.move (.t 7))⟩, ⟨some 53, none, [], (.lenStr (.t 52))⟩, ⟨some 54, none, [], (.bin .add (.t 51) (.t 53))⟩, ⟨some 5, none, [], (.move (.t 54))⟩] false))))
 (.region [⟨some 55, none, [], (.bin .add (.t 41) (.c (.int .i64 1)))⟩, ⟨some 41, none, [], (.move (.t 55))⟩] false)))))))
 (.seq (.region [⟨some 8, none, [], (.alloc [.nilPtr, .nilSlice])⟩] false)
 (.seq (.region [⟨some 56, none, [], (.move (.t 5))⟩, ⟨some 57, none, [], (.call 87 [(.t 8), (.t 56)])⟩] false)
 (.seq (.region [⟨some 58, none, [], (.move (.t 0))⟩, ⟨some 59, none, [], (.idxSl 1 (.t 58) (.c (.int .i64 0)))⟩, ⟨some 60, none, [], (.load false 1 (.t 59))⟩, ⟨some 61, none, [], (.call 88 [(.t 8), (.t 60)])⟩] false)
 (.seq (.seq (.region [⟨some 62, none, [], (.move (.t 0))⟩, ⟨some 63, none, [], (.sliceSl 1 (.t 62) (some (.c (.int .i64 1))) none none)⟩, ⟨some 64, none, [], (.lenSl (.t 63))⟩, ⟨some 65, none, [], (.move (.c (.int .i64 0)))⟩] false)
 (.block 3 (.loop (.seq (.region [⟨some 66, none, [], (.bin .lss (.t 65) (.t 64))⟩] false)
 (.seq (.cond (.t 66) .skip (.exit 3))
 (.seq (.block 4 (.seq (.region [⟨some 67, none, [], (.idxSl 1 (.t 63) (.t 65))⟩, ⟨some 68, none, [], (.load false 1 (.t 67))⟩, ⟨some 10, none, [], (.move (.t 68))⟩] false)
 (.seq (.region [⟨some 69, none, [], (.move (.t 1))⟩, ⟨some 70, none, [], (.call 88 [(.t 8), (.t 69)])⟩] false)
 (.region [⟨some 71, none, [], (.move (.t 10))⟩, ⟨some 72, none, [], (.call 88 [(.t 8), (.t 71)])⟩] false))))
 (.region [⟨some 73, none, [], (.bin .add (.t 65) (.c (.int .i64 1)))⟩, ⟨some 65, none, [], (.move (.t 73))⟩] false)))))))
 (.seq (.region [⟨some 74, none, [], (.call 89 [(.t 8)])⟩, ⟨some 4, none, [], (.move (.t 74))⟩] false)
 .ret))))))))))⟩
-- (*strings.Builder).String
def ir89 : IFunc := ⟨14, [.tmp 2], (.seq (.region [⟨some 2, none, [], (.move (.c (.str [])))⟩] false)
 (.seq (.region [⟨some 3, none, [], (.move (.t 0))⟩, ⟨some 4, none, [], (.nilCheck (.t 3))⟩, ⟨some 5, none, [], (.fieldAddr 1 (.t 4))⟩, ⟨some 6, none, [], (.load false 1 (.t 5))⟩, ⟨some 8, none, [], (.move (.t 0))⟩, ⟨some 9, none, [], (.nilCheck (.t 8))⟩, ⟨some 10, none, [], (.fieldAddr 1 (.t 9))⟩, ⟨some 11, none, [], (.load false 1 (.t 10))⟩, ⟨some 12, none, [], (.lenSl (.t 11))⟩, ⟨some 7, none, [(.t 10)], .bad⟩, ⟨some 13, none, [], .bad⟩, ⟨some 2, none, [], (.move (.t 13))⟩] true)
 .ret))⟩
-- (*strings.Builder).WriteString
def ir88 : IFunc := ⟨19, [.tmp 4, .tmp 5], (.seq (.region [⟨some 4, none, [], (.move (.c (.int .i64 0)))⟩, ⟨some 5, none, [], (.move (.c .nilIface))⟩] false)
 (.seq (.region [⟨some 6, none, [], (.move (.t 0))⟩, ⟨some 7, none, [], (.call 129 [(.t 6)])⟩] false)
 (.seq (.region [⟨some 8, none, [], (.move (.t 0))⟩, ⟨some 9, none, [], (.move (.t 0))⟩, ⟨some 10, none, [], (.nilCheck (.t 9))⟩, ⟨some 11, none, [], (.fieldAddr 1 (.t 10))⟩, ⟨some 12, none, [], (.load false 1 (.t 11))⟩, ⟨some 13, none, [], (.move (.t 1))⟩, ⟨some 14, none, [], (.append 1 1 (.t 12) (.t 13))⟩, ⟨some 15, none, [], (.nilCheck (.t 8))⟩, ⟨some 16, none, [], (.fieldAddr 1 (.t 15))⟩, ⟨none, none, [], (.store 1 (.t 16) (.t 14))⟩] false)
 (.seq (.region [⟨some 17, none, [], (.move (.t 1))⟩, ⟨some 18, none, [], (.lenStr (.t 17))⟩, ⟨some 4, none, [], (.move (.t 18))⟩, ⟨some 5, none, [], (.move (.c .nilIface))⟩] false)
 .ret))))⟩
-- (*strings.Builder).copyCheck
def ir129 : IFunc := ⟨20, [], (.seq (.region [⟨some 2, none, [], (.move (.t 0))⟩, ⟨some 3, none, [], (.nilCheck (.t 2))⟩, ⟨some 4, none, [], (.fieldAddr 0 (.t 3))⟩, ⟨some 5, none, [], (.load false 1 (.t 4))⟩, ⟨some 6, none, [], (.eq false (.nilable .ptr) (.t 5) (.c .nilPtr))⟩] false)
 (.cond (.t 6) (.region [⟨some 7, none, [], (.move (.t 0))⟩, ⟨some 8, none, [], (.move (.t 0))⟩, ⟨some 9, none, [], .bad⟩, ⟨some 10, none, [], (.call 169 [(.t 9)])⟩, ⟨some 11, none, [], .bad⟩, ⟨some 12, none, [], (.nilCheck (.t 7))⟩, ⟨some 13, none, [], (.fieldAddr 0 (.t 12))⟩, ⟨none, none, [], (.store 1 (.t 13) (.t 11))⟩] false) (.seq (.region [⟨some 14, none, [], (.move (.t 0))⟩, ⟨some 15, none, [], (.nilCheck (.t 14))⟩, ⟨some 16, none, [], (.fieldAddr 0 (.t 15))⟩, ⟨some 17, none, [], (.load false 1 (.t 16))⟩, ⟨some 18, none, [], (.move (.t 0))⟩, ⟨some 19, none, [], (.eq true (.nilable .ptr) (.t 17) (.t 18))⟩] false)
 (.cond (.t 19) .bad .skip))))⟩
-- (*strings.Builder).Grow
def ir87 : IFunc := ⟨25, [], (.seq (.region [⟨some 4, none, [], (.move (.t 0))⟩, ⟨some 5, none, [], (.call 129 [(.t 4)])⟩] false)
 (.seq (.seq (.region [⟨some 6, none, [], (.move (.t 1))⟩, ⟨some 7, none, [], (.bin .lss (.t 6) (.c (.int .i64 0)))⟩] false)
 (.cond (.t 7) (.region [⟨some 8, none, [], (.mkIface 9 (.c (.str [115, 116, 114, 105, 110, 103, 115, 46, 66, 117, 105, 108, 100, 101, 114, 46, 71, 114, 111, 119, 58, 32, 110, 101, 103, 97, 116, 105, 118, 101, 32, 99, 111, 117, 110, 116])))⟩, ⟨none, none, [], (.panic (.t 8))⟩] false) .skip))
 (.seq (.region [⟨some 9, none, [], (.move (.t 0))⟩, ⟨some 10, none, [], (.nilCheck (.t 9))⟩, ⟨some 11, none, [], (.fieldAddr 1 (.t 10))⟩, ⟨some 12, none, [], (.load false 1 (.t 11))⟩, ⟨some 13, none, [], (.cap (.t 12))⟩, ⟨some 14, none, [], (.move (.t 0))⟩, ⟨some 15, none, [], (.nilCheck (.t 14))⟩, ⟨some 16, none, [], (.fieldAddr 1 (.t 15))⟩, ⟨some 17, none, [], (.load false 1 (.t 16))⟩, ⟨some 18, none, [], (.lenSl (.t 17))⟩, ⟨some 19, none, [], (.bin .sub (.t 13) (.t 18))⟩, ⟨some 20, none, [], (.move (.t 1))⟩, ⟨some 21, none, [], (.bin .lss (.t 19) (.t 20))⟩] true)
 (.cond (.t 21) (.region [⟨some 22, none, [], (.move (.t 0))⟩, ⟨some 23, none, [], (.move (.t 1))⟩, ⟨some 24, none, [], (.call 130 [(.t 22), (.t 23)])⟩] false) .skip))))⟩
-- (*strings.Builder).grow
def ir130 : IFunc := ⟨30, [], (.seq (.region [⟨some 5, none, [], (.move (.t 0))⟩, ⟨some 6, none, [], (.nilCheck (.t 5))⟩, ⟨some 7, none, [], (.fieldAddr 1 (.t 6))⟩, ⟨some 8, none, [], (.load false 1 (.t 7))⟩, ⟨some 9, none, [], (.cap (.t 8))⟩, ⟨some 10, none, [], (.bin .mul (.c (.int .i64 2)) (.t 9))⟩, ⟨some 11, none, [], (.move (.t 1))⟩, ⟨some 12, none, [], (.bin .add (.t 10) (.t 11))⟩, ⟨some 14, none, [], (.move (.t 0))⟩, ⟨some 15, none, [], (.nilCheck (.t 14))⟩, ⟨some 16, none, [], (.fieldAddr 1 (.t 15))⟩, ⟨some 17, none, [], (.load false 1 (.t 16))⟩, ⟨some 18, none, [], (.lenSl (.t 17))⟩, ⟨some 13, none, [(.t 16)], (.call 170 [(.t 12)])⟩, ⟨some 19, none, [], (.sliceSl 1 (.t 13) none (some (.t 18)) none)⟩, ⟨some 4, none, [], (.move (.t 19))⟩] true)
 (.seq (.region [⟨some 20, none, [], (.move (.t 4))⟩, ⟨some 21, none, [], (.move (.t 0))⟩, ⟨some 22, none, [], (.nilCheck (.t 21))⟩, ⟨some 23, none, [], (.fieldAddr 1 (.t 22))⟩, ⟨some 24, none, [], (.load false 1 (.t 23))⟩, ⟨some 25, none, [], .bad⟩] false)
 (.region [⟨some 26, none, [], (.move (.t 0))⟩, ⟨some 27, none, [], (.move (.t 4))⟩, ⟨some 28, none, [], (.nilCheck (.t 26))⟩, ⟨some 29, none, [], (.fieldAddr 1 (.t 28))⟩, ⟨none, none, [], (.store 1 (.t 29) (.t 27))⟩] false)))⟩
-- coxless/show.Inst
def ir62 : IFunc := ⟨26, [.tmp 4], (.seq (.region [⟨some 2, none, [], (.box (.t 0))⟩, ⟨some 4, none, [], (.move (.c (.str [])))⟩] false)
 (.seq (.seq (.region [⟨some 8, none, [], (.load true 11 (.t 2))⟩, ⟨some 9, none, [], (.call 82 [(.t 8)])⟩, ⟨some 10, none, [], (.un .not (.t 9))⟩] false)
 (.cond (.t 10) (.seq (.region [⟨some 4, none, [], (.move (.c (.str [])))⟩] false)
 .ret) .skip))
 (.seq (.region [⟨some 5, none, [], (.move (.c (.str [])))⟩] false)
 (.seq (.seq (.region [⟨some 12, none, [], (.load true 11 (.t 2))⟩, ⟨some 13, none, [], (.call 83 [(.t 12)])⟩, ⟨some 11, none, [], (.move (.t 13))⟩, ⟨some 14, none, [], (.extract (.t 11) 0)⟩, ⟨some 15, none, [], (.extract (.t 11) 1)⟩, ⟨some 6, none, [], (.move (.t 14))⟩, ⟨some 7, none, [], (.move (.t 15))⟩] false)
 (.seq (.region [⟨some 16, none, [], (.move (.t 7))⟩] false)
 (.cond (.t 16) (.region [⟨some 17, none, [], (.load true 11 (.t 2))⟩, ⟨some 18, none, [], (.move (.t 1))⟩, ⟨some 19, none, [], (.call 84 [(.t 17), (.t 18)])⟩, ⟨some 5, none, [], (.move (.t 19))⟩] false) .skip)))
 (.seq (.region [⟨some 20, none, [], (.load true 11 (.t 2))⟩, ⟨some 22, none, [], (.load true 11 (.t 2))⟩, ⟨some 23, none, [], (.move (.t 5))⟩, ⟨some 21, none, [(.t 2)], (.call 85 [(.t 20)])⟩, ⟨some 24, none, [], (.call 86 [(.t 22), (.t 23)])⟩, ⟨some 25, none, [], (.bin .add (.t 21) (.t 24))⟩, ⟨some 4, none, [], (.move (.t 25))⟩] true)
 .ret)))))⟩
-- coxless/show.bare
def ir86 : IFunc := ⟨60, [.tmp 4], (.seq (.region [⟨some 2, none, [], (.box (.t 0))⟩, ⟨some 4, none, [], (.move (.c (.str [])))⟩] false)
 (.seq (.region [⟨some 9, none, [], (.load true 11 (.t 2))⟩, ⟨some 10, none, [], (.call 122 [(.t 9)])⟩, ⟨some 8, none, [], (.move (.t 10))⟩, ⟨some 11, none, [], (.extract (.t 8) 0)⟩, ⟨some 12, none, [], (.extract (.t 8) 1)⟩, ⟨some 5, none, [], (.move (.t 11))⟩, ⟨some 6, none, [], (.move (.t 12))⟩] false)
 (.seq (.seq (.region [⟨some 13, none, [], (.load true 11 (.t 2))⟩, ⟨some 14, none, [], (.call 123 [(.t 13)])⟩, ⟨some 7, none, [], (.move (.t 14))⟩] false)
 (.block 0 (.seq (.region [⟨some 16, none, [], (.fieldAddr 0 (.t 2))⟩, ⟨some 17, none, [], (.load false 1 (.t 16))⟩, ⟨some 18, none, [], (.bin .eql (.t 17) (.c (.int .u8 1)))⟩, ⟨some 15, none, [], (.move (.t 18))⟩] false)
 (.cond (.t 15) (.seq (.region [⟨some 4, none, [], (.move (.c (.str [110, 111, 112])))⟩] false)
 .ret) (.seq (.region [⟨some 20, none, [], (.move (.t 7))⟩, ⟨some 21, none, [], (.bin .eql (.t 20) (.c (.int .u8 5)))⟩, ⟨some 22, none, [], (.move (.t 21))⟩, ⟨some 23, some (22, false), [], (.move (.t 7))⟩, ⟨some 24, some (22, false), [], (.bin .eql (.t 23) (.c (.int .u8 6)))⟩, ⟨some 25, none, [], (.pick (.t 22) (.c (.bool true)) (.t 24))⟩, ⟨some 19, none, [], (.move (.t 25))⟩] false)
 (.cond (.t 19) (.seq (.region [⟨some 26, none, [], (.load true 11 (.t 2))⟩, ⟨some 27, none, [], (.move (.t 1))⟩, ⟨some 28, none, [], (.call 124 [(.t 26), (.t 27)])⟩, ⟨some 4, none, [], (.move (.t 28))⟩] false)
 .ret) (.seq (.region [⟨some 30, none, [], (.move (.t 7))⟩, ⟨some 31, none, [], (.bin .eql (.t 30) (.c (.int .u8 4)))⟩, ⟨some 29, none, [], (.move (.t 31))⟩] false)
 (.cond (.t 29) (.seq (.region [⟨some 32, none, [], (.load true 11 (.t 2))⟩, ⟨some 33, none, [], (.call 125 [(.t 32)])⟩, ⟨some 4, none, [], (.move (.t 33))⟩] false)
 .ret) (.seq (.region [⟨some 35, none, [], (.move (.t 7))⟩, ⟨some 36, none, [], (.bin .eql (.t 35) (.c (.int .u8 3)))⟩, ⟨some 34, none, [], (.move (.t 36))⟩] false)
 (.cond (.t 34) (.seq (.region [⟨some 37, none, [], (.fieldAddr 1 (.t 2))⟩, ⟨some 38, none, [], (.load false 1 (.t 37))⟩, ⟨some 41, none, [], (.load true 11 (.t 2))⟩, ⟨some 39, none, [(.t 2)], (.call 126 [(.t 38)])⟩, ⟨some 40, none, [], (.bin .add (.t 39) (.c (.str [32, 61, 32])))⟩, ⟨some 42, none, [], (.call 127 [(.t 41)])⟩, ⟨some 43, none, [], (.bin .add (.t 40) (.t 42))⟩, ⟨some 4, none, [], (.move (.t 43))⟩] true)
 .ret) (.seq (.region [⟨some 45, none, [], (.move (.t 6))⟩, ⟨some 44, none, [], (.move (.t 45))⟩] false)
 (.cond (.t 44) (.seq (.region [⟨some 46, none, [], (.fieldAddr 1 (.t 2))⟩, ⟨some 47, none, [], (.load false 1 (.t 46))⟩, ⟨some 50, none, [], (.load true 11 (.t 2))⟩, ⟨some 48, none, [(.t 2)], (.call 121 [(.t 47)])⟩, ⟨some 49, none, [], (.bin .add (.t 48) (.c (.str [32, 61, 32])))⟩, ⟨some 51, none, [], (.call 128 [(.t 50)])⟩, ⟨some 52, none, [], (.bin .add (.t 49) (.t 51))⟩, ⟨some 4, none, [], (.move (.t 52))⟩] true)
 .ret) .skip))))))))))))
 (.seq (.region [⟨some 53, none, [], (.fieldAddr 1 (.t 2))⟩, ⟨some 54, none, [], (.load false 1 (.t 53))⟩, ⟨some 57, none, [], (.load true 11 (.t 2))⟩, ⟨some 55, none, [(.t 2)], (.call 126 [(.t 54)])⟩, ⟨some 56, none, [], (.bin .add (.t 55) (.c (.str [32, 61, 32])))⟩, ⟨some 58, none, [], (.call 128 [(.t 57)])⟩, ⟨some 59, none, [], (.bin .add (.t 56) (.t 58))⟩, ⟨some 4, none, [], (.move (.t 59))⟩] true)
 .ret))))⟩
-- coxless/show.right
def ir128 : IFunc := ⟨55, [.tmp 2], (.seq (.region [⟨some 1, none, [], (.box (.t 0))⟩, ⟨some 2, none, [], (.move (.c (.str [])))⟩] false)
 (.seq (.region [⟨some 4, none, [], (.fieldAddr 2 (.t 1))⟩, ⟨some 5, none, [], (.load false 1 (.t 4))⟩, ⟨some 6, none, [], (.call 126 [(.t 5)])⟩, ⟨some 3, none, [], (.move (.t 6))⟩] false)
 (.seq (.seq (.region [⟨some 7, none, [], (.fieldAddr 0 (.t 1))⟩, ⟨some 8, none, [], (.load false 1 (.t 7))⟩] false)
 (.block 0 (.seq (.region [⟨some 16, none, [], (.bin .eql (.t 8) (.c (.int .u8 9)))⟩, ⟨some 15, none, [], (.move (.t 16))⟩] false)
 (.cond (.t 15) (.seq (.region [⟨some 17, none, [], (.move (.t 3))⟩, ⟨some 2, none, [], (.move (.t 17))⟩] false)
 .ret) (.seq (.region [⟨some 19, none, [], (.bin .eql (.t 8) (.c (.int .u8 8)))⟩, ⟨some 18, none, [], (.move (.t 19))⟩] false)
 (.cond (.t 18) (.seq (.region [⟨some 20, none, [], (.load true 11 (.t 1))⟩, ⟨some 21, none, [], (.call 168 [(.t 20)])⟩, ⟨some 2, none, [], (.move (.t 21))⟩] false)
 .ret) (.seq (.seq (.region [⟨some 23, none, [], (.bin .eql (.t 8) (.c (.int .u8 7)))⟩, ⟨some 22, none, [], (.move (.t 23))⟩] false)
 (.cond (.t 22) .skip (.seq (.region [⟨some 24, none, [], (.bin .eql (.t 8) (.c (.int .u8 13)))⟩, ⟨some 22, none, [], (.move (.t 24))⟩] false)
 (.cond (.t 22) .skip (.seq (.region [⟨some 25, none, [], (.bin .eql (.t 8) (.c (.int .u8 15)))⟩, ⟨some 22, none, [], (.move (.t 25))⟩] false)
 (.cond (.t 22) .skip (.seq (.region [⟨some 26, none, [], (.bin .eql (.t 8) (.c (.int .u8 16)))⟩, ⟨some 22, none, [], (.move (.t 26))⟩] false)
 (.cond (.t 22) .skip (.region [⟨some 27, none, [], (.bin .eql (.t 8) (.c (.int .u8 17)))⟩, ⟨some 22, none, [], (.move (.t 27))⟩] false)))))))))
 (.cond (.t 22) (.region [⟨some 28, none, [], (.move (.t 3))⟩, ⟨some 29, none, [], (.load true 11 (.t 1))⟩, ⟨some 30, none, [], (.call 168 [(.t 29)])⟩, ⟨some 31, none, [], (.bin .add (.c (.str [44])) (.t 30))⟩, ⟨some 32, none, [], (.bin .add (.t 28) (.t 31))⟩, ⟨some 3, none, [], (.move (.t 32))⟩] false) (.seq (.region [⟨some 34, none, [], (.bin .eql (.t 8) (.c (.int .u8 14)))⟩, ⟨some 33, none, [], (.move (.t 34))⟩] false)
 (.cond (.t 33) (.region [⟨some 35, none, [], (.fieldAddr 5 (.t 1))⟩, ⟨some 36, none, [], (.load false 1 (.t 35))⟩, ⟨some 39, none, [], (.move (.t 3))⟩, ⟨some 42, none, [], (.fieldAddr 3 (.t 1))⟩, ⟨some 43, none, [], (.load false 1 (.t 42))⟩, ⟨some 37, none, [(.t 42)], (.call 121 [(.t 36)])⟩, ⟨some 38, none, [], (.bin .add (.t 37) (.c (.str [44])))⟩, ⟨some 40, none, [], (.bin .add (.t 38) (.t 39))⟩, ⟨some 41, none, [], (.bin .add (.t 40) (.c (.str [44])))⟩, ⟨some 44, none, [], (.call 126 [(.t 43)])⟩, ⟨some 45, none, [], (.bin .add (.t 41) (.t 44))⟩, ⟨some 3, none, [], (.move (.t 45))⟩] true) (.region [⟨some 9, none, [], (.move (.t 3))⟩, ⟨some 10, none, [], (.fieldAddr 3 (.t 1))⟩, ⟨some 11, none, [], (.load false 1 (.t 10))⟩, ⟨some 12, none, [], (.call 126 [(.t 11)])⟩, ⟨some 13, none, [], (.bin .add (.c (.str [44])) (.t 12))⟩, ⟨some 14, none, [], (.bin .add (.t 9) (.t 13))⟩, ⟨some 3, none, [], (.move (.t 14))⟩] false)))))))))))
 (.seq (.region [⟨some 47, none, [], (.fieldAddr 0 (.t 1))⟩, ⟨some 48, none, [], (.load false 1 (.t 47))⟩, ⟨some 52, none, [], (.move (.t 3))⟩, ⟨some 46, none, [(.t 47)], (.call 167 [])⟩, ⟨some 49, none, [], (.lookup (.int .u8) (.agg [(.str [])]) false (.t 46) (.t 48))⟩, ⟨some 50, none, [], (.field 0 1 false (.t 49))⟩, ⟨some 51, none, [], (.bin .add (.t 50) (.c (.str [40])))⟩, ⟨some 53, none, [], (.bin .add (.t 51) (.t 52))⟩, ⟨some 54, none, [], (.bin .add (.t 53) (.c (.str [41])))⟩, ⟨some 2, none, [], (.move (.t 54))⟩] true)
 .ret))))⟩
-- coxless/show.words
def ir167 : IFunc := ⟨26, [.tmp 0], (.seq (.region [⟨some 0, none, [], (.move (.c .nilMap))⟩] false)
 (.seq (.region [⟨some 1, none, [], .mkMap⟩, ⟨some 2, none, [], (.build [(.str [])] [(0, 1, (.c (.str [97, 100, 100])))])⟩, ⟨none, none, [], (.mapSet (.int .u8) (.t 1) (.c (.int .u8 2)) (.t 2))⟩, ⟨some 3, none, [], (.build [(.str [])] [(0, 1, (.c (.str [115, 117, 98])))])⟩, ⟨none, none, [], (.mapSet (.int .u8) (.t 1) (.c (.int .u8 3)) (.t 3))⟩, ⟨some 4, none, [], (.build [(.str [])] [(0, 1, (.c (.str [97, 110, 100])))])⟩, ⟨none, none, [], (.mapSet (.int .u8) (.t 1) (.c (.int .u8 4)) (.t 4))⟩, ⟨some 5, none, [], (.build [(.str [])] [(0, 1, (.c (.str [111, 114])))])⟩, ⟨none, none, [], (.mapSet (.int .u8) (.t 1) (.c (.int .u8 5)) (.t 5))⟩, ⟨some 6, none, [], (.build [(.str [])] [(0, 1, (.c (.str [120, 111, 114])))])⟩, ⟨none, none, [], (.mapSet (.int .u8) (.t 1) (.c (.int .u8 6)) (.t 6))⟩, ⟨some 7, none, [], (.build [(.str [])] [(0, 1, (.c (.str [97, 100, 100])))])⟩, ⟨none, none, [], (.mapSet (.int .u8) (.t 1) (.c (.int .u8 7)) (.t 7))⟩, ⟨some 8, none, [], (.build [(.str [])] [(0, 1, (.c (.str [99, 109, 112, 46, 101, 113])))])⟩, ⟨none, none, [], (.mapSet (.int .u8) (.t 1) (.c (.int .u8 10)) (.t 8))⟩, ⟨some 9, none, [], (.build [(.str [])] [(0, 1, (.c (.str [99, 109, 112, 46, 103, 116])))])⟩, ⟨none, none, [], (.mapSet (.int .u8) (.t 1) (.c (.int .u8 11)) (.t 9))⟩, ⟨some 10, none, [], (.build [(.str [])] [(0, 1, (.c (.str [99, 109, 112, 46, 103, 116, 117])))])⟩, ⟨none, none, [], (.mapSet (.int .u8) (.t 1) (.c (.int .u8 12)) (.t 10))⟩, ⟨some 11, none, [], (.build [(.str [])] [(0, 1, (.c (.str [99, 109, 112, 46, 101, 113])))])⟩, ⟨none, none, [], (.mapSet (.int .u8) (.t 1) (.c (.int .u8 13)) (.t 11))⟩, ⟨some 12, none, [], (.build [(.str [])] [(0, 1, (.c (.str [109, 117, 120])))])⟩, ⟨none, none, [], (.mapSet (.int .u8) (.t 1) (.c (.int .u8 14)) (.t 12))⟩, ⟨some 13, none, [], (.build [(.str [])] [(0, 1, (.c (.str [97, 115, 108])))])⟩, ⟨none, none, [], (.mapSet (.int .u8) (.t 1) (.c (.int .u8 15)) (.t 13))⟩, ⟨some 14, none, [], (.build [(.str [])] [(0, 1, (.c (.str [108, 115, 114])))])⟩, ⟨none, none, [], (.mapSet (.int .u8) (.t 1) (.c (.int .u8 16)) (.t 14))⟩, ⟨some 15, none, [], (.build [(.str [])] [(0, 1, (.c (.str [97, 115, 114])))])⟩, ⟨none, none, [], (.mapSet (.int .u8) (.t 1) (.c (.int .u8 17)) (.t 15))⟩, ⟨some 16, none, [], (.build [(.str [])] [(0, 1, (.c (.str [109, 112, 121])))])⟩, ⟨none, none, [], (.mapSet (.int .u8) (.t 1) (.c (.int .u8 18)) (.t 16))⟩, ⟨some 17, none, [], (.build [(.str [])] [(0, 1, (.c (.str [99, 109, 112, 121])))])⟩, ⟨none, none, [], (.mapSet (.int .u8) (.t 1) (.c (.int .u8 19)) (.t 17))⟩, ⟨some 18, none, [], (.build [(.str [])] [(0, 1, (.c (.str [99, 109, 112, 121, 99])))])⟩, ⟨none, none, [], (.mapSet (.int .u8) (.t 1) (.c (.int .u8 20)) (.t 18))⟩, ⟨some 19, none, [], (.build [(.str [])] [(0, 1, (.c (.str [109, 101, 109, 119])))])⟩, ⟨none, none, [], (.mapSet (.int .u8) (.t 1) (.c (.int .u8 21)) (.t 19))⟩, ⟨some 20, none, [], (.build [(.str [])] [(0, 1, (.c (.str [109, 101, 109, 104])))])⟩, ⟨none, none, [], (.mapSet (.int .u8) (.t 1) (.c (.int .u8 22)) (.t 20))⟩, ⟨some 21, none, [], (.build [(.str [])] [(0, 1, (.c (.str [109, 101, 109, 98])))])⟩, ⟨none, none, [], (.mapSet (.int .u8) (.t 1) (.c (.int .u8 23)) (.t 21))⟩, ⟨some 22, none, [], (.build [(.str [])] [(0, 1, (.c (.str [109, 101, 109, 119])))])⟩, ⟨none, none, [], (.mapSet (.int .u8) (.t 1) (.c (.int .u8 24)) (.t 22))⟩, ⟨some 23, none, [], (.build [(.str [])] [(0, 1, (.c (.str [109, 101, 109, 104])))])⟩, ⟨none, none, [], (.mapSet (.int .u8) (.t 1) (.c (.int .u8 25)) (.t 23))⟩, ⟨some 24, none, [], (.build [(.str [])] [(0, 1, (.c (.str [109, 101, 109, 98])))])⟩, ⟨none, none, [], (.mapSet (.int .u8) (.t 1) (.c (.int .u8 26)) (.t 24))⟩, ⟨some 25, none, [], (.move (.t 1))⟩, ⟨some 0, none, [], (.move (.t 25))⟩] false)
 .ret))⟩
-- coxless/show.reg
def ir126 : IFunc := ⟨7, [.tmp 2], (.seq (.region [⟨some 2, none, [], (.move (.c (.str [])))⟩] false)
 (.seq (.region [⟨some 3, none, [], (.move (.t 0))⟩, ⟨some 4, none, [], (.conv (.intInt .i64) (.t 3))⟩, ⟨some 5, none, [], (.call 165 [(.t 4)])⟩, ⟨some 6, none, [], (.bin .add (.c (.str [114])) (.t 5))⟩, ⟨some 2, none, [], (.move (.t 6))⟩] false)
 .ret))⟩
-- coxless/show.number
def ir165 : IFunc := ⟨5, [.tmp 2], (.seq (.region [⟨some 2, none, [], (.move (.c (.str [])))⟩] false)
 (.seq (.region [⟨some 3, none, [], (.move (.t 0))⟩, ⟨some 4, none, [], (.call 28 [(.t 3)])⟩, ⟨some 2, none, [], (.move (.t 4))⟩] false)
 .ret))⟩
-- coxless/show.pred
def ir121 : IFunc := ⟨7, [.tmp 2], (.seq (.region [⟨some 2, none, [], (.move (.c (.str [])))⟩] false)
 (.seq (.region [⟨some 3, none, [], (.move (.t 0))⟩, ⟨some 4, none, [], (.conv (.intInt .i64) (.t 3))⟩, ⟨some 5, none, [], (.call 165 [(.t 4)])⟩, ⟨some 6, none, [], (.bin .add (.c (.str [112])) (.t 5))⟩, ⟨some 2, none, [], (.move (.t 6))⟩] false)
 .ret))⟩
-- coxless/show.imm
def ir168 : IFunc := ⟨13, [.tmp 2], (.seq (.region [⟨some 1, none, [], (.box (.t 0))⟩, ⟨some 2, none, [], (.move (.c (.str [])))⟩] false)
 (.seq (.region [⟨some 4, none, [], (.fieldAddr 10 (.t 1))⟩, ⟨some 5, none, [], (.load false 1 (.t 4))⟩, ⟨some 6, none, [], (.call 120 [(.t 5), (.c (.int .i64 10))])⟩, ⟨some 7, none, [], (.bin .add (.c (.str [35])) (.t 6))⟩, ⟨some 3, none, [], (.move (.t 7))⟩] false)
 (.seq (.seq (.region [⟨some 8, none, [], (.fieldAddr 8 (.t 1))⟩, ⟨some 9, none, [], (.load false 1 (.t 8))⟩] false)
 (.cond (.t 9) (.seq (.region [⟨some 10, none, [], (.move (.t 3))⟩, ⟨some 11, none, [], (.bin .add (.c (.str [35])) (.t 10))⟩, ⟨some 2, none, [], (.move (.t 11))⟩] false)
 .ret) .skip))
 (.seq (.region [⟨some 12, none, [], (.move (.t 3))⟩, ⟨some 2, none, [], (.move (.t 12))⟩] false)
 .ret))))⟩
-- strconv.FormatInt
def ir120 : IFunc := ⟨8, [.tmp 4], (.seq (.region [⟨some 4, none, [], (.move (.c (.str [])))⟩] false)
 (.seq (.region [⟨some 5, none, [], (.move (.t 0))⟩, ⟨some 6, none, [], (.move (.t 1))⟩, ⟨some 7, none, [], (.call 66 [(.t 5), (.t 6)])⟩, ⟨some 4, none, [], (.move (.t 7))⟩] false)
 .ret))⟩
-- coxless/show.place
def ir127 : IFunc := ⟨18, [.tmp 2], (.seq (.region [⟨some 1, none, [], (.box (.t 0))⟩, ⟨some 2, none, [], (.move (.c (.str [])))⟩] false)
 (.seq (.region [⟨some 4, none, [], (.fieldAddr 0 (.t 1))⟩, ⟨some 5, none, [], (.load false 1 (.t 4))⟩, ⟨some 9, none, [], (.fieldAddr 2 (.t 1))⟩, ⟨some 10, none, [], (.load false 1 (.t 9))⟩, ⟨some 14, none, [], (.load true 11 (.t 1))⟩, ⟨some 3, none, [(.t 4), (.t 9), (.t 1)], (.call 167 [])⟩, ⟨some 6, none, [], (.lookup (.int .u8) (.agg [(.str [])]) false (.t 3) (.t 5))⟩, ⟨some 7, none, [], (.field 0 1 false (.t 6))⟩, ⟨some 8, none, [], (.bin .add (.t 7) (.c (.str [40])))⟩, ⟨some 11, none, [(.t 4), (.t 1), (.t 3)], (.call 126 [(.t 10)])⟩, ⟨some 12, none, [], (.bin .add (.t 8) (.t 11))⟩, ⟨some 13, none, [], (.bin .add (.t 12) (.c (.str [43])))⟩, ⟨some 15, none, [(.t 4), (.t 3)], (.call 168 [(.t 14)])⟩, ⟨some 16, none, [], (.bin .add (.t 13) (.t 15))⟩, ⟨some 17, none, [], (.bin .add (.t 16) (.c (.str [41])))⟩, ⟨some 2, none, [], (.move (.t 17))⟩] true)
 .ret))⟩
-- coxless/show.store
def ir125 : IFunc := ⟨16, [.tmp 2], (.seq (.region [⟨some 1, none, [], (.box (.t 0))⟩, ⟨some 2, none, [], (.move (.c (.str [])))⟩] false)
 (.seq (.region [⟨some 4, none, [], (.load true 11 (.t 1))⟩, ⟨some 7, none, [], (.fieldAddr 3 (.t 1))⟩, ⟨some 8, none, [], (.load false 1 (.t 7))⟩, ⟨some 5, none, [(.t 7)], (.call 127 [(.t 4)])⟩, ⟨some 6, none, [], (.bin .add (.t 5) (.c (.str [32, 61, 32])))⟩, ⟨some 9, none, [], (.call 126 [(.t 8)])⟩, ⟨some 10, none, [], (.bin .add (.t 6) (.t 9))⟩, ⟨some 3, none, [], (.move (.t 10))⟩] true)
 (.seq (.seq (.region [⟨some 11, none, [], (.fieldAddr 7 (.t 1))⟩, ⟨some 12, none, [], (.load false 1 (.t 11))⟩] false)
 (.cond (.t 12) (.region [⟨some 13, none, [], (.move (.t 3))⟩, ⟨some 14, none, [], (.bin .add (.t 13) (.c (.str [46, 110, 101, 119])))⟩, ⟨some 3, none, [], (.move (.t 14))⟩] false) .skip))
 (.seq (.region [⟨some 15, none, [], (.move (.t 3))⟩, ⟨some 2, none, [], (.move (.t 15))⟩] false)
 .ret))))⟩
-- coxless/show.branch
def ir124 : IFunc := ⟨45, [.tmp 4], (.seq (.region [⟨some 2, none, [], (.box (.t 0))⟩, ⟨some 4, none, [], (.move (.c (.str [])))⟩] false)
 (.seq (.region [⟨some 6, none, [], (.fieldAddr 4 (.t 2))⟩, ⟨some 7, none, [], (.load false 1 (.t 6))⟩, ⟨some 8, none, [], (.conv (.intInt .i64) (.t 7))⟩, ⟨some 9, none, [], (.call 165 [(.t 8)])⟩, ⟨some 10, none, [], (.bin .add (.c (.str [108, 111, 111, 112])) (.t 9))⟩, ⟨some 11, none, [], (.bin .add (.t 10) (.c (.str [40])))⟩, ⟨some 12, none, [], (.move (.t 1))⟩, ⟨some 13, none, [], (.bin .add (.t 11) (.t 12))⟩, ⟨some 14, none, [], (.bin .add (.t 13) (.c (.str [44])))⟩, ⟨some 5, none, [], (.move (.t 14))⟩] false)
 (.seq (.seq (.region [⟨some 15, none, [], (.fieldAddr 0 (.t 2))⟩, ⟨some 16, none, [], (.load false 1 (.t 15))⟩] false)
 (.block 0 (.seq (.region [⟨some 18, none, [], (.bin .eql (.t 16) (.c (.int .u8 27)))⟩, ⟨some 17, none, [], (.move (.t 18))⟩] false)
 (.cond (.t 17) (.seq (.region [⟨some 19, none, [], (.move (.t 1))⟩, ⟨some 20, none, [], (.bin .add (.c (.str [106, 117, 109, 112, 32])) (.t 19))⟩, ⟨some 4, none, [], (.move (.t 20))⟩] false)
 .ret) (.seq (.region [⟨some 22, none, [], (.bin .eql (.t 16) (.c (.int .u8 28)))⟩, ⟨some 21, none, [], (.move (.t 22))⟩] false)
 (.cond (.t 21) (.seq (.region [⟨some 23, none, [], (.fieldAddr 2 (.t 2))⟩, ⟨some 24, none, [], (.load false 1 (.t 23))⟩, ⟨some 25, none, [], (.call 126 [(.t 24)])⟩, ⟨some 26, none, [], (.bin .add (.c (.str [106, 117, 109, 112, 114, 32])) (.t 25))⟩, ⟨some 4, none, [], (.move (.t 26))⟩] false)
 .ret) (.seq (.region [⟨some 28, none, [], (.bin .eql (.t 16) (.c (.int .u8 29)))⟩, ⟨some 27, none, [], (.move (.t 28))⟩] false)
 (.cond (.t 27) (.seq (.region [⟨some 29, none, [], (.move (.t 1))⟩, ⟨some 30, none, [], (.bin .add (.c (.str [99, 97, 108, 108, 32])) (.t 29))⟩, ⟨some 4, none, [], (.move (.t 30))⟩] false)
 .ret) (.seq (.region [⟨some 32, none, [], (.bin .eql (.t 16) (.c (.int .u8 30)))⟩, ⟨some 31, none, [], (.move (.t 32))⟩] false)
 (.cond (.t 31) (.seq (.region [⟨some 33, none, [], (.move (.t 5))⟩, ⟨some 34, none, [], (.fieldAddr 9 (.t 2))⟩, ⟨some 35, none, [], (.load false 1 (.t 34))⟩, ⟨some 36, none, [], (.call 166 [(.t 35)])⟩, ⟨some 37, none, [], (.bin .add (.t 33) (.t 36))⟩, ⟨some 38, none, [], (.bin .add (.t 37) (.c (.str [41])))⟩, ⟨some 4, none, [], (.move (.t 38))⟩] false)
 .ret) .skip))))))))))
 (.seq (.region [⟨some 39, none, [], (.move (.t 5))⟩, ⟨some 40, none, [], (.fieldAddr 2 (.t 2))⟩, ⟨some 41, none, [], (.load false 1 (.t 40))⟩, ⟨some 42, none, [], (.call 126 [(.t 41)])⟩, ⟨some 43, none, [], (.bin .add (.t 39) (.t 42))⟩, ⟨some 44, none, [], (.bin .add (.t 43) (.c (.str [41])))⟩, ⟨some 4, none, [], (.move (.t 44))⟩] false)
 .ret))))⟩
-- coxless/show.count
def ir166 : IFunc := ⟨7, [.tmp 2], (.seq (.region [⟨some 2, none, [], (.move (.c (.str [])))⟩] false)
 (.seq (.region [⟨some 3, none, [], (.move (.t 0))⟩, ⟨some 4, none, [], (.conv (.intInt .i64) (.t 3))⟩, ⟨some 5, none, [], (.call 165 [(.t 4)])⟩, ⟨some 6, none, [], (.bin .add (.c (.str [35])) (.t 5))⟩, ⟨some 2, none, [], (.move (.t 6))⟩] false)
 .ret))⟩
-- coxless/show.condition
def ir85 : IFunc := ⟨24, [.tmp 2], (.seq (.region [⟨some 1, none, [], (.box (.t 0))⟩, ⟨some 2, none, [], (.move (.c (.str [])))⟩] false)
 (.seq (.region [⟨some 3, none, [], (.move (.c (.str [])))⟩, ⟨some 4, none, [], (.move (.c (.str [])))⟩] false)
 (.seq (.seq (.region [⟨some 5, none, [], (.fieldAddr 6 (.t 1))⟩, ⟨some 6, none, [], (.load false 1 (.t 5))⟩] false)
 (.block 0 (.seq (.region [⟨some 8, none, [], (.bin .eql (.t 6) (.c (.int .u8 0)))⟩, ⟨some 7, none, [], (.move (.t 8))⟩] false)
 (.cond (.t 7) (.seq (.region [⟨some 2, none, [], (.move (.c (.str [])))⟩] false)
 .ret) (.seq (.seq (.region [⟨some 10, none, [], (.bin .eql (.t 6) (.c (.int .u8 2)))⟩, ⟨some 9, none, [], (.move (.t 10))⟩] false)
 (.cond (.t 9) .skip (.region [⟨some 11, none, [], (.bin .eql (.t 6) (.c (.int .u8 4)))⟩, ⟨some 9, none, [], (.move (.t 11))⟩] false)))
 (.cond (.t 9) (.region [⟨some 3, none, [], (.move (.c (.str [33])))⟩] false) .skip))))))
 (.seq (.seq (.region [⟨some 12, none, [], (.fieldAddr 6 (.t 1))⟩, ⟨some 13, none, [], (.load false 1 (.t 12))⟩, ⟨some 14, none, [], (.bin .geq (.t 13) (.c (.int .u8 3)))⟩] false)
 (.cond (.t 14) (.region [⟨some 4, none, [], (.move (.c (.str [46, 110, 101, 119])))⟩] false) .skip))
 (.seq (.region [⟨some 15, none, [], (.move (.t 3))⟩, ⟨some 16, none, [], (.bin .add (.c (.str [105, 102, 32, 40])) (.t 15))⟩, ⟨some 17, none, [], (.fieldAddr 5 (.t 1))⟩, ⟨some 18, none, [], (.load false 1 (.t 17))⟩, ⟨some 19, none, [], (.call 121 [(.t 18)])⟩, ⟨some 20, none, [], (.bin .add (.t 16) (.t 19))⟩, ⟨some 21, none, [], (.move (.t 4))⟩, ⟨some 22, none, [], (.bin .add (.t 20) (.t 21))⟩, ⟨some 23, none, [], (.bin .add (.t 22) (.c (.str [41, 32])))⟩, ⟨some 2, none, [], (.move (.t 23))⟩] false)
 .ret)))))⟩
-- coxless/show.target
def ir84 : IFunc := ⟨24, [.tmp 4], (.seq (.region [⟨some 2, none, [], (.box (.t 0))⟩, ⟨some 4, none, [], (.move (.c (.str [])))⟩] false)
 (.seq (.region [⟨some 5, none, [], (.move (.c (.str [])))⟩] false)
 (.seq (.seq (.region [⟨some 6, none, [], (.move (.t 1))⟩, ⟨some 7, none, [], (.eq true (.nilable .fn) (.t 6) (.c .nilFunc))⟩] false)
 (.cond (.t 7) (.region [⟨some 8, none, [], (.move (.t 1))⟩, ⟨some 9, none, [], (.fieldAddr 10 (.t 2))⟩, ⟨some 10, none, [], (.load false 1 (.t 9))⟩, ⟨some 11, none, [], (.conv (.intInt .u32) (.t 10))⟩, ⟨some 12, none, [], (.callVal (.t 8) [(.t 11)])⟩, ⟨some 5, none, [], (.move (.t 12))⟩] false) .skip))
 (.seq (.seq (.region [⟨some 13, none, [], (.move (.t 5))⟩, ⟨some 14, none, [], (.bin .eql (.t 13) (.c (.str [])))⟩] false)
 (.cond (.t 14) (.region [⟨some 15, none, [], (.fieldAddr 10 (.t 2))⟩, ⟨some 16, none, [], (.load false 1 (.t 15))⟩, ⟨some 17, none, [], (.call 120 [(.t 16), (.c (.int .i64 16))])⟩, ⟨some 18, none, [], (.bin .add (.c (.str [48, 120])) (.t 17))⟩, ⟨some 5, none, [], (.move (.t 18))⟩] false) .skip))
 (.seq (.seq (.region [⟨some 19, none, [], (.fieldAddr 8 (.t 2))⟩, ⟨some 20, none, [], (.load false 1 (.t 19))⟩] false)
 (.cond (.t 20) (.seq (.region [⟨some 21, none, [], (.move (.t 5))⟩, ⟨some 22, none, [], (.bin .add (.c (.str [35, 35])) (.t 21))⟩, ⟨some 4, none, [], (.move (.t 22))⟩] false)
 .ret) .skip))
 (.seq (.region [⟨some 23, none, [], (.move (.t 5))⟩, ⟨some 4, none, [], (.move (.t 23))⟩] false)
 .ret))))))⟩
-- coxless/inst.Target
def ir83 : IFunc := ⟨15, [.tmp 2, .tmp 3], (.seq (.region [⟨some 1, none, [], (.box (.t 0))⟩, ⟨some 2, none, [], (.move (.c (.int .u32 0)))⟩, ⟨some 3, none, [], (.move (.c (.bool false)))⟩] false)
 (.seq (.seq (.region [⟨some 4, none, [], (.load true 11 (.t 1))⟩, ⟨some 5, none, [], (.call 82 [(.t 4)])⟩, ⟨some 6, none, [], (.un .not (.t 5))⟩, ⟨some 7, none, [], (.move (.t 6))⟩, ⟨some 8, some (7, false), [], (.load true 11 (.t 1))⟩, ⟨some 9, some (7, false), [], (.call 119 [(.t 8), (.c (.int .u8 10))])⟩, ⟨some 10, some (7, false), [], (.un .not (.t 9))⟩, ⟨some 11, none, [], (.pick (.t 7) (.c (.bool true)) (.t 10))⟩] false)
 (.cond (.t 11) (.seq (.region [⟨some 2, none, [], (.move (.c (.int .u32 0)))⟩, ⟨some 3, none, [], (.move (.c (.bool false)))⟩] false)
 .ret) .skip))
 (.seq (.region [⟨some 12, none, [], (.fieldAddr 10 (.t 1))⟩, ⟨some 13, none, [], (.load false 1 (.t 12))⟩, ⟨some 14, none, [], (.conv (.intInt .u32) (.t 13))⟩, ⟨some 2, none, [], (.move (.t 14))⟩, ⟨some 3, none, [], (.move (.c (.bool true)))⟩] false)
 .ret)))⟩
-- (*coxless/mem.Mem).Load
def ir25 : IFunc := ⟨41, [.tmp 6], (.seq (.region [⟨some 6, none, [], (.move (.c (.int .i64 0)))⟩] false)
 (.seq (.block 0 (.seq (.region [⟨some 10, none, [], (.move (.t 0))⟩, ⟨some 11, none, [], (.eq false (.nilable .ptr) (.t 10) (.c .nilPtr))⟩, ⟨some 9, none, [], (.move (.t 11))⟩] false)
 (.cond (.t 9) (.seq (.region [⟨some 6, none, [], (.move (.c (.int .i64 2)))⟩] false)
 .ret) (.seq (.region [⟨some 13, none, [], (.move (.t 2))⟩, ⟨some 14, none, [], (.lenSl (.t 13))⟩, ⟨some 15, none, [], (.bin .gtr (.t 14) (.c (.int .i64 0)))⟩, ⟨some 16, none, [], (.move (.t 15))⟩, ⟨some 17, some (16, true), [], (.move (.t 1))⟩, ⟨some 18, some (16, true), [], (.conv (.intInt .u64) (.t 17))⟩, ⟨some 19, some (16, true), [], (.move (.t 2))⟩, ⟨some 20, some (16, true), [], (.lenSl (.t 19))⟩, ⟨some 21, some (16, true), [], (.conv (.intInt .u64) (.t 20))⟩, ⟨some 22, some (16, true), [], (.bin .add (.t 18) (.t 21))⟩, ⟨some 23, some (16, true), [], (.bin .sub (.t 22) (.c (.int .u64 1)))⟩, ⟨some 24, some (16, true), [], (.bin .gtr (.t 23) (.c (.int .u64 4294967295)))⟩, ⟨some 25, none, [], (.pick (.t 16) (.t 24) (.c (.bool false)))⟩, ⟨some 12, none, [], (.move (.t 25))⟩] false)
 (.cond (.t 12) (.seq (.region [⟨some 6, none, [], (.move (.c (.int .i64 1)))⟩] false)
 .ret) .skip)))))
 (.seq (.seq (.region [⟨some 26, none, [], (.move (.t 2))⟩, ⟨some 27, none, [], (.lenSl (.t 26))⟩, ⟨some 28, none, [], (.move (.c (.int .i64 0)))⟩] false)
 (.block 1 (.loop (.seq (.region [⟨some 29, none, [], (.bin .lss (.t 28) (.t 27))⟩] false)
 (.seq (.cond (.t 29) .skip (.exit 1))
 (.seq (.block 2 (.seq (.region [⟨some 30, none, [], (.move (.t 28))⟩, ⟨some 31, none, [], (.idxSl 1 (.t 26) (.t 28))⟩, ⟨some 32, none, [], (.load false 1 (.t 31))⟩, ⟨some 7, none, [], (.move (.t 30))⟩, ⟨some 8, none, [], (.move (.t 32))⟩] false)
 (.region [⟨some 33, none, [], (.move (.t 0))⟩, ⟨some 34, none, [], (.move (.t 1))⟩, ⟨some 35, none, [], (.move (.t 7))⟩, ⟨some 36, none, [], (.conv (.intInt .u32) (.t 35))⟩, ⟨some 37, none, [], (.bin .add (.t 34) (.t 36))⟩, ⟨some 38, none, [], (.move (.t 8))⟩, ⟨some 39, none, [], (.call 36 [(.t 33), (.t 37), (.t 38)])⟩] false)))
 (.region [⟨some 40, none, [], (.bin .add (.t 28) (.c (.int .i64 1)))⟩, ⟨some 28, none, [], (.move (.t 40))⟩] false)))))))
 (.seq (.region [⟨some 6, none, [], (.move (.c (.int .i64 0)))⟩] false)
 .ret))))⟩
-- coxless/mem.New
def ir24 : IFunc := ⟨4, [.tmp 0], (.seq (.region [⟨some 0, none, [], (.move (.c .nilPtr))⟩] false)
 (.seq (.region [⟨some 1, none, [], .mkMap⟩, ⟨some 2, none, [], (.build [.nilMap] [(0, 1, (.t 1))])⟩, ⟨some 3, none, [], (.box (.t 2))⟩, ⟨some 0, none, [], (.move (.t 3))⟩] false)
 .ret))⟩
-- coxless/image.Right
def ir23 : IFunc := ⟨105, [.tmp 2], (.seq (.region [⟨some 1, none, [], (.box (.t 0))⟩, ⟨some 2, none, [], (.move (.c (.bool false)))⟩] false)
 (.seq (.seq (.region [⟨some 6, none, [], (.fieldAddr 1 (.t 1))⟩, ⟨some 7, none, [], (.load false 1 (.t 6))⟩, ⟨some 8, none, [], (.lenSl (.t 7))⟩, ⟨some 9, none, [], (.bin .gtr (.t 8) (.c (.int .i64 1048576)))⟩, ⟨some 10, none, [], (.move (.t 9))⟩, ⟨some 11, some (10, false), [], (.fieldAddr 0 (.t 1))⟩, ⟨some 12, some (10, false), [], (.load false 1 (.t 11))⟩, ⟨some 13, some (10, false), [], (.conv (.intInt .i64) (.t 12))⟩, ⟨some 14, some (10, false), [], (.fieldAddr 1 (.t 1))⟩, ⟨some 15, some (10, false), [], (.load false 1 (.t 14))⟩, ⟨some 16, some (10, false), [], (.lenSl (.t 15))⟩, ⟨some 17, some (10, false), [], (.bin .add (.t 13) (.t 16))⟩, ⟨some 18, some (10, false), [], (.bin .gtr (.t 17) (.c (.int .i64 4294967296)))⟩, ⟨some 19, none, [], (.pick (.t 10) (.c (.bool true)) (.t 18))⟩, ⟨some 20, none, [], (.move (.t 19))⟩, ⟨some 21, some (20, false), [], (.fieldAddr 1 (.t 1))⟩, ⟨some 22, some (20, false), [], (.load false 1 (.t 21))⟩, ⟨some 23, some (20, false), [], (.lenSl (.t 22))⟩, ⟨some 24, some (20, false), [], (.bin .eql (.t 23) (.c (.int .i64 0)))⟩, ⟨some 25, some (20, false), [], (.move (.t 24))⟩, ⟨some 26, some (25, true), [], (.fieldAddr 0 (.t 1))⟩, ⟨some 27, some (25, true), [], (.load false 1 (.t 26))⟩, ⟨some 28, some (25, true), [], (.bin .neq (.t 27) (.c (.int .u32 0)))⟩, ⟨some 29, some (20, false), [], (.pick (.t 25) (.t 28) (.c (.bool false)))⟩, ⟨some 30, none, [], (.pick (.t 20) (.c (.bool true)) (.t 29))⟩] false)
 (.cond (.t 30) (.seq (.region [⟨some 2, none, [], (.move (.c (.bool false)))⟩] false)
 .ret) .skip))
 (.seq (.region [⟨some 31, none, [], (.fieldAddr 0 (.t 1))⟩, ⟨some 32, none, [], (.load false 1 (.t 31))⟩, ⟨some 33, none, [], (.conv (.intInt .i64) (.t 32))⟩, ⟨some 3, none, [], (.move (.t 33))⟩] false)
 (.seq (.seq (.region [⟨some 34, none, [], (.fieldAddr 2 (.t 1))⟩, ⟨some 35, none, [], (.load false 1 (.t 34))⟩, ⟨some 36, none, [], (.lenSl (.t 35))⟩, ⟨some 37, none, [], (.move (.c (.int .i64 0)))⟩] false)
 (.block 0 (.loop (.seq (.region [⟨some 38, none, [], (.bin .lss (.t 37) (.t 36))⟩] false)
 (.seq (.cond (.t 38) .skip (.exit 0))
 (.seq (.block 1 (.seq (.region [⟨some 39, none, [], (.move (.t 37))⟩, ⟨some 40, none, [], (.idxSl 3 (.t 35) (.t 37))⟩, ⟨some 41, none, [], (.load true 3 (.t 40))⟩, ⟨some 5, none, [], (.alloc [(.int .u32 0), (.int .i64 0), (.bool false)])⟩, ⟨some 4, none, [], (.move (.t 39))⟩, ⟨none, none, [], (.store 3 (.t 5) (.t 41))⟩] false)
 (.seq (.block 2 (.seq (.region [⟨some 43, none, [], (.fieldAddr 1 (.t 5))⟩, ⟨some 44, none, [], (.load false 1 (.t 43))⟩, ⟨some 45, none, [], (.bin .lss (.t 44) (.c (.int .i64 1)))⟩, ⟨some 46, none, [], (.move (.t 45))⟩, ⟨some 47, some (46, false), [], (.fieldAddr 0 (.t 5))⟩, ⟨some 48, some (46, false), [], (.load false 1 (.t 47))⟩, ⟨some 49, some (46, false), [], (.conv (.intInt .i64) (.t 48))⟩, ⟨some 50, some (46, false), [], (.move (.t 3))⟩, ⟨some 51, some (46, false), [], (.bin .neq (.t 49) (.t 50))⟩, ⟨some 52, none, [], (.pick (.t 46) (.c (.bool true)) (.t 51))⟩, ⟨some 53, none, [], (.move (.t 52))⟩, ⟨some 54, some (53, false), [], (.fieldAddr 1 (.t 5))⟩, ⟨some 55, some (53, false), [], (.load false 1 (.t 54))⟩, ⟨some 56, some (53, false), [], (.fieldAddr 1 (.t 1))⟩, ⟨some 57, some (53, false), [], (.load false 1 (.t 56))⟩, ⟨some 58, some (53, false), [], (.lenSl (.t 57))⟩, ⟨some 59, some (53, false), [], (.bin .gtr (.t 55) (.t 58))⟩, ⟨some 60, none, [], (.pick (.t 53) (.c (.bool true)) (.t 59))⟩, ⟨some 42, none, [], (.move (.t 60))⟩] false)
 (.cond (.t 42) (.seq (.region [⟨some 2, none, [], (.move (.c (.bool false)))⟩] false)
 .ret) (.seq (.region [⟨some 62, none, [], (.fieldAddr 2 (.t 5))⟩, ⟨some 63, none, [], (.load false 1 (.t 62))⟩, ⟨some 64, none, [], (.move (.t 63))⟩, ⟨some 65, some (64, true), [], (.fieldAddr 0 (.t 5))⟩, ⟨some 66, some (64, true), [], (.load false 1 (.t 65))⟩, ⟨some 67, some (64, true), [], (.bin .rem (.t 66) (.c (.int .u32 4)))⟩, ⟨some 68, some (64, true), [], (.bin .neq (.t 67) (.c (.int .u32 0)))⟩, ⟨some 69, some (64, true), [], (.move (.t 68))⟩, ⟨some 70, some (69, false), [], (.fieldAddr 1 (.t 5))⟩, ⟨some 71, some (69, false), [], (.load false 1 (.t 70))⟩, ⟨some 72, some (69, false), [], (.bin .rem (.t 71) (.c (.int .i64 4)))⟩, ⟨some 73, some (69, false), [], (.bin .neq (.t 72) (.c (.int .i64 0)))⟩, ⟨some 74, some (64, true), [], (.pick (.t 69) (.c (.bool true)) (.t 73))⟩, ⟨some 75, none, [], (.pick (.t 64) (.t 74) (.c (.bool false)))⟩, ⟨some 61, none, [], (.move (.t 75))⟩] false)
 (.cond (.t 61) (.seq (.region [⟨some 2, none, [], (.move (.c (.bool false)))⟩] false)
 .ret) (.seq (.region [⟨some 77, none, [], (.move (.t 4))⟩, ⟨some 78, none, [], (.bin .gtr (.t 77) (.c (.int .i64 0)))⟩, ⟨some 79, none, [], (.move (.t 78))⟩, ⟨some 80, some (79, true), [], (.fieldAddr 2 (.t 1))⟩, ⟨some 81, some (79, true), [], (.load false 1 (.t 80))⟩, ⟨some 82, some (79, true), [], (.move (.t 4))⟩, ⟨some 83, some (79, true), [], (.bin .sub (.t 82) (.c (.int .i64 1)))⟩, ⟨some 84, some (79, true), [], (.idxSl 3 (.t 81) (.t 83))⟩, ⟨some 85, some (79, true), [], (.fieldAddr 2 (.t 84))⟩, ⟨some 86, some (79, true), [], (.load false 1 (.t 85))⟩, ⟨some 87, some (79, true), [], (.fieldAddr 2 (.t 5))⟩, ⟨some 88, some (79, true), [], (.load false 1 (.t 87))⟩, ⟨some 89, some (79, true), [], (.eq false (.prim .bool) (.t 86) (.t 88))⟩, ⟨some 90, none, [], (.pick (.t 79) (.t 89) (.c (.bool false)))⟩, ⟨some 76, none, [], (.move (.t 90))⟩] true)
 (.cond (.t 76) (.seq (.region [⟨some 2, none, [], (.move (.c (.bool false)))⟩] false)
 .ret) .skip)))))))
 (.region [⟨some 91, none, [], (.move (.t 3))⟩, ⟨some 92, none, [], (.fieldAddr 1 (.t 5))⟩, ⟨some 93, none, [], (.load false 1 (.t 92))⟩, ⟨some 94, none, [], (.bin .add (.t 91) (.t 93))⟩, ⟨some 3, none, [], (.move (.t 94))⟩] false))))
 (.region [⟨some 95, none, [], (.bin .add (.t 37) (.c (.int .i64 1)))⟩, ⟨some 37, none, [], (.move (.t 95))⟩] false)))))))
 (.seq (.region [⟨some 96, none, [], (.move (.t 3))⟩, ⟨some 97, none, [], (.fieldAddr 0 (.t 1))⟩, ⟨some 98, none, [], (.load false 1 (.t 97))⟩, ⟨some 99, none, [], (.conv (.intInt .i64) (.t 98))⟩, ⟨some 100, none, [], (.fieldAddr 1 (.t 1))⟩, ⟨some 101, none, [], (.load false 1 (.t 100))⟩, ⟨some 102, none, [], (.lenSl (.t 101))⟩, ⟨some 103, none, [], (.bin .add (.t 99) (.t 102))⟩, ⟨some 104, none, [], (.bin .eql (.t 96) (.t 103))⟩, ⟨some 2, none, [], (.move (.t 104))⟩] false)
 .ret)))))⟩
-- coxless/coxlesslaw27.nop
def ir9 : IFunc := ⟨5, [.cell 0 true 3], (.seq (.region [⟨some 0, none, [], (.alloc [(.int .u32 0), .nilSlice, .nilSlice])⟩] false)
 (.seq (.region [⟨some 1, none, [], (.buildSlice 4 1 [(.int .u8 0)] [(0, 1, (.c (.int .u8 0))), (1, 1, (.c (.int .u8 192))), (2, 1, (.c (.int .u8 0))), (3, 1, (.c (.int .u8 4)))])⟩, ⟨some 2, none, [], (.build [(.int .u32 0), (.int .i64 0), (.bool false)] [(1, 1, (.c (.int .i64 4))), (2, 1, (.c (.bool true)))])⟩, ⟨some 3, none, [], (.buildSlice 1 3 [(.int .u32 0), (.int .i64 0), (.bool false)] [(0, 3, (.t 2))])⟩, ⟨some 4, none, [], (.build [(.int .u32 0), .nilSlice, .nilSlice] [(1, 1, (.t 1)), (2, 1, (.t 3))])⟩, ⟨none, none, [], (.store 3 (.t 0) (.t 4))⟩] false)
 .ret))⟩
-- (*coxless/mem.Mem).Get
def ir12 : IFunc := ⟨13, [.tmp 4], (.seq (.region [⟨some 4, none, [], (.move (.c (.int .u8 0)))⟩] false)
 (.seq (.seq (.region [⟨some 5, none, [], (.move (.t 0))⟩, ⟨some 6, none, [], (.eq false (.nilable .ptr) (.t 5) (.c .nilPtr))⟩] false)
 (.cond (.t 6) (.seq (.region [⟨some 4, none, [], (.move (.c (.int .u8 0)))⟩] false)
 .ret) .skip))
 (.seq (.region [⟨some 7, none, [], (.move (.t 0))⟩, ⟨some 8, none, [], (.nilCheck (.t 7))⟩, ⟨some 9, none, [], (.fieldAddr 0 (.t 8))⟩, ⟨some 10, none, [], (.load false 1 (.t 9))⟩, ⟨some 11, none, [], (.move (.t 1))⟩, ⟨some 12, none, [], (.lookup (.int .u32) (.int .u8 0) false (.t 10) (.t 11))⟩, ⟨some 4, none, [], (.move (.t 12))⟩] false)
 .ret)))⟩
-- coxless/trace.Say
def ir11 : IFunc := ⟨78, [.tmp 2], (.seq (.region [⟨some 1, none, [], (.box (.t 0))⟩, ⟨some 2, none, [], (.move (.c .nilSlice))⟩] false)
 (.seq (.region [⟨some 3, none, [], (.alloc [.nilSlice])⟩] false)
 (.seq (.seq (.region [⟨some 12, none, [], (.fieldAddr 0 (.t 1))⟩, ⟨some 13, none, [], (.load true 32 (.t 12))⟩, ⟨some 14, none, [], (.move (.c (.int .i64 0)))⟩] false)
 (.block 0 (.loop (.seq (.region [⟨some 15, none, [], (.bin .lss (.t 14) (.c (.int .i64 32)))⟩] false)
 (.seq (.cond (.t 15) .skip (.exit 0))
 (.seq (.block 1 (.seq (.region [⟨some 16, none, [], (.move (.t 14))⟩, ⟨some 17, none, [], (.idxAgg 32 1 false (.t 13) (.t 14))⟩, ⟨some 4, none, [], (.move (.t 16))⟩, ⟨some 5, none, [], (.move (.t 17))⟩] false)
 (.region [⟨some 18, none, [], (.move (.t 4))⟩, ⟨some 19, none, [], (.call 28 [(.t 18)])⟩, ⟨some 20, none, [], (.bin .add (.c (.str [114])) (.t 19))⟩, ⟨some 21, none, [], (.move (.t 5))⟩, ⟨some 22, none, [], (.call 27 [(.t 3), (.t 20), (.t 21)])⟩] false)))
 (.region [⟨some 23, none, [], (.bin .add (.t 14) (.c (.int .i64 1)))⟩, ⟨some 14, none, [], (.move (.t 23))⟩] false)))))))
 (.seq (.seq (.region [⟨some 24, none, [], (.fieldAddr 32 (.t 1))⟩, ⟨some 25, none, [], (.load true 4 (.t 24))⟩, ⟨some 26, none, [], (.move (.c (.int .i64 0)))⟩] false)
 (.block 2 (.loop (.seq (.region [⟨some 27, none, [], (.bin .lss (.t 26) (.c (.int .i64 4)))⟩] false)
 (.seq (.cond (.t 27) .skip (.exit 2))
 (.seq (.block 3 (.seq (.region [⟨some 28, none, [], (.move (.t 26))⟩, ⟨some 29, none, [], (.idxAgg 4 1 false (.t 25) (.t 26))⟩, ⟨some 6, none, [], (.move (.t 28))⟩, ⟨some 7, none, [], (.move (.t 29))⟩] false)
 (.seq (.region [⟨some 30, none, [], (.move (.t 7))⟩] false)
 (.cond (.t 30) (.region [⟨some 31, none, [], (.load false 1 (.t 3))⟩, ⟨some 32, none, [], (.move (.t 6))⟩, ⟨some 33, none, [(.t 3)], (.call 28 [(.t 32)])⟩, ⟨some 34, none, [], (.bin .add (.c (.str [112])) (.t 33))⟩, ⟨some 35, none, [], (.bin .add (.t 34) (.c (.str [61, 49])))⟩, ⟨some 36, none, [], (.buildSlice 1 1 [(.str [])] [(0, 1, (.t 35))])⟩, ⟨some 37, none, [], (.append 1 16 (.t 31) (.t 36))⟩, ⟨none, none, [], (.store 1 (.t 3) (.t 37))⟩] true) .skip))))
 (.region [⟨some 38, none, [], (.bin .add (.t 26) (.c (.int .i64 1)))⟩, ⟨some 26, none, [], (.move (.t 38))⟩] false)))))))
 (.seq (.seq (.region [⟨some 39, none, [], (.fieldAddr 36 (.t 1))⟩, ⟨some 40, none, [], (.load true 2 (.t 39))⟩, ⟨some 41, none, [], (.move (.c (.int .i64 0)))⟩] false)
 (.block 4 (.loop (.seq (.region [⟨some 42, none, [], (.bin .lss (.t 41) (.c (.int .i64 2)))⟩] false)
 (.seq (.cond (.t 42) .skip (.exit 4))
 (.seq (.block 5 (.seq (.region [⟨some 43, none, [], (.move (.t 41))⟩, ⟨some 44, none, [], (.idxAgg 2 1 false (.t 40) (.t 41))⟩, ⟨some 8, none, [], (.move (.t 43))⟩, ⟨some 9, none, [], (.move (.t 44))⟩] false)
 (.region [⟨some 45, none, [], (.move (.t 8))⟩, ⟨some 46, none, [], (.call 28 [(.t 45)])⟩, ⟨some 47, none, [], (.bin .add (.c (.str [115, 97])) (.t 46))⟩, ⟨some 48, none, [], (.move (.t 9))⟩, ⟨some 49, none, [], (.call 27 [(.t 3), (.t 47), (.t 48)])⟩] false)))
 (.region [⟨some 50, none, [], (.bin .add (.t 41) (.c (.int .i64 1)))⟩, ⟨some 41, none, [], (.move (.t 50))⟩] false)))))))
 (.seq (.seq (.region [⟨some 51, none, [], (.fieldAddr 38 (.t 1))⟩, ⟨some 52, none, [], (.load true 2 (.t 51))⟩, ⟨some 53, none, [], (.move (.c (.int .i64 0)))⟩] false)
 (.block 6 (.loop (.seq (.region [⟨some 54, none, [], (.bin .lss (.t 53) (.c (.int .i64 2)))⟩] false)
 (.seq (.cond (.t 54) .skip (.exit 6))
 (.seq (.block 7 (.seq (.region [⟨some 55, none, [], (.move (.t 53))⟩, ⟨some 56, none, [], (.idxAgg 2 1 false (.t 52) (.t 53))⟩, ⟨some 10, none, [], (.move (.t 55))⟩, ⟨some 11, none, [], (.move (.t 56))⟩] false)
 (.region [⟨some 57, none, [], (.move (.t 10))⟩, ⟨some 58, none, [], (.call 28 [(.t 57)])⟩, ⟨some 59, none, [], (.bin .add (.c (.str [108, 99])) (.t 58))⟩, ⟨some 60, none, [], (.move (.t 11))⟩, ⟨some 61, none, [], (.call 27 [(.t 3), (.t 59), (.t 60)])⟩] false)))
 (.region [⟨some 62, none, [], (.bin .add (.t 53) (.c (.int .i64 1)))⟩, ⟨some 53, none, [], (.move (.t 62))⟩] false)))))))
 (.seq (.region [⟨some 63, none, [], (.fieldAddr 40 (.t 1))⟩, ⟨some 64, none, [], (.load false 1 (.t 63))⟩, ⟨some 65, none, [], (.call 27 [(.t 3), (.c (.str [112, 99])), (.t 64)])⟩] false)
 (.seq (.seq (.region [⟨some 66, none, [], (.fieldAddr 41 (.t 1))⟩, ⟨some 67, none, [], (.load false 1 (.t 66))⟩, ⟨some 68, none, [], (.bin .neq (.t 67) (.c (.int .u8 0)))⟩] false)
 (.cond (.t 68) (.region [⟨some 69, none, [], (.load false 1 (.t 3))⟩, ⟨some 70, none, [], (.fieldAddr 41 (.t 1))⟩, ⟨some 71, none, [], (.load false 1 (.t 70))⟩, ⟨some 72, none, [], (.conv (.intInt .i64) (.t 71))⟩, ⟨some 73, none, [(.t 3)], (.call 28 [(.t 72)])⟩, ⟨some 74, none, [], (.bin .add (.c (.str [102, 97, 117, 108, 116, 61])) (.t 73))⟩, ⟨some 75, none, [], (.buildSlice 1 1 [(.str [])] [(0, 1, (.t 74))])⟩, ⟨some 76, none, [], (.append 1 16 (.t 69) (.t 75))⟩, ⟨none, none, [], (.store 1 (.t 3) (.t 76))⟩] true) .skip))
 (.seq (.region [⟨some 77, none, [], (.load false 1 (.t 3))⟩, ⟨some 2, none, [], (.move (.t 77))⟩] false)
 .ret)))))))))⟩
-- (*coxless/trace.sayer).says
def ir27 : IFunc := ⟨20, [], (.seq (.region [⟨some 6, none, [], (.move (.t 2))⟩, ⟨some 7, none, [], (.bin .neq (.t 6) (.c (.int .u32 0)))⟩] false)
 (.cond (.t 7) (.region [⟨some 8, none, [], (.move (.t 0))⟩, ⟨some 9, none, [], (.move (.t 0))⟩, ⟨some 10, none, [], (.nilCheck (.t 9))⟩, ⟨some 11, none, [], (.load false 1 (.t 10))⟩, ⟨some 12, none, [], (.move (.t 1))⟩, ⟨some 13, none, [], (.bin .add (.t 12) (.c (.str [61])))⟩, ⟨some 14, none, [], (.move (.t 2))⟩, ⟨some 15, none, [(.t 10)], (.call 29 [(.t 14)])⟩, ⟨some 16, none, [], (.bin .add (.t 13) (.t 15))⟩, ⟨some 17, none, [], (.buildSlice 1 1 [(.str [])] [(0, 1, (.t 16))])⟩, ⟨some 18, none, [], (.append 1 16 (.t 11) (.t 17))⟩, ⟨some 19, none, [], (.nilCheck (.t 8))⟩, ⟨none, none, [], (.store 1 (.t 19) (.t 18))⟩] true) .skip))⟩
end Go.V
