/- trace: what is said of a state. -/
import Derived.Test.YtipcimefenpjhaaGreatDoorTS1
set_option linter.unusedVariables false
set_option linter.unusedSimpArgs false
set_option linter.unusedSectionVars false
/- trace: what is said of a state. -/
namespace Go.V
open Go
set_option linter.unusedSimpArgs false
set_option linter.unusedVariables false
abbrev tS2l0 : ICode := (.loop (.seq (.region [⟨some 15, none, [], (.bin .lss (.t 14) (.c (.int .i64 32)))⟩] false)
 (.seq (.cond (.t 15) .skip (.exit 0))
 (.seq (.block 1 (.seq (.region [⟨some 16, none, [], (.move (.t 14))⟩, ⟨some 17, none, [], (.idxAgg 32 1 false (.t 13) (.t 14))⟩, ⟨some 4, none, [], (.move (.t 16))⟩, ⟨some 5, none, [], (.move (.t 17))⟩] false)
 (.region [⟨some 18, none, [], (.move (.t 4))⟩, ⟨some 19, none, [], (.call 8 [(.t 18)])⟩, ⟨some 20, none, [], (.bin .add (.c (.str [114])) (.t 19))⟩, ⟨some 21, none, [], (.move (.t 5))⟩, ⟨some 22, none, [], (.call 7 [(.t 3), (.t 20), (.t 21)])⟩] false)))
 (.region [⟨some 23, none, [], (.bin .add (.t 14) (.c (.int .i64 1)))⟩, ⟨some 14, none, [], (.move (.t 23))⟩] false)))))
abbrev tS2l1 : ICode := (.loop (.seq (.region [⟨some 42, none, [], (.bin .lss (.t 41) (.c (.int .i64 2)))⟩] false)
 (.seq (.cond (.t 42) .skip (.exit 4))
 (.seq (.block 5 (.seq (.region [⟨some 43, none, [], (.move (.t 41))⟩, ⟨some 44, none, [], (.idxAgg 2 1 false (.t 40) (.t 41))⟩, ⟨some 8, none, [], (.move (.t 43))⟩, ⟨some 9, none, [], (.move (.t 44))⟩] false)
 (.region [⟨some 45, none, [], (.move (.t 8))⟩, ⟨some 46, none, [], (.call 8 [(.t 45)])⟩, ⟨some 47, none, [], (.bin .add (.c (.str [115, 97])) (.t 46))⟩, ⟨some 48, none, [], (.move (.t 9))⟩, ⟨some 49, none, [], (.call 7 [(.t 3), (.t 47), (.t 48)])⟩] false)))
 (.region [⟨some 50, none, [], (.bin .add (.t 41) (.c (.int .i64 1)))⟩, ⟨some 41, none, [], (.move (.t 50))⟩] false)))))
abbrev tS2l2 : ICode := (.loop (.seq (.region [⟨some 54, none, [], (.bin .lss (.t 53) (.c (.int .i64 2)))⟩] false)
 (.seq (.cond (.t 54) .skip (.exit 6))
 (.seq (.block 7 (.seq (.region [⟨some 55, none, [], (.move (.t 53))⟩, ⟨some 56, none, [], (.idxAgg 2 1 false (.t 52) (.t 53))⟩, ⟨some 10, none, [], (.move (.t 55))⟩, ⟨some 11, none, [], (.move (.t 56))⟩] false)
 (.region [⟨some 57, none, [], (.move (.t 10))⟩, ⟨some 58, none, [], (.call 8 [(.t 57)])⟩, ⟨some 59, none, [], (.bin .add (.c (.str [108, 99])) (.t 58))⟩, ⟨some 60, none, [], (.move (.t 11))⟩, ⟨some 61, none, [], (.call 7 [(.t 3), (.t 59), (.t 60)])⟩] false)))
 (.region [⟨some 62, none, [], (.bin .add (.t 53) (.c (.int .i64 1)))⟩, ⟨some 53, none, [], (.move (.t 62))⟩] false)))))
abbrev tS2l3 : ICode := (.loop (.seq (.region [⟨some 27, none, [], (.bin .lss (.t 26) (.c (.int .i64 4)))⟩] false)
 (.seq (.cond (.t 27) .skip (.exit 2))
 (.seq (.block 3 (.seq (.region [⟨some 28, none, [], (.move (.t 26))⟩, ⟨some 29, none, [], (.idxAgg 4 1 false (.t 25) (.t 26))⟩, ⟨some 6, none, [], (.move (.t 28))⟩, ⟨some 7, none, [], (.move (.t 29))⟩] false)
 (.seq (.region [⟨some 30, none, [], (.move (.t 7))⟩] false)
 (.cond (.t 30) (.regionP [⟨some 31, none, [], (.load false 1 (.t 3))⟩, ⟨some 32, none, [], (.move (.t 6))⟩, ⟨some 33, none, [(.t 3)], (.call 8 [(.t 32)])⟩, ⟨some 34, none, [], (.bin .add (.c (.str [112])) (.t 33))⟩, ⟨some 35, none, [], (.bin .add (.t 34) (.c (.str [61, 49])))⟩, ⟨some 36, none, [], (.buildSlice 1 1 [(.str [])] [(0, 1, (.t 35))])⟩, ⟨some 37, none, [], (.append 1 16 (.t 31) (.t 36))⟩, ⟨none, none, [], (.store 1 (.t 3) (.t 37))⟩]) .skip))))
 (.region [⟨some 38, none, [], (.bin .add (.t 26) (.c (.int .i64 1)))⟩, ⟨some 26, none, [], (.move (.t 38))⟩] false)))))
abbrev tS2q4 : Fr := .seq (.seq (.seq (.region [⟨some 24, none, [], (.fieldAddr 32 (.t 1))⟩, ⟨some 25, none, [], (.load true 4 (.t 24))⟩, ⟨some 26, none, [], (.move (.c (.int .i64 0)))⟩] false)
 (.block 2 (.loop (.seq (.region [⟨some 27, none, [], (.bin .lss (.t 26) (.c (.int .i64 4)))⟩] false)
 (.seq (.cond (.t 27) .skip (.exit 2))
 (.seq (.block 3 (.seq (.region [⟨some 28, none, [], (.move (.t 26))⟩, ⟨some 29, none, [], (.idxAgg 4 1 false (.t 25) (.t 26))⟩, ⟨some 6, none, [], (.move (.t 28))⟩, ⟨some 7, none, [], (.move (.t 29))⟩] false)
 (.seq (.region [⟨some 30, none, [], (.move (.t 7))⟩] false)
 (.cond (.t 30) (.regionP [⟨some 31, none, [], (.load false 1 (.t 3))⟩, ⟨some 32, none, [], (.move (.t 6))⟩, ⟨some 33, none, [(.t 3)], (.call 8 [(.t 32)])⟩, ⟨some 34, none, [], (.bin .add (.c (.str [112])) (.t 33))⟩, ⟨some 35, none, [], (.bin .add (.t 34) (.c (.str [61, 49])))⟩, ⟨some 36, none, [], (.buildSlice 1 1 [(.str [])] [(0, 1, (.t 35))])⟩, ⟨some 37, none, [], (.append 1 16 (.t 31) (.t 36))⟩, ⟨none, none, [], (.store 1 (.t 3) (.t 37))⟩]) .skip))))
 (.region [⟨some 38, none, [], (.bin .add (.t 26) (.c (.int .i64 1)))⟩, ⟨some 26, none, [], (.move (.t 38))⟩] false)))))))
 (.seq (.seq (.region [⟨some 39, none, [], (.fieldAddr 36 (.t 1))⟩, ⟨some 40, none, [], (.load true 2 (.t 39))⟩, ⟨some 41, none, [], (.move (.c (.int .i64 0)))⟩] false)
 (.block 4 (.loop (.seq (.region [⟨some 42, none, [], (.bin .lss (.t 41) (.c (.int .i64 2)))⟩] false)
 (.seq (.cond (.t 42) .skip (.exit 4))
 (.seq (.block 5 (.seq (.region [⟨some 43, none, [], (.move (.t 41))⟩, ⟨some 44, none, [], (.idxAgg 2 1 false (.t 40) (.t 41))⟩, ⟨some 8, none, [], (.move (.t 43))⟩, ⟨some 9, none, [], (.move (.t 44))⟩] false)
 (.region [⟨some 45, none, [], (.move (.t 8))⟩, ⟨some 46, none, [], (.call 8 [(.t 45)])⟩, ⟨some 47, none, [], (.bin .add (.c (.str [115, 97])) (.t 46))⟩, ⟨some 48, none, [], (.move (.t 9))⟩, ⟨some 49, none, [], (.call 7 [(.t 3), (.t 47), (.t 48)])⟩] false)))
 (.region [⟨some 50, none, [], (.bin .add (.t 41) (.c (.int .i64 1)))⟩, ⟨some 41, none, [], (.move (.t 50))⟩] false)))))))
 (.seq (.seq (.region [⟨some 51, none, [], (.fieldAddr 38 (.t 1))⟩, ⟨some 52, none, [], (.load true 2 (.t 51))⟩, ⟨some 53, none, [], (.move (.c (.int .i64 0)))⟩] false)
 (.block 6 (.loop (.seq (.region [⟨some 54, none, [], (.bin .lss (.t 53) (.c (.int .i64 2)))⟩] false)
 (.seq (.cond (.t 54) .skip (.exit 6))
 (.seq (.block 7 (.seq (.region [⟨some 55, none, [], (.move (.t 53))⟩, ⟨some 56, none, [], (.idxAgg 2 1 false (.t 52) (.t 53))⟩, ⟨some 10, none, [], (.move (.t 55))⟩, ⟨some 11, none, [], (.move (.t 56))⟩] false)
 (.region [⟨some 57, none, [], (.move (.t 10))⟩, ⟨some 58, none, [], (.call 8 [(.t 57)])⟩, ⟨some 59, none, [], (.bin .add (.c (.str [108, 99])) (.t 58))⟩, ⟨some 60, none, [], (.move (.t 11))⟩, ⟨some 61, none, [], (.call 7 [(.t 3), (.t 59), (.t 60)])⟩] false)))
 (.region [⟨some 62, none, [], (.bin .add (.t 53) (.c (.int .i64 1)))⟩, ⟨some 53, none, [], (.move (.t 62))⟩] false)))))))
 (.seq (.region [⟨some 63, none, [], (.fieldAddr 40 (.t 1))⟩, ⟨some 64, none, [], (.load false 1 (.t 63))⟩, ⟨some 65, none, [], (.call 7 [(.t 3), (.c (.str [112, 99])), (.t 64)])⟩] false)
 (.seq (.seq (.region [⟨some 66, none, [], (.fieldAddr 41 (.t 1))⟩, ⟨some 67, none, [], (.load false 1 (.t 66))⟩, ⟨some 68, none, [], (.bin .neq (.t 67) (.c (.int .u8 0)))⟩] false)
 (.cond (.t 68) (.regionP [⟨some 69, none, [], (.load false 1 (.t 3))⟩, ⟨some 70, none, [], (.fieldAddr 41 (.t 1))⟩, ⟨some 71, none, [], (.load false 1 (.t 70))⟩, ⟨some 72, none, [], (.conv (.intInt .i64) (.t 71))⟩, ⟨some 73, none, [(.t 3)], (.call 8 [(.t 72)])⟩, ⟨some 74, none, [], (.bin .add (.c (.str [102, 97, 117, 108, 116, 61])) (.t 73))⟩, ⟨some 75, none, [], (.buildSlice 1 1 [(.str [])] [(0, 1, (.t 74))])⟩, ⟨some 76, none, [], (.append 1 16 (.t 69) (.t 75))⟩, ⟨none, none, [], (.store 1 (.t 3) (.t 76))⟩]) .skip))
 (.seq (.region [⟨some 77, none, [], (.load false 1 (.t 3))⟩, ⟨some 2, none, [], (.move (.t 77))⟩] false)
 .ret))))))
abbrev tS2q5 : Fr := .seq (.seq (.seq (.region [⟨some 51, none, [], (.fieldAddr 38 (.t 1))⟩, ⟨some 52, none, [], (.load true 2 (.t 51))⟩, ⟨some 53, none, [], (.move (.c (.int .i64 0)))⟩] false)
 (.block 6 (.loop (.seq (.region [⟨some 54, none, [], (.bin .lss (.t 53) (.c (.int .i64 2)))⟩] false)
 (.seq (.cond (.t 54) .skip (.exit 6))
 (.seq (.block 7 (.seq (.region [⟨some 55, none, [], (.move (.t 53))⟩, ⟨some 56, none, [], (.idxAgg 2 1 false (.t 52) (.t 53))⟩, ⟨some 10, none, [], (.move (.t 55))⟩, ⟨some 11, none, [], (.move (.t 56))⟩] false)
 (.region [⟨some 57, none, [], (.move (.t 10))⟩, ⟨some 58, none, [], (.call 8 [(.t 57)])⟩, ⟨some 59, none, [], (.bin .add (.c (.str [108, 99])) (.t 58))⟩, ⟨some 60, none, [], (.move (.t 11))⟩, ⟨some 61, none, [], (.call 7 [(.t 3), (.t 59), (.t 60)])⟩] false)))
 (.region [⟨some 62, none, [], (.bin .add (.t 53) (.c (.int .i64 1)))⟩, ⟨some 53, none, [], (.move (.t 62))⟩] false)))))))
 (.seq (.region [⟨some 63, none, [], (.fieldAddr 40 (.t 1))⟩, ⟨some 64, none, [], (.load false 1 (.t 63))⟩, ⟨some 65, none, [], (.call 7 [(.t 3), (.c (.str [112, 99])), (.t 64)])⟩] false)
 (.seq (.seq (.region [⟨some 66, none, [], (.fieldAddr 41 (.t 1))⟩, ⟨some 67, none, [], (.load false 1 (.t 66))⟩, ⟨some 68, none, [], (.bin .neq (.t 67) (.c (.int .u8 0)))⟩] false)
 (.cond (.t 68) (.regionP [⟨some 69, none, [], (.load false 1 (.t 3))⟩, ⟨some 70, none, [], (.fieldAddr 41 (.t 1))⟩, ⟨some 71, none, [], (.load false 1 (.t 70))⟩, ⟨some 72, none, [], (.conv (.intInt .i64) (.t 71))⟩, ⟨some 73, none, [(.t 3)], (.call 8 [(.t 72)])⟩, ⟨some 74, none, [], (.bin .add (.c (.str [102, 97, 117, 108, 116, 61])) (.t 73))⟩, ⟨some 75, none, [], (.buildSlice 1 1 [(.str [])] [(0, 1, (.t 74))])⟩, ⟨some 76, none, [], (.append 1 16 (.t 69) (.t 75))⟩, ⟨none, none, [], (.store 1 (.t 3) (.t 76))⟩]) .skip))
 (.seq (.region [⟨some 77, none, [], (.load false 1 (.t 3))⟩, ⟨some 2, none, [], (.move (.t 77))⟩] false)
 .ret))))
abbrev tS2q6 : Fr := .seq (.seq (.region [⟨some 63, none, [], (.fieldAddr 40 (.t 1))⟩, ⟨some 64, none, [], (.load false 1 (.t 63))⟩, ⟨some 65, none, [], (.call 7 [(.t 3), (.c (.str [112, 99])), (.t 64)])⟩] false)
 (.seq (.seq (.region [⟨some 66, none, [], (.fieldAddr 41 (.t 1))⟩, ⟨some 67, none, [], (.load false 1 (.t 66))⟩, ⟨some 68, none, [], (.bin .neq (.t 67) (.c (.int .u8 0)))⟩] false)
 (.cond (.t 68) (.regionP [⟨some 69, none, [], (.load false 1 (.t 3))⟩, ⟨some 70, none, [], (.fieldAddr 41 (.t 1))⟩, ⟨some 71, none, [], (.load false 1 (.t 70))⟩, ⟨some 72, none, [], (.conv (.intInt .i64) (.t 71))⟩, ⟨some 73, none, [(.t 3)], (.call 8 [(.t 72)])⟩, ⟨some 74, none, [], (.bin .add (.c (.str [102, 97, 117, 108, 116, 61])) (.t 73))⟩, ⟨some 75, none, [], (.buildSlice 1 1 [(.str [])] [(0, 1, (.t 74))])⟩, ⟨some 76, none, [], (.append 1 16 (.t 69) (.t 75))⟩, ⟨none, none, [], (.store 1 (.t 3) (.t 76))⟩]) .skip))
 (.seq (.region [⟨some 77, none, [], (.load false 1 (.t 3))⟩, ⟨some 2, none, [], (.move (.t 77))⟩] false)
 .ret)))
abbrev tS2q7 : Fr := .seq (.seq (.seq (.region [⟨some 39, none, [], (.fieldAddr 36 (.t 1))⟩, ⟨some 40, none, [], (.load true 2 (.t 39))⟩, ⟨some 41, none, [], (.move (.c (.int .i64 0)))⟩] false)
 (.block 4 (.loop (.seq (.region [⟨some 42, none, [], (.bin .lss (.t 41) (.c (.int .i64 2)))⟩] false)
 (.seq (.cond (.t 42) .skip (.exit 4))
 (.seq (.block 5 (.seq (.region [⟨some 43, none, [], (.move (.t 41))⟩, ⟨some 44, none, [], (.idxAgg 2 1 false (.t 40) (.t 41))⟩, ⟨some 8, none, [], (.move (.t 43))⟩, ⟨some 9, none, [], (.move (.t 44))⟩] false)
 (.region [⟨some 45, none, [], (.move (.t 8))⟩, ⟨some 46, none, [], (.call 8 [(.t 45)])⟩, ⟨some 47, none, [], (.bin .add (.c (.str [115, 97])) (.t 46))⟩, ⟨some 48, none, [], (.move (.t 9))⟩, ⟨some 49, none, [], (.call 7 [(.t 3), (.t 47), (.t 48)])⟩] false)))
 (.region [⟨some 50, none, [], (.bin .add (.t 41) (.c (.int .i64 1)))⟩, ⟨some 41, none, [], (.move (.t 50))⟩] false)))))))
 (.seq (.seq (.region [⟨some 51, none, [], (.fieldAddr 38 (.t 1))⟩, ⟨some 52, none, [], (.load true 2 (.t 51))⟩, ⟨some 53, none, [], (.move (.c (.int .i64 0)))⟩] false)
 (.block 6 (.loop (.seq (.region [⟨some 54, none, [], (.bin .lss (.t 53) (.c (.int .i64 2)))⟩] false)
 (.seq (.cond (.t 54) .skip (.exit 6))
 (.seq (.block 7 (.seq (.region [⟨some 55, none, [], (.move (.t 53))⟩, ⟨some 56, none, [], (.idxAgg 2 1 false (.t 52) (.t 53))⟩, ⟨some 10, none, [], (.move (.t 55))⟩, ⟨some 11, none, [], (.move (.t 56))⟩] false)
 (.region [⟨some 57, none, [], (.move (.t 10))⟩, ⟨some 58, none, [], (.call 8 [(.t 57)])⟩, ⟨some 59, none, [], (.bin .add (.c (.str [108, 99])) (.t 58))⟩, ⟨some 60, none, [], (.move (.t 11))⟩, ⟨some 61, none, [], (.call 7 [(.t 3), (.t 59), (.t 60)])⟩] false)))
 (.region [⟨some 62, none, [], (.bin .add (.t 53) (.c (.int .i64 1)))⟩, ⟨some 53, none, [], (.move (.t 62))⟩] false)))))))
 (.seq (.region [⟨some 63, none, [], (.fieldAddr 40 (.t 1))⟩, ⟨some 64, none, [], (.load false 1 (.t 63))⟩, ⟨some 65, none, [], (.call 7 [(.t 3), (.c (.str [112, 99])), (.t 64)])⟩] false)
 (.seq (.seq (.region [⟨some 66, none, [], (.fieldAddr 41 (.t 1))⟩, ⟨some 67, none, [], (.load false 1 (.t 66))⟩, ⟨some 68, none, [], (.bin .neq (.t 67) (.c (.int .u8 0)))⟩] false)
 (.cond (.t 68) (.regionP [⟨some 69, none, [], (.load false 1 (.t 3))⟩, ⟨some 70, none, [], (.fieldAddr 41 (.t 1))⟩, ⟨some 71, none, [], (.load false 1 (.t 70))⟩, ⟨some 72, none, [], (.conv (.intInt .i64) (.t 71))⟩, ⟨some 73, none, [(.t 3)], (.call 8 [(.t 72)])⟩, ⟨some 74, none, [], (.bin .add (.c (.str [102, 97, 117, 108, 116, 61])) (.t 73))⟩, ⟨some 75, none, [], (.buildSlice 1 1 [(.str [])] [(0, 1, (.t 74))])⟩, ⟨some 76, none, [], (.append 1 16 (.t 69) (.t 75))⟩, ⟨none, none, [], (.store 1 (.t 3) (.t 76))⟩]) .skip))
 (.seq (.region [⟨some 77, none, [], (.load false 1 (.t 3))⟩, ⟨some 2, none, [], (.move (.t 77))⟩] false)
 .ret)))))
-- coxless/trace.Say
def ir4 : IFunc := ⟨78, [.tmp 2], (.seq (.region [⟨some 1, none, [], (.box (.t 0))⟩, ⟨some 2, none, [], (.move (.c .nilSlice))⟩] false)
 (.seq (.region [⟨some 3, none, [], (.alloc [.nilSlice])⟩] false)
 (.seq (.seq (.region [⟨some 12, none, [], (.fieldAddr 0 (.t 1))⟩, ⟨some 13, none, [], (.load true 32 (.t 12))⟩, ⟨some 14, none, [], (.move (.c (.int .i64 0)))⟩] false)
 (.block 0 (.loop (.seq (.region [⟨some 15, none, [], (.bin .lss (.t 14) (.c (.int .i64 32)))⟩] false)
 (.seq (.cond (.t 15) .skip (.exit 0))
 (.seq (.block 1 (.seq (.region [⟨some 16, none, [], (.move (.t 14))⟩, ⟨some 17, none, [], (.idxAgg 32 1 false (.t 13) (.t 14))⟩, ⟨some 4, none, [], (.move (.t 16))⟩, ⟨some 5, none, [], (.move (.t 17))⟩] false)
 (.region [⟨some 18, none, [], (.move (.t 4))⟩, ⟨some 19, none, [], (.call 8 [(.t 18)])⟩, ⟨some 20, none, [], (.bin .add (.c (.str [114])) (.t 19))⟩, ⟨some 21, none, [], (.move (.t 5))⟩, ⟨some 22, none, [], (.call 7 [(.t 3), (.t 20), (.t 21)])⟩] false)))
 (.region [⟨some 23, none, [], (.bin .add (.t 14) (.c (.int .i64 1)))⟩, ⟨some 14, none, [], (.move (.t 23))⟩] false)))))))
 (.seq (.seq (.region [⟨some 24, none, [], (.fieldAddr 32 (.t 1))⟩, ⟨some 25, none, [], (.load true 4 (.t 24))⟩, ⟨some 26, none, [], (.move (.c (.int .i64 0)))⟩] false)
 (.block 2 (.loop (.seq (.region [⟨some 27, none, [], (.bin .lss (.t 26) (.c (.int .i64 4)))⟩] false)
 (.seq (.cond (.t 27) .skip (.exit 2))
 (.seq (.block 3 (.seq (.region [⟨some 28, none, [], (.move (.t 26))⟩, ⟨some 29, none, [], (.idxAgg 4 1 false (.t 25) (.t 26))⟩, ⟨some 6, none, [], (.move (.t 28))⟩, ⟨some 7, none, [], (.move (.t 29))⟩] false)
 (.seq (.region [⟨some 30, none, [], (.move (.t 7))⟩] false)
 (.cond (.t 30) (.regionP [⟨some 31, none, [], (.load false 1 (.t 3))⟩, ⟨some 32, none, [], (.move (.t 6))⟩, ⟨some 33, none, [(.t 3)], (.call 8 [(.t 32)])⟩, ⟨some 34, none, [], (.bin .add (.c (.str [112])) (.t 33))⟩, ⟨some 35, none, [], (.bin .add (.t 34) (.c (.str [61, 49])))⟩, ⟨some 36, none, [], (.buildSlice 1 1 [(.str [])] [(0, 1, (.t 35))])⟩, ⟨some 37, none, [], (.append 1 16 (.t 31) (.t 36))⟩, ⟨none, none, [], (.store 1 (.t 3) (.t 37))⟩]) .skip))))
 (.region [⟨some 38, none, [], (.bin .add (.t 26) (.c (.int .i64 1)))⟩, ⟨some 26, none, [], (.move (.t 38))⟩] false)))))))
 (.seq (.seq (.region [⟨some 39, none, [], (.fieldAddr 36 (.t 1))⟩, ⟨some 40, none, [], (.load true 2 (.t 39))⟩, ⟨some 41, none, [], (.move (.c (.int .i64 0)))⟩] false)
 (.block 4 (.loop (.seq (.region [⟨some 42, none, [], (.bin .lss (.t 41) (.c (.int .i64 2)))⟩] false)
 (.seq (.cond (.t 42) .skip (.exit 4))
 (.seq (.block 5 (.seq (.region [⟨some 43, none, [], (.move (.t 41))⟩, ⟨some 44, none, [], (.idxAgg 2 1 false (.t 40) (.t 41))⟩, ⟨some 8, none, [], (.move (.t 43))⟩, ⟨some 9, none, [], (.move (.t 44))⟩] false)
 (.region [⟨some 45, none, [], (.move (.t 8))⟩, ⟨some 46, none, [], (.call 8 [(.t 45)])⟩, ⟨some 47, none, [], (.bin .add (.c (.str [115, 97])) (.t 46))⟩, ⟨some 48, none, [], (.move (.t 9))⟩, ⟨some 49, none, [], (.call 7 [(.t 3), (.t 47), (.t 48)])⟩] false)))
 (.region [⟨some 50, none, [], (.bin .add (.t 41) (.c (.int .i64 1)))⟩, ⟨some 41, none, [], (.move (.t 50))⟩] false)))))))
 (.seq (.seq (.region [⟨some 51, none, [], (.fieldAddr 38 (.t 1))⟩, ⟨some 52, none, [], (.load true 2 (.t 51))⟩, ⟨some 53, none, [], (.move (.c (.int .i64 0)))⟩] false)
 (.block 6 (.loop (.seq (.region [⟨some 54, none, [], (.bin .lss (.t 53) (.c (.int .i64 2)))⟩] false)
 (.seq (.cond (.t 54) .skip (.exit 6))
 (.seq (.block 7 (.seq (.region [⟨some 55, none, [], (.move (.t 53))⟩, ⟨some 56, none, [], (.idxAgg 2 1 false (.t 52) (.t 53))⟩, ⟨some 10, none, [], (.move (.t 55))⟩, ⟨some 11, none, [], (.move (.t 56))⟩] false)
 (.region [⟨some 57, none, [], (.move (.t 10))⟩, ⟨some 58, none, [], (.call 8 [(.t 57)])⟩, ⟨some 59, none, [], (.bin .add (.c (.str [108, 99])) (.t 58))⟩, ⟨some 60, none, [], (.move (.t 11))⟩, ⟨some 61, none, [], (.call 7 [(.t 3), (.t 59), (.t 60)])⟩] false)))
 (.region [⟨some 62, none, [], (.bin .add (.t 53) (.c (.int .i64 1)))⟩, ⟨some 53, none, [], (.move (.t 62))⟩] false)))))))
 (.seq (.region [⟨some 63, none, [], (.fieldAddr 40 (.t 1))⟩, ⟨some 64, none, [], (.load false 1 (.t 63))⟩, ⟨some 65, none, [], (.call 7 [(.t 3), (.c (.str [112, 99])), (.t 64)])⟩] false)
 (.seq (.seq (.region [⟨some 66, none, [], (.fieldAddr 41 (.t 1))⟩, ⟨some 67, none, [], (.load false 1 (.t 66))⟩, ⟨some 68, none, [], (.bin .neq (.t 67) (.c (.int .u8 0)))⟩] false)
 (.cond (.t 68) (.regionP [⟨some 69, none, [], (.load false 1 (.t 3))⟩, ⟨some 70, none, [], (.fieldAddr 41 (.t 1))⟩, ⟨some 71, none, [], (.load false 1 (.t 70))⟩, ⟨some 72, none, [], (.conv (.intInt .i64) (.t 71))⟩, ⟨some 73, none, [(.t 3)], (.call 8 [(.t 72)])⟩, ⟨some 74, none, [], (.bin .add (.c (.str [102, 97, 117, 108, 116, 61])) (.t 73))⟩, ⟨some 75, none, [], (.buildSlice 1 1 [(.str [])] [(0, 1, (.t 74))])⟩, ⟨some 76, none, [], (.append 1 16 (.t 69) (.t 75))⟩, ⟨none, none, [], (.store 1 (.t 3) (.t 76))⟩]) .skip))
 (.seq (.region [⟨some 77, none, [], (.load false 1 (.t 3))⟩, ⟨some 2, none, [], (.move (.t 77))⟩] false)
 .ret)))))))))⟩
def digT (n : Nat) : List UInt8 := if n < 10 then [UInt8.ofNat (48 + n)] else if n < 100 then [UInt8.ofNat (48 + n / 10), UInt8.ofNat (48 + n % 10)] else [UInt8.ofNat (48 + n / 100), UInt8.ofNat (48 + n / 10 % 10), UInt8.ofNat (48 + n % 10)]
/-- Itoa of a number below 256. -/
def itoaT (args : List AV) : Option (AV × List AObj) := match args with
  | [.int .i64 (.ofNat n)] => match Nat.blt n 256 with
    | true => some (.str (digT n), [])
    | false => none
  | _ => none
theorem digT_len (n : Nat) : (digT n).length ≤ 3 := by unfold digT; split; · simp
                                                       split <;> simp
def lineE (nm : List UInt8) (i x : Nat) : List (List UInt8) := if x = 0 then [] else [nm ++ digT i ++ [61] ++ hex8 x]
def uptoE (nm : List UInt8) (L : List Nat) : Nat → List (List UInt8)
  | 0 => []
  | i + 1 => uptoE nm L i ++ (match L[i]? with | some x => lineE nm i x | none => [])
theorem uptoE_len (nm : List UInt8) (L : List Nat) : ∀ i, (uptoE nm L i).length ≤ i
  | 0 => Nat.le_refl _
  | i + 1 => by
    have := uptoE_len nm L i
    simp only [uptoE, List.length_append]
    cases L[i]? with
    | none => simp; omega
    | some x => unfold lineE; dsimp only; split <;> simp <;> omega
def flagE (i : Nat) (b : Bool) : List (List UInt8) := match b with
  | true => [[112] ++ digT i ++ [61, 49]]
  | false => []
def uptoF (L : List Bool) : Nat → List (List UInt8)
  | 0 => []
  | i + 1 => uptoF L i ++ (match L[i]? with | some x => flagE i x | none => [])
theorem uptoF_len (L : List Bool) : ∀ i, (uptoF L i).length ≤ i
  | 0 => Nat.le_refl _
  | i + 1 => by
    have := uptoF_len L i
    simp only [uptoF, List.length_append]
    cases L[i]? with
    | none => simp; omega
    | some x => cases x <;> simp [flagE] <;> omega
section
variable {T : Tab}
theorem ext_low {a b c : St} {p : Nat} (h : Ext a b) (k : Low p b c) (hp : a.next ≤ p) (hw : WFS c) : Ext a c :=
  ⟨hw, Nat.le_trans h.2.1 k.1, fun id hi => (k.2 id (Nat.lt_of_lt_of_le hi hp)).trans (h.2.2 id hi)⟩
theorem itoaT_ran {f : Nat} (hi : T f = some (.hook (litH itoaT))) (s : St) (n : Nat) (hn : n < 256) : Ran T f [.int .i64 (n : Int)] s fun v s' => v = .str (digT n) ∧ s' = s :=
  ran_hook hi (by
    show litH itoaT [.int .i64 (Int.ofNat n)] s = _
    simp only [litH, itoaT, show Nat.blt n 256 = true by simpa using hn, AV.sh, addAll]) ⟨rfl, rfl⟩
theorem i64_addOne {n : Nat} (h : n ≤ 1000000000000) : wrapF .i64 ((n : Int) + 1) = ((n + 1 : Nat) : Int) := by
  rw [wrap_i64 _ (by omega) (by omega)]; omega
theorem i64_up {i : Nat} (h : i < 1000) : wrapF .i64 ((i : Int) + 1) = ((i + 1 : Nat) : Int) := by
  exact i64_addOne (by omega)

set_option maxHeartbeats 4000000 in
theorem sayR_loop {sG0 : St} (hi : ∀ (s : St) (n : Nat), Ext sG0 s → n < 256 → Ran T 8 [.int .i64 (n : Int)] s fun v s' => v = .str (digT n) ∧ s' = s) (hc : T 7 = some (.code ir7)) (hh : T 12 = some (.code ir12)) {Q : Post} {p : Nat} {sa : AV} {L : List Nat} (hL : L.length = 32) (hlt : ∀ x ∈ L, x < 4294967296) (X : List (List UInt8)) (hX : X.length < 100) (s0 : St) (hG : Ext sG0 s0) (hp0 : sG0.next ≤ p)
    (K : ∀ (e : Env) (s : St), opd e (.t 3) = .ptr ⟨p, 0, 0, 1⟩ → opd e (.t 1) = sa → Box p s (X ++ uptoE [114] L 32) → Low p s0 s → Ret T Q [tS2q4] .normal e s) :
    ∀ (m i : Nat) (e : Env) (s : St), m + i = 32 → opd e (.t 13) = .agg (L.map fun x : Nat => .int .u32 (x : Int)) → opd e (.t 14) = .int .i64 (i : Int) → opd e (.t 3) = .ptr ⟨p, 0, 0, 1⟩ → opd e (.t 1) = sa → Box p s (X ++ uptoE [114] L i) → Low p s0 s →
      Go T Q (tS2l0) [.block 0, tS2q4] e s := by
  intro m
  induction m with
  | zero =>
    intro i e s hm ha hn h3 h1 hb hw
    obtain rfl : i = 32 := by omega
    rw [go_loop]
    generalize ([tS2q4] : List Fr) = FF at *
    simp only [hn, Int.cast_ofNat_Int, wk, wk1, wk2, Option.some.injEq, exists_eq_left', decide_true, decide_false, Nat.reduceAdd, Nat.reduceEqDiff, Nat.reduceLeDiff, Nat.reduceLT, Nat.reduceMul, Nat.reduceBEq, Int.reduceLT, Int.reduceLE, Int.reduceEq, Int.reduceAdd, Int.reduceSub, Int.reduceMul, Int.reduceMod, Int.reduceTMod, Int.reduceTDiv, Int.reduceNeg, Nat.reduceSub, Nat.reduceDiv, reduceIte, reduceCtorEq]
    refine K _ _ ?_ ?_ hb hw <;> simp only [h3, h1, wk, wk1, wk2, Option.some.injEq, exists_eq_left', decide_true, decide_false, Nat.reduceAdd, Nat.reduceEqDiff, Nat.reduceLeDiff, Nat.reduceLT, Nat.reduceMul, Nat.reduceBEq, Int.reduceLT, Int.reduceLE, Int.reduceEq, Int.reduceAdd, Int.reduceSub, Int.reduceMul, Int.reduceMod, Int.reduceTMod, Int.reduceTDiv, Int.reduceNeg, Nat.reduceSub, Nat.reduceDiv, reduceIte, reduceCtorEq]
  | succ m ih =>
    intro i e s hm ha hn h3 h1 hb hw
    have hiL : i < L.length := by omega
    obtain ⟨x, hx⟩ : ∃ x, L[i]? = some x := ⟨_, List.getElem?_eq_getElem hiL⟩
    have hx32 : x < 4294967296 := hlt x (List.mem_of_getElem? hx)
    have hlim : (i : Int) < 32 := by omega
    have hin : i < 32 := by omega
    have hcell : (L.map fun x : Nat => AV.int .u32 (x : Int))[i]? = some (.int .u32 (x : Int)) := by rw [List.getElem?_map, hx]; rfl
    have u5 : wrapF .i64 ((i : Int) + 1) = ((i + 1 : Nat) : Int) := i64_up (by omega)
    have hup := uptoE_len [114] L i
    have hl1 : (digT i).length + 1 ≤ 1099511627776 := by have := digT_len i; omega
    have hl2 : 1 + (digT i).length ≤ 1099511627776 := by have := digT_len i; omega
    rw [go_loop]
    simp only [hn, ha, hlim, hin, hcell, h3, h1, Nat.mul_one, partAV, wk, wk1, wk2, Option.some.injEq, exists_eq_left', decide_true, decide_false, Nat.reduceAdd, Nat.reduceEqDiff, Nat.reduceLeDiff, Nat.reduceLT, Nat.reduceMul, Nat.reduceBEq, Int.reduceLT, Int.reduceLE, Int.reduceEq, Int.reduceAdd, Int.reduceSub, Int.reduceMul, Int.reduceMod, Int.reduceTMod, Int.reduceTDiv, Int.reduceNeg, Nat.reduceSub, Nat.reduceDiv, reduceIte, reduceCtorEq]
    refine goCall_by (hi s i (ext_low hG hw hp0 hb.2.1) (by omega)) ?_
    rintro v s1 ⟨rfl, rfl⟩
    simp only [hn, ha, hlim, hin, hcell, h3, h1, hl1, hl2, Nat.mul_one, partAV, wk, wk1, wk2, Option.some.injEq, exists_eq_left', decide_true, decide_false, Nat.reduceAdd, Nat.reduceEqDiff, Nat.reduceLeDiff, Nat.reduceLT, Nat.reduceMul, Nat.reduceBEq, Int.reduceLT, Int.reduceLE, Int.reduceEq, Int.reduceAdd, Int.reduceSub, Int.reduceMul, Int.reduceMod, Int.reduceTMod, Int.reduceTDiv, Int.reduceNeg, Nat.reduceSub, Nat.reduceDiv, reduceIte, reduceCtorEq]
    refine goCall_by (says_ran hc hh hb (by rw [List.length_append]; omega) ([114] ++ digT i) (by have := digT_len i; simp; omega) x hx32) ?_
    rintro v s2 ⟨rfl, hb2, hw2⟩
    simp only [hn, ha, hlim, hin, hcell, h3, h1, hl1, hl2, u5, Nat.mul_one, partAV, wk, wk1, wk2, Option.some.injEq, exists_eq_left', decide_true, decide_false, Nat.reduceAdd, Nat.reduceEqDiff, Nat.reduceLeDiff, Nat.reduceLT, Nat.reduceMul, Nat.reduceBEq, Int.reduceLT, Int.reduceLE, Int.reduceEq, Int.reduceAdd, Int.reduceSub, Int.reduceMul, Int.reduceMod, Int.reduceTMod, Int.reduceTDiv, Int.reduceNeg, Nat.reduceSub, Nat.reduceDiv, reduceIte, reduceCtorEq]
    refine ih (i + 1) _ s2 (by omega) ?_ ?_ ?_ ?_ ?_ (hw.trans hw2)
    · simp only [ha, wk, wk1, wk2, Option.some.injEq, exists_eq_left', decide_true, decide_false, Nat.reduceAdd, Nat.reduceEqDiff, Nat.reduceLeDiff, Nat.reduceLT, Nat.reduceMul, Nat.reduceBEq, Int.reduceLT, Int.reduceLE, Int.reduceEq, Int.reduceAdd, Int.reduceSub, Int.reduceMul, Int.reduceMod, Int.reduceTMod, Int.reduceTDiv, Int.reduceNeg, Nat.reduceSub, Nat.reduceDiv, reduceIte, reduceCtorEq]
    · simp only [wk, wk1, wk2, Option.some.injEq, exists_eq_left', decide_true, decide_false, Nat.reduceAdd, Nat.reduceEqDiff, Nat.reduceLeDiff, Nat.reduceLT, Nat.reduceMul, Nat.reduceBEq, Int.reduceLT, Int.reduceLE, Int.reduceEq, Int.reduceAdd, Int.reduceSub, Int.reduceMul, Int.reduceMod, Int.reduceTMod, Int.reduceTDiv, Int.reduceNeg, Nat.reduceSub, Nat.reduceDiv, reduceIte, reduceCtorEq]
    · simp only [h3, wk, wk1, wk2, Option.some.injEq, exists_eq_left', decide_true, decide_false, Nat.reduceAdd, Nat.reduceEqDiff, Nat.reduceLeDiff, Nat.reduceLT, Nat.reduceMul, Nat.reduceBEq, Int.reduceLT, Int.reduceLE, Int.reduceEq, Int.reduceAdd, Int.reduceSub, Int.reduceMul, Int.reduceMod, Int.reduceTMod, Int.reduceTDiv, Int.reduceNeg, Nat.reduceSub, Nat.reduceDiv, reduceIte, reduceCtorEq]
    · simp only [h1, wk, wk1, wk2, Option.some.injEq, exists_eq_left', decide_true, decide_false, Nat.reduceAdd, Nat.reduceEqDiff, Nat.reduceLeDiff, Nat.reduceLT, Nat.reduceMul, Nat.reduceBEq, Int.reduceLT, Int.reduceLE, Int.reduceEq, Int.reduceAdd, Int.reduceSub, Int.reduceMul, Int.reduceMod, Int.reduceTMod, Int.reduceTDiv, Int.reduceNeg, Nat.reduceSub, Nat.reduceDiv, reduceIte, reduceCtorEq]
    · have e1 : (X ++ uptoE [114] L (i + 1)) = (if x = 0 then X ++ uptoE [114] L i else X ++ uptoE [114] L i ++ [[114] ++ digT i ++ [61] ++ hex8 x]) := by
        simp only [uptoE, hx, lineE]
        split <;> simp
      rw [e1]
      exact hb2

set_option maxHeartbeats 4000000 in
theorem sayS_loop {sG0 : St} (hi : ∀ (s : St) (n : Nat), Ext sG0 s → n < 256 → Ran T 8 [.int .i64 (n : Int)] s fun v s' => v = .str (digT n) ∧ s' = s) (hc : T 7 = some (.code ir7)) (hh : T 12 = some (.code ir12)) {Q : Post} {p : Nat} {sa : AV} {L : List Nat} (hL : L.length = 2) (hlt : ∀ x ∈ L, x < 4294967296) (X : List (List UInt8)) (hX : X.length < 100) (s0 : St) (hG : Ext sG0 s0) (hp0 : sG0.next ≤ p)
    (K : ∀ (e : Env) (s : St), opd e (.t 3) = .ptr ⟨p, 0, 0, 1⟩ → opd e (.t 1) = sa → Box p s (X ++ uptoE [115, 97] L 2) → Low p s0 s → Ret T Q [tS2q5] .normal e s) :
    ∀ (m i : Nat) (e : Env) (s : St), m + i = 2 → opd e (.t 40) = .agg (L.map fun x : Nat => .int .u32 (x : Int)) → opd e (.t 41) = .int .i64 (i : Int) → opd e (.t 3) = .ptr ⟨p, 0, 0, 1⟩ → opd e (.t 1) = sa → Box p s (X ++ uptoE [115, 97] L i) → Low p s0 s →
      Go T Q (tS2l1) [.block 4, tS2q5] e s := by
  intro m
  induction m with
  | zero =>
    intro i e s hm ha hn h3 h1 hb hw
    obtain rfl : i = 2 := by omega
    rw [go_loop]
    generalize ([tS2q5] : List Fr) = FF at *
    simp only [hn, Int.cast_ofNat_Int, wk, wk1, wk2, Option.some.injEq, exists_eq_left', decide_true, decide_false, Nat.reduceAdd, Nat.reduceEqDiff, Nat.reduceLeDiff, Nat.reduceLT, Nat.reduceMul, Nat.reduceBEq, Int.reduceLT, Int.reduceLE, Int.reduceEq, Int.reduceAdd, Int.reduceSub, Int.reduceMul, Int.reduceMod, Int.reduceTMod, Int.reduceTDiv, Int.reduceNeg, Nat.reduceSub, Nat.reduceDiv, reduceIte, reduceCtorEq]
    refine K _ _ ?_ ?_ hb hw <;> simp only [h3, h1, wk, wk1, wk2, Option.some.injEq, exists_eq_left', decide_true, decide_false, Nat.reduceAdd, Nat.reduceEqDiff, Nat.reduceLeDiff, Nat.reduceLT, Nat.reduceMul, Nat.reduceBEq, Int.reduceLT, Int.reduceLE, Int.reduceEq, Int.reduceAdd, Int.reduceSub, Int.reduceMul, Int.reduceMod, Int.reduceTMod, Int.reduceTDiv, Int.reduceNeg, Nat.reduceSub, Nat.reduceDiv, reduceIte, reduceCtorEq]
  | succ m ih =>
    intro i e s hm ha hn h3 h1 hb hw
    have hiL : i < L.length := by omega
    obtain ⟨x, hx⟩ : ∃ x, L[i]? = some x := ⟨_, List.getElem?_eq_getElem hiL⟩
    have hx32 : x < 4294967296 := hlt x (List.mem_of_getElem? hx)
    have hlim : (i : Int) < 2 := by omega
    have hin : i < 2 := by omega
    have hcell : (L.map fun x : Nat => AV.int .u32 (x : Int))[i]? = some (.int .u32 (x : Int)) := by rw [List.getElem?_map, hx]; rfl
    have u5 : wrapF .i64 ((i : Int) + 1) = ((i + 1 : Nat) : Int) := i64_up (by omega)
    have hup := uptoE_len [115, 97] L i
    have hl1 : (digT i).length + 2 ≤ 1099511627776 := by have := digT_len i; omega
    have hl2 : 2 + (digT i).length ≤ 1099511627776 := by have := digT_len i; omega
    rw [go_loop]
    simp only [hn, ha, hlim, hin, hcell, h3, h1, Nat.mul_one, partAV, wk, wk1, wk2, Option.some.injEq, exists_eq_left', decide_true, decide_false, Nat.reduceAdd, Nat.reduceEqDiff, Nat.reduceLeDiff, Nat.reduceLT, Nat.reduceMul, Nat.reduceBEq, Int.reduceLT, Int.reduceLE, Int.reduceEq, Int.reduceAdd, Int.reduceSub, Int.reduceMul, Int.reduceMod, Int.reduceTMod, Int.reduceTDiv, Int.reduceNeg, Nat.reduceSub, Nat.reduceDiv, reduceIte, reduceCtorEq]
    refine goCall_by (hi s i (ext_low hG hw hp0 hb.2.1) (by omega)) ?_
    rintro v s1 ⟨rfl, rfl⟩
    simp only [hn, ha, hlim, hin, hcell, h3, h1, hl1, hl2, Nat.mul_one, partAV, wk, wk1, wk2, Option.some.injEq, exists_eq_left', decide_true, decide_false, Nat.reduceAdd, Nat.reduceEqDiff, Nat.reduceLeDiff, Nat.reduceLT, Nat.reduceMul, Nat.reduceBEq, Int.reduceLT, Int.reduceLE, Int.reduceEq, Int.reduceAdd, Int.reduceSub, Int.reduceMul, Int.reduceMod, Int.reduceTMod, Int.reduceTDiv, Int.reduceNeg, Nat.reduceSub, Nat.reduceDiv, reduceIte, reduceCtorEq]
    refine goCall_by (says_ran hc hh hb (by rw [List.length_append]; omega) ([115, 97] ++ digT i) (by have := digT_len i; simp; omega) x hx32) ?_
    rintro v s2 ⟨rfl, hb2, hw2⟩
    simp only [hn, ha, hlim, hin, hcell, h3, h1, hl1, hl2, u5, Nat.mul_one, partAV, wk, wk1, wk2, Option.some.injEq, exists_eq_left', decide_true, decide_false, Nat.reduceAdd, Nat.reduceEqDiff, Nat.reduceLeDiff, Nat.reduceLT, Nat.reduceMul, Nat.reduceBEq, Int.reduceLT, Int.reduceLE, Int.reduceEq, Int.reduceAdd, Int.reduceSub, Int.reduceMul, Int.reduceMod, Int.reduceTMod, Int.reduceTDiv, Int.reduceNeg, Nat.reduceSub, Nat.reduceDiv, reduceIte, reduceCtorEq]
    refine ih (i + 1) _ s2 (by omega) ?_ ?_ ?_ ?_ ?_ (hw.trans hw2)
    · simp only [ha, wk, wk1, wk2, Option.some.injEq, exists_eq_left', decide_true, decide_false, Nat.reduceAdd, Nat.reduceEqDiff, Nat.reduceLeDiff, Nat.reduceLT, Nat.reduceMul, Nat.reduceBEq, Int.reduceLT, Int.reduceLE, Int.reduceEq, Int.reduceAdd, Int.reduceSub, Int.reduceMul, Int.reduceMod, Int.reduceTMod, Int.reduceTDiv, Int.reduceNeg, Nat.reduceSub, Nat.reduceDiv, reduceIte, reduceCtorEq]
    · simp only [wk, wk1, wk2, Option.some.injEq, exists_eq_left', decide_true, decide_false, Nat.reduceAdd, Nat.reduceEqDiff, Nat.reduceLeDiff, Nat.reduceLT, Nat.reduceMul, Nat.reduceBEq, Int.reduceLT, Int.reduceLE, Int.reduceEq, Int.reduceAdd, Int.reduceSub, Int.reduceMul, Int.reduceMod, Int.reduceTMod, Int.reduceTDiv, Int.reduceNeg, Nat.reduceSub, Nat.reduceDiv, reduceIte, reduceCtorEq]
    · simp only [h3, wk, wk1, wk2, Option.some.injEq, exists_eq_left', decide_true, decide_false, Nat.reduceAdd, Nat.reduceEqDiff, Nat.reduceLeDiff, Nat.reduceLT, Nat.reduceMul, Nat.reduceBEq, Int.reduceLT, Int.reduceLE, Int.reduceEq, Int.reduceAdd, Int.reduceSub, Int.reduceMul, Int.reduceMod, Int.reduceTMod, Int.reduceTDiv, Int.reduceNeg, Nat.reduceSub, Nat.reduceDiv, reduceIte, reduceCtorEq]
    · simp only [h1, wk, wk1, wk2, Option.some.injEq, exists_eq_left', decide_true, decide_false, Nat.reduceAdd, Nat.reduceEqDiff, Nat.reduceLeDiff, Nat.reduceLT, Nat.reduceMul, Nat.reduceBEq, Int.reduceLT, Int.reduceLE, Int.reduceEq, Int.reduceAdd, Int.reduceSub, Int.reduceMul, Int.reduceMod, Int.reduceTMod, Int.reduceTDiv, Int.reduceNeg, Nat.reduceSub, Nat.reduceDiv, reduceIte, reduceCtorEq]
    · have e1 : (X ++ uptoE [115, 97] L (i + 1)) = (if x = 0 then X ++ uptoE [115, 97] L i else X ++ uptoE [115, 97] L i ++ [[115, 97] ++ digT i ++ [61] ++ hex8 x]) := by
        simp only [uptoE, hx, lineE]
        split <;> simp
      rw [e1]
      exact hb2

set_option maxHeartbeats 4000000 in
theorem sayC_loop {sG0 : St} (hi : ∀ (s : St) (n : Nat), Ext sG0 s → n < 256 → Ran T 8 [.int .i64 (n : Int)] s fun v s' => v = .str (digT n) ∧ s' = s) (hc : T 7 = some (.code ir7)) (hh : T 12 = some (.code ir12)) {Q : Post} {p : Nat} {sa : AV} {L : List Nat} (hL : L.length = 2) (hlt : ∀ x ∈ L, x < 4294967296) (X : List (List UInt8)) (hX : X.length < 100) (s0 : St) (hG : Ext sG0 s0) (hp0 : sG0.next ≤ p)
    (K : ∀ (e : Env) (s : St), opd e (.t 3) = .ptr ⟨p, 0, 0, 1⟩ → opd e (.t 1) = sa → Box p s (X ++ uptoE [108, 99] L 2) → Low p s0 s → Ret T Q [tS2q6] .normal e s) :
    ∀ (m i : Nat) (e : Env) (s : St), m + i = 2 → opd e (.t 52) = .agg (L.map fun x : Nat => .int .u32 (x : Int)) → opd e (.t 53) = .int .i64 (i : Int) → opd e (.t 3) = .ptr ⟨p, 0, 0, 1⟩ → opd e (.t 1) = sa → Box p s (X ++ uptoE [108, 99] L i) → Low p s0 s →
      Go T Q (tS2l2) [.block 6, tS2q6] e s := by
  intro m
  induction m with
  | zero =>
    intro i e s hm ha hn h3 h1 hb hw
    obtain rfl : i = 2 := by omega
    rw [go_loop]
    generalize ([tS2q6] : List Fr) = FF at *
    simp only [hn, Int.cast_ofNat_Int, wk, wk1, wk2, Option.some.injEq, exists_eq_left', decide_true, decide_false, Nat.reduceAdd, Nat.reduceEqDiff, Nat.reduceLeDiff, Nat.reduceLT, Nat.reduceMul, Nat.reduceBEq, Int.reduceLT, Int.reduceLE, Int.reduceEq, Int.reduceAdd, Int.reduceSub, Int.reduceMul, Int.reduceMod, Int.reduceTMod, Int.reduceTDiv, Int.reduceNeg, Nat.reduceSub, Nat.reduceDiv, reduceIte, reduceCtorEq]
    refine K _ _ ?_ ?_ hb hw <;> simp only [h3, h1, wk, wk1, wk2, Option.some.injEq, exists_eq_left', decide_true, decide_false, Nat.reduceAdd, Nat.reduceEqDiff, Nat.reduceLeDiff, Nat.reduceLT, Nat.reduceMul, Nat.reduceBEq, Int.reduceLT, Int.reduceLE, Int.reduceEq, Int.reduceAdd, Int.reduceSub, Int.reduceMul, Int.reduceMod, Int.reduceTMod, Int.reduceTDiv, Int.reduceNeg, Nat.reduceSub, Nat.reduceDiv, reduceIte, reduceCtorEq]
  | succ m ih =>
    intro i e s hm ha hn h3 h1 hb hw
    have hiL : i < L.length := by omega
    obtain ⟨x, hx⟩ : ∃ x, L[i]? = some x := ⟨_, List.getElem?_eq_getElem hiL⟩
    have hx32 : x < 4294967296 := hlt x (List.mem_of_getElem? hx)
    have hlim : (i : Int) < 2 := by omega
    have hin : i < 2 := by omega
    have hcell : (L.map fun x : Nat => AV.int .u32 (x : Int))[i]? = some (.int .u32 (x : Int)) := by rw [List.getElem?_map, hx]; rfl
    have u5 : wrapF .i64 ((i : Int) + 1) = ((i + 1 : Nat) : Int) := i64_up (by omega)
    have hup := uptoE_len [108, 99] L i
    have hl1 : (digT i).length + 2 ≤ 1099511627776 := by have := digT_len i; omega
    have hl2 : 2 + (digT i).length ≤ 1099511627776 := by have := digT_len i; omega
    rw [go_loop]
    simp only [hn, ha, hlim, hin, hcell, h3, h1, Nat.mul_one, partAV, wk, wk1, wk2, Option.some.injEq, exists_eq_left', decide_true, decide_false, Nat.reduceAdd, Nat.reduceEqDiff, Nat.reduceLeDiff, Nat.reduceLT, Nat.reduceMul, Nat.reduceBEq, Int.reduceLT, Int.reduceLE, Int.reduceEq, Int.reduceAdd, Int.reduceSub, Int.reduceMul, Int.reduceMod, Int.reduceTMod, Int.reduceTDiv, Int.reduceNeg, Nat.reduceSub, Nat.reduceDiv, reduceIte, reduceCtorEq]
    refine goCall_by (hi s i (ext_low hG hw hp0 hb.2.1) (by omega)) ?_
    rintro v s1 ⟨rfl, rfl⟩
    simp only [hn, ha, hlim, hin, hcell, h3, h1, hl1, hl2, Nat.mul_one, partAV, wk, wk1, wk2, Option.some.injEq, exists_eq_left', decide_true, decide_false, Nat.reduceAdd, Nat.reduceEqDiff, Nat.reduceLeDiff, Nat.reduceLT, Nat.reduceMul, Nat.reduceBEq, Int.reduceLT, Int.reduceLE, Int.reduceEq, Int.reduceAdd, Int.reduceSub, Int.reduceMul, Int.reduceMod, Int.reduceTMod, Int.reduceTDiv, Int.reduceNeg, Nat.reduceSub, Nat.reduceDiv, reduceIte, reduceCtorEq]
    refine goCall_by (says_ran hc hh hb (by rw [List.length_append]; omega) ([108, 99] ++ digT i) (by have := digT_len i; simp; omega) x hx32) ?_
    rintro v s2 ⟨rfl, hb2, hw2⟩
    simp only [hn, ha, hlim, hin, hcell, h3, h1, hl1, hl2, u5, Nat.mul_one, partAV, wk, wk1, wk2, Option.some.injEq, exists_eq_left', decide_true, decide_false, Nat.reduceAdd, Nat.reduceEqDiff, Nat.reduceLeDiff, Nat.reduceLT, Nat.reduceMul, Nat.reduceBEq, Int.reduceLT, Int.reduceLE, Int.reduceEq, Int.reduceAdd, Int.reduceSub, Int.reduceMul, Int.reduceMod, Int.reduceTMod, Int.reduceTDiv, Int.reduceNeg, Nat.reduceSub, Nat.reduceDiv, reduceIte, reduceCtorEq]
    refine ih (i + 1) _ s2 (by omega) ?_ ?_ ?_ ?_ ?_ (hw.trans hw2)
    · simp only [ha, wk, wk1, wk2, Option.some.injEq, exists_eq_left', decide_true, decide_false, Nat.reduceAdd, Nat.reduceEqDiff, Nat.reduceLeDiff, Nat.reduceLT, Nat.reduceMul, Nat.reduceBEq, Int.reduceLT, Int.reduceLE, Int.reduceEq, Int.reduceAdd, Int.reduceSub, Int.reduceMul, Int.reduceMod, Int.reduceTMod, Int.reduceTDiv, Int.reduceNeg, Nat.reduceSub, Nat.reduceDiv, reduceIte, reduceCtorEq]
    · simp only [wk, wk1, wk2, Option.some.injEq, exists_eq_left', decide_true, decide_false, Nat.reduceAdd, Nat.reduceEqDiff, Nat.reduceLeDiff, Nat.reduceLT, Nat.reduceMul, Nat.reduceBEq, Int.reduceLT, Int.reduceLE, Int.reduceEq, Int.reduceAdd, Int.reduceSub, Int.reduceMul, Int.reduceMod, Int.reduceTMod, Int.reduceTDiv, Int.reduceNeg, Nat.reduceSub, Nat.reduceDiv, reduceIte, reduceCtorEq]
    · simp only [h3, wk, wk1, wk2, Option.some.injEq, exists_eq_left', decide_true, decide_false, Nat.reduceAdd, Nat.reduceEqDiff, Nat.reduceLeDiff, Nat.reduceLT, Nat.reduceMul, Nat.reduceBEq, Int.reduceLT, Int.reduceLE, Int.reduceEq, Int.reduceAdd, Int.reduceSub, Int.reduceMul, Int.reduceMod, Int.reduceTMod, Int.reduceTDiv, Int.reduceNeg, Nat.reduceSub, Nat.reduceDiv, reduceIte, reduceCtorEq]
    · simp only [h1, wk, wk1, wk2, Option.some.injEq, exists_eq_left', decide_true, decide_false, Nat.reduceAdd, Nat.reduceEqDiff, Nat.reduceLeDiff, Nat.reduceLT, Nat.reduceMul, Nat.reduceBEq, Int.reduceLT, Int.reduceLE, Int.reduceEq, Int.reduceAdd, Int.reduceSub, Int.reduceMul, Int.reduceMod, Int.reduceTMod, Int.reduceTDiv, Int.reduceNeg, Nat.reduceSub, Nat.reduceDiv, reduceIte, reduceCtorEq]
    · have e1 : (X ++ uptoE [108, 99] L (i + 1)) = (if x = 0 then X ++ uptoE [108, 99] L i else X ++ uptoE [108, 99] L i ++ [[108, 99] ++ digT i ++ [61] ++ hex8 x]) := by
        simp only [uptoE, hx, lineE]
        split <;> simp
      rw [e1]
      exact hb2

set_option maxHeartbeats 4000000 in
theorem sayP_loop {sG0 : St} (hi : ∀ (s : St) (n : Nat), Ext sG0 s → n < 256 → Ran T 8 [.int .i64 (n : Int)] s fun v s' => v = .str (digT n) ∧ s' = s) {Q : Post} {p : Nat} {sa : AV} {L : List Bool} (hL : L.length = 4) (X : List (List UInt8)) (hX : X.length < 100) (s0 : St) (hG : Ext sG0 s0) (hp0 : sG0.next ≤ p)
    (K : ∀ (e : Env) (s : St), opd e (.t 3) = .ptr ⟨p, 0, 0, 1⟩ → opd e (.t 1) = sa → Box p s (X ++ uptoF L 4) → Low p s0 s → Ret T Q [tS2q7] .normal e s) :
    ∀ (m i : Nat) (e : Env) (s : St), m + i = 4 → opd e (.t 25) = .agg (L.map AV.bool) → opd e (.t 26) = .int .i64 (i : Int) → opd e (.t 3) = .ptr ⟨p, 0, 0, 1⟩ → opd e (.t 1) = sa → Box p s (X ++ uptoF L i) → Low p s0 s →
      Go T Q (tS2l3) [.block 2, tS2q7] e s := by
  intro m
  induction m with
  | zero =>
    intro i e s hm ha hn h3 h1 hb hw
    obtain rfl : i = 4 := by omega
    rw [go_loop]
    generalize ([tS2q7] : List Fr) = FF at *
    simp only [hn, Int.cast_ofNat_Int, wk, wk1, wk2, Option.some.injEq, exists_eq_left', decide_true, decide_false, Nat.reduceAdd, Nat.reduceEqDiff, Nat.reduceLeDiff, Nat.reduceLT, Nat.reduceMul, Nat.reduceBEq, Int.reduceLT, Int.reduceLE, Int.reduceEq, Int.reduceAdd, Int.reduceSub, Int.reduceMul, Int.reduceMod, Int.reduceTMod, Int.reduceTDiv, Int.reduceNeg, Nat.reduceSub, Nat.reduceDiv, reduceIte, reduceCtorEq]
    refine K _ _ ?_ ?_ hb hw <;> simp only [h3, h1, wk, wk1, wk2, Option.some.injEq, exists_eq_left', decide_true, decide_false, Nat.reduceAdd, Nat.reduceEqDiff, Nat.reduceLeDiff, Nat.reduceLT, Nat.reduceMul, Nat.reduceBEq, Int.reduceLT, Int.reduceLE, Int.reduceEq, Int.reduceAdd, Int.reduceSub, Int.reduceMul, Int.reduceMod, Int.reduceTMod, Int.reduceTDiv, Int.reduceNeg, Nat.reduceSub, Nat.reduceDiv, reduceIte, reduceCtorEq]
  | succ m ih =>
    intro i e s hm ha hn h3 h1 hb hw
    have hiL : i < L.length := by omega
    obtain ⟨x, hx⟩ : ∃ x, L[i]? = some x := ⟨_, List.getElem?_eq_getElem hiL⟩
    have hlim : (i : Int) < 4 := by omega
    have hin : i < 4 := by omega
    have hcell : (L.map AV.bool)[i]? = some (.bool x) := by rw [List.getElem?_map, hx]; rfl
    have u5 : wrapF .i64 ((i : Int) + 1) = ((i + 1 : Nat) : Int) := i64_up (by omega)
    have hup := uptoF_len L i
    have hl2 : 1 + (digT i).length ≤ 1099511627776 := by have := digT_len i; omega
    obtain ⟨hp, hws, v, hv, _⟩ := id hb
    rw [go_loop]
    cases x with
    | false =>
      simp only [hn, ha, hlim, hin, hcell, h3, h1, u5, Nat.mul_one, partAV, wk, wk1, wk2, Option.some.injEq, exists_eq_left', decide_true, decide_false, Nat.reduceAdd, Nat.reduceEqDiff, Nat.reduceLeDiff, Nat.reduceLT, Nat.reduceMul, Nat.reduceBEq, Int.reduceLT, Int.reduceLE, Int.reduceEq, Int.reduceAdd, Int.reduceSub, Int.reduceMul, Int.reduceMod, Int.reduceTMod, Int.reduceTDiv, Int.reduceNeg, Nat.reduceSub, Nat.reduceDiv, reduceIte, reduceCtorEq]
      refine ih (i + 1) _ s (by omega) ?_ ?_ ?_ ?_ ?_ hw
      · simp only [ha, wk, wk1, wk2, Option.some.injEq, exists_eq_left', decide_true, decide_false, Nat.reduceAdd, Nat.reduceEqDiff, Nat.reduceLeDiff, Nat.reduceLT, Nat.reduceMul, Nat.reduceBEq, Int.reduceLT, Int.reduceLE, Int.reduceEq, Int.reduceAdd, Int.reduceSub, Int.reduceMul, Int.reduceMod, Int.reduceTMod, Int.reduceTDiv, Int.reduceNeg, Nat.reduceSub, Nat.reduceDiv, reduceIte, reduceCtorEq]
      · simp only [wk, wk1, wk2, Option.some.injEq, exists_eq_left', decide_true, decide_false, Nat.reduceAdd, Nat.reduceEqDiff, Nat.reduceLeDiff, Nat.reduceLT, Nat.reduceMul, Nat.reduceBEq, Int.reduceLT, Int.reduceLE, Int.reduceEq, Int.reduceAdd, Int.reduceSub, Int.reduceMul, Int.reduceMod, Int.reduceTMod, Int.reduceTDiv, Int.reduceNeg, Nat.reduceSub, Nat.reduceDiv, reduceIte, reduceCtorEq]
      · simp only [h3, wk, wk1, wk2, Option.some.injEq, exists_eq_left', decide_true, decide_false, Nat.reduceAdd, Nat.reduceEqDiff, Nat.reduceLeDiff, Nat.reduceLT, Nat.reduceMul, Nat.reduceBEq, Int.reduceLT, Int.reduceLE, Int.reduceEq, Int.reduceAdd, Int.reduceSub, Int.reduceMul, Int.reduceMod, Int.reduceTMod, Int.reduceTDiv, Int.reduceNeg, Nat.reduceSub, Nat.reduceDiv, reduceIte, reduceCtorEq]
      · simp only [h1, wk, wk1, wk2, Option.some.injEq, exists_eq_left', decide_true, decide_false, Nat.reduceAdd, Nat.reduceEqDiff, Nat.reduceLeDiff, Nat.reduceLT, Nat.reduceMul, Nat.reduceBEq, Int.reduceLT, Int.reduceLE, Int.reduceEq, Int.reduceAdd, Int.reduceSub, Int.reduceMul, Int.reduceMod, Int.reduceTMod, Int.reduceTDiv, Int.reduceNeg, Nat.reduceSub, Nat.reduceDiv, reduceIte, reduceCtorEq]
      · simp only [uptoF, hx, flagE, List.append_nil]
        exact hb
    | true =>
      simp only [hn, ha, hlim, hin, hcell, h3, h1, u5, Nat.mul_one, partAV, wk, wk1, wk2, Option.some.injEq, exists_eq_left', decide_true, decide_false, Nat.reduceAdd, Nat.reduceEqDiff, Nat.reduceLeDiff, Nat.reduceLT, Nat.reduceMul, Nat.reduceBEq, Int.reduceLT, Int.reduceLE, Int.reduceEq, Int.reduceAdd, Int.reduceSub, Int.reduceMul, Int.reduceMod, Int.reduceTMod, Int.reduceTDiv, Int.reduceNeg, Nat.reduceSub, Nat.reduceDiv, reduceIte, reduceCtorEq]
      refine go_regionP ?_
      simp only [hn, ha, hlim, hin, hcell, h3, h1, hv, Nat.mul_one, partAV, wk, wk1, wk2, Option.some.injEq, exists_eq_left', decide_true, decide_false, Nat.reduceAdd, Nat.reduceEqDiff, Nat.reduceLeDiff, Nat.reduceLT, Nat.reduceMul, Nat.reduceBEq, Int.reduceLT, Int.reduceLE, Int.reduceEq, Int.reduceAdd, Int.reduceSub, Int.reduceMul, Int.reduceMod, Int.reduceTMod, Int.reduceTDiv, Int.reduceNeg, Nat.reduceSub, Nat.reduceDiv, reduceIte, reduceCtorEq]
      refine goCall ((hi s i (ext_low hG hw hp0 hb.2.1) (by omega)).mono ?_)
      rintro r s2 ⟨rfl, rfl⟩
      obtain ⟨v', s1, a1, a2, a3, a4, a5⟩ := hb.app hv (by rw [List.length_append]; omega) (112 :: (digT i ++ [61, 49]))
      refine ⟨by simp only [watch_cons, watch_nil, h3, wat_ptr, opdt_set, reduceIte, hv, sameObj_refl, Nat.reduceEqDiff, Bool.and_self], ?_⟩
      have hl3 : (digT i).length + 1 + 2 ≤ 1099511627776 := by have := digT_len i; omega
      have hc1 : v'.cells = [v'] := cells_cell a2
      simp only [hn, ha, hlim, hin, hcell, h3, h1, hv, hl2, hl3, u5, a1, a2, a3, hc1, Nat.mul_one, partAV, wk, wk1, wk2, Option.some.injEq, exists_eq_left', decide_true, decide_false, Nat.reduceAdd, Nat.reduceEqDiff, Nat.reduceLeDiff, Nat.reduceLT, Nat.reduceMul, Nat.reduceBEq, Int.reduceLT, Int.reduceLE, Int.reduceEq, Int.reduceAdd, Int.reduceSub, Int.reduceMul, Int.reduceMod, Int.reduceTMod, Int.reduceTDiv, Int.reduceNeg, Nat.reduceSub, Nat.reduceDiv, reduceIte, reduceCtorEq]
      refine ih (i + 1) _ _ (by omega) ?_ ?_ ?_ ?_ ?_ (hw.trans a5)
      · simp only [ha, wk, wk1, wk2, Option.some.injEq, exists_eq_left', decide_true, decide_false, Nat.reduceAdd, Nat.reduceEqDiff, Nat.reduceLeDiff, Nat.reduceLT, Nat.reduceMul, Nat.reduceBEq, Int.reduceLT, Int.reduceLE, Int.reduceEq, Int.reduceAdd, Int.reduceSub, Int.reduceMul, Int.reduceMod, Int.reduceTMod, Int.reduceTDiv, Int.reduceNeg, Nat.reduceSub, Nat.reduceDiv, reduceIte, reduceCtorEq]
      · simp only [wk, wk1, wk2, Option.some.injEq, exists_eq_left', decide_true, decide_false, Nat.reduceAdd, Nat.reduceEqDiff, Nat.reduceLeDiff, Nat.reduceLT, Nat.reduceMul, Nat.reduceBEq, Int.reduceLT, Int.reduceLE, Int.reduceEq, Int.reduceAdd, Int.reduceSub, Int.reduceMul, Int.reduceMod, Int.reduceTMod, Int.reduceTDiv, Int.reduceNeg, Nat.reduceSub, Nat.reduceDiv, reduceIte, reduceCtorEq]
      · simp only [h3, wk, wk1, wk2, Option.some.injEq, exists_eq_left', decide_true, decide_false, Nat.reduceAdd, Nat.reduceEqDiff, Nat.reduceLeDiff, Nat.reduceLT, Nat.reduceMul, Nat.reduceBEq, Int.reduceLT, Int.reduceLE, Int.reduceEq, Int.reduceAdd, Int.reduceSub, Int.reduceMul, Int.reduceMod, Int.reduceTMod, Int.reduceTDiv, Int.reduceNeg, Nat.reduceSub, Nat.reduceDiv, reduceIte, reduceCtorEq]
      · simp only [h1, wk, wk1, wk2, Option.some.injEq, exists_eq_left', decide_true, decide_false, Nat.reduceAdd, Nat.reduceEqDiff, Nat.reduceLeDiff, Nat.reduceLT, Nat.reduceMul, Nat.reduceBEq, Int.reduceLT, Int.reduceLE, Int.reduceEq, Int.reduceAdd, Int.reduceSub, Int.reduceMul, Int.reduceMod, Int.reduceTMod, Int.reduceTDiv, Int.reduceNeg, Nat.reduceSub, Nat.reduceDiv, reduceIte, reduceCtorEq]
      · have e1 : X ++ uptoF L (i + 1) = X ++ uptoF L i ++ [112 :: (digT i ++ [61, 49])] := by
          simp only [uptoF, hx, flagE]
          simp
        rw [e1]
        exact a4
end
end Go.V
