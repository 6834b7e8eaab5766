/- The law TraceSays: its loops. -/
import Derived.Test.YtipcimefenpjhaaGreatDoorTS4
set_option linter.unusedVariables false
set_option linter.unusedSimpArgs false
set_option linter.unusedSectionVars false
/- The law TraceSays: its loops. -/
namespace Go.V
open Go
set_option linter.unusedSimpArgs false
set_option linter.unusedVariables false
abbrev tS5l0 : ICode := (.loop (.seq (.seq (.region [⟨some 21, none, [], (.move (.t 8))⟩, ⟨some 22, none, [], (.move (.t 5))⟩, ⟨some 23, none, [], (.move (.t 7))⟩, ⟨some 24, none, [], (.idxSl 1 (.t 22) (.t 23))⟩, ⟨some 25, none, [], (.load false 1 (.t 24))⟩, ⟨some 26, none, [], (.lenStr (.t 25))⟩, ⟨some 27, none, [], (.bin .lss (.t 21) (.t 26))⟩, ⟨some 28, none, [], (.move (.t 27))⟩, ⟨some 29, some (28, true), [], (.move (.t 5))⟩, ⟨some 30, some (28, true), [], (.move (.t 7))⟩, ⟨some 31, some (28, true), [], (.idxSl 1 (.t 29) (.t 30))⟩, ⟨some 32, some (28, true), [], (.load false 1 (.t 31))⟩, ⟨some 33, some (28, true), [], (.move (.t 8))⟩, ⟨some 34, some (28, true), [], (.idxStr (.t 32) (.t 33))⟩, ⟨some 35, some (28, true), [], (.bin .neq (.t 34) (.c (.int .u8 61)))⟩, ⟨some 36, none, [], (.pick (.t 28) (.t 35) (.c (.bool false)))⟩] false)
 (.cond (.t 36) .skip (.exit 2)))
 (.block 3 (.region [⟨some 37, none, [], (.move (.t 8))⟩, ⟨some 38, none, [], (.bin .add (.t 37) (.c (.int .i64 1)))⟩, ⟨some 8, none, [], (.move (.t 38))⟩] false))))
abbrev tS5l1 : ICode := (.loop (.seq (.seq (.region [⟨some 53, none, [], (.move (.t 10))⟩, ⟨some 54, none, [], (.move (.t 5))⟩, ⟨some 55, none, [], (.move (.t 7))⟩, ⟨some 56, none, [], (.idxSl 1 (.t 54) (.t 55))⟩, ⟨some 57, none, [], (.load false 1 (.t 56))⟩, ⟨some 58, none, [], (.lenStr (.t 57))⟩, ⟨some 59, none, [], (.bin .lss (.t 53) (.t 58))⟩] false)
 (.cond (.t 59) .skip (.exit 4)))
 (.seq (.block 5 (.region [⟨some 62, none, [], (.move (.t 9))⟩, ⟨some 63, none, [], (.move (.t 62))⟩, ⟨some 64, some (63, true), [], (.move (.t 5))⟩, ⟨some 65, some (63, true), [], (.move (.t 7))⟩, ⟨some 66, some (63, true), [], (.idxSl 1 (.t 64) (.t 65))⟩, ⟨some 67, some (63, true), [], (.load false 1 (.t 66))⟩, ⟨some 68, some (63, true), [], (.move (.t 10))⟩, ⟨some 69, some (63, true), [], (.idxStr (.t 67) (.t 68))⟩, ⟨some 70, some (63, true), [], (.bin .eql (.t 69) (.c (.int .u8 48)))⟩, ⟨some 71, none, [], (.pick (.t 63) (.t 70) (.c (.bool false)))⟩, ⟨some 9, none, [], (.move (.t 71))⟩] false))
 (.region [⟨some 60, none, [], (.move (.t 10))⟩, ⟨some 61, none, [], (.bin .add (.t 60) (.c (.int .i64 1)))⟩, ⟨some 10, none, [], (.move (.t 61))⟩] false))))
abbrev tS5l2 : ICode := (.loop (.seq (.seq (.region [⟨some 15, none, [], (.move (.t 7))⟩, ⟨some 16, none, [], (.move (.t 5))⟩, ⟨some 17, none, [], (.lenSl (.t 16))⟩, ⟨some 18, none, [], (.bin .lss (.t 15) (.t 17))⟩] false)
 (.cond (.t 18) .skip (.exit 0)))
 (.seq (.block 1 (.seq (.region [⟨some 8, none, [], (.move (.c (.int .i64 0)))⟩] false)
 (.seq (.block 2 (.loop (.seq (.seq (.region [⟨some 21, none, [], (.move (.t 8))⟩, ⟨some 22, none, [], (.move (.t 5))⟩, ⟨some 23, none, [], (.move (.t 7))⟩, ⟨some 24, none, [], (.idxSl 1 (.t 22) (.t 23))⟩, ⟨some 25, none, [], (.load false 1 (.t 24))⟩, ⟨some 26, none, [], (.lenStr (.t 25))⟩, ⟨some 27, none, [], (.bin .lss (.t 21) (.t 26))⟩, ⟨some 28, none, [], (.move (.t 27))⟩, ⟨some 29, some (28, true), [], (.move (.t 5))⟩, ⟨some 30, some (28, true), [], (.move (.t 7))⟩, ⟨some 31, some (28, true), [], (.idxSl 1 (.t 29) (.t 30))⟩, ⟨some 32, some (28, true), [], (.load false 1 (.t 31))⟩, ⟨some 33, some (28, true), [], (.move (.t 8))⟩, ⟨some 34, some (28, true), [], (.idxStr (.t 32) (.t 33))⟩, ⟨some 35, some (28, true), [], (.bin .neq (.t 34) (.c (.int .u8 61)))⟩, ⟨some 36, none, [], (.pick (.t 28) (.t 35) (.c (.bool false)))⟩] false)
 (.cond (.t 36) .skip (.exit 2)))
 (.block 3 (.region [⟨some 37, none, [], (.move (.t 8))⟩, ⟨some 38, none, [], (.bin .add (.t 37) (.c (.int .i64 1)))⟩, ⟨some 8, none, [], (.move (.t 38))⟩] false)))))
 (.seq (.seq (.region [⟨some 39, none, [], (.move (.t 8))⟩, ⟨some 40, none, [], (.bin .lss (.t 39) (.c (.int .i64 2)))⟩, ⟨some 41, none, [], (.move (.t 40))⟩, ⟨some 42, some (41, false), [], (.move (.t 8))⟩, ⟨some 43, some (41, false), [], (.move (.t 5))⟩, ⟨some 44, some (41, false), [], (.move (.t 7))⟩, ⟨some 45, some (41, false), [], (.idxSl 1 (.t 43) (.t 44))⟩, ⟨some 46, some (41, false), [], (.load false 1 (.t 45))⟩, ⟨some 47, some (41, false), [], (.lenStr (.t 46))⟩, ⟨some 48, some (41, false), [], (.bin .sub (.t 47) (.c (.int .i64 1)))⟩, ⟨some 49, some (41, false), [], (.bin .geq (.t 42) (.t 48))⟩, ⟨some 50, none, [], (.pick (.t 41) (.c (.bool true)) (.t 49))⟩] false)
 (.cond (.t 50) (.seq (.region [⟨some 4, none, [], (.move (.c (.bool false)))⟩] false)
 .ret) .skip))
 (.seq (.region [⟨some 9, none, [], (.move (.c (.bool true)))⟩] false)
 (.seq (.seq (.region [⟨some 51, none, [], (.move (.t 8))⟩, ⟨some 52, none, [], (.bin .add (.t 51) (.c (.int .i64 1)))⟩, ⟨some 10, none, [], (.move (.t 52))⟩] false)
 (.block 4 (.loop (.seq (.seq (.region [⟨some 53, none, [], (.move (.t 10))⟩, ⟨some 54, none, [], (.move (.t 5))⟩, ⟨some 55, none, [], (.move (.t 7))⟩, ⟨some 56, none, [], (.idxSl 1 (.t 54) (.t 55))⟩, ⟨some 57, none, [], (.load false 1 (.t 56))⟩, ⟨some 58, none, [], (.lenStr (.t 57))⟩, ⟨some 59, none, [], (.bin .lss (.t 53) (.t 58))⟩] false)
 (.cond (.t 59) .skip (.exit 4)))
 (.seq (.block 5 (.region [⟨some 62, none, [], (.move (.t 9))⟩, ⟨some 63, none, [], (.move (.t 62))⟩, ⟨some 64, some (63, true), [], (.move (.t 5))⟩, ⟨some 65, some (63, true), [], (.move (.t 7))⟩, ⟨some 66, some (63, true), [], (.idxSl 1 (.t 64) (.t 65))⟩, ⟨some 67, some (63, true), [], (.load false 1 (.t 66))⟩, ⟨some 68, some (63, true), [], (.move (.t 10))⟩, ⟨some 69, some (63, true), [], (.idxStr (.t 67) (.t 68))⟩, ⟨some 70, some (63, true), [], (.bin .eql (.t 69) (.c (.int .u8 48)))⟩, ⟨some 71, none, [], (.pick (.t 63) (.t 70) (.c (.bool false)))⟩, ⟨some 9, none, [], (.move (.t 71))⟩] false))
 (.region [⟨some 60, none, [], (.move (.t 10))⟩, ⟨some 61, none, [], (.bin .add (.t 60) (.c (.int .i64 1)))⟩, ⟨some 10, none, [], (.move (.t 61))⟩] false))))))
 (.seq (.region [⟨some 72, none, [], (.move (.t 9))⟩] false)
 (.cond (.t 72) (.seq (.region [⟨some 4, none, [], (.move (.c (.bool false)))⟩] false)
 .ret) .skip))))))))
 (.region [⟨some 19, none, [], (.move (.t 7))⟩, ⟨some 20, none, [], (.bin .add (.t 19) (.c (.int .i64 1)))⟩, ⟨some 7, none, [], (.move (.t 20))⟩] false))))
abbrev tS5q3 : Fr := .seq (.seq (.seq (.region [⟨some 39, none, [], (.move (.t 8))⟩, ⟨some 40, none, [], (.bin .lss (.t 39) (.c (.int .i64 2)))⟩, ⟨some 41, none, [], (.move (.t 40))⟩, ⟨some 42, some (41, false), [], (.move (.t 8))⟩, ⟨some 43, some (41, false), [], (.move (.t 5))⟩, ⟨some 44, some (41, false), [], (.move (.t 7))⟩, ⟨some 45, some (41, false), [], (.idxSl 1 (.t 43) (.t 44))⟩, ⟨some 46, some (41, false), [], (.load false 1 (.t 45))⟩, ⟨some 47, some (41, false), [], (.lenStr (.t 46))⟩, ⟨some 48, some (41, false), [], (.bin .sub (.t 47) (.c (.int .i64 1)))⟩, ⟨some 49, some (41, false), [], (.bin .geq (.t 42) (.t 48))⟩, ⟨some 50, none, [], (.pick (.t 41) (.c (.bool true)) (.t 49))⟩] false)
 (.cond (.t 50) (.seq (.region [⟨some 4, none, [], (.move (.c (.bool false)))⟩] false)
 .ret) .skip))
 (.seq (.region [⟨some 9, none, [], (.move (.c (.bool true)))⟩] false)
 (.seq (.seq (.region [⟨some 51, none, [], (.move (.t 8))⟩, ⟨some 52, none, [], (.bin .add (.t 51) (.c (.int .i64 1)))⟩, ⟨some 10, none, [], (.move (.t 52))⟩] false)
 (.block 4 (.loop (.seq (.seq (.region [⟨some 53, none, [], (.move (.t 10))⟩, ⟨some 54, none, [], (.move (.t 5))⟩, ⟨some 55, none, [], (.move (.t 7))⟩, ⟨some 56, none, [], (.idxSl 1 (.t 54) (.t 55))⟩, ⟨some 57, none, [], (.load false 1 (.t 56))⟩, ⟨some 58, none, [], (.lenStr (.t 57))⟩, ⟨some 59, none, [], (.bin .lss (.t 53) (.t 58))⟩] false)
 (.cond (.t 59) .skip (.exit 4)))
 (.seq (.block 5 (.region [⟨some 62, none, [], (.move (.t 9))⟩, ⟨some 63, none, [], (.move (.t 62))⟩, ⟨some 64, some (63, true), [], (.move (.t 5))⟩, ⟨some 65, some (63, true), [], (.move (.t 7))⟩, ⟨some 66, some (63, true), [], (.idxSl 1 (.t 64) (.t 65))⟩, ⟨some 67, some (63, true), [], (.load false 1 (.t 66))⟩, ⟨some 68, some (63, true), [], (.move (.t 10))⟩, ⟨some 69, some (63, true), [], (.idxStr (.t 67) (.t 68))⟩, ⟨some 70, some (63, true), [], (.bin .eql (.t 69) (.c (.int .u8 48)))⟩, ⟨some 71, none, [], (.pick (.t 63) (.t 70) (.c (.bool false)))⟩, ⟨some 9, none, [], (.move (.t 71))⟩] false))
 (.region [⟨some 60, none, [], (.move (.t 10))⟩, ⟨some 61, none, [], (.bin .add (.t 60) (.c (.int .i64 1)))⟩, ⟨some 10, none, [], (.move (.t 61))⟩] false))))))
 (.seq (.region [⟨some 72, none, [], (.move (.t 9))⟩] false)
 (.cond (.t 72) (.seq (.region [⟨some 4, none, [], (.move (.c (.bool false)))⟩] false)
 .ret) .skip)))))
abbrev tS5q4 : Fr := .seq (.region [⟨some 19, none, [], (.move (.t 7))⟩, ⟨some 20, none, [], (.bin .add (.t 19) (.c (.int .i64 1)))⟩, ⟨some 7, none, [], (.move (.t 20))⟩] false)
abbrev tS5q5 : Fr := .loop (.seq (.seq (.region [⟨some 15, none, [], (.move (.t 7))⟩, ⟨some 16, none, [], (.move (.t 5))⟩, ⟨some 17, none, [], (.lenSl (.t 16))⟩, ⟨some 18, none, [], (.bin .lss (.t 15) (.t 17))⟩] false)
 (.cond (.t 18) .skip (.exit 0)))
 (.seq (.block 1 (.seq (.region [⟨some 8, none, [], (.move (.c (.int .i64 0)))⟩] false)
 (.seq (.block 2 (.loop (.seq (.seq (.region [⟨some 21, none, [], (.move (.t 8))⟩, ⟨some 22, none, [], (.move (.t 5))⟩, ⟨some 23, none, [], (.move (.t 7))⟩, ⟨some 24, none, [], (.idxSl 1 (.t 22) (.t 23))⟩, ⟨some 25, none, [], (.load false 1 (.t 24))⟩, ⟨some 26, none, [], (.lenStr (.t 25))⟩, ⟨some 27, none, [], (.bin .lss (.t 21) (.t 26))⟩, ⟨some 28, none, [], (.move (.t 27))⟩, ⟨some 29, some (28, true), [], (.move (.t 5))⟩, ⟨some 30, some (28, true), [], (.move (.t 7))⟩, ⟨some 31, some (28, true), [], (.idxSl 1 (.t 29) (.t 30))⟩, ⟨some 32, some (28, true), [], (.load false 1 (.t 31))⟩, ⟨some 33, some (28, true), [], (.move (.t 8))⟩, ⟨some 34, some (28, true), [], (.idxStr (.t 32) (.t 33))⟩, ⟨some 35, some (28, true), [], (.bin .neq (.t 34) (.c (.int .u8 61)))⟩, ⟨some 36, none, [], (.pick (.t 28) (.t 35) (.c (.bool false)))⟩] false)
 (.cond (.t 36) .skip (.exit 2)))
 (.block 3 (.region [⟨some 37, none, [], (.move (.t 8))⟩, ⟨some 38, none, [], (.bin .add (.t 37) (.c (.int .i64 1)))⟩, ⟨some 8, none, [], (.move (.t 38))⟩] false)))))
 (.seq (.seq (.region [⟨some 39, none, [], (.move (.t 8))⟩, ⟨some 40, none, [], (.bin .lss (.t 39) (.c (.int .i64 2)))⟩, ⟨some 41, none, [], (.move (.t 40))⟩, ⟨some 42, some (41, false), [], (.move (.t 8))⟩, ⟨some 43, some (41, false), [], (.move (.t 5))⟩, ⟨some 44, some (41, false), [], (.move (.t 7))⟩, ⟨some 45, some (41, false), [], (.idxSl 1 (.t 43) (.t 44))⟩, ⟨some 46, some (41, false), [], (.load false 1 (.t 45))⟩, ⟨some 47, some (41, false), [], (.lenStr (.t 46))⟩, ⟨some 48, some (41, false), [], (.bin .sub (.t 47) (.c (.int .i64 1)))⟩, ⟨some 49, some (41, false), [], (.bin .geq (.t 42) (.t 48))⟩, ⟨some 50, none, [], (.pick (.t 41) (.c (.bool true)) (.t 49))⟩] false)
 (.cond (.t 50) (.seq (.region [⟨some 4, none, [], (.move (.c (.bool false)))⟩] false)
 .ret) .skip))
 (.seq (.region [⟨some 9, none, [], (.move (.c (.bool true)))⟩] false)
 (.seq (.seq (.region [⟨some 51, none, [], (.move (.t 8))⟩, ⟨some 52, none, [], (.bin .add (.t 51) (.c (.int .i64 1)))⟩, ⟨some 10, none, [], (.move (.t 52))⟩] false)
 (.block 4 (.loop (.seq (.seq (.region [⟨some 53, none, [], (.move (.t 10))⟩, ⟨some 54, none, [], (.move (.t 5))⟩, ⟨some 55, none, [], (.move (.t 7))⟩, ⟨some 56, none, [], (.idxSl 1 (.t 54) (.t 55))⟩, ⟨some 57, none, [], (.load false 1 (.t 56))⟩, ⟨some 58, none, [], (.lenStr (.t 57))⟩, ⟨some 59, none, [], (.bin .lss (.t 53) (.t 58))⟩] false)
 (.cond (.t 59) .skip (.exit 4)))
 (.seq (.block 5 (.region [⟨some 62, none, [], (.move (.t 9))⟩, ⟨some 63, none, [], (.move (.t 62))⟩, ⟨some 64, some (63, true), [], (.move (.t 5))⟩, ⟨some 65, some (63, true), [], (.move (.t 7))⟩, ⟨some 66, some (63, true), [], (.idxSl 1 (.t 64) (.t 65))⟩, ⟨some 67, some (63, true), [], (.load false 1 (.t 66))⟩, ⟨some 68, some (63, true), [], (.move (.t 10))⟩, ⟨some 69, some (63, true), [], (.idxStr (.t 67) (.t 68))⟩, ⟨some 70, some (63, true), [], (.bin .eql (.t 69) (.c (.int .u8 48)))⟩, ⟨some 71, none, [], (.pick (.t 63) (.t 70) (.c (.bool false)))⟩, ⟨some 9, none, [], (.move (.t 71))⟩] false))
 (.region [⟨some 60, none, [], (.move (.t 10))⟩, ⟨some 61, none, [], (.bin .add (.t 60) (.c (.int .i64 1)))⟩, ⟨some 10, none, [], (.move (.t 61))⟩] false))))))
 (.seq (.region [⟨some 72, none, [], (.move (.t 9))⟩] false)
 (.cond (.t 72) (.seq (.region [⟨some 4, none, [], (.move (.c (.bool false)))⟩] false)
 .ret) .skip))))))))
 (.region [⟨some 19, none, [], (.move (.t 7))⟩, ⟨some 20, none, [], (.bin .add (.t 19) (.c (.int .i64 1)))⟩, ⟨some 7, none, [], (.move (.t 20))⟩] false)))
abbrev tS5q6 : Fr := .seq (.seq (.regionP [⟨some 73, none, [], (.move (.t 5))⟩, ⟨some 74, none, [], (.move (.t 6))⟩, ⟨some 76, none, [], (.load true 42 (.t 2))⟩, ⟨some 77, none, [], (.load true 42 (.t 3))⟩, ⟨some 78, none, [], (.eq false (.agg [(0, 32, true, (.agg [(0, 1, false, (.prim .int)), (1, 1, false, (.prim .int)), (2, 1, false, (.prim .int)), (3, 1, false, (.prim .int)), (4, 1, false, (.prim .int)), (5, 1, false, (.prim .int)), (6, 1, false, (.prim .int)), (7, 1, false, (.prim .int)), (8, 1, false, (.prim .int)), (9, 1, false, (.prim .int)), (10, 1, false, (.prim .int)), (11, 1, false, (.prim .int)), (12, 1, false, (.prim .int)), (13, 1, false, (.prim .int)), (14, 1, false, (.prim .int)), (15, 1, false, (.prim .int)), (16, 1, false, (.prim .int)), (17, 1, false, (.prim .int)), (18, 1, false, (.prim .int)), (19, 1, false, (.prim .int)), (20, 1, false, (.prim .int)), (21, 1, false, (.prim .int)), (22, 1, false, (.prim .int)), (23, 1, false, (.prim .int)), (24, 1, false, (.prim .int)), (25, 1, false, (.prim .int)), (26, 1, false, (.prim .int)), (27, 1, false, (.prim .int)), (28, 1, false, (.prim .int)), (29, 1, false, (.prim .int)), (30, 1, false, (.prim .int)), (31, 1, false, (.prim .int))])), (32, 4, true, (.agg [(0, 1, false, (.prim .bool)), (1, 1, false, (.prim .bool)), (2, 1, false, (.prim .bool)), (3, 1, false, (.prim .bool))])), (36, 2, true, (.agg [(0, 1, false, (.prim .int)), (1, 1, false, (.prim .int))])), (38, 2, true, (.agg [(0, 1, false, (.prim .int)), (1, 1, false, (.prim .int))])), (40, 1, false, (.prim .int)), (41, 1, false, (.prim .int))]) (.t 76) (.t 77))⟩, ⟨some 75, none, [(.t 2), (.t 3)], (.call 5 [(.t 73), (.t 74)])⟩, ⟨some 79, none, [], (.eq false (.prim .bool) (.t 75) (.t 78))⟩, ⟨some 80, none, [], (.move (.t 79))⟩, ⟨some 81, some (80, true), [], (.call 6 [])⟩, ⟨some 82, none, [], (.pick (.t 80) (.t 81) (.c (.bool false)))⟩, ⟨some 4, none, [], (.move (.t 82))⟩])
 .ret)
abbrev tS5q7 : Fr := .seq (.seq (.region [⟨some 72, none, [], (.move (.t 9))⟩] false)
 (.cond (.t 72) (.seq (.region [⟨some 4, none, [], (.move (.c (.bool false)))⟩] false)
 .ret) .skip))
-- coxless/coxlesslaw27.TraceSays
def ir3 : IFunc := ⟨83, [.tmp 4], (.seq (.region [⟨some 2, none, [], (.box (.t 0))⟩, ⟨some 3, none, [], (.box (.t 1))⟩, ⟨some 4, none, [], (.move (.c (.bool false)))⟩] false)
 (.seq (.region [⟨some 11, none, [], (.load true 42 (.t 2))⟩, ⟨some 12, none, [], (.call 4 [(.t 11)])⟩, ⟨some 5, none, [], (.move (.t 12))⟩] false)
 (.seq (.region [⟨some 13, none, [], (.load true 42 (.t 3))⟩, ⟨some 14, none, [], (.call 4 [(.t 13)])⟩, ⟨some 6, none, [], (.move (.t 14))⟩] false)
 (.seq (.seq (.region [⟨some 7, none, [], (.move (.c (.int .i64 0)))⟩] false)
 (.block 0 (.loop (.seq (.seq (.region [⟨some 15, none, [], (.move (.t 7))⟩, ⟨some 16, none, [], (.move (.t 5))⟩, ⟨some 17, none, [], (.lenSl (.t 16))⟩, ⟨some 18, none, [], (.bin .lss (.t 15) (.t 17))⟩] false)
 (.cond (.t 18) .skip (.exit 0)))
 (.seq (.block 1 (.seq (.region [⟨some 8, none, [], (.move (.c (.int .i64 0)))⟩] false)
 (.seq (.block 2 (.loop (.seq (.seq (.region [⟨some 21, none, [], (.move (.t 8))⟩, ⟨some 22, none, [], (.move (.t 5))⟩, ⟨some 23, none, [], (.move (.t 7))⟩, ⟨some 24, none, [], (.idxSl 1 (.t 22) (.t 23))⟩, ⟨some 25, none, [], (.load false 1 (.t 24))⟩, ⟨some 26, none, [], (.lenStr (.t 25))⟩, ⟨some 27, none, [], (.bin .lss (.t 21) (.t 26))⟩, ⟨some 28, none, [], (.move (.t 27))⟩, ⟨some 29, some (28, true), [], (.move (.t 5))⟩, ⟨some 30, some (28, true), [], (.move (.t 7))⟩, ⟨some 31, some (28, true), [], (.idxSl 1 (.t 29) (.t 30))⟩, ⟨some 32, some (28, true), [], (.load false 1 (.t 31))⟩, ⟨some 33, some (28, true), [], (.move (.t 8))⟩, ⟨some 34, some (28, true), [], (.idxStr (.t 32) (.t 33))⟩, ⟨some 35, some (28, true), [], (.bin .neq (.t 34) (.c (.int .u8 61)))⟩, ⟨some 36, none, [], (.pick (.t 28) (.t 35) (.c (.bool false)))⟩] false)
 (.cond (.t 36) .skip (.exit 2)))
 (.block 3 (.region [⟨some 37, none, [], (.move (.t 8))⟩, ⟨some 38, none, [], (.bin .add (.t 37) (.c (.int .i64 1)))⟩, ⟨some 8, none, [], (.move (.t 38))⟩] false)))))
 (.seq (.seq (.region [⟨some 39, none, [], (.move (.t 8))⟩, ⟨some 40, none, [], (.bin .lss (.t 39) (.c (.int .i64 2)))⟩, ⟨some 41, none, [], (.move (.t 40))⟩, ⟨some 42, some (41, false), [], (.move (.t 8))⟩, ⟨some 43, some (41, false), [], (.move (.t 5))⟩, ⟨some 44, some (41, false), [], (.move (.t 7))⟩, ⟨some 45, some (41, false), [], (.idxSl 1 (.t 43) (.t 44))⟩, ⟨some 46, some (41, false), [], (.load false 1 (.t 45))⟩, ⟨some 47, some (41, false), [], (.lenStr (.t 46))⟩, ⟨some 48, some (41, false), [], (.bin .sub (.t 47) (.c (.int .i64 1)))⟩, ⟨some 49, some (41, false), [], (.bin .geq (.t 42) (.t 48))⟩, ⟨some 50, none, [], (.pick (.t 41) (.c (.bool true)) (.t 49))⟩] false)
 (.cond (.t 50) (.seq (.region [⟨some 4, none, [], (.move (.c (.bool false)))⟩] false)
 .ret) .skip))
 (.seq (.region [⟨some 9, none, [], (.move (.c (.bool true)))⟩] false)
 (.seq (.seq (.region [⟨some 51, none, [], (.move (.t 8))⟩, ⟨some 52, none, [], (.bin .add (.t 51) (.c (.int .i64 1)))⟩, ⟨some 10, none, [], (.move (.t 52))⟩] false)
 (.block 4 (.loop (.seq (.seq (.region [⟨some 53, none, [], (.move (.t 10))⟩, ⟨some 54, none, [], (.move (.t 5))⟩, ⟨some 55, none, [], (.move (.t 7))⟩, ⟨some 56, none, [], (.idxSl 1 (.t 54) (.t 55))⟩, ⟨some 57, none, [], (.load false 1 (.t 56))⟩, ⟨some 58, none, [], (.lenStr (.t 57))⟩, ⟨some 59, none, [], (.bin .lss (.t 53) (.t 58))⟩] false)
 (.cond (.t 59) .skip (.exit 4)))
 (.seq (.block 5 (.region [⟨some 62, none, [], (.move (.t 9))⟩, ⟨some 63, none, [], (.move (.t 62))⟩, ⟨some 64, some (63, true), [], (.move (.t 5))⟩, ⟨some 65, some (63, true), [], (.move (.t 7))⟩, ⟨some 66, some (63, true), [], (.idxSl 1 (.t 64) (.t 65))⟩, ⟨some 67, some (63, true), [], (.load false 1 (.t 66))⟩, ⟨some 68, some (63, true), [], (.move (.t 10))⟩, ⟨some 69, some (63, true), [], (.idxStr (.t 67) (.t 68))⟩, ⟨some 70, some (63, true), [], (.bin .eql (.t 69) (.c (.int .u8 48)))⟩, ⟨some 71, none, [], (.pick (.t 63) (.t 70) (.c (.bool false)))⟩, ⟨some 9, none, [], (.move (.t 71))⟩] false))
 (.region [⟨some 60, none, [], (.move (.t 10))⟩, ⟨some 61, none, [], (.bin .add (.t 60) (.c (.int .i64 1)))⟩, ⟨some 10, none, [], (.move (.t 61))⟩] false))))))
 (.seq (.region [⟨some 72, none, [], (.move (.t 9))⟩] false)
 (.cond (.t 72) (.seq (.region [⟨some 4, none, [], (.move (.c (.bool false)))⟩] false)
 .ret) .skip))))))))
 (.region [⟨some 19, none, [], (.move (.t 7))⟩, ⟨some 20, none, [], (.bin .add (.t 19) (.c (.int .i64 1)))⟩, ⟨some 7, none, [], (.move (.t 20))⟩] false))))))
 (.seq (.regionP [⟨some 73, none, [], (.move (.t 5))⟩, ⟨some 74, none, [], (.move (.t 6))⟩, ⟨some 76, none, [], (.load true 42 (.t 2))⟩, ⟨some 77, none, [], (.load true 42 (.t 3))⟩, ⟨some 78, none, [], (.eq false (.agg [(0, 32, true, (.agg [(0, 1, false, (.prim .int)), (1, 1, false, (.prim .int)), (2, 1, false, (.prim .int)), (3, 1, false, (.prim .int)), (4, 1, false, (.prim .int)), (5, 1, false, (.prim .int)), (6, 1, false, (.prim .int)), (7, 1, false, (.prim .int)), (8, 1, false, (.prim .int)), (9, 1, false, (.prim .int)), (10, 1, false, (.prim .int)), (11, 1, false, (.prim .int)), (12, 1, false, (.prim .int)), (13, 1, false, (.prim .int)), (14, 1, false, (.prim .int)), (15, 1, false, (.prim .int)), (16, 1, false, (.prim .int)), (17, 1, false, (.prim .int)), (18, 1, false, (.prim .int)), (19, 1, false, (.prim .int)), (20, 1, false, (.prim .int)), (21, 1, false, (.prim .int)), (22, 1, false, (.prim .int)), (23, 1, false, (.prim .int)), (24, 1, false, (.prim .int)), (25, 1, false, (.prim .int)), (26, 1, false, (.prim .int)), (27, 1, false, (.prim .int)), (28, 1, false, (.prim .int)), (29, 1, false, (.prim .int)), (30, 1, false, (.prim .int)), (31, 1, false, (.prim .int))])), (32, 4, true, (.agg [(0, 1, false, (.prim .bool)), (1, 1, false, (.prim .bool)), (2, 1, false, (.prim .bool)), (3, 1, false, (.prim .bool))])), (36, 2, true, (.agg [(0, 1, false, (.prim .int)), (1, 1, false, (.prim .int))])), (38, 2, true, (.agg [(0, 1, false, (.prim .int)), (1, 1, false, (.prim .int))])), (40, 1, false, (.prim .int)), (41, 1, false, (.prim .int))]) (.t 76) (.t 77))⟩, ⟨some 75, none, [(.t 2), (.t 3)], (.call 5 [(.t 73), (.t 74)])⟩, ⟨some 79, none, [], (.eq false (.prim .bool) (.t 75) (.t 78))⟩, ⟨some 80, none, [], (.move (.t 79))⟩, ⟨some 81, some (80, true), [], (.call 6 [])⟩, ⟨some 82, none, [], (.pick (.t 80) (.t 81) (.c (.bool false)))⟩, ⟨some 4, none, [], (.move (.t 82))⟩])
 .ret)))))⟩
structure Ln (l : List UInt8) (n : Nat) : Prop where
  two : 2 ≤ n
  lt : n + 1 < l.length
  eq : l[n]? = some 61
  ne : ∀ j, j < n → ∃ b, l[j]? = some b ∧ b ≠ 61
  nz : ∃ k b, n < k ∧ l[k]? = some b ∧ b ≠ 48
  len : l.length < 1000
structure LawE (e : Env) (p1 p2 : Nat) (x y : AV) (i : Nat) : Prop where
  h2 : opd e (.t 2) = .ptr ⟨p1, 0, 0, 42⟩
  h3 : opd e (.t 3) = .ptr ⟨p2, 0, 0, 42⟩
  h5 : opd e (.t 5) = x
  h6 : opd e (.t 6) = y
  h7 : opd e (.t 7) = .int .i64 (i : Int)
theorem u8_ne {a b : UInt8} (h : a ≠ b) : ¬ (a.toNat : Int) = (b.toNat : Int) := by
  intro e
  exact h (UInt8.toNat_inj.1 (by omega))
section
variable {T : Tab}
set_option maxHeartbeats 4000000 in
theorem at_loop {Q : Post} {s : St} {b1 p1 p2 : Nat} {x y : AV} {l1 : List (List UInt8)} (hx : Slc b1 s 1 l1.length x (l1.map AV.str)) (hl : l1.length < 1000000) {i n : Nat} {l : List UInt8} (hu : l1[i]? = some l) (hn : Ln l n)
    (K : ∀ e : Env, LawE e p1 p2 x y i → opd e (.t 8) = .int .i64 (n : Int) → Ret T Q [tS5q3, .block 1, tS5q4, tS5q5, .block 0, tS5q6] .normal e s) :
    ∀ (m j : Nat) (e : Env), m + j = n → LawE e p1 p2 x y i → opd e (.t 8) = .int .i64 (j : Int) →
      Go T Q (tS5l0) [.block 2, tS5q3, .block 1, tS5q4, tS5q5, .block 0, tS5q6] e s := by
  have hi : i < l1.length := (List.getElem?_eq_some_iff.1 hu).1
  obtain ⟨_, ⟨hn0, _⟩ | ⟨hn0, id, inc, rfl, _, _, hrow⟩⟩ := hx
  · omega
  have hld := takeM AV.str l1 i l hu
  have hc : (i : Int) < (l1.length : Int) := by omega
  have hi1 : i + 1 ≤ l1.length := hi
  intro m
  induction m with
  | zero =>
    intro j e hm he h8
    obtain rfl : j = n := by omega
    obtain ⟨h2, h3, h5, h6, h7⟩ := he
    have hlen : (j : Int) < (l.length : Int) := by have := hn.lt; omega
    have heq := hn.eq
    have h61 : decide (((UInt8.toNat 61 : Nat) : Int) = 61) = true := by decide
    rw [go_loop]
    generalize ([tS5q3, .block 1, tS5q4, tS5q5, .block 0, tS5q6] : List Fr) = FF at *
    simp only [h5, h7, h8, hc, hi, hi1, hrow, hld, hlen, heq, h61, Nat.mul_one, wk, wk1, wk2, Option.some.injEq, exists_eq_left', decide_true, decide_false, Nat.reduceAdd, Nat.reduceEqDiff, Nat.reduceLeDiff, Nat.reduceLT, Nat.reduceMul, Nat.reduceBEq, Int.reduceLT, Int.reduceLE, Int.reduceEq, Int.reduceAdd, Int.reduceSub, Int.reduceMul, Int.reduceMod, Int.reduceTMod, Int.reduceTDiv, Int.reduceNeg, Nat.reduceSub, Nat.reduceDiv, reduceIte, reduceCtorEq]
    refine K _ ⟨?_, ?_, ?_, ?_, ?_⟩ ?_ <;> simp only [h2, h3, h5, h6, h7, h8, wk, wk1, wk2, Option.some.injEq, exists_eq_left', decide_true, decide_false, Nat.reduceAdd, Nat.reduceEqDiff, Nat.reduceLeDiff, Nat.reduceLT, Nat.reduceMul, Nat.reduceBEq, Int.reduceLT, Int.reduceLE, Int.reduceEq, Int.reduceAdd, Int.reduceSub, Int.reduceMul, Int.reduceMod, Int.reduceTMod, Int.reduceTDiv, Int.reduceNeg, Nat.reduceSub, Nat.reduceDiv, reduceIte, reduceCtorEq]
  | succ m ih =>
    intro j e hm he h8
    obtain ⟨h2, h3, h5, h6, h7⟩ := he
    obtain ⟨b, hb, hb1⟩ := hn.ne j (by omega)
    have hlen : (j : Int) < (l.length : Int) := by have := hn.lt; omega
    have hb2 : ¬ (b.toNat : Int) = 61 := u8_ne (b := 61) hb1
    have u5 : wrapF .i64 ((j : Int) + 1) = ((j + 1 : Nat) : Int) := i64_addOne (by have := hn.len; have := hn.lt; omega)
    rw [go_loop]
    simp only [h5, h7, h8, hc, hi, hi1, hrow, hld, hlen, hb, hb2, u5, Nat.mul_one, wk, wk1, wk2, Option.some.injEq, exists_eq_left', decide_true, decide_false, Nat.reduceAdd, Nat.reduceEqDiff, Nat.reduceLeDiff, Nat.reduceLT, Nat.reduceMul, Nat.reduceBEq, Int.reduceLT, Int.reduceLE, Int.reduceEq, Int.reduceAdd, Int.reduceSub, Int.reduceMul, Int.reduceMod, Int.reduceTMod, Int.reduceTDiv, Int.reduceNeg, Nat.reduceSub, Nat.reduceDiv, reduceIte, reduceCtorEq]
    refine ih (j + 1) _ (by omega) ⟨?_, ?_, ?_, ?_, ?_⟩ ?_ <;> simp only [h2, h3, h5, h6, h7, h8, u5, wk, wk1, wk2, Option.some.injEq, exists_eq_left', decide_true, decide_false, Nat.reduceAdd, Nat.reduceEqDiff, Nat.reduceLeDiff, Nat.reduceLT, Nat.reduceMul, Nat.reduceBEq, Int.reduceLT, Int.reduceLE, Int.reduceEq, Int.reduceAdd, Int.reduceSub, Int.reduceMul, Int.reduceMod, Int.reduceTMod, Int.reduceTDiv, Int.reduceNeg, Nat.reduceSub, Nat.reduceDiv, reduceIte, reduceCtorEq]
/-- All zeros from one place on up to another. -/
def zer (l : List UInt8) (n : Nat) : Nat → Bool
  | 0 => true
  | k + 1 => zer l n k && (match l[n + k]? with | some b => decide (b = 48) | none => true)
set_option maxHeartbeats 4000000 in
theorem zer_loop {Q : Post} {s : St} {b1 p1 p2 : Nat} {x y : AV} {l1 : List (List UInt8)} (hx : Slc b1 s 1 l1.length x (l1.map AV.str)) (hl : l1.length < 1000000) {i n : Nat} {l : List UInt8} (hu : l1[i]? = some l) (hll : l.length < 1000) (hnl : n ≤ l.length)
    (K : ∀ e : Env, LawE e p1 p2 x y i → opd e (.t 9) = .bool (zer l n (l.length - n)) → Ret T Q [tS5q7, .block 1, tS5q4, tS5q5, .block 0, tS5q6] .normal e s) :
    ∀ (m j : Nat) (e : Env), m + j = l.length - n → LawE e p1 p2 x y i → opd e (.t 10) = .int .i64 ((n + j : Nat) : Int) → opd e (.t 9) = .bool (zer l n j) →
      Go T Q (tS5l1) [.block 4, tS5q7, .block 1, tS5q4, tS5q5, .block 0, tS5q6] e s := by
  have hi : i < l1.length := (List.getElem?_eq_some_iff.1 hu).1
  obtain ⟨_, ⟨hn0, _⟩ | ⟨hn0, id, inc, rfl, _, _, hrow⟩⟩ := hx
  · omega
  have hld := takeM AV.str l1 i l hu
  have hc : (i : Int) < (l1.length : Int) := by omega
  have hi1 : i + 1 ≤ l1.length := hi
  intro m
  induction m with
  | zero =>
    intro j e hm he h10 h9
    obtain rfl : j = l.length - n := by omega
    obtain ⟨h2, h3, h5, h6, h7⟩ := he
    have hlen : ¬ ((n + (l.length - n) : Nat) : Int) < (l.length : Int) := by omega
    rw [go_loop]
    generalize ([tS5q7, .block 1, tS5q4, tS5q5, .block 0, tS5q6] : List Fr) = FF at *
    simp only [h5, h7, h10, hc, hi, hi1, hrow, hld, hlen, Nat.mul_one, wk, wk1, wk2, Option.some.injEq, exists_eq_left', decide_true, decide_false, Nat.reduceAdd, Nat.reduceEqDiff, Nat.reduceLeDiff, Nat.reduceLT, Nat.reduceMul, Nat.reduceBEq, Int.reduceLT, Int.reduceLE, Int.reduceEq, Int.reduceAdd, Int.reduceSub, Int.reduceMul, Int.reduceMod, Int.reduceTMod, Int.reduceTDiv, Int.reduceNeg, Nat.reduceSub, Nat.reduceDiv, reduceIte, reduceCtorEq]
    refine K _ ⟨?_, ?_, ?_, ?_, ?_⟩ ?_ <;> simp only [h2, h3, h5, h6, h7, h9, wk, wk1, wk2, Option.some.injEq, exists_eq_left', decide_true, decide_false, Nat.reduceAdd, Nat.reduceEqDiff, Nat.reduceLeDiff, Nat.reduceLT, Nat.reduceMul, Nat.reduceBEq, Int.reduceLT, Int.reduceLE, Int.reduceEq, Int.reduceAdd, Int.reduceSub, Int.reduceMul, Int.reduceMod, Int.reduceTMod, Int.reduceTDiv, Int.reduceNeg, Nat.reduceSub, Nat.reduceDiv, reduceIte, reduceCtorEq]
  | succ m ih =>
    intro j e hm he h10 h9
    obtain ⟨h2, h3, h5, h6, h7⟩ := he
    have hjl : n + j < l.length := by omega
    obtain ⟨b, hb⟩ : ∃ b, l[n + j]? = some b := ⟨_, List.getElem?_eq_getElem hjl⟩
    have hlen : ((n + j : Nat) : Int) < (l.length : Int) := by omega
    have u5 : wrapF .i64 (((n + j : Nat) : Int) + 1) = ((n + (j + 1) : Nat) : Int) := i64_addOne (by omega)
    have hz : zer l n (j + 1) = (zer l n j && decide (b = 48)) := by simp only [zer, hb]
    have hd : decide ((b.toNat : Int) = 48) = decide (b = 48) := by
      by_cases hb0 : b = 48
      · subst hb0; rfl
      · rw [decide_eq_false hb0]; exact decide_eq_false (u8_ne (b := 48) hb0)
    rw [go_loop]
    cases h0 : zer l n j with
    | false =>
      rw [h0] at h9 hz
      simp only [h5, h7, h9, h10, hc, hi, hi1, hrow, hld, hlen, hb, u5, Nat.mul_one, wk, wk1, wk2, Option.some.injEq, exists_eq_left', decide_true, decide_false, Nat.reduceAdd, Nat.reduceEqDiff, Nat.reduceLeDiff, Nat.reduceLT, Nat.reduceMul, Nat.reduceBEq, Int.reduceLT, Int.reduceLE, Int.reduceEq, Int.reduceAdd, Int.reduceSub, Int.reduceMul, Int.reduceMod, Int.reduceTMod, Int.reduceTDiv, Int.reduceNeg, Nat.reduceSub, Nat.reduceDiv, reduceIte, reduceCtorEq]
      refine ih (j + 1) _ (by omega) ⟨?_, ?_, ?_, ?_, ?_⟩ ?_ ?_ <;> simp only [h2, h3, h5, h6, h7, h9, hz, u5, Bool.false_and, wk, wk1, wk2, Option.some.injEq, exists_eq_left', decide_true, decide_false, Nat.reduceAdd, Nat.reduceEqDiff, Nat.reduceLeDiff, Nat.reduceLT, Nat.reduceMul, Nat.reduceBEq, Int.reduceLT, Int.reduceLE, Int.reduceEq, Int.reduceAdd, Int.reduceSub, Int.reduceMul, Int.reduceMod, Int.reduceTMod, Int.reduceTDiv, Int.reduceNeg, Nat.reduceSub, Nat.reduceDiv, reduceIte, reduceCtorEq]
    | true =>
      rw [h0] at h9 hz
      simp only [h5, h7, h9, h10, hc, hi, hi1, hrow, hld, hlen, hb, hd, u5, Nat.mul_one, wk, wk1, wk2, Option.some.injEq, exists_eq_left', decide_true, decide_false, Nat.reduceAdd, Nat.reduceEqDiff, Nat.reduceLeDiff, Nat.reduceLT, Nat.reduceMul, Nat.reduceBEq, Int.reduceLT, Int.reduceLE, Int.reduceEq, Int.reduceAdd, Int.reduceSub, Int.reduceMul, Int.reduceMod, Int.reduceTMod, Int.reduceTDiv, Int.reduceNeg, Nat.reduceSub, Nat.reduceDiv, reduceIte, reduceCtorEq]
      refine ih (j + 1) _ (by omega) ⟨?_, ?_, ?_, ?_, ?_⟩ ?_ ?_ <;> simp only [h2, h3, h5, h6, h7, h9, hz, u5, Bool.true_and, wk, wk1, wk2, Option.some.injEq, exists_eq_left', decide_true, decide_false, Nat.reduceAdd, Nat.reduceEqDiff, Nat.reduceLeDiff, Nat.reduceLT, Nat.reduceMul, Nat.reduceBEq, Int.reduceLT, Int.reduceLE, Int.reduceEq, Int.reduceAdd, Int.reduceSub, Int.reduceMul, Int.reduceMod, Int.reduceTMod, Int.reduceTDiv, Int.reduceNeg, Nat.reduceSub, Nat.reduceDiv, reduceIte, reduceCtorEq]
theorem zer_false {l : List UInt8} {n k : Nat} {b : UInt8} (hb : l[k]? = some b) (h0 : b ≠ 48) (hn : n ≤ k) : ∀ m, k < n + m → zer l n m = false
  | 0, h => by omega
  | m + 1, h => by
    by_cases hk : k < n + m
    · simp only [zer, zer_false hb h0 hn m hk, Bool.false_and]
    · obtain rfl : k = n + m := by omega
      simp only [zer, hb, decide_eq_false h0, Bool.and_false]
set_option maxHeartbeats 4000000 in
theorem law_loop {Q : Post} {s : St} {b1 p1 p2 : Nat} {x y : AV} {l1 : List (List UInt8)} (hx : Slc b1 s 1 l1.length x (l1.map AV.str)) (hl : l1.length < 1000000) (hgood : ∀ l ∈ l1, ∃ n, Ln l n)
    (K : ∀ e : Env, LawE e p1 p2 x y l1.length → Ret T Q [tS5q6] .normal e s) :
    ∀ (m i : Nat) (e : Env), m + i = l1.length → LawE e p1 p2 x y i →
      Go T Q (tS5l2) [.block 0, tS5q6] e s := by
  have hx0 := hx
  intro m
  induction m with
  | zero =>
    intro i e hm he
    obtain rfl : i = l1.length := by omega
    obtain ⟨h2, h3, h5, h6, h7⟩ := he
    rw [go_loop]
    generalize ([tS5q6] : List Fr) = FF at *
    rcases hx.lenS with ⟨_, a, rfl⟩ | ⟨rfl, hz⟩
    · simp only [h5, h7, wk, wk1, wk2, Option.some.injEq, exists_eq_left', decide_true, decide_false, Nat.reduceAdd, Nat.reduceEqDiff, Nat.reduceLeDiff, Nat.reduceLT, Nat.reduceMul, Nat.reduceBEq, Int.reduceLT, Int.reduceLE, Int.reduceEq, Int.reduceAdd, Int.reduceSub, Int.reduceMul, Int.reduceMod, Int.reduceTMod, Int.reduceTDiv, Int.reduceNeg, Nat.reduceSub, Nat.reduceDiv, reduceIte, reduceCtorEq]
      refine K _ ⟨?_, ?_, ?_, ?_, ?_⟩ <;> simp only [h2, h3, h5, h6, h7, wk, wk1, wk2, Option.some.injEq, exists_eq_left', decide_true, decide_false, Nat.reduceAdd, Nat.reduceEqDiff, Nat.reduceLeDiff, Nat.reduceLT, Nat.reduceMul, Nat.reduceBEq, Int.reduceLT, Int.reduceLE, Int.reduceEq, Int.reduceAdd, Int.reduceSub, Int.reduceMul, Int.reduceMod, Int.reduceTMod, Int.reduceTDiv, Int.reduceNeg, Nat.reduceSub, Nat.reduceDiv, reduceIte, reduceCtorEq]
    · simp only [h5, h7, hz, wk, wk1, wk2, Option.some.injEq, exists_eq_left', decide_true, decide_false, Nat.reduceAdd, Nat.reduceEqDiff, Nat.reduceLeDiff, Nat.reduceLT, Nat.reduceMul, Nat.reduceBEq, Int.reduceLT, Int.reduceLE, Int.reduceEq, Int.reduceAdd, Int.reduceSub, Int.reduceMul, Int.reduceMod, Int.reduceTMod, Int.reduceTDiv, Int.reduceNeg, Nat.reduceSub, Nat.reduceDiv, reduceIte, reduceCtorEq]
      refine K _ ⟨?_, ?_, ?_, ?_, ?_⟩ <;> simp only [h2, h3, h5, h6, h7, hz, wk, wk1, wk2, Option.some.injEq, exists_eq_left', decide_true, decide_false, Nat.reduceAdd, Nat.reduceEqDiff, Nat.reduceLeDiff, Nat.reduceLT, Nat.reduceMul, Nat.reduceBEq, Int.reduceLT, Int.reduceLE, Int.reduceEq, Int.reduceAdd, Int.reduceSub, Int.reduceMul, Int.reduceMod, Int.reduceTMod, Int.reduceTDiv, Int.reduceNeg, Nat.reduceSub, Nat.reduceDiv, reduceIte, reduceCtorEq]
  | succ m ih =>
    intro i e hm he
    obtain ⟨h2, h3, h5, h6, h7⟩ := he
    have hi : i < l1.length := by omega
    obtain ⟨l, hu⟩ : ∃ l, l1[i]? = some l := ⟨_, List.getElem?_eq_getElem hi⟩
    obtain ⟨n, hn⟩ := hgood l (List.mem_of_getElem? hu)
    obtain ⟨_, ⟨hn0, _⟩ | ⟨hn0, id, inc, rfl, _, _, hrow⟩⟩ := hx
    · omega
    have hld := takeM AV.str l1 i l hu
    have hc : (i : Int) < (l1.length : Int) := by omega
    have hi1 : i + 1 ≤ l1.length := hi
    have u5 : wrapF .i64 ((i : Int) + 1) = ((i + 1 : Nat) : Int) := i64_addOne (by omega)
    have u6 : wrapF .i64 ((n : Int) + 1) = ((n + 1 : Nat) : Int) := i64_addOne (by have := hn.len; have := hn.lt; omega)
    have u7 : wrapF .i64 ((l.length : Int) - 1) = (l.length : Int) - 1 := by rw [wrap_i64 _ (by omega) (by have := hn.len; omega)]
    have q1 : ¬ (n : Int) < 2 := by have := hn.two; omega
    have q2 : ¬ (l.length : Int) - 1 ≤ (n : Int) := by have := hn.lt; omega
    have hzf : zer l (n + 1) (l.length - (n + 1)) = false := by
      obtain ⟨k, b, h1, h2, h3⟩ := hn.nz
      exact zer_false h2 h3 (by omega) _ (by have := (List.getElem?_eq_some_iff.1 h2).1; omega)
    rw [go_loop]
    simp only [h5, h7, hc, wk, wk1, wk2, Option.some.injEq, exists_eq_left', decide_true, decide_false, Nat.reduceAdd, Nat.reduceEqDiff, Nat.reduceLeDiff, Nat.reduceLT, Nat.reduceMul, Nat.reduceBEq, Int.reduceLT, Int.reduceLE, Int.reduceEq, Int.reduceAdd, Int.reduceSub, Int.reduceMul, Int.reduceMod, Int.reduceTMod, Int.reduceTDiv, Int.reduceNeg, Nat.reduceSub, Nat.reduceDiv, reduceIte, reduceCtorEq]
    have L1 := at_loop (T := T) (Q := Q) (s := s) (p1 := p1) (p2 := p2) (y := y) hx0 hl hu hn ?_ n 0
    · refine L1 _ (by omega) ⟨?_, ?_, ?_, ?_, ?_⟩ ?_ <;> simp only [h2, h3, h5, h6, h7, Int.natCast_zero, wk, wk1, wk2, Option.some.injEq, exists_eq_left', decide_true, decide_false, Nat.reduceAdd, Nat.reduceEqDiff, Nat.reduceLeDiff, Nat.reduceLT, Nat.reduceMul, Nat.reduceBEq, Int.reduceLT, Int.reduceLE, Int.reduceEq, Int.reduceAdd, Int.reduceSub, Int.reduceMul, Int.reduceMod, Int.reduceTMod, Int.reduceTDiv, Int.reduceNeg, Nat.reduceSub, Nat.reduceDiv, reduceIte, reduceCtorEq]
    · rintro e ⟨h2, h3, h5, h6, h7⟩ h8
      simp only [h2, h3, h5, h6, h7, h8, hc, hi, hi1, hrow, hld, q1, q2, u6, u7, Nat.mul_one, wk, wk1, wk2, Option.some.injEq, exists_eq_left', decide_true, decide_false, Nat.reduceAdd, Nat.reduceEqDiff, Nat.reduceLeDiff, Nat.reduceLT, Nat.reduceMul, Nat.reduceBEq, Int.reduceLT, Int.reduceLE, Int.reduceEq, Int.reduceAdd, Int.reduceSub, Int.reduceMul, Int.reduceMod, Int.reduceTMod, Int.reduceTDiv, Int.reduceNeg, Nat.reduceSub, Nat.reduceDiv, reduceIte, reduceCtorEq]
      have L2 := zer_loop (T := T) (Q := Q) (s := s) (p1 := p1) (p2 := p2) (y := y) hx0 hl hu hn.len (n := n + 1) (by have := hn.lt; omega) ?_ (l.length - (n + 1)) 0
      · refine L2 _ (by omega) ⟨?_, ?_, ?_, ?_, ?_⟩ ?_ ?_ <;> simp only [h2, h3, h5, h6, h7, u6, zer, wk, wk1, wk2, Option.some.injEq, exists_eq_left', decide_true, decide_false, Nat.reduceAdd, Nat.reduceEqDiff, Nat.reduceLeDiff, Nat.reduceLT, Nat.reduceMul, Nat.reduceBEq, Int.reduceLT, Int.reduceLE, Int.reduceEq, Int.reduceAdd, Int.reduceSub, Int.reduceMul, Int.reduceMod, Int.reduceTMod, Int.reduceTDiv, Int.reduceNeg, Nat.reduceSub, Nat.reduceDiv, reduceIte, reduceCtorEq]
      · rintro e ⟨h2, h3, h5, h6, h7⟩ h9
        rw [hzf] at h9
        simp only [h2, h3, h5, h6, h7, h9, u5, wk, wk1, wk2, Option.some.injEq, exists_eq_left', decide_true, decide_false, Nat.reduceAdd, Nat.reduceEqDiff, Nat.reduceLeDiff, Nat.reduceLT, Nat.reduceMul, Nat.reduceBEq, Int.reduceLT, Int.reduceLE, Int.reduceEq, Int.reduceAdd, Int.reduceSub, Int.reduceMul, Int.reduceMod, Int.reduceTMod, Int.reduceTDiv, Int.reduceNeg, Nat.reduceSub, Nat.reduceDiv, reduceIte, reduceCtorEq]
        refine ih (i + 1) _ (by omega) ⟨?_, ?_, ?_, ?_, ?_⟩ <;> simp only [h2, h3, h5, h6, h7, u5, wk, wk1, wk2, Option.some.injEq, exists_eq_left', decide_true, decide_false, Nat.reduceAdd, Nat.reduceEqDiff, Nat.reduceLeDiff, Nat.reduceLT, Nat.reduceMul, Nat.reduceBEq, Int.reduceLT, Int.reduceLE, Int.reduceEq, Int.reduceAdd, Int.reduceSub, Int.reduceMul, Int.reduceMod, Int.reduceTMod, Int.reduceTDiv, Int.reduceNeg, Nat.reduceSub, Nat.reduceDiv, reduceIte, reduceCtorEq]
end
end Go.V
