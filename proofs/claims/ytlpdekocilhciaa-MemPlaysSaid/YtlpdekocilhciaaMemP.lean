/- MemPlays over the small language. -/
import Derived.Test.YtlpdekocilhciaaMB
set_option linter.unusedVariables false
set_option linter.unusedSimpArgs false
set_option linter.unusedSectionVars false
/- MemPlays over the small language. -/
namespace Go.V
open Go
set_option linter.unusedSimpArgs false
set_option linter.unusedVariables false
open Go.V.KU
-- coxless/coxlesslaw24.MemPlays
def ir4 : IFunc := ⟨172, [.tmp 2], (.seq (.region [⟨some 2, none, [], (.move (.c (.bool false)))⟩] false)
 (.seq (.seq (.region [⟨some 12, none, [], (.move (.t 0))⟩, ⟨some 13, none, [], (.call 18 [(.t 12)])⟩] false)
 (.cond (.t 13) (.seq (.region [⟨some 14, none, [], (.call 19 [])⟩, ⟨some 2, none, [], (.move (.t 14))⟩] false)
 .ret) .skip))
 (.seq (.region [⟨some 15, none, [], (.call 12 [])⟩, ⟨some 3, none, [], (.move (.t 15))⟩] false)
 (.seq (.seq (.region [⟨some 16, none, [], (.move (.t 3))⟩, ⟨some 17, none, [], (.eq false (.nilable .ptr) (.t 16) (.c .nilPtr))⟩] false)
 (.cond (.t 17) (.seq (.region [⟨some 2, none, [], (.move (.c (.bool false)))⟩] false)
 .ret) .skip))
 (.seq (.region [⟨some 4, none, [], (.move (.c .nilSlice))⟩] false)
 (.seq (.seq (.region [⟨some 5, none, [], (.move (.c (.int .i64 0)))⟩] false)
 (.block 0 (.loop (.seq (.seq (.region [⟨some 18, none, [], (.move (.t 5))⟩, ⟨some 19, none, [], (.move (.t 0))⟩, ⟨some 20, none, [], (.lenSl (.t 19))⟩, ⟨some 21, none, [], (.bin .lss (.t 18) (.t 20))⟩] false)
 (.cond (.t 21) .skip (.exit 0)))
 (.seq (.block 1 (.seq (.region [⟨some 24, none, [], (.move (.t 0))⟩, ⟨some 25, none, [], (.move (.t 5))⟩, ⟨some 26, none, [], (.idxSl 5 (.t 24) (.t 25))⟩, ⟨some 27, none, [], (.load true 5 (.t 26))⟩, ⟨some 6, none, [], (.alloc [(.int .u8 0), (.int .u32 0), (.int .i64 0), (.int .u32 0), (.str [])])⟩, ⟨none, none, [], (.store 5 (.t 6) (.t 27))⟩] false)
 (.seq (.region [⟨some 28, none, [], (.fieldAddr 1 (.t 6))⟩, ⟨some 29, none, [], (.load false 1 (.t 28))⟩, ⟨some 30, none, [], (.fieldAddr 2 (.t 6))⟩, ⟨some 31, none, [], (.load false 1 (.t 30))⟩, ⟨some 32, none, [], (.call 20 [(.t 29), (.t 31)])⟩, ⟨some 7, none, [], (.move (.t 32))⟩] false)
 (.seq (.seq (.region [⟨some 33, none, [], (.fieldAddr 0 (.t 6))⟩, ⟨some 34, none, [], (.load false 1 (.t 33))⟩] false)
 (.block 2 (.seq (.region [⟨some 36, none, [], (.bin .eql (.t 34) (.c (.int .u8 0)))⟩, ⟨some 35, none, [], (.move (.t 36))⟩] false)
 (.cond (.t 35) (.seq (.seq (.region [⟨some 37, none, [], (.move (.t 3))⟩, ⟨some 38, none, [], (.fieldAddr 1 (.t 6))⟩, ⟨some 39, none, [], (.load false 1 (.t 38))⟩, ⟨some 40, none, [], (.fieldAddr 3 (.t 6))⟩, ⟨some 41, none, [], (.load false 1 (.t 40))⟩, ⟨some 42, none, [], (.conv (.intInt .u8) (.t 41))⟩, ⟨some 43, none, [], (.call 21 [(.t 37), (.t 39), (.t 42)])⟩, ⟨some 44, none, [], (.bin .neq (.t 43) (.c (.int .i64 0)))⟩] false)
 (.cond (.t 44) (.seq (.region [⟨some 2, none, [], (.move (.c (.bool false)))⟩] false)
 .ret) .skip))
 (.region [⟨some 45, none, [], (.move (.t 4))⟩, ⟨some 46, none, [], (.fieldAddr 1 (.t 6))⟩, ⟨some 47, none, [], (.load false 1 (.t 46))⟩, ⟨some 48, none, [], (.fieldAddr 3 (.t 6))⟩, ⟨some 49, none, [], (.load false 1 (.t 48))⟩, ⟨some 50, none, [], (.conv (.intInt .u8) (.t 49))⟩, ⟨some 51, none, [], (.call 22 [(.t 45), (.t 47), (.t 50)])⟩, ⟨some 4, none, [], (.move (.t 51))⟩] false)) (.seq (.region [⟨some 53, none, [], (.bin .eql (.t 34) (.c (.int .u8 1)))⟩, ⟨some 52, none, [], (.move (.t 53))⟩] false)
 (.cond (.t 52) (.seq (.seq (.region [⟨some 54, none, [], (.move (.t 3))⟩, ⟨some 55, none, [], (.fieldAddr 1 (.t 6))⟩, ⟨some 56, none, [], (.load false 1 (.t 55))⟩, ⟨some 57, none, [], (.fieldAddr 2 (.t 6))⟩, ⟨some 58, none, [], (.load false 1 (.t 57))⟩, ⟨some 59, none, [], (.fieldAddr 3 (.t 6))⟩, ⟨some 60, none, [], (.load false 1 (.t 59))⟩, ⟨some 61, none, [], (.call 16 [(.t 54), (.t 56), (.t 58), (.t 60)])⟩, ⟨some 62, none, [], (.bin .eql (.t 61) (.c (.int .i64 0)))⟩, ⟨some 63, none, [], (.move (.t 7))⟩, ⟨some 64, none, [], (.eq true (.prim .bool) (.t 62) (.t 63))⟩] false)
 (.cond (.t 64) (.seq (.region [⟨some 2, none, [], (.move (.c (.bool false)))⟩] false)
 .ret) .skip))
 (.seq (.region [⟨some 65, none, [], (.move (.t 7))⟩] false)
 (.cond (.t 65) (.region [⟨some 66, none, [], (.move (.t 4))⟩, ⟨some 67, none, [], (.fieldAddr 1 (.t 6))⟩, ⟨some 68, none, [], (.load false 1 (.t 67))⟩, ⟨some 69, none, [], (.fieldAddr 2 (.t 6))⟩, ⟨some 70, none, [], (.load false 1 (.t 69))⟩, ⟨some 71, none, [], (.fieldAddr 3 (.t 6))⟩, ⟨some 72, none, [], (.load false 1 (.t 71))⟩, ⟨some 73, none, [], (.call 23 [(.t 66), (.t 68), (.t 70), (.t 72)])⟩, ⟨some 4, none, [], (.move (.t 73))⟩] false) .skip))) (.seq (.region [⟨some 75, none, [], (.bin .eql (.t 34) (.c (.int .u8 2)))⟩, ⟨some 74, none, [], (.move (.t 75))⟩] false)
 (.cond (.t 74) (.seq (.region [⟨some 77, none, [], (.move (.t 3))⟩, ⟨some 78, none, [], (.fieldAddr 1 (.t 6))⟩, ⟨some 79, none, [], (.load false 1 (.t 78))⟩, ⟨some 80, none, [], (.fieldAddr 2 (.t 6))⟩, ⟨some 81, none, [], (.load false 1 (.t 80))⟩, ⟨some 82, none, [], (.call 14 [(.t 77), (.t 79), (.t 81)])⟩, ⟨some 76, none, [], (.move (.t 82))⟩, ⟨some 83, none, [], (.extract (.t 76) 0)⟩, ⟨some 84, none, [], (.extract (.t 76) 1)⟩, ⟨some 8, none, [], (.move (.t 83))⟩, ⟨some 9, none, [], (.move (.t 84))⟩] false)
 (.seq (.region [⟨some 85, none, [], (.move (.t 9))⟩, ⟨some 86, none, [], (.bin .eql (.t 85) (.c (.int .i64 0)))⟩, ⟨some 87, none, [], (.move (.t 7))⟩, ⟨some 88, none, [], (.eq true (.prim .bool) (.t 86) (.t 87))⟩, ⟨some 89, none, [], (.move (.t 88))⟩, ⟨some 90, some (89, false), [], (.move (.t 7))⟩, ⟨some 91, some (89, false), [], (.move (.t 90))⟩, ⟨some 92, some (91, true), [], (.move (.t 8))⟩, ⟨some 93, some (91, true), [], (.move (.t 4))⟩, ⟨some 94, some (91, true), [], (.fieldAddr 1 (.t 6))⟩, ⟨some 95, some (91, true), [], (.load false 1 (.t 94))⟩, ⟨some 96, some (91, true), [], (.fieldAddr 2 (.t 6))⟩, ⟨some 97, some (91, true), [], (.load false 1 (.t 96))⟩, ⟨some 98, some (91, true), [], (.call 24 [(.t 93), (.t 95), (.t 97)])⟩, ⟨some 99, some (91, true), [], (.bin .neq (.t 92) (.t 98))⟩, ⟨some 100, some (89, false), [], (.pick (.t 91) (.t 99) (.c (.bool false)))⟩, ⟨some 101, none, [], (.pick (.t 89) (.c (.bool true)) (.t 100))⟩, ⟨some 102, none, [], (.move (.t 101))⟩, ⟨some 103, some (102, false), [], (.move (.t 7))⟩, ⟨some 104, some (102, false), [], (.un .not (.t 103))⟩, ⟨some 105, some (102, false), [], (.move (.t 104))⟩, ⟨some 106, some (105, true), [], (.move (.t 8))⟩, ⟨some 107, some (105, true), [], (.bin .neq (.t 106) (.c (.int .u32 0)))⟩, ⟨some 108, some (105, true), [], (.move (.t 107))⟩, ⟨some 109, some (108, false), [], (.move (.t 9))⟩, ⟨some 110, some (108, false), [], (.bin .neq (.t 109) (.c (.int .i64 1)))⟩, ⟨some 111, some (105, true), [], (.pick (.t 108) (.c (.bool true)) (.t 110))⟩, ⟨some 112, some (102, false), [], (.pick (.t 105) (.t 111) (.c (.bool false)))⟩, ⟨some 113, none, [], (.pick (.t 102) (.c (.bool true)) (.t 112))⟩] false)
 (.cond (.t 113) (.seq (.region [⟨some 2, none, [], (.move (.c (.bool false)))⟩] false)
 .ret) .skip))) (.seq (.region [⟨some 115, none, [], (.bin .eql (.t 34) (.c (.int .u8 3)))⟩, ⟨some 114, none, [], (.move (.t 115))⟩] false)
 (.cond (.t 114) (.seq (.region [⟨some 116, none, [], (.fieldAddr 1 (.t 6))⟩, ⟨some 117, none, [], (.load false 1 (.t 116))⟩, ⟨some 118, none, [], (.conv (.intInt .u64) (.t 117))⟩, ⟨some 119, none, [], (.fieldAddr 4 (.t 6))⟩, ⟨some 120, none, [], (.load false 1 (.t 119))⟩, ⟨some 121, none, [], (.lenStr (.t 120))⟩, ⟨some 122, none, [], (.conv (.intInt .u64) (.t 121))⟩, ⟨some 123, none, [], (.bin .add (.t 118) (.t 122))⟩, ⟨some 124, none, [], (.bin .leq (.t 123) (.c (.int .u64 4294967296)))⟩, ⟨some 10, none, [], (.move (.t 124))⟩] false)
 (.seq (.seq (.region [⟨some 125, none, [], (.move (.t 3))⟩, ⟨some 126, none, [], (.fieldAddr 1 (.t 6))⟩, ⟨some 127, none, [], (.load false 1 (.t 126))⟩, ⟨some 128, none, [], (.fieldAddr 4 (.t 6))⟩, ⟨some 129, none, [], (.load false 1 (.t 128))⟩, ⟨some 130, none, [], (.conv .strBytes (.t 129))⟩, ⟨some 131, none, [], (.call 25 [(.t 125), (.t 127), (.t 130)])⟩, ⟨some 132, none, [], (.bin .eql (.t 131) (.c (.int .i64 0)))⟩, ⟨some 133, none, [], (.move (.t 10))⟩, ⟨some 134, none, [], (.eq true (.prim .bool) (.t 132) (.t 133))⟩] false)
 (.cond (.t 134) (.seq (.region [⟨some 2, none, [], (.move (.c (.bool false)))⟩] false)
 .ret) .skip))
 (.seq (.region [⟨some 11, none, [], (.move (.c (.int .i64 0)))⟩] false)
 (.block 3 (.loop (.seq (.seq (.region [⟨some 135, none, [], (.move (.t 11))⟩, ⟨some 136, none, [], (.fieldAddr 4 (.t 6))⟩, ⟨some 137, none, [], (.load false 1 (.t 136))⟩, ⟨some 138, none, [], (.lenStr (.t 137))⟩, ⟨some 139, none, [], (.bin .lss (.t 135) (.t 138))⟩, ⟨some 140, none, [], (.move (.t 139))⟩, ⟨some 141, some (140, true), [], (.move (.t 10))⟩, ⟨some 142, none, [], (.pick (.t 140) (.t 141) (.c (.bool false)))⟩] false)
 (.cond (.t 142) .skip (.exit 3)))
 (.seq (.block 4 (.region [⟨some 145, none, [], (.move (.t 4))⟩, ⟨some 146, none, [], (.fieldAddr 1 (.t 6))⟩, ⟨some 147, none, [], (.load false 1 (.t 146))⟩, ⟨some 148, none, [], (.move (.t 11))⟩, ⟨some 149, none, [], (.conv (.intInt .u32) (.t 148))⟩, ⟨some 150, none, [], (.bin .add (.t 147) (.t 149))⟩, ⟨some 151, none, [], (.fieldAddr 4 (.t 6))⟩, ⟨some 152, none, [], (.load false 1 (.t 151))⟩, ⟨some 153, none, [], (.move (.t 11))⟩, ⟨some 154, none, [], (.idxStr (.t 152) (.t 153))⟩, ⟨some 155, none, [], (.call 22 [(.t 145), (.t 150), (.t 154)])⟩, ⟨some 4, none, [], (.move (.t 155))⟩] true))
 (.region [⟨some 143, none, [], (.move (.t 11))⟩, ⟨some 144, none, [], (.bin .add (.t 143) (.c (.int .i64 1)))⟩, ⟨some 11, none, [], (.move (.t 144))⟩] false)))))))) .skip))))))))))
 (.seq (.region [⟨some 156, none, [], (.move (.t 3))⟩, ⟨some 157, none, [], (.fieldAddr 1 (.t 6))⟩, ⟨some 158, none, [], (.load false 1 (.t 157))⟩, ⟨some 160, none, [], (.move (.t 4))⟩, ⟨some 161, none, [], (.fieldAddr 1 (.t 6))⟩, ⟨some 162, none, [], (.load false 1 (.t 161))⟩, ⟨some 159, none, [(.t 161)], (.call 26 [(.t 156), (.t 158)])⟩, ⟨some 163, none, [], (.call 27 [(.t 160), (.t 162)])⟩, ⟨some 164, none, [], (.bin .neq (.t 159) (.t 163))⟩] true)
 (.cond (.t 164) (.seq (.region [⟨some 2, none, [], (.move (.c (.bool false)))⟩] false)
 .ret) .skip))))))
 (.region [⟨some 22, none, [], (.move (.t 5))⟩, ⟨some 23, none, [], (.bin .add (.t 22) (.c (.int .i64 1)))⟩, ⟨some 5, none, [], (.move (.t 23))⟩] false))))))
 (.seq (.region [⟨some 165, none, [], (.move (.t 3))⟩, ⟨some 166, none, [], (.call 29 [(.t 165)])⟩, ⟨some 167, none, [], (.move (.t 4))⟩, ⟨some 168, none, [], (.call 28 [(.t 166), (.t 167)])⟩, ⟨some 169, none, [], (.move (.t 168))⟩, ⟨some 170, some (169, true), [], (.call 19 [])⟩, ⟨some 171, none, [], (.pick (.t 169) (.t 170) (.c (.bool false)))⟩, ⟨some 2, none, [], (.move (.t 171))⟩] false)
 .ret)))))))⟩
abbrev PLI : ICode := ((.region [⟨some 22, none, [], (.move (.t 5))⟩, ⟨some 23, none, [], (.bin .add (.t 22) (.c (.int .i64 1)))⟩, ⟨some 5, none, [], (.move (.t 23))⟩] false))
abbrev PLY : ICode := ((.seq (.seq (.region [⟨some 18, none, [], (.move (.t 5))⟩, ⟨some 19, none, [], (.move (.t 0))⟩, ⟨some 20, none, [], (.lenSl (.t 19))⟩, ⟨some 21, none, [], (.bin .lss (.t 18) (.t 20))⟩] false)
 (.cond (.t 21) .skip (.exit 0)))
 (.seq (.block 1 (.seq (.region [⟨some 24, none, [], (.move (.t 0))⟩, ⟨some 25, none, [], (.move (.t 5))⟩, ⟨some 26, none, [], (.idxSl 5 (.t 24) (.t 25))⟩, ⟨some 27, none, [], (.load true 5 (.t 26))⟩, ⟨some 6, none, [], (.alloc [(.int .u8 0), (.int .u32 0), (.int .i64 0), (.int .u32 0), (.str [])])⟩, ⟨none, none, [], (.store 5 (.t 6) (.t 27))⟩] false)
 (.seq (.region [⟨some 28, none, [], (.fieldAddr 1 (.t 6))⟩, ⟨some 29, none, [], (.load false 1 (.t 28))⟩, ⟨some 30, none, [], (.fieldAddr 2 (.t 6))⟩, ⟨some 31, none, [], (.load false 1 (.t 30))⟩, ⟨some 32, none, [], (.call 20 [(.t 29), (.t 31)])⟩, ⟨some 7, none, [], (.move (.t 32))⟩] false)
 (.seq (.seq (.region [⟨some 33, none, [], (.fieldAddr 0 (.t 6))⟩, ⟨some 34, none, [], (.load false 1 (.t 33))⟩] false)
 (.block 2 (.seq (.region [⟨some 36, none, [], (.bin .eql (.t 34) (.c (.int .u8 0)))⟩, ⟨some 35, none, [], (.move (.t 36))⟩] false)
 (.cond (.t 35) (.seq (.seq (.region [⟨some 37, none, [], (.move (.t 3))⟩, ⟨some 38, none, [], (.fieldAddr 1 (.t 6))⟩, ⟨some 39, none, [], (.load false 1 (.t 38))⟩, ⟨some 40, none, [], (.fieldAddr 3 (.t 6))⟩, ⟨some 41, none, [], (.load false 1 (.t 40))⟩, ⟨some 42, none, [], (.conv (.intInt .u8) (.t 41))⟩, ⟨some 43, none, [], (.call 21 [(.t 37), (.t 39), (.t 42)])⟩, ⟨some 44, none, [], (.bin .neq (.t 43) (.c (.int .i64 0)))⟩] false)
 (.cond (.t 44) (.seq (.region [⟨some 2, none, [], (.move (.c (.bool false)))⟩] false)
 .ret) .skip))
 (.region [⟨some 45, none, [], (.move (.t 4))⟩, ⟨some 46, none, [], (.fieldAddr 1 (.t 6))⟩, ⟨some 47, none, [], (.load false 1 (.t 46))⟩, ⟨some 48, none, [], (.fieldAddr 3 (.t 6))⟩, ⟨some 49, none, [], (.load false 1 (.t 48))⟩, ⟨some 50, none, [], (.conv (.intInt .u8) (.t 49))⟩, ⟨some 51, none, [], (.call 22 [(.t 45), (.t 47), (.t 50)])⟩, ⟨some 4, none, [], (.move (.t 51))⟩] false)) (.seq (.region [⟨some 53, none, [], (.bin .eql (.t 34) (.c (.int .u8 1)))⟩, ⟨some 52, none, [], (.move (.t 53))⟩] false)
 (.cond (.t 52) (.seq (.seq (.region [⟨some 54, none, [], (.move (.t 3))⟩, ⟨some 55, none, [], (.fieldAddr 1 (.t 6))⟩, ⟨some 56, none, [], (.load false 1 (.t 55))⟩, ⟨some 57, none, [], (.fieldAddr 2 (.t 6))⟩, ⟨some 58, none, [], (.load false 1 (.t 57))⟩, ⟨some 59, none, [], (.fieldAddr 3 (.t 6))⟩, ⟨some 60, none, [], (.load false 1 (.t 59))⟩, ⟨some 61, none, [], (.call 16 [(.t 54), (.t 56), (.t 58), (.t 60)])⟩, ⟨some 62, none, [], (.bin .eql (.t 61) (.c (.int .i64 0)))⟩, ⟨some 63, none, [], (.move (.t 7))⟩, ⟨some 64, none, [], (.eq true (.prim .bool) (.t 62) (.t 63))⟩] false)
 (.cond (.t 64) (.seq (.region [⟨some 2, none, [], (.move (.c (.bool false)))⟩] false)
 .ret) .skip))
 (.seq (.region [⟨some 65, none, [], (.move (.t 7))⟩] false)
 (.cond (.t 65) (.region [⟨some 66, none, [], (.move (.t 4))⟩, ⟨some 67, none, [], (.fieldAddr 1 (.t 6))⟩, ⟨some 68, none, [], (.load false 1 (.t 67))⟩, ⟨some 69, none, [], (.fieldAddr 2 (.t 6))⟩, ⟨some 70, none, [], (.load false 1 (.t 69))⟩, ⟨some 71, none, [], (.fieldAddr 3 (.t 6))⟩, ⟨some 72, none, [], (.load false 1 (.t 71))⟩, ⟨some 73, none, [], (.call 23 [(.t 66), (.t 68), (.t 70), (.t 72)])⟩, ⟨some 4, none, [], (.move (.t 73))⟩] false) .skip))) (.seq (.region [⟨some 75, none, [], (.bin .eql (.t 34) (.c (.int .u8 2)))⟩, ⟨some 74, none, [], (.move (.t 75))⟩] false)
 (.cond (.t 74) (.seq (.region [⟨some 77, none, [], (.move (.t 3))⟩, ⟨some 78, none, [], (.fieldAddr 1 (.t 6))⟩, ⟨some 79, none, [], (.load false 1 (.t 78))⟩, ⟨some 80, none, [], (.fieldAddr 2 (.t 6))⟩, ⟨some 81, none, [], (.load false 1 (.t 80))⟩, ⟨some 82, none, [], (.call 14 [(.t 77), (.t 79), (.t 81)])⟩, ⟨some 76, none, [], (.move (.t 82))⟩, ⟨some 83, none, [], (.extract (.t 76) 0)⟩, ⟨some 84, none, [], (.extract (.t 76) 1)⟩, ⟨some 8, none, [], (.move (.t 83))⟩, ⟨some 9, none, [], (.move (.t 84))⟩] false)
 (.seq (.region [⟨some 85, none, [], (.move (.t 9))⟩, ⟨some 86, none, [], (.bin .eql (.t 85) (.c (.int .i64 0)))⟩, ⟨some 87, none, [], (.move (.t 7))⟩, ⟨some 88, none, [], (.eq true (.prim .bool) (.t 86) (.t 87))⟩, ⟨some 89, none, [], (.move (.t 88))⟩, ⟨some 90, some (89, false), [], (.move (.t 7))⟩, ⟨some 91, some (89, false), [], (.move (.t 90))⟩, ⟨some 92, some (91, true), [], (.move (.t 8))⟩, ⟨some 93, some (91, true), [], (.move (.t 4))⟩, ⟨some 94, some (91, true), [], (.fieldAddr 1 (.t 6))⟩, ⟨some 95, some (91, true), [], (.load false 1 (.t 94))⟩, ⟨some 96, some (91, true), [], (.fieldAddr 2 (.t 6))⟩, ⟨some 97, some (91, true), [], (.load false 1 (.t 96))⟩, ⟨some 98, some (91, true), [], (.call 24 [(.t 93), (.t 95), (.t 97)])⟩, ⟨some 99, some (91, true), [], (.bin .neq (.t 92) (.t 98))⟩, ⟨some 100, some (89, false), [], (.pick (.t 91) (.t 99) (.c (.bool false)))⟩, ⟨some 101, none, [], (.pick (.t 89) (.c (.bool true)) (.t 100))⟩, ⟨some 102, none, [], (.move (.t 101))⟩, ⟨some 103, some (102, false), [], (.move (.t 7))⟩, ⟨some 104, some (102, false), [], (.un .not (.t 103))⟩, ⟨some 105, some (102, false), [], (.move (.t 104))⟩, ⟨some 106, some (105, true), [], (.move (.t 8))⟩, ⟨some 107, some (105, true), [], (.bin .neq (.t 106) (.c (.int .u32 0)))⟩, ⟨some 108, some (105, true), [], (.move (.t 107))⟩, ⟨some 109, some (108, false), [], (.move (.t 9))⟩, ⟨some 110, some (108, false), [], (.bin .neq (.t 109) (.c (.int .i64 1)))⟩, ⟨some 111, some (105, true), [], (.pick (.t 108) (.c (.bool true)) (.t 110))⟩, ⟨some 112, some (102, false), [], (.pick (.t 105) (.t 111) (.c (.bool false)))⟩, ⟨some 113, none, [], (.pick (.t 102) (.c (.bool true)) (.t 112))⟩] false)
 (.cond (.t 113) (.seq (.region [⟨some 2, none, [], (.move (.c (.bool false)))⟩] false)
 .ret) .skip))) (.seq (.region [⟨some 115, none, [], (.bin .eql (.t 34) (.c (.int .u8 3)))⟩, ⟨some 114, none, [], (.move (.t 115))⟩] false)
 (.cond (.t 114) (.seq (.region [⟨some 116, none, [], (.fieldAddr 1 (.t 6))⟩, ⟨some 117, none, [], (.load false 1 (.t 116))⟩, ⟨some 118, none, [], (.conv (.intInt .u64) (.t 117))⟩, ⟨some 119, none, [], (.fieldAddr 4 (.t 6))⟩, ⟨some 120, none, [], (.load false 1 (.t 119))⟩, ⟨some 121, none, [], (.lenStr (.t 120))⟩, ⟨some 122, none, [], (.conv (.intInt .u64) (.t 121))⟩, ⟨some 123, none, [], (.bin .add (.t 118) (.t 122))⟩, ⟨some 124, none, [], (.bin .leq (.t 123) (.c (.int .u64 4294967296)))⟩, ⟨some 10, none, [], (.move (.t 124))⟩] false)
 (.seq (.seq (.region [⟨some 125, none, [], (.move (.t 3))⟩, ⟨some 126, none, [], (.fieldAddr 1 (.t 6))⟩, ⟨some 127, none, [], (.load false 1 (.t 126))⟩, ⟨some 128, none, [], (.fieldAddr 4 (.t 6))⟩, ⟨some 129, none, [], (.load false 1 (.t 128))⟩, ⟨some 130, none, [], (.conv .strBytes (.t 129))⟩, ⟨some 131, none, [], (.call 25 [(.t 125), (.t 127), (.t 130)])⟩, ⟨some 132, none, [], (.bin .eql (.t 131) (.c (.int .i64 0)))⟩, ⟨some 133, none, [], (.move (.t 10))⟩, ⟨some 134, none, [], (.eq true (.prim .bool) (.t 132) (.t 133))⟩] false)
 (.cond (.t 134) (.seq (.region [⟨some 2, none, [], (.move (.c (.bool false)))⟩] false)
 .ret) .skip))
 (.seq (.region [⟨some 11, none, [], (.move (.c (.int .i64 0)))⟩] false)
 (.block 3 (.loop (.seq (.seq (.region [⟨some 135, none, [], (.move (.t 11))⟩, ⟨some 136, none, [], (.fieldAddr 4 (.t 6))⟩, ⟨some 137, none, [], (.load false 1 (.t 136))⟩, ⟨some 138, none, [], (.lenStr (.t 137))⟩, ⟨some 139, none, [], (.bin .lss (.t 135) (.t 138))⟩, ⟨some 140, none, [], (.move (.t 139))⟩, ⟨some 141, some (140, true), [], (.move (.t 10))⟩, ⟨some 142, none, [], (.pick (.t 140) (.t 141) (.c (.bool false)))⟩] false)
 (.cond (.t 142) .skip (.exit 3)))
 (.seq (.block 4 (.region [⟨some 145, none, [], (.move (.t 4))⟩, ⟨some 146, none, [], (.fieldAddr 1 (.t 6))⟩, ⟨some 147, none, [], (.load false 1 (.t 146))⟩, ⟨some 148, none, [], (.move (.t 11))⟩, ⟨some 149, none, [], (.conv (.intInt .u32) (.t 148))⟩, ⟨some 150, none, [], (.bin .add (.t 147) (.t 149))⟩, ⟨some 151, none, [], (.fieldAddr 4 (.t 6))⟩, ⟨some 152, none, [], (.load false 1 (.t 151))⟩, ⟨some 153, none, [], (.move (.t 11))⟩, ⟨some 154, none, [], (.idxStr (.t 152) (.t 153))⟩, ⟨some 155, none, [], (.call 22 [(.t 145), (.t 150), (.t 154)])⟩, ⟨some 4, none, [], (.move (.t 155))⟩] true))
 (.region [⟨some 143, none, [], (.move (.t 11))⟩, ⟨some 144, none, [], (.bin .add (.t 143) (.c (.int .i64 1)))⟩, ⟨some 11, none, [], (.move (.t 144))⟩] false)))))))) .skip))))))))))
 (.seq (.region [⟨some 156, none, [], (.move (.t 3))⟩, ⟨some 157, none, [], (.fieldAddr 1 (.t 6))⟩, ⟨some 158, none, [], (.load false 1 (.t 157))⟩, ⟨some 160, none, [], (.move (.t 4))⟩, ⟨some 161, none, [], (.fieldAddr 1 (.t 6))⟩, ⟨some 162, none, [], (.load false 1 (.t 161))⟩, ⟨some 159, none, [(.t 161)], (.call 26 [(.t 156), (.t 158)])⟩, ⟨some 163, none, [], (.call 27 [(.t 160), (.t 162)])⟩, ⟨some 164, none, [], (.bin .neq (.t 159) (.t 163))⟩] true)
 (.cond (.t 164) (.seq (.region [⟨some 2, none, [], (.move (.c (.bool false)))⟩] false)
 .ret) .skip))))))
 (.region [⟨some 22, none, [], (.move (.t 5))⟩, ⟨some 23, none, [], (.bin .add (.t 22) (.c (.int .i64 1)))⟩, ⟨some 5, none, [], (.move (.t 23))⟩] false))))
def PLA : List Fr := [.seq (.seq (.region [⟨some 165, none, [], (.move (.t 3))⟩, ⟨some 166, none, [], (.call 29 [(.t 165)])⟩, ⟨some 167, none, [], (.move (.t 4))⟩, ⟨some 168, none, [], (.call 28 [(.t 166), (.t 167)])⟩, ⟨some 169, none, [], (.move (.t 168))⟩, ⟨some 170, some (169, true), [], (.call 19 [])⟩, ⟨some 171, none, [], (.pick (.t 169) (.t 170) (.c (.bool false)))⟩, ⟨some 2, none, [], (.move (.t 171))⟩] false)
 .ret)]
structure RefTab (T : Tab) : Prop where
  get : T 27 = some (.code ir27)
  put : T 22 = some (.code ir22)
  right : T 20 = some (.code ir20)
  word : T 24 = some (.code ir24)
  store : T 23 = some (.code ir23)
  same : T 28 = some (.code ir28)
def actV (a : Act) : AObj := .cells [.int .u8 (a.d : Int), .int .u32 (a.k : Int), .int .i64 a.n, .int .u32 (a.v : Int), .str a.b] 0 0 false
theorem same_act (a : Act) : sameObj (some (actV a)) (some (actV a)) = true := by
  simp [sameObj, actV, AObj.beq, AV.beqs, AV.beq, bytesEq_dec]
theorem eq_bool2 (a b : Bool) : eqV (.prim .bool) (.bool a) (.bool b) = some (a == b) := rfl
theorem goCall_w {T : Tab} {Q : Post} {d : Bool} {dst : Option Nat} {x : Opd} {f : FuncId} {args : List AV} {K : AV → St → Prop} {l : List IOp} {fs : List Fr} {e : Env} {s : St} (h : Ran T f args s K) (hk : ∀ v s', K v s' → watchOk e s s' [x] = true ∧ GoOps T Q d l fs (putV e dst v) s') : GoCall T Q d dst [x] f args l fs e s :=
  goCall (h.mono hk)
section
variable {T : Tab}
set_option maxHeartbeats 8000000 in
theorem bload_loop (hR : RefTab T) {Q : Post} {s2 : St} {bb pm pa c i : Nat} {L : List ME} {x : AV} {a : Act} (hb : bb ≤ s2.next) (hpa : pa < s2.next) (hact : s2.heap.get pa = some (actV a)) (hM : MOk L c) (hcl : c ≤ 100000) (hfit : a.k + a.b.length ≤ 4294967296) (hbl : a.b.length ≤ 60)
    (K : ∀ (e : Env) (s : St) (y : AV) (W : List Pr), Ext s2 s → Slc bb s 2 W.length y (encW W) → Rep W (loadN a.k a.b a.b.length (L, c)).1 → opd e (.t 0) = x → opd e (.t 3) = mptr pm → opd e (.t 4) = y → opd e (.t 5) = .int .i64 (i : Int) → opd e (.t 6) = .ptr ⟨pa, 0, 0, 5⟩ → Ret T Q (.block 2 :: .seq ((.seq (.region [⟨some 156, none, [], (.move (.t 3))⟩, ⟨some 157, none, [], (.fieldAddr 1 (.t 6))⟩, ⟨some 158, none, [], (.load false 1 (.t 157))⟩, ⟨some 160, none, [], (.move (.t 4))⟩, ⟨some 161, none, [], (.fieldAddr 1 (.t 6))⟩, ⟨some 162, none, [], (.load false 1 (.t 161))⟩, ⟨some 159, none, [(.t 161)], (.call 26 [(.t 156), (.t 158)])⟩, ⟨some 163, none, [], (.call 27 [(.t 160), (.t 162)])⟩, ⟨some 164, none, [], (.bin .neq (.t 159) (.t 163))⟩] true)
 (.cond (.t 164) (.seq (.region [⟨some 2, none, [], (.move (.c (.bool false)))⟩] false)
 .ret) .skip))) :: .block 1 :: .seq PLI :: .loop PLY :: .block 0 :: PLA) .normal e s) :
    ∀ (m j : Nat) (e : Env) (s : St) (y : AV) (W : List Pr), m + j = a.b.length → Ext s2 s → Slc bb s 2 W.length y (encW W) → Rep W (loadN a.k a.b j (L, c)).1 → opd e (.t 0) = x → opd e (.t 3) = mptr pm → opd e (.t 4) = y → opd e (.t 5) = .int .i64 (i : Int) → opd e (.t 6) = .ptr ⟨pa, 0, 0, 5⟩ → opd e (.t 10) = .bool true → opd e (.t 11) = .int .i64 (j : Int) →
      Go T Q ((.loop (.seq (.seq (.region [⟨some 135, none, [], (.move (.t 11))⟩, ⟨some 136, none, [], (.fieldAddr 4 (.t 6))⟩, ⟨some 137, none, [], (.load false 1 (.t 136))⟩, ⟨some 138, none, [], (.lenStr (.t 137))⟩, ⟨some 139, none, [], (.bin .lss (.t 135) (.t 138))⟩, ⟨some 140, none, [], (.move (.t 139))⟩, ⟨some 141, some (140, true), [], (.move (.t 10))⟩, ⟨some 142, none, [], (.pick (.t 140) (.t 141) (.c (.bool false)))⟩] false)
 (.cond (.t 142) .skip (.exit 3)))
 (.seq (.block 4 (.region [⟨some 145, none, [], (.move (.t 4))⟩, ⟨some 146, none, [], (.fieldAddr 1 (.t 6))⟩, ⟨some 147, none, [], (.load false 1 (.t 146))⟩, ⟨some 148, none, [], (.move (.t 11))⟩, ⟨some 149, none, [], (.conv (.intInt .u32) (.t 148))⟩, ⟨some 150, none, [], (.bin .add (.t 147) (.t 149))⟩, ⟨some 151, none, [], (.fieldAddr 4 (.t 6))⟩, ⟨some 152, none, [], (.load false 1 (.t 151))⟩, ⟨some 153, none, [], (.move (.t 11))⟩, ⟨some 154, none, [], (.idxStr (.t 152) (.t 153))⟩, ⟨some 155, none, [], (.call 22 [(.t 145), (.t 150), (.t 154)])⟩, ⟨some 4, none, [], (.move (.t 155))⟩] true))
 (.region [⟨some 143, none, [], (.move (.t 11))⟩, ⟨some 144, none, [], (.bin .add (.t 143) (.c (.int .i64 1)))⟩, ⟨some 11, none, [], (.move (.t 144))⟩] false))))) (.block 3 :: .block 2 :: .seq ((.seq (.region [⟨some 156, none, [], (.move (.t 3))⟩, ⟨some 157, none, [], (.fieldAddr 1 (.t 6))⟩, ⟨some 158, none, [], (.load false 1 (.t 157))⟩, ⟨some 160, none, [], (.move (.t 4))⟩, ⟨some 161, none, [], (.fieldAddr 1 (.t 6))⟩, ⟨some 162, none, [], (.load false 1 (.t 161))⟩, ⟨some 159, none, [(.t 161)], (.call 26 [(.t 156), (.t 158)])⟩, ⟨some 163, none, [], (.call 27 [(.t 160), (.t 162)])⟩, ⟨some 164, none, [], (.bin .neq (.t 159) (.t 163))⟩] true)
 (.cond (.t 164) (.seq (.region [⟨some 2, none, [], (.move (.c (.bool false)))⟩] false)
 .ret) .skip))) :: .block 1 :: .seq PLI :: .loop PLY :: .block 0 :: PLA) e s := by
  intro m
  induction m with
  | zero =>
    intro j e s y W hm hE hy hRp h0 h3 h4 h5 h6 h10 h11
    have hin : j = a.b.length := by omega
    subst hin
    have hA : s.heap.get pa = some (actV a) := by rw [hE.2.2 pa hpa]; exact hact
    unfold actV at hA
    rw [go_loop]
    generalize ((.block 2 :: .seq ((.seq (.region [⟨some 156, none, [], (.move (.t 3))⟩, ⟨some 157, none, [], (.fieldAddr 1 (.t 6))⟩, ⟨some 158, none, [], (.load false 1 (.t 157))⟩, ⟨some 160, none, [], (.move (.t 4))⟩, ⟨some 161, none, [], (.fieldAddr 1 (.t 6))⟩, ⟨some 162, none, [], (.load false 1 (.t 161))⟩, ⟨some 159, none, [(.t 161)], (.call 26 [(.t 156), (.t 158)])⟩, ⟨some 163, none, [], (.call 27 [(.t 160), (.t 162)])⟩, ⟨some 164, none, [], (.bin .neq (.t 159) (.t 163))⟩] true)
 (.cond (.t 164) (.seq (.region [⟨some 2, none, [], (.move (.c (.bool false)))⟩] false)
 .ret) .skip))) :: .block 1 :: .seq PLI :: .loop PLY :: .block 0 :: PLA) : List Fr) = FF at *
    simp only [h6, h10, h11, hA, wk, wk1, wk2, Option.some.injEq, exists_eq_left', decide_true, decide_false, Nat.reduceAdd, Nat.reduceEqDiff, Nat.reduceLeDiff, Nat.reduceLT, Nat.reduceMul, Nat.reduceBEq, Int.reduceLT, Int.reduceLE, Int.reduceEq, Int.reduceAdd, Int.reduceSub, Int.reduceMul, Int.reduceMod, Int.reduceTMod, Int.reduceTDiv, Int.reduceNeg, Nat.reduceSub, Nat.reduceDiv, reduceIte, reduceCtorEq]
    refine K _ s y W hE hy hRp ?_ ?_ ?_ ?_ ?_ <;> simp only [h0, h3, h4, h5, h6, wk, wk1, Nat.reduceEqDiff, reduceIte, decide_true]
  | succ m ih =>
    intro j e s y W hm hE hy hRp h0 h3 h4 h5 h6 h10 h11
    have hj : j < a.b.length := by omega
    have hA : s.heap.get pa = some (actV a) := by rw [hE.2.2 pa hpa]; exact hact
    unfold actV at hA
    have hMj := loadN_ok (bs := a.b) (n := j) hM (k := a.k) (by omega)
    have hclk := loadN_clk a.k a.b (L, c) j
    have hwl := hRp.len hMj
    have hc : (j : Int) < (a.b.length : Int) := by omega
    have u1 : (j : Int) % 4294967296 = (j : Int) := by omega
    have u2 : ((a.k : Int) + (j : Int)) % 4294967296 = ((a.k + j : Nat) : Int) := by omega
    have u5 : wrapF .i64 ((j : Int) + 1) = ((j + 1 : Nat) : Int) := i64_add1 (by omega)
    obtain ⟨q, hq⟩ : ∃ q, a.b[j]? = some q := ⟨_, List.getElem?_eq_getElem hj⟩
    have hqd : a.b.getD j 0 = q := by rw [List.getD_eq_getElem?_getD, hq]; rfl
    rw [go_loop]
    simp only [h0, h3, h4, h5, h6, h10, h11, hA, hc, hq, u1, u2, wk, wk1, wk2, Option.some.injEq, exists_eq_left', decide_true, decide_false, Nat.reduceAdd, Nat.reduceEqDiff, Nat.reduceLeDiff, Nat.reduceLT, Nat.reduceMul, Nat.reduceBEq, Int.reduceLT, Int.reduceLE, Int.reduceEq, Int.reduceAdd, Int.reduceSub, Int.reduceMul, Int.reduceMod, Int.reduceTMod, Int.reduceTDiv, Int.reduceNeg, Nat.reduceSub, Nat.reduceDiv, reduceIte, reduceCtorEq]
    refine goCall_by (rput_ran hR.put (a.k + j) q.toNat hE.1 (by simp only [] at hclk; omega) hy) ?_
    rintro y' s' ⟨hE', hy'⟩
    simp only [h0, h3, h4, h5, h6, h10, h11, u5, wk, wk1, wk2, Option.some.injEq, exists_eq_left', decide_true, decide_false, Nat.reduceAdd, Nat.reduceEqDiff, Nat.reduceLeDiff, Nat.reduceLT, Nat.reduceMul, Nat.reduceBEq, Int.reduceLT, Int.reduceLE, Int.reduceEq, Int.reduceAdd, Int.reduceSub, Int.reduceMul, Int.reduceMod, Int.reduceTMod, Int.reduceTDiv, Int.reduceNeg, Nat.reduceSub, Nat.reduceDiv, reduceIte, reduceCtorEq]
    refine ih (j + 1) _ s' y' (wput W (a.k + j) q.toNat) (by omega) (hE.trans hE') (hy'.mono (Nat.le_trans hb hE.2.1)) ?_ ?_ ?_ ?_ ?_ ?_ ?_ ?_
    · have := hRp.put hMj (a.k + j) q.toNat
      simp only [loadN, hqd]
      exact this
    all_goals simp only [h0, h3, h4, h5, h6, h10, h11, u5, wk, wk1, Nat.reduceEqDiff, reduceIte, decide_true]

/-- Where the law's loop stands. -/
structure PlaysAt (b pm r c0 i : Nat) (s0 s : St) (x y : AV) (L : List ME) (c : Nat) (W : List Pr) : Prop where
  mem : MemAt s pm r L c
  clk : c ≤ c0 + 60 * i
  only : Only r s0 s
  rep : Rep W L
  row : Slc b s 2 W.length y (encW W)
set_option maxHeartbeats 16000000 in
theorem plays_loop (hT : DoTab T) (hR : RefTab T) {Q : Post} {s0 : St} {bnd b pm r : Nat} {x : AV} {l : List Act} (hl : l.length ≤ 60) (hb : ∀ a ∈ l, a.b.length ≤ 60) (hx : Acts bnd s0 x l) (hbr : bnd ≤ r) (hrb : r < b) (hbs : b ≤ s0.next)
    (K : ∀ (e : Env) (s : St) (y : AV) (L : List ME) (c : Nat) (W : List Pr), PlaysAt b pm r 0 l.length s0 s x y L c W → opd e (.t 3) = mptr pm → opd e (.t 4) = y → Ret T Q PLA .normal e s)
    (hret : True) :
    ∀ (m i : Nat) (e : Env) (s : St) (y : AV) (L : List ME) (c : Nat) (W : List Pr), m + i = l.length → PlaysAt b pm r 0 i s0 s x y L c W → opd e (.t 0) = x → opd e (.t 3) = mptr pm → opd e (.t 4) = y → opd e (.t 5) = .int .i64 (i : Int) →
      Go T Q (.loop PLY) (.block 0 :: PLA) e s := by
  intro m
  induction m with
  | zero =>
    intro i e s y L c W hm hP h0 h3 h4 h5
    have hin : i = l.length := by omega
    subst hin
    have hK := fun e => K e s y L c W hP
    rw [go_loop]
    rcases hx.sl with ⟨hl0, rfl | rfl⟩ | ⟨hz, id, cap, rfl, _⟩
    · simp only [h0, h5, hl0, wk, wk1, wk2, Option.some.injEq, exists_eq_left', decide_true, decide_false, Nat.reduceAdd, Nat.reduceEqDiff, Nat.reduceLeDiff, Nat.reduceLT, Nat.reduceMul, Nat.reduceBEq, Int.reduceLT, Int.reduceLE, Int.reduceEq, Int.reduceAdd, Int.reduceSub, Int.reduceMul, Int.reduceMod, Int.reduceTMod, Int.reduceTDiv, Int.reduceNeg, Nat.reduceSub, Nat.reduceDiv, reduceIte, reduceCtorEq]
      refine hK _ ?_ ?_ <;> simp only [h3, h4, wk, wk1, Nat.reduceEqDiff, reduceIte, decide_true]
    · simp only [h0, h5, hl0, wk, wk1, wk2, Option.some.injEq, exists_eq_left', decide_true, decide_false, Nat.reduceAdd, Nat.reduceEqDiff, Nat.reduceLeDiff, Nat.reduceLT, Nat.reduceMul, Nat.reduceBEq, Int.reduceLT, Int.reduceLE, Int.reduceEq, Int.reduceAdd, Int.reduceSub, Int.reduceMul, Int.reduceMod, Int.reduceTMod, Int.reduceTDiv, Int.reduceNeg, Nat.reduceSub, Nat.reduceDiv, reduceIte, reduceCtorEq]
      refine hK _ ?_ ?_ <;> simp only [h3, h4, wk, wk1, Nat.reduceEqDiff, reduceIte, decide_true]
    · simp only [h0, h5, wk, wk1, wk2, Option.some.injEq, exists_eq_left', decide_true, decide_false, Nat.reduceAdd, Nat.reduceEqDiff, Nat.reduceLeDiff, Nat.reduceLT, Nat.reduceMul, Nat.reduceBEq, Int.reduceLT, Int.reduceLE, Int.reduceEq, Int.reduceAdd, Int.reduceSub, Int.reduceMul, Int.reduceMod, Int.reduceTMod, Int.reduceTDiv, Int.reduceNeg, Nat.reduceSub, Nat.reduceDiv, reduceIte, reduceCtorEq]
      refine hK _ ?_ ?_ <;> simp only [h3, h4, wk, wk1, Nat.reduceEqDiff, reduceIte, decide_true]
  | succ m ih =>
    intro i e s y L c W hm hP h0 h3 h4 h5
    obtain ⟨hM, hcl, hO, hRp, hy⟩ := hP
    have hi : i < l.length := by omega
    have hxs := hx.only hbr hO
    rcases hxs.sl with ⟨hl0, _⟩ | ⟨hz, id, cap, rfl, _, _, hrow⟩
    · omega
    obtain ⟨a, ha⟩ : ∃ x, l[i]? = some x := ⟨_, List.getElem?_eq_getElem hi⟩
    have hal := List.mem_of_getElem? ha
    obtain ⟨k1, k2, k3⟩ := hx.ok a hal
    have k4 := hb a hal
    have hld := act_take l i a ha
    have hc : (i : Int) < (l.length : Int) := by omega
    have hi5 : i * 5 + 5 ≤ l.length * 5 := by omega
    have u5 : wrapF .i64 ((i : Int) + 1) = ((i + 1 : Nat) : Int) := i64_add1 (by omega)
    -- the loop's tail
    have tail : ∀ (e : Env) (s' : St) (y' : AV) (L' : List ME) (c' : Nat) (W' : List Pr), PlaysAt b pm r 0 (i + 1) s0 s' (.slice ⟨id, 0, 0, l.length * 5⟩ l.length cap true 5) y' L' c' W' → s'.heap.get s.next = some (actV a) → opd e (.t 0) = .slice ⟨id, 0, 0, l.length * 5⟩ l.length cap true 5 → opd e (.t 3) = mptr pm → opd e (.t 4) = y' → opd e (.t 5) = .int .i64 (i : Int) → opd e (.t 6) = .ptr ⟨s.next, 0, 0, 5⟩ → Go T Q ((.seq (.region [⟨some 156, none, [], (.move (.t 3))⟩, ⟨some 157, none, [], (.fieldAddr 1 (.t 6))⟩, ⟨some 158, none, [], (.load false 1 (.t 157))⟩, ⟨some 160, none, [], (.move (.t 4))⟩, ⟨some 161, none, [], (.fieldAddr 1 (.t 6))⟩, ⟨some 162, none, [], (.load false 1 (.t 161))⟩, ⟨some 159, none, [(.t 161)], (.call 26 [(.t 156), (.t 158)])⟩, ⟨some 163, none, [], (.call 27 [(.t 160), (.t 162)])⟩, ⟨some 164, none, [], (.bin .neq (.t 159) (.t 163))⟩] true)
 (.cond (.t 164) (.seq (.region [⟨some 2, none, [], (.move (.c (.bool false)))⟩] false)
 .ret) .skip))) (.block 1 :: .seq PLI :: .loop PLY :: .block 0 :: PLA) e s' := by
      intro e s' y' L' c' W' hP' hA h0 h3 h4 h5 h6
      have hwl := hP'.rep.len hP'.mem.ok
      have hcl' := hP'.clk
      have hA' := hA
      unfold actV at hA
      have hwt : ∀ e : Env, opd e (.t 161) = .ptr ⟨s.next, 1, 0, 5⟩ → watchOk e s' s' [.t 161] = true := by
        intro e he
        rw [watchOk, he]
        show (sameObj (s'.heap.get s.next) (s'.heap.get s.next) && true) = true
        rw [hA', same_act]; rfl
      simp only [h0, h3, h4, h5, h6, hA, wk, wk1, wk2, Option.some.injEq, exists_eq_left', decide_true, decide_false, Nat.reduceAdd, Nat.reduceEqDiff, Nat.reduceLeDiff, Nat.reduceLT, Nat.reduceMul, Nat.reduceBEq, Int.reduceLT, Int.reduceLE, Int.reduceEq, Int.reduceAdd, Int.reduceSub, Int.reduceMul, Int.reduceMod, Int.reduceTMod, Int.reduceTDiv, Int.reduceNeg, Nat.reduceSub, Nat.reduceDiv, reduceIte, reduceCtorEq]
      refine goCall_w (get_ran hT.get hP'.mem a.k) ?_
      rintro _ _ ⟨rfl, rfl⟩
      refine ⟨hwt _ (by simp only [wk, wk1, Nat.reduceEqDiff, reduceIte, decide_true]), ?_⟩
      simp only [h0, h3, h4, h5, h6, wk, wk1, wk2, Option.some.injEq, exists_eq_left', decide_true, decide_false, Nat.reduceAdd, Nat.reduceEqDiff, Nat.reduceLeDiff, Nat.reduceLT, Nat.reduceMul, Nat.reduceBEq, Int.reduceLT, Int.reduceLE, Int.reduceEq, Int.reduceAdd, Int.reduceSub, Int.reduceMul, Int.reduceMod, Int.reduceTMod, Int.reduceTDiv, Int.reduceNeg, Nat.reduceSub, Nat.reduceDiv, reduceIte, reduceCtorEq]
      refine goCall_by (rget_ran hR.get a.k (by omega) hP'.row) ?_
      rintro _ _ ⟨rfl, rfl⟩
      rw [hP'.rep.get]
      simp only [h0, h3, h4, h5, h6, u5, wk, wk1, wk2, Option.some.injEq, exists_eq_left', decide_true, decide_false, Nat.reduceAdd, Nat.reduceEqDiff, Nat.reduceLeDiff, Nat.reduceLT, Nat.reduceMul, Nat.reduceBEq, Int.reduceLT, Int.reduceLE, Int.reduceEq, Int.reduceAdd, Int.reduceSub, Int.reduceMul, Int.reduceMod, Int.reduceTMod, Int.reduceTDiv, Int.reduceNeg, Nat.reduceSub, Nat.reduceDiv, reduceIte, reduceCtorEq]
      refine ih (i + 1) _ _ y' L' c' W' (by omega) hP' ?_ ?_ ?_ ?_ <;> simp only [h0, h3, h4, h5, u5, wk, wk1, Nat.reduceEqDiff, reduceIte, decide_true]
    have hbload := @bload_loop T hR Q
    rw [go_loop]
    generalize ((.loop PLY :: .block 0 :: PLA) : List Fr) = LP at *
    show Go T Q ((.seq (.seq (.region [⟨some 18, none, [], (.move (.t 5))⟩, ⟨some 19, none, [], (.move (.t 0))⟩, ⟨some 20, none, [], (.lenSl (.t 19))⟩, ⟨some 21, none, [], (.bin .lss (.t 18) (.t 20))⟩] false)
 (.cond (.t 21) .skip (.exit 0)))
 (.seq (.block 1 (.seq (.region [⟨some 24, none, [], (.move (.t 0))⟩, ⟨some 25, none, [], (.move (.t 5))⟩, ⟨some 26, none, [], (.idxSl 5 (.t 24) (.t 25))⟩, ⟨some 27, none, [], (.load true 5 (.t 26))⟩, ⟨some 6, none, [], (.alloc [(.int .u8 0), (.int .u32 0), (.int .i64 0), (.int .u32 0), (.str [])])⟩, ⟨none, none, [], (.store 5 (.t 6) (.t 27))⟩] false)
 (.seq (.region [⟨some 28, none, [], (.fieldAddr 1 (.t 6))⟩, ⟨some 29, none, [], (.load false 1 (.t 28))⟩, ⟨some 30, none, [], (.fieldAddr 2 (.t 6))⟩, ⟨some 31, none, [], (.load false 1 (.t 30))⟩, ⟨some 32, none, [], (.call 20 [(.t 29), (.t 31)])⟩, ⟨some 7, none, [], (.move (.t 32))⟩] false)
 (.seq (.seq (.region [⟨some 33, none, [], (.fieldAddr 0 (.t 6))⟩, ⟨some 34, none, [], (.load false 1 (.t 33))⟩] false)
 (.block 2 (.seq (.region [⟨some 36, none, [], (.bin .eql (.t 34) (.c (.int .u8 0)))⟩, ⟨some 35, none, [], (.move (.t 36))⟩] false)
 (.cond (.t 35) (.seq (.seq (.region [⟨some 37, none, [], (.move (.t 3))⟩, ⟨some 38, none, [], (.fieldAddr 1 (.t 6))⟩, ⟨some 39, none, [], (.load false 1 (.t 38))⟩, ⟨some 40, none, [], (.fieldAddr 3 (.t 6))⟩, ⟨some 41, none, [], (.load false 1 (.t 40))⟩, ⟨some 42, none, [], (.conv (.intInt .u8) (.t 41))⟩, ⟨some 43, none, [], (.call 21 [(.t 37), (.t 39), (.t 42)])⟩, ⟨some 44, none, [], (.bin .neq (.t 43) (.c (.int .i64 0)))⟩] false)
 (.cond (.t 44) (.seq (.region [⟨some 2, none, [], (.move (.c (.bool false)))⟩] false)
 .ret) .skip))
 (.region [⟨some 45, none, [], (.move (.t 4))⟩, ⟨some 46, none, [], (.fieldAddr 1 (.t 6))⟩, ⟨some 47, none, [], (.load false 1 (.t 46))⟩, ⟨some 48, none, [], (.fieldAddr 3 (.t 6))⟩, ⟨some 49, none, [], (.load false 1 (.t 48))⟩, ⟨some 50, none, [], (.conv (.intInt .u8) (.t 49))⟩, ⟨some 51, none, [], (.call 22 [(.t 45), (.t 47), (.t 50)])⟩, ⟨some 4, none, [], (.move (.t 51))⟩] false)) (.seq (.region [⟨some 53, none, [], (.bin .eql (.t 34) (.c (.int .u8 1)))⟩, ⟨some 52, none, [], (.move (.t 53))⟩] false)
 (.cond (.t 52) (.seq (.seq (.region [⟨some 54, none, [], (.move (.t 3))⟩, ⟨some 55, none, [], (.fieldAddr 1 (.t 6))⟩, ⟨some 56, none, [], (.load false 1 (.t 55))⟩, ⟨some 57, none, [], (.fieldAddr 2 (.t 6))⟩, ⟨some 58, none, [], (.load false 1 (.t 57))⟩, ⟨some 59, none, [], (.fieldAddr 3 (.t 6))⟩, ⟨some 60, none, [], (.load false 1 (.t 59))⟩, ⟨some 61, none, [], (.call 16 [(.t 54), (.t 56), (.t 58), (.t 60)])⟩, ⟨some 62, none, [], (.bin .eql (.t 61) (.c (.int .i64 0)))⟩, ⟨some 63, none, [], (.move (.t 7))⟩, ⟨some 64, none, [], (.eq true (.prim .bool) (.t 62) (.t 63))⟩] false)
 (.cond (.t 64) (.seq (.region [⟨some 2, none, [], (.move (.c (.bool false)))⟩] false)
 .ret) .skip))
 (.seq (.region [⟨some 65, none, [], (.move (.t 7))⟩] false)
 (.cond (.t 65) (.region [⟨some 66, none, [], (.move (.t 4))⟩, ⟨some 67, none, [], (.fieldAddr 1 (.t 6))⟩, ⟨some 68, none, [], (.load false 1 (.t 67))⟩, ⟨some 69, none, [], (.fieldAddr 2 (.t 6))⟩, ⟨some 70, none, [], (.load false 1 (.t 69))⟩, ⟨some 71, none, [], (.fieldAddr 3 (.t 6))⟩, ⟨some 72, none, [], (.load false 1 (.t 71))⟩, ⟨some 73, none, [], (.call 23 [(.t 66), (.t 68), (.t 70), (.t 72)])⟩, ⟨some 4, none, [], (.move (.t 73))⟩] false) .skip))) (.seq (.region [⟨some 75, none, [], (.bin .eql (.t 34) (.c (.int .u8 2)))⟩, ⟨some 74, none, [], (.move (.t 75))⟩] false)
 (.cond (.t 74) (.seq (.region [⟨some 77, none, [], (.move (.t 3))⟩, ⟨some 78, none, [], (.fieldAddr 1 (.t 6))⟩, ⟨some 79, none, [], (.load false 1 (.t 78))⟩, ⟨some 80, none, [], (.fieldAddr 2 (.t 6))⟩, ⟨some 81, none, [], (.load false 1 (.t 80))⟩, ⟨some 82, none, [], (.call 14 [(.t 77), (.t 79), (.t 81)])⟩, ⟨some 76, none, [], (.move (.t 82))⟩, ⟨some 83, none, [], (.extract (.t 76) 0)⟩, ⟨some 84, none, [], (.extract (.t 76) 1)⟩, ⟨some 8, none, [], (.move (.t 83))⟩, ⟨some 9, none, [], (.move (.t 84))⟩] false)
 (.seq (.region [⟨some 85, none, [], (.move (.t 9))⟩, ⟨some 86, none, [], (.bin .eql (.t 85) (.c (.int .i64 0)))⟩, ⟨some 87, none, [], (.move (.t 7))⟩, ⟨some 88, none, [], (.eq true (.prim .bool) (.t 86) (.t 87))⟩, ⟨some 89, none, [], (.move (.t 88))⟩, ⟨some 90, some (89, false), [], (.move (.t 7))⟩, ⟨some 91, some (89, false), [], (.move (.t 90))⟩, ⟨some 92, some (91, true), [], (.move (.t 8))⟩, ⟨some 93, some (91, true), [], (.move (.t 4))⟩, ⟨some 94, some (91, true), [], (.fieldAddr 1 (.t 6))⟩, ⟨some 95, some (91, true), [], (.load false 1 (.t 94))⟩, ⟨some 96, some (91, true), [], (.fieldAddr 2 (.t 6))⟩, ⟨some 97, some (91, true), [], (.load false 1 (.t 96))⟩, ⟨some 98, some (91, true), [], (.call 24 [(.t 93), (.t 95), (.t 97)])⟩, ⟨some 99, some (91, true), [], (.bin .neq (.t 92) (.t 98))⟩, ⟨some 100, some (89, false), [], (.pick (.t 91) (.t 99) (.c (.bool false)))⟩, ⟨some 101, none, [], (.pick (.t 89) (.c (.bool true)) (.t 100))⟩, ⟨some 102, none, [], (.move (.t 101))⟩, ⟨some 103, some (102, false), [], (.move (.t 7))⟩, ⟨some 104, some (102, false), [], (.un .not (.t 103))⟩, ⟨some 105, some (102, false), [], (.move (.t 104))⟩, ⟨some 106, some (105, true), [], (.move (.t 8))⟩, ⟨some 107, some (105, true), [], (.bin .neq (.t 106) (.c (.int .u32 0)))⟩, ⟨some 108, some (105, true), [], (.move (.t 107))⟩, ⟨some 109, some (108, false), [], (.move (.t 9))⟩, ⟨some 110, some (108, false), [], (.bin .neq (.t 109) (.c (.int .i64 1)))⟩, ⟨some 111, some (105, true), [], (.pick (.t 108) (.c (.bool true)) (.t 110))⟩, ⟨some 112, some (102, false), [], (.pick (.t 105) (.t 111) (.c (.bool false)))⟩, ⟨some 113, none, [], (.pick (.t 102) (.c (.bool true)) (.t 112))⟩] false)
 (.cond (.t 113) (.seq (.region [⟨some 2, none, [], (.move (.c (.bool false)))⟩] false)
 .ret) .skip))) (.seq (.region [⟨some 115, none, [], (.bin .eql (.t 34) (.c (.int .u8 3)))⟩, ⟨some 114, none, [], (.move (.t 115))⟩] false)
 (.cond (.t 114) (.seq (.region [⟨some 116, none, [], (.fieldAddr 1 (.t 6))⟩, ⟨some 117, none, [], (.load false 1 (.t 116))⟩, ⟨some 118, none, [], (.conv (.intInt .u64) (.t 117))⟩, ⟨some 119, none, [], (.fieldAddr 4 (.t 6))⟩, ⟨some 120, none, [], (.load false 1 (.t 119))⟩, ⟨some 121, none, [], (.lenStr (.t 120))⟩, ⟨some 122, none, [], (.conv (.intInt .u64) (.t 121))⟩, ⟨some 123, none, [], (.bin .add (.t 118) (.t 122))⟩, ⟨some 124, none, [], (.bin .leq (.t 123) (.c (.int .u64 4294967296)))⟩, ⟨some 10, none, [], (.move (.t 124))⟩] false)
 (.seq (.seq (.region [⟨some 125, none, [], (.move (.t 3))⟩, ⟨some 126, none, [], (.fieldAddr 1 (.t 6))⟩, ⟨some 127, none, [], (.load false 1 (.t 126))⟩, ⟨some 128, none, [], (.fieldAddr 4 (.t 6))⟩, ⟨some 129, none, [], (.load false 1 (.t 128))⟩, ⟨some 130, none, [], (.conv .strBytes (.t 129))⟩, ⟨some 131, none, [], (.call 25 [(.t 125), (.t 127), (.t 130)])⟩, ⟨some 132, none, [], (.bin .eql (.t 131) (.c (.int .i64 0)))⟩, ⟨some 133, none, [], (.move (.t 10))⟩, ⟨some 134, none, [], (.eq true (.prim .bool) (.t 132) (.t 133))⟩] false)
 (.cond (.t 134) (.seq (.region [⟨some 2, none, [], (.move (.c (.bool false)))⟩] false)
 .ret) .skip))
 (.seq (.region [⟨some 11, none, [], (.move (.c (.int .i64 0)))⟩] false)
 (.block 3 (.loop (.seq (.seq (.region [⟨some 135, none, [], (.move (.t 11))⟩, ⟨some 136, none, [], (.fieldAddr 4 (.t 6))⟩, ⟨some 137, none, [], (.load false 1 (.t 136))⟩, ⟨some 138, none, [], (.lenStr (.t 137))⟩, ⟨some 139, none, [], (.bin .lss (.t 135) (.t 138))⟩, ⟨some 140, none, [], (.move (.t 139))⟩, ⟨some 141, some (140, true), [], (.move (.t 10))⟩, ⟨some 142, none, [], (.pick (.t 140) (.t 141) (.c (.bool false)))⟩] false)
 (.cond (.t 142) .skip (.exit 3)))
 (.seq (.block 4 (.region [⟨some 145, none, [], (.move (.t 4))⟩, ⟨some 146, none, [], (.fieldAddr 1 (.t 6))⟩, ⟨some 147, none, [], (.load false 1 (.t 146))⟩, ⟨some 148, none, [], (.move (.t 11))⟩, ⟨some 149, none, [], (.conv (.intInt .u32) (.t 148))⟩, ⟨some 150, none, [], (.bin .add (.t 147) (.t 149))⟩, ⟨some 151, none, [], (.fieldAddr 4 (.t 6))⟩, ⟨some 152, none, [], (.load false 1 (.t 151))⟩, ⟨some 153, none, [], (.move (.t 11))⟩, ⟨some 154, none, [], (.idxStr (.t 152) (.t 153))⟩, ⟨some 155, none, [], (.call 22 [(.t 145), (.t 150), (.t 154)])⟩, ⟨some 4, none, [], (.move (.t 155))⟩] true))
 (.region [⟨some 143, none, [], (.move (.t 11))⟩, ⟨some 144, none, [], (.bin .add (.t 143) (.c (.int .i64 1)))⟩, ⟨some 11, none, [], (.move (.t 144))⟩] false)))))))) .skip))))))))))
 (.seq (.region [⟨some 156, none, [], (.move (.t 3))⟩, ⟨some 157, none, [], (.fieldAddr 1 (.t 6))⟩, ⟨some 158, none, [], (.load false 1 (.t 157))⟩, ⟨some 160, none, [], (.move (.t 4))⟩, ⟨some 161, none, [], (.fieldAddr 1 (.t 6))⟩, ⟨some 162, none, [], (.load false 1 (.t 161))⟩, ⟨some 159, none, [(.t 161)], (.call 26 [(.t 156), (.t 158)])⟩, ⟨some 163, none, [], (.call 27 [(.t 160), (.t 162)])⟩, ⟨some 164, none, [], (.bin .neq (.t 159) (.t 163))⟩] true)
 (.cond (.t 164) (.seq (.region [⟨some 2, none, [], (.move (.c (.bool false)))⟩] false)
 .ret) .skip))))))
 (.region [⟨some 22, none, [], (.move (.t 5))⟩, ⟨some 23, none, [], (.bin .add (.t 22) (.c (.int .i64 1)))⟩, ⟨some 5, none, [], (.move (.t 23))⟩] false)))) LP e s
    generalize hTT : (((.seq (.region [⟨some 156, none, [], (.move (.t 3))⟩, ⟨some 157, none, [], (.fieldAddr 1 (.t 6))⟩, ⟨some 158, none, [], (.load false 1 (.t 157))⟩, ⟨some 160, none, [], (.move (.t 4))⟩, ⟨some 161, none, [], (.fieldAddr 1 (.t 6))⟩, ⟨some 162, none, [], (.load false 1 (.t 161))⟩, ⟨some 159, none, [(.t 161)], (.call 26 [(.t 156), (.t 158)])⟩, ⟨some 163, none, [], (.call 27 [(.t 160), (.t 162)])⟩, ⟨some 164, none, [], (.bin .neq (.t 159) (.t 163))⟩] true)
 (.cond (.t 164) (.seq (.region [⟨some 2, none, [], (.move (.c (.bool false)))⟩] false)
 .ret) .skip))) : ICode) = TT at *
    clear hTT
    have hE1 : Ext s (s.add (actV a)) := (Ext.refl hM.wfs).add _
    have hM1 := hM.ext hE1
    have hO1 := hO.trans (Only.ext (r := r) hE1)
    have hy1 := hy.ext hE1
    have hA1 : (s.add (actV a)).heap.get s.next = some (actV a) := by rw [add_get, if_pos rfl]
    have hn1 : s.next < (s.add (actV a)).next := by show s.next < s.next + 1; omega
    have hnx : s.next ≠ r := by have := hM.lt2; omega
    have hbn : b ≤ s.next := Nat.le_trans hbs hO.next
    have hwl := hRp.len hM.ok
    have hrr := rright_ran hR.right (s.add (actV a)) a.k a.n
    by_cases d0 : a.d = 0
    · have d0' : ((a.d : Int) = 0) = True := eq_true (by omega)
      have u1 : (a.v : Int) % 256 = ((a.v % 256 : Nat) : Int) := by omega
      simp only [h0, h3, h4, h5, hc, hi, hi5, hrow, hld, wk, wk1, wk2, Option.some.injEq, exists_eq_left', decide_true, decide_false, Nat.reduceAdd, Nat.reduceEqDiff, Nat.reduceLeDiff, Nat.reduceLT, Nat.reduceMul, Nat.reduceBEq, Int.reduceLT, Int.reduceLE, Int.reduceEq, Int.reduceAdd, Int.reduceSub, Int.reduceMul, Int.reduceMod, Int.reduceTMod, Int.reduceTDiv, Int.reduceNeg, Nat.reduceSub, Nat.reduceDiv, reduceIte, reduceCtorEq]
      refine goCall_by hrr ?_
      rintro _ _ ⟨rfl, rfl⟩
      simp only [actV, h0, h3, h4, h5, d0', u1, wk, wk1, wk2, Option.some.injEq, exists_eq_left', decide_true, decide_false, Nat.reduceAdd, Nat.reduceEqDiff, Nat.reduceLeDiff, Nat.reduceLT, Nat.reduceMul, Nat.reduceBEq, Int.reduceLT, Int.reduceLE, Int.reduceEq, Int.reduceAdd, Int.reduceSub, Int.reduceMul, Int.reduceMod, Int.reduceTMod, Int.reduceTDiv, Int.reduceNeg, Nat.reduceSub, Nat.reduceDiv, reduceIte, reduceCtorEq]
      refine goCall_by (s := s.add (actV a)) (Put_ran hT.Put hT.put hM1 a.k (a.v % 256)) ?_
      rintro _ s2 ⟨rfl, hs2⟩
      have hM2 := hM1.put (b := a.v % 256) k1 (by omega)
      have hOx := Only.put hM1.wfs hM1.lt2 (.map (ments (mput L c a.k (a.v % 256)).1) (mput L c a.k (a.v % 256)).2)
      rw [← hs2] at hM2 hOx
      have hy2 := hy1.only hrb hOx
      have hA2 : s2.heap.get s.next = some (actV a) := by rw [hOx.same _ hn1 hnx]; exact hA1
      have hcl2 := mput_clk L c a.k (a.v % 256)
      have hA2' := hA2
      unfold actV at hA2'
      simp only [h0, h3, h4, h5, hA2', u1, wk, wk1, wk2, Option.some.injEq, exists_eq_left', decide_true, decide_false, Nat.reduceAdd, Nat.reduceEqDiff, Nat.reduceLeDiff, Nat.reduceLT, Nat.reduceMul, Nat.reduceBEq, Int.reduceLT, Int.reduceLE, Int.reduceEq, Int.reduceAdd, Int.reduceSub, Int.reduceMul, Int.reduceMod, Int.reduceTMod, Int.reduceTDiv, Int.reduceNeg, Nat.reduceSub, Nat.reduceDiv, reduceIte, reduceCtorEq]
      refine goCall_by (rput_ran hR.put a.k (a.v % 256) hM2.wfs (by omega) hy2) ?_
      rintro y3 s3 ⟨hE3, hy3⟩
      simp only [h0, h3, h4, h5, wk, wk1, wk2, Option.some.injEq, exists_eq_left', decide_true, decide_false, Nat.reduceAdd, Nat.reduceEqDiff, Nat.reduceLeDiff, Nat.reduceLT, Nat.reduceMul, Nat.reduceBEq, Int.reduceLT, Int.reduceLE, Int.reduceEq, Int.reduceAdd, Int.reduceSub, Int.reduceMul, Int.reduceMod, Int.reduceTMod, Int.reduceTDiv, Int.reduceNeg, Nat.reduceSub, Nat.reduceDiv, reduceIte, reduceCtorEq]
      refine tail _ s3 y3 _ _ _ ⟨hM2.ext hE3, by omega, (hO1.trans hOx).trans (Only.ext hE3), hRp.put hM.ok a.k (a.v % 256), hy3.mono (Nat.le_trans hbn (Nat.le_trans hE1.2.1 hOx.next))⟩ (by rw [hE3.2.2 _ (Nat.lt_of_lt_of_le hn1 hOx.next)]; exact hA2) ?_ ?_ ?_ ?_ ?_ <;> simp only [h0, h3, h4, h5, wk, wk1, Nat.reduceEqDiff, reduceIte, decide_true]
    · have d0' : ((a.d : Int) = 0) = False := eq_false (by omega)
      by_cases d1 : a.d = 1
      · have d1' : ((a.d : Int) = 1) = True := eq_true (by omega)
        simp only [h0, h3, h4, h5, hc, hi, hi5, hrow, hld, wk, wk1, wk2, Option.some.injEq, exists_eq_left', decide_true, decide_false, Nat.reduceAdd, Nat.reduceEqDiff, Nat.reduceLeDiff, Nat.reduceLT, Nat.reduceMul, Nat.reduceBEq, Int.reduceLT, Int.reduceLE, Int.reduceEq, Int.reduceAdd, Int.reduceSub, Int.reduceMul, Int.reduceMod, Int.reduceTMod, Int.reduceTDiv, Int.reduceNeg, Nat.reduceSub, Nat.reduceDiv, reduceIte, reduceCtorEq]
        refine goCall_by hrr ?_
        rintro _ _ ⟨rfl, rfl⟩
        simp only [actV, h0, h3, h4, h5, d0', d1', wk, wk1, wk2, Option.some.injEq, exists_eq_left', decide_true, decide_false, Nat.reduceAdd, Nat.reduceEqDiff, Nat.reduceLeDiff, Nat.reduceLT, Nat.reduceMul, Nat.reduceBEq, Int.reduceLT, Int.reduceLE, Int.reduceEq, Int.reduceAdd, Int.reduceSub, Int.reduceMul, Int.reduceMod, Int.reduceTMod, Int.reduceTDiv, Int.reduceNeg, Nat.reduceSub, Nat.reduceDiv, reduceIte, reduceCtorEq]
        refine goCall_by (s := s.add (actV a)) (store_ran hT.store hT.may hT.put hM1 a.k a.v k1 a.n) ?_
        intro w s2 h2
        cases hr2 : rightW a.k a.n with
        | true =>
          rw [if_pos hr2] at h2
          obtain ⟨rfl, hM2, hO2⟩ := h2
          obtain ⟨m', hm', hm4, _, hkm⟩ := rightW_n hr2
          have hkm := hkm k1
          have hnm : a.n.toNat = m' := by rw [hm']; rfl
          rw [hnm] at hM2
          have hcl2 := storeN_clk a.k a.v (L, c) m'
          have hy2 := hy1.only hrb hO2
          have hA2 : s2.heap.get s.next = some (actV a) := by rw [hO2.same _ hn1 hnx]; exact hA1
          have hst := rstore_ran hR.store hR.put hM2.wfs (Nat.le_trans hbn (Nat.le_trans hE1.2.1 hO2.next)) a.k a.v m' hm4 hkm k2 hM.ok (by omega) hy2 hRp
          rw [← hm'] at hst
          have hA2' := hA2
          unfold actV at hA2'
          simp only [h0, h3, h4, h5, hA2', eq_bool2, beq_self_eq_true, wk, wk1, wk2, Option.some.injEq, exists_eq_left', decide_true, decide_false, Nat.reduceAdd, Nat.reduceEqDiff, Nat.reduceLeDiff, Nat.reduceLT, Nat.reduceMul, Nat.reduceBEq, Int.reduceLT, Int.reduceLE, Int.reduceEq, Int.reduceAdd, Int.reduceSub, Int.reduceMul, Int.reduceMod, Int.reduceTMod, Int.reduceTDiv, Int.reduceNeg, Nat.reduceSub, Nat.reduceDiv, reduceIte, reduceCtorEq]
          refine goCall_by hst ?_
          rintro y3 s3 ⟨hE3, W3, hy3, hR3⟩
          simp only [h0, h3, h4, h5, wk, wk1, wk2, Option.some.injEq, exists_eq_left', decide_true, decide_false, Nat.reduceAdd, Nat.reduceEqDiff, Nat.reduceLeDiff, Nat.reduceLT, Nat.reduceMul, Nat.reduceBEq, Int.reduceLT, Int.reduceLE, Int.reduceEq, Int.reduceAdd, Int.reduceSub, Int.reduceMul, Int.reduceMod, Int.reduceTMod, Int.reduceTDiv, Int.reduceNeg, Nat.reduceSub, Nat.reduceDiv, reduceIte, reduceCtorEq]
          refine tail _ s3 y3 _ _ _ ⟨hM2.ext hE3, by simp only [] at hcl2; omega, (hO1.trans hO2).trans (Only.ext hE3), hR3, hy3⟩ (by rw [hE3.2.2 _ (Nat.lt_of_lt_of_le hn1 hO2.next)]; exact hA2) ?_ ?_ ?_ ?_ ?_ <;> simp only [h0, h3, h4, h5, wk, wk1, Nat.reduceEqDiff, reduceIte, decide_true]
        | false =>
          rw [if_neg (by simp [hr2])] at h2
          obtain ⟨rfl, rfl⟩ := h2
          simp only [h0, h3, h4, h5, eq_bool2, beq_self_eq_true, wk, wk1, wk2, Option.some.injEq, exists_eq_left', decide_true, decide_false, Nat.reduceAdd, Nat.reduceEqDiff, Nat.reduceLeDiff, Nat.reduceLT, Nat.reduceMul, Nat.reduceBEq, Int.reduceLT, Int.reduceLE, Int.reduceEq, Int.reduceAdd, Int.reduceSub, Int.reduceMul, Int.reduceMod, Int.reduceTMod, Int.reduceTDiv, Int.reduceNeg, Nat.reduceSub, Nat.reduceDiv, reduceIte, reduceCtorEq]
          refine tail _ (s.add (actV a)) y L c W ⟨hM1, by omega, hO1, hRp, hy1⟩ hA1 ?_ ?_ ?_ ?_ ?_ <;> simp only [h0, h3, h4, h5, wk, wk1, Nat.reduceEqDiff, reduceIte, decide_true]
      · have d1' : ((a.d : Int) = 1) = False := eq_false (by omega)
        by_cases d2 : a.d = 2
        · have d2' : ((a.d : Int) = 2) = True := eq_true (by omega)
          simp only [h0, h3, h4, h5, hc, hi, hi5, hrow, hld, wk, wk1, wk2, Option.some.injEq, exists_eq_left', decide_true, decide_false, Nat.reduceAdd, Nat.reduceEqDiff, Nat.reduceLeDiff, Nat.reduceLT, Nat.reduceMul, Nat.reduceBEq, Int.reduceLT, Int.reduceLE, Int.reduceEq, Int.reduceAdd, Int.reduceSub, Int.reduceMul, Int.reduceMod, Int.reduceTMod, Int.reduceTDiv, Int.reduceNeg, Nat.reduceSub, Nat.reduceDiv, reduceIte, reduceCtorEq]
          refine goCall_by hrr ?_
          rintro _ _ ⟨rfl, rfl⟩
          simp only [actV, h0, h3, h4, h5, d0', d1', d2', wk, wk1, wk2, Option.some.injEq, exists_eq_left', decide_true, decide_false, Nat.reduceAdd, Nat.reduceEqDiff, Nat.reduceLeDiff, Nat.reduceLT, Nat.reduceMul, Nat.reduceBEq, Int.reduceLT, Int.reduceLE, Int.reduceEq, Int.reduceAdd, Int.reduceSub, Int.reduceMul, Int.reduceMod, Int.reduceTMod, Int.reduceTDiv, Int.reduceNeg, Nat.reduceSub, Nat.reduceDiv, reduceIte, reduceCtorEq]
          refine goCall_by (s := s.add (actV a)) (word_ran hT.word hT.may hM1 a.k k1 a.n) ?_
          rintro w _ ⟨rfl, hw⟩
          cases hr2 : rightW a.k a.n with
          | true =>
            rw [if_pos hr2] at hw
            subst hw
            obtain ⟨m', hm', hm4, _, hkm⟩ := rightW_n hr2
            have hkm := hkm k1
            have hnm : a.n.toNat = m' := by rw [hm']; rfl
            have hst := rword_ran hR.word hR.get (s := s.add (actV a)) a.k m' hm4 hkm (by omega) hy1 hRp hM.ok
            rw [← hm'] at hst
            rw [hnm]
            simp only [actV, h0, h3, h4, h5, eq_bool2, beq_self_eq_true, wk, wk1, wk2, Option.some.injEq, exists_eq_left', decide_true, decide_false, Nat.reduceAdd, Nat.reduceEqDiff, Nat.reduceLeDiff, Nat.reduceLT, Nat.reduceMul, Nat.reduceBEq, Int.reduceLT, Int.reduceLE, Int.reduceEq, Int.reduceAdd, Int.reduceSub, Int.reduceMul, Int.reduceMod, Int.reduceTMod, Int.reduceTDiv, Int.reduceNeg, Nat.reduceSub, Nat.reduceDiv, reduceIte, reduceCtorEq]
            refine goCall_by (s := s.add (actV a)) hst ?_
            rintro _ _ ⟨rfl, rfl⟩
            simp only [h0, h3, h4, h5, wk, wk1, wk2, Option.some.injEq, exists_eq_left', decide_true, decide_false, Nat.reduceAdd, Nat.reduceEqDiff, Nat.reduceLeDiff, Nat.reduceLT, Nat.reduceMul, Nat.reduceBEq, Int.reduceLT, Int.reduceLE, Int.reduceEq, Int.reduceAdd, Int.reduceSub, Int.reduceMul, Int.reduceMod, Int.reduceTMod, Int.reduceTDiv, Int.reduceNeg, Nat.reduceSub, Nat.reduceDiv, reduceIte, reduceCtorEq]
            refine tail _ (s.add (actV a)) y L c W ⟨hM1, by omega, hO1, hRp, hy1⟩ hA1 ?_ ?_ ?_ ?_ ?_ <;> simp only [h0, h3, h4, h5, wk, wk1, Nat.reduceEqDiff, reduceIte, decide_true]
          | false =>
            rw [if_neg (by simp [hr2])] at hw
            subst hw
            simp only [h0, h3, h4, h5, eq_bool2, beq_self_eq_true, wk, wk1, wk2, Option.some.injEq, exists_eq_left', decide_true, decide_false, Nat.reduceAdd, Nat.reduceEqDiff, Nat.reduceLeDiff, Nat.reduceLT, Nat.reduceMul, Nat.reduceBEq, Int.reduceLT, Int.reduceLE, Int.reduceEq, Int.reduceAdd, Int.reduceSub, Int.reduceMul, Int.reduceMod, Int.reduceTMod, Int.reduceTDiv, Int.reduceNeg, Nat.reduceSub, Nat.reduceDiv, reduceIte, reduceCtorEq]
            refine tail _ (s.add (actV a)) y L c W ⟨hM1, by omega, hO1, hRp, hy1⟩ hA1 ?_ ?_ ?_ ?_ ?_ <;> simp only [h0, h3, h4, h5, wk, wk1, Nat.reduceEqDiff, reduceIte, decide_true]
        · have d2' : ((a.d : Int) = 2) = False := eq_false (by omega)
          by_cases d3 : a.d = 3
          · have d3' : ((a.d : Int) = 3) = True := eq_true (by omega)
            have hsb : a.b.length * 65536 ≤ 1099511627776 := by omega
            have u1 : (a.k : Int) % 18446744073709551616 = (a.k : Int) := by omega
            have u2 : (a.b.length : Int) % 18446744073709551616 = (a.b.length : Int) := by omega
            have u3 : ((a.k : Int) + (a.b.length : Int)) % 18446744073709551616 = ((a.k + a.b.length : Nat) : Int) := by omega
            simp only [h0, h3, h4, h5, hc, hi, hi5, hrow, hld, wk, wk1, wk2, Option.some.injEq, exists_eq_left', decide_true, decide_false, Nat.reduceAdd, Nat.reduceEqDiff, Nat.reduceLeDiff, Nat.reduceLT, Nat.reduceMul, Nat.reduceBEq, Int.reduceLT, Int.reduceLE, Int.reduceEq, Int.reduceAdd, Int.reduceSub, Int.reduceMul, Int.reduceMod, Int.reduceTMod, Int.reduceTDiv, Int.reduceNeg, Nat.reduceSub, Nat.reduceDiv, reduceIte, reduceCtorEq]
            refine goCall_by hrr ?_
            rintro _ _ ⟨rfl, rfl⟩
            simp only [actV, h0, h3, h4, h5, d0', d1', d2', d3', u1, u2, u3, wo_strBytes, strB, hsb, wk, wk1, wk2, Option.some.injEq, exists_eq_left', decide_true, decide_false, Nat.reduceAdd, Nat.reduceEqDiff, Nat.reduceLeDiff, Nat.reduceLT, Nat.reduceMul, Nat.reduceBEq, Int.reduceLT, Int.reduceLE, Int.reduceEq, Int.reduceAdd, Int.reduceSub, Int.reduceMul, Int.reduceMod, Int.reduceTMod, Int.reduceTDiv, Int.reduceNeg, Nat.reduceSub, Nat.reduceDiv, reduceIte, reduceCtorEq]
            have hE2 : Ext s ((s.add (actV a)).add (.cells (a.b.map fun b => .int .u8 b.toNat) 0 0 false)) := hE1.add _
            have hM2 := hM.ext hE2
            have hO2 := hO.trans (Only.ext (r := r) hE2)
            have hy2 := hy.ext hE2
            have hB : ((s.add (actV a)).add (.cells (a.b.map fun b => .int .u8 b.toNat) 0 0 false)).heap.get (s.next + 1) = some (.cells (a.b.map fun b => .int .u8 b.toNat) 0 0 false) := by
              rw [add_get, if_pos (show s.next + 1 = (s.add (actV a)).next from rfl)]
            have hA2 : ((s.add (actV a)).add (.cells (a.b.map fun b => .int .u8 b.toNat) 0 0 false)).heap.get s.next = some (actV a) := by
              rw [add_get, if_neg (by show ¬ s.next = s.next + 1; omega)]; exact hA1
            refine goCall_by (s := (s.add (actV a)).add (.cells (a.b.map fun b => .int .u8 b.toNat) 0 0 false)) (load_ran hT.load hT.put hM2 a.k k1 a.b (by omega) hB (by have := hM.lt2; omega) (by show s.next + 1 < s.next + 1 + 1; omega)) ?_
            intro w s3 h2
            by_cases hfit : a.k + a.b.length ≤ 4294967296
            · rw [if_pos hfit] at h2
              obtain ⟨rfl, hM3, hO3⟩ := h2
              have hn3 : s.next < s3.next := Nat.lt_of_lt_of_le (show s.next < s.next + 1 + 1 by omega) hO3.next
              have hA3 : s3.heap.get s.next = some (actV a) := by rw [hO3.same _ (show s.next < s.next + 1 + 1 by omega) hnx]; exact hA2
              have hy3 := hy2.only hrb hO3
              have hbn3 : b ≤ s3.next := by omega
              have hfit' : ((a.k + a.b.length : Nat) : Int) ≤ 4294967296 := by omega
              have hcl2 := loadN_clk a.k a.b (L, c) a.b.length
              simp only [h0, h3, h4, h5, hfit', eq_bool2, beq_self_eq_true, wk, wk1, wk2, Option.some.injEq, exists_eq_left', decide_true, decide_false, Nat.reduceAdd, Nat.reduceEqDiff, Nat.reduceLeDiff, Nat.reduceLT, Nat.reduceMul, Nat.reduceBEq, Int.reduceLT, Int.reduceLE, Int.reduceEq, Int.reduceAdd, Int.reduceSub, Int.reduceMul, Int.reduceMod, Int.reduceTMod, Int.reduceTDiv, Int.reduceNeg, Nat.reduceSub, Nat.reduceDiv, reduceIte, reduceCtorEq]
              refine hbload (x := .slice ⟨id, 0, 0, l.length * 5⟩ l.length cap true 5) (i := i) (pm := pm) hbn3 hn3 hA3 hM.ok (by omega) hfit k4 ?_ a.b.length 0 _ s3 y W (by omega) (Ext.refl hM3.wfs) hy3 hRp ?_ ?_ ?_ ?_ ?_ ?_ ?_
              · intro e4 s4 y4 W4 hE4 hy4 hR4 g0 g3 g4 g5 g6
                simp only [wk, wk1, wk2, Option.some.injEq, exists_eq_left', decide_true, decide_false, Nat.reduceAdd, Nat.reduceEqDiff, Nat.reduceLeDiff, Nat.reduceLT, Nat.reduceMul, Nat.reduceBEq, Int.reduceLT, Int.reduceLE, Int.reduceEq, Int.reduceAdd, Int.reduceSub, Int.reduceMul, Int.reduceMod, Int.reduceTMod, Int.reduceTDiv, Int.reduceNeg, Nat.reduceSub, Nat.reduceDiv, reduceIte, reduceCtorEq]
                exact tail e4 s4 y4 _ _ _ ⟨hM3.ext hE4, by simp only [] at hcl2; omega, (hO2.trans hO3).trans (Only.ext hE4), hR4, hy4⟩ (by rw [hE4.2.2 _ hn3]; exact hA3) g0 g3 g4 g5 g6
              all_goals (try simp only [h0, h3, h4, h5, hfit', wk, wk1, Nat.reduceEqDiff, reduceIte, decide_true])
              all_goals rfl
            · rw [if_neg hfit] at h2
              obtain ⟨rfl, rfl⟩ := h2
              have hfit' : ¬ ((a.k + a.b.length : Nat) : Int) ≤ 4294967296 := by omega
              have hA2' := hA2
              unfold actV at hA2'
              by_cases hb0 : (0 : Int) < (a.b.length : Int)
              · simp only [actV, h0, h3, h4, h5, hfit', hb0, eq_bool2, beq_self_eq_true, wk, wk1, wk2, Option.some.injEq, exists_eq_left', decide_true, decide_false, Nat.reduceAdd, Nat.reduceEqDiff, Nat.reduceLeDiff, Nat.reduceLT, Nat.reduceMul, Nat.reduceBEq, Int.reduceLT, Int.reduceLE, Int.reduceEq, Int.reduceAdd, Int.reduceSub, Int.reduceMul, Int.reduceMod, Int.reduceTMod, Int.reduceTDiv, Int.reduceNeg, Nat.reduceSub, Nat.reduceDiv, reduceIte, reduceCtorEq]
                rw [go_loop]
                simp only [hb0, wk, wk1, wk2, Option.some.injEq, exists_eq_left', decide_true, decide_false, Nat.reduceAdd, Nat.reduceEqDiff, Nat.reduceLeDiff, Nat.reduceLT, Nat.reduceMul, Nat.reduceBEq, Int.reduceLT, Int.reduceLE, Int.reduceEq, Int.reduceAdd, Int.reduceSub, Int.reduceMul, Int.reduceMod, Int.reduceTMod, Int.reduceTDiv, Int.reduceNeg, Nat.reduceSub, Nat.reduceDiv, reduceIte, reduceCtorEq]
                refine tail _ ((s.add (actV a)).add (.cells (a.b.map fun b => .int .u8 b.toNat) 0 0 false)) y L c W ⟨hM2, by omega, hO2, hRp, hy2⟩ hA2 ?_ ?_ ?_ ?_ ?_ <;> simp only [h0, h3, h4, h5, wk, wk1, Nat.reduceEqDiff, reduceIte, decide_true]
              · omega
          · have d3' : ((a.d : Int) = 3) = False := eq_false (by omega)
            simp only [h0, h3, h4, h5, hc, hi, hi5, hrow, hld, wk, wk1, wk2, Option.some.injEq, exists_eq_left', decide_true, decide_false, Nat.reduceAdd, Nat.reduceEqDiff, Nat.reduceLeDiff, Nat.reduceLT, Nat.reduceMul, Nat.reduceBEq, Int.reduceLT, Int.reduceLE, Int.reduceEq, Int.reduceAdd, Int.reduceSub, Int.reduceMul, Int.reduceMod, Int.reduceTMod, Int.reduceTDiv, Int.reduceNeg, Nat.reduceSub, Nat.reduceDiv, reduceIte, reduceCtorEq]
            refine goCall_by hrr ?_
            rintro _ _ ⟨rfl, rfl⟩
            simp only [actV, h0, h3, h4, h5, d0', d1', d2', d3', wk, wk1, wk2, Option.some.injEq, exists_eq_left', decide_true, decide_false, Nat.reduceAdd, Nat.reduceEqDiff, Nat.reduceLeDiff, Nat.reduceLT, Nat.reduceMul, Nat.reduceBEq, Int.reduceLT, Int.reduceLE, Int.reduceEq, Int.reduceAdd, Int.reduceSub, Int.reduceMul, Int.reduceMod, Int.reduceTMod, Int.reduceTDiv, Int.reduceNeg, Nat.reduceSub, Nat.reduceDiv, reduceIte, reduceCtorEq]
            refine tail _ (s.add (actV a)) y L c W ⟨hM1, by omega, hO1, hRp, hy1⟩ hA1 ?_ ?_ ?_ ?_ ?_ <;> simp only [h0, h3, h4, h5, wk, wk1, Nat.reduceEqDiff, reduceIte, decide_true]
set_option maxHeartbeats 8000000 in
theorem plays_ran (hc : T 4 = some (.code ir4)) (hT : DoTab T) (hP : PartsTab T) (hR : RefTab T) {s : St} {x : AV} {l : List Act} (hs : WFS s) (hx : Acts s.next s x l) :
    Ran T 4 [x] s fun r _ => r = .bool true := by
  refine ran_code hc (Nat.le_of_ble_eq_true rfl) ?_
  generalize hQ : Fin _ _ = Q
  simp only [ir4, wk, wk1, wk2, Option.some.injEq, exists_eq_left', decide_true, decide_false, Nat.reduceAdd, Nat.reduceEqDiff, Nat.reduceLeDiff, Nat.reduceLT, Nat.reduceMul, Nat.reduceBEq, Int.reduceLT, Int.reduceLE, Int.reduceEq, Int.reduceAdd, Int.reduceSub, Int.reduceMul, Int.reduceMod, Int.reduceTMod, Int.reduceTDiv, Int.reduceNeg, Nat.reduceSub, Nat.reduceDiv, reduceIte, reduceCtorEq]
  refine goCall_by (great_ran hT.great hx) ?_
  rintro _ _ ⟨rfl, rfl⟩
  cases hg : great l with
  | true =>
    simp only [wk, wk1, wk2, Option.some.injEq, exists_eq_left', decide_true, decide_false, Nat.reduceAdd, Nat.reduceEqDiff, Nat.reduceLeDiff, Nat.reduceLT, Nat.reduceMul, Nat.reduceBEq, Int.reduceLT, Int.reduceLE, Int.reduceEq, Int.reduceAdd, Int.reduceSub, Int.reduceMul, Int.reduceMod, Int.reduceTMod, Int.reduceTDiv, Int.reduceNeg, Nat.reduceSub, Nat.reduceDiv, reduceIte, reduceCtorEq]
    refine goCall_by (awake_ran hT hs) ?_
    rintro _ s1 ⟨rfl, _⟩
    subst hQ
    simp only [ir4, wk, wk1, wk2, Option.some.injEq, exists_eq_left', decide_true, decide_false, Nat.reduceAdd, Nat.reduceEqDiff, Nat.reduceLeDiff, Nat.reduceLT, Nat.reduceMul, Nat.reduceBEq, Int.reduceLT, Int.reduceLE, Int.reduceEq, Int.reduceAdd, Int.reduceSub, Int.reduceMul, Int.reduceMod, Int.reduceTMod, Int.reduceTDiv, Int.reduceNeg, Nat.reduceSub, Nat.reduceDiv, reduceIte, reduceCtorEq]
  | false =>
    simp only [great, Bool.or_eq_false_iff, decide_eq_false_iff_not] at hg
    obtain ⟨hl, hb⟩ := hg
    have hb : ∀ a ∈ l, a.b.length ≤ 60 := fun a ha => by
      have := List.any_eq_false.1 hb a ha
      simpa using this
    simp only [wk, wk1, wk2, Option.some.injEq, exists_eq_left', decide_true, decide_false, Nat.reduceAdd, Nat.reduceEqDiff, Nat.reduceLeDiff, Nat.reduceLT, Nat.reduceMul, Nat.reduceBEq, Int.reduceLT, Int.reduceLE, Int.reduceEq, Int.reduceAdd, Int.reduceSub, Int.reduceMul, Int.reduceMod, Int.reduceTMod, Int.reduceTDiv, Int.reduceNeg, Nat.reduceSub, Nat.reduceDiv, reduceIte, reduceCtorEq]
    refine goCall_by (new_ran hT.new _ hs) ?_
    rintro _ s1 ⟨pm, r, rfl, hpm, hr, hM, hE⟩
    simp only [eqV, nilEq, wk, wk1, wk2, Option.some.injEq, exists_eq_left', decide_true, decide_false, Nat.reduceAdd, Nat.reduceEqDiff, Nat.reduceLeDiff, Nat.reduceLT, Nat.reduceMul, Nat.reduceBEq, Int.reduceLT, Int.reduceLE, Int.reduceEq, Int.reduceAdd, Int.reduceSub, Int.reduceMul, Int.reduceMod, Int.reduceTMod, Int.reduceTDiv, Int.reduceNeg, Nat.reduceSub, Nat.reduceDiv, reduceIte, reduceCtorEq]
    refine plays_loop hT hR (b := s1.next) (by omega) hb (hx.ext hE) hr hM.lt2 (Nat.le_refl _) ?_ trivial l.length 0 _ s1 .nilSlice [] 0 [] (by omega) ⟨hM, by omega, Only.refl hM.wfs, Rep.nil, Slc.nil _ _ _⟩ ?_ ?_ ?_ ?_
    · intro e s2 y L c W hP2 h3 h4
      have hcl := hP2.clk
      simp only [PLA, h3, h4, wk, wk1, wk2, Option.some.injEq, exists_eq_left', decide_true, decide_false, Nat.reduceAdd, Nat.reduceEqDiff, Nat.reduceLeDiff, Nat.reduceLT, Nat.reduceMul, Nat.reduceBEq, Int.reduceLT, Int.reduceLE, Int.reduceEq, Int.reduceAdd, Int.reduceSub, Int.reduceMul, Int.reduceMod, Int.reduceTMod, Int.reduceTDiv, Int.reduceNeg, Nat.reduceSub, Nat.reduceDiv, reduceIte, reduceCtorEq]
      refine goCall_by (cells_ran hP hP2.mem (by omega)) ?_
      rintro v s3 ⟨hE3, hv⟩
      have hpl := pairs_len L
      have hW := hP2.rep.eq hP2.mem.ok
      have hwl := hP2.rep.len hP2.mem.ok
      have hll := hP2.mem.ok.len
      simp only [h3, h4, wk, wk1, wk2, Option.some.injEq, exists_eq_left', decide_true, decide_false, Nat.reduceAdd, Nat.reduceEqDiff, Nat.reduceLeDiff, Nat.reduceLT, Nat.reduceMul, Nat.reduceBEq, Int.reduceLT, Int.reduceLE, Int.reduceEq, Int.reduceAdd, Int.reduceSub, Int.reduceMul, Int.reduceMod, Int.reduceTMod, Int.reduceTDiv, Int.reduceNeg, Nat.reduceSub, Nat.reduceDiv, reduceIte, reduceCtorEq]
      refine goCall_by (rsame_ran hR.same (hv.lenEq hpl.symm) (hP2.row.ext hE3) (by omega) (by omega)) ?_
      rintro _ _ ⟨rfl, rfl⟩
      simp only [hW, wk, wk1, wk2, Option.some.injEq, exists_eq_left', decide_true, decide_false, Nat.reduceAdd, Nat.reduceEqDiff, Nat.reduceLeDiff, Nat.reduceLT, Nat.reduceMul, Nat.reduceBEq, Int.reduceLT, Int.reduceLE, Int.reduceEq, Int.reduceAdd, Int.reduceSub, Int.reduceMul, Int.reduceMod, Int.reduceTMod, Int.reduceTDiv, Int.reduceNeg, Nat.reduceSub, Nat.reduceDiv, reduceIte, reduceCtorEq]
      refine goCall_by (awake_ran hT hE3.1) ?_
      rintro _ s4 ⟨rfl, _⟩
      subst hQ
      simp only [ir4, wk, wk1, wk2, Option.some.injEq, exists_eq_left', decide_true, decide_false, Nat.reduceAdd, Nat.reduceEqDiff, Nat.reduceLeDiff, Nat.reduceLT, Nat.reduceMul, Nat.reduceBEq, Int.reduceLT, Int.reduceLE, Int.reduceEq, Int.reduceAdd, Int.reduceSub, Int.reduceMul, Int.reduceMod, Int.reduceTMod, Int.reduceTDiv, Int.reduceNeg, Nat.reduceSub, Nat.reduceDiv, reduceIte, reduceCtorEq]
    all_goals (try simp only [wk, wk1, Nat.reduceEqDiff, reduceIte, decide_true])
    all_goals rfl
end
end Go.V
