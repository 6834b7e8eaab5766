/- Functions in the small language. -/
import Derived.Test.YtpccibieeikllaaGreatDoorPgkIr0
set_option linter.unusedVariables false
set_option linter.unusedSimpArgs false
set_option linter.unusedSectionVars false
/- Functions in the small language. -/
namespace Go.V
open Go
set_option linter.unusedSimpArgs false
set_option linter.unusedVariables false
-- (*coxless/prog.reader).expr
def ir72 : IFunc := ⟨40, [.tmp 2], (.seq (.region [⟨some 2, none, [], (.move (.c .nilSlice))⟩] false)
 (.seq (.regionP [⟨some 7, none, [], (.move (.t 0))⟩, ⟨some 8, none, [], (.nilCheck (.t 7))⟩, ⟨some 9, none, [], (.fieldAddr 0 (.t 8))⟩, ⟨some 10, none, [], (.load false 1 (.t 9))⟩, ⟨some 11, none, [], (.move (.t 0))⟩, ⟨some 12, none, [], (.nilCheck (.t 11))⟩, ⟨some 13, none, [], (.fieldAddr 1 (.t 12))⟩, ⟨some 14, none, [], (.load false 1 (.t 13))⟩, ⟨some 15, none, [], (.sliceSl 5 (.t 10) (some (.t 14)) none none)⟩, ⟨some 16, none, [], (.call 104 [(.t 15)])⟩, ⟨some 6, none, [], (.move (.t 16))⟩, ⟨some 17, none, [], (.extract (.t 6) 0)⟩, ⟨some 18, none, [], (.extract (.t 6) 1)⟩, ⟨some 19, none, [], (.extract (.t 6) 2)⟩, ⟨some 3, none, [], (.move (.t 17))⟩, ⟨some 4, none, [], (.move (.t 18))⟩, ⟨some 5, none, [], (.move (.t 19))⟩])
 (.seq (.seq (.region [⟨some 20, none, [], (.move (.t 5))⟩, ⟨some 21, none, [], (.bin .neq (.t 20) (.c (.int .i64 0)))⟩] false)
 (.cond (.t 21) (.region [⟨some 22, none, [], (.move (.t 0))⟩, ⟨some 23, none, [], (.move (.t 0))⟩, ⟨some 24, none, [], (.nilCheck (.t 23))⟩, ⟨some 25, none, [], (.fieldAddr 1 (.t 24))⟩, ⟨some 26, none, [], (.load false 1 (.t 25))⟩, ⟨some 27, none, [], (.move (.t 4))⟩, ⟨some 28, none, [], (.bin .add (.t 26) (.t 27))⟩, ⟨some 29, none, [], (.move (.t 5))⟩, ⟨some 30, none, [], (.call 56 [(.t 22), (.t 28), (.t 29)])⟩] false) .skip))
 (.seq (.region [⟨some 31, none, [], (.move (.t 0))⟩, ⟨some 32, none, [], (.nilCheck (.t 31))⟩, ⟨some 33, none, [], (.fieldAddr 1 (.t 32))⟩, ⟨some 34, none, [], (.load false 1 (.t 33))⟩, ⟨some 35, none, [], (.move (.t 4))⟩, ⟨some 36, none, [], (.bin .add (.t 34) (.t 35))⟩, ⟨some 37, none, [], (.nilCheck (.t 31))⟩, ⟨some 38, none, [], (.fieldAddr 1 (.t 37))⟩, ⟨none, none, [], (.store 1 (.t 38) (.t 36))⟩] false)
 (.seq (.region [⟨some 39, none, [], (.move (.t 3))⟩, ⟨some 2, none, [], (.move (.t 39))⟩] false)
 .ret)))))⟩
-- coxless/prog.own
def ir50 : IFunc := ⟨18, [.tmp 2], (.seq (.region [⟨some 1, none, [], (.box (.t 0))⟩, ⟨some 2, none, [], (.move (.c (.bool false)))⟩] false)
 (.seq (.region [⟨some 3, none, [], (.fieldAddr 0 (.t 1))⟩, ⟨some 4, none, [], (.load false 1 (.t 3))⟩, ⟨some 5, none, [], (.bin .eql (.t 4) (.c (.int .u8 1)))⟩, ⟨some 6, none, [], (.move (.t 5))⟩, ⟨some 7, some (6, true), [], (.fieldAddr 1 (.t 1))⟩, ⟨some 8, some (6, true), [], (.load false 1 (.t 7))⟩, ⟨some 9, some (6, true), [], (.call 70 [(.t 8)])⟩, ⟨some 10, some (6, true), [], (.un .not (.t 9))⟩, ⟨some 11, none, [], (.pick (.t 6) (.t 10) (.c (.bool false)))⟩, ⟨some 12, none, [], (.move (.t 11))⟩, ⟨some 13, some (12, true), [], (.fieldAddr 1 (.t 1))⟩, ⟨some 14, some (12, true), [], (.load false 1 (.t 13))⟩, ⟨some 15, some (12, true), [], (.call 43 [(.t 14), (.c (.str [46]))])⟩, ⟨some 16, some (12, true), [], (.un .not (.t 15))⟩, ⟨some 17, none, [], (.pick (.t 12) (.t 16) (.c (.bool false)))⟩, ⟨some 2, none, [], (.move (.t 17))⟩] false)
 .ret))⟩
-- strings.HasPrefix
def ir43 : IFunc := ⟨8, [.tmp 4], (.seq (.region [⟨some 4, none, [], (.move (.c (.bool false)))⟩] false)
 (.seq (.region [⟨some 5, none, [], (.move (.t 0))⟩, ⟨some 6, none, [], (.move (.t 1))⟩, ⟨some 7, none, [], (.call 67 [(.t 5), (.t 6)])⟩, ⟨some 4, none, [], (.move (.t 7))⟩] false)
 .ret))⟩
-- coxless/parse.Reserved
def ir70 : IFunc := ⟨53, [.tmp 2], (.seq (.region [⟨some 2, none, [], (.move (.c (.bool false)))⟩] false)
 (.seq (.region [⟨some 12, none, [], (.move (.t 0))⟩, ⟨some 13, none, [], (.call 100 [(.t 12), (.c (.str [46, 110, 101, 119]))])⟩, ⟨some 3, none, [], (.move (.t 13))⟩] false)
 (.seq (.seq (.region [⟨some 15, none, [], (.move (.t 3))⟩, ⟨some 16, none, [], (.call 101 [(.t 15), (.c (.str [114])), (.c (.int .i64 32))])⟩, ⟨some 14, none, [], (.move (.t 16))⟩, ⟨some 17, none, [], (.extract (.t 14) 0)⟩, ⟨some 18, none, [], (.extract (.t 14) 1)⟩, ⟨some 4, none, [], (.move (.t 17))⟩, ⟨some 5, none, [], (.move (.t 18))⟩] false)
 (.seq (.region [⟨some 19, none, [], (.move (.t 5))⟩] false)
 (.cond (.t 19) (.seq (.region [⟨some 2, none, [], (.move (.c (.bool true)))⟩] false)
 .ret) .skip)))
 (.seq (.seq (.region [⟨some 21, none, [], (.move (.t 3))⟩, ⟨some 22, none, [], (.call 101 [(.t 21), (.c (.str [112])), (.c (.int .i64 4))])⟩, ⟨some 20, none, [], (.move (.t 22))⟩, ⟨some 23, none, [], (.extract (.t 20) 0)⟩, ⟨some 24, none, [], (.extract (.t 20) 1)⟩, ⟨some 6, none, [], (.move (.t 23))⟩, ⟨some 7, none, [], (.move (.t 24))⟩] false)
 (.seq (.region [⟨some 25, none, [], (.move (.t 7))⟩] false)
 (.cond (.t 25) (.seq (.region [⟨some 2, none, [], (.move (.c (.bool true)))⟩] false)
 .ret) .skip)))
 (.seq (.region [⟨some 27, none, [], (.call 102 [])⟩, ⟨some 28, none, [], (.move (.t 0))⟩, ⟨some 29, none, [], (.lookup .str (.agg [(.int .u8 0), (.int .u8 0), (.int .i64 0), (.bool false)]) true (.t 27) (.t 28))⟩, ⟨some 26, none, [], (.move (.t 29))⟩, ⟨some 30, none, [], (.extract (.t 26) 0)⟩, ⟨some 31, none, [], (.extract (.t 26) 1)⟩, ⟨some 8, none, [], (.alloc [(.int .u8 0), (.int .u8 0), (.int .i64 0), (.bool false)])⟩, ⟨none, none, [], (.store 4 (.t 8) (.t 30))⟩, ⟨some 9, none, [], (.move (.t 31))⟩] false)
 (.seq (.region [⟨some 33, none, [], (.call 103 [])⟩, ⟨some 34, none, [], (.move (.t 0))⟩, ⟨some 35, none, [], (.lookup .str (.agg [(.int .u8 0), (.int .u8 0), (.int .i64 0), (.bool false)]) true (.t 33) (.t 34))⟩, ⟨some 32, none, [], (.move (.t 35))⟩, ⟨some 36, none, [], (.extract (.t 32) 0)⟩, ⟨some 37, none, [], (.extract (.t 32) 1)⟩, ⟨some 10, none, [], (.alloc [(.int .u8 0), (.int .u8 0), (.int .i64 0), (.bool false)])⟩, ⟨none, none, [], (.store 4 (.t 10) (.t 36))⟩, ⟨some 11, none, [], (.move (.t 37))⟩] false)
 (.seq (.seq (.region [⟨some 38, none, [], (.move (.t 0))⟩] false)
 (.block 0 (.seq (.seq (.region [⟨some 40, none, [], (.bin .eql (.t 38) (.c (.str [110, 111, 112])))⟩, ⟨some 39, none, [], (.move (.t 40))⟩] false)
 (.cond (.t 39) .skip (.seq (.region [⟨some 41, none, [], (.bin .eql (.t 38) (.c (.str [106, 117, 109, 112])))⟩, ⟨some 39, none, [], (.move (.t 41))⟩] false)
 (.cond (.t 39) .skip (.seq (.region [⟨some 42, none, [], (.bin .eql (.t 38) (.c (.str [106, 117, 109, 112, 114])))⟩, ⟨some 39, none, [], (.move (.t 42))⟩] false)
 (.cond (.t 39) .skip (.seq (.region [⟨some 43, none, [], (.bin .eql (.t 38) (.c (.str [99, 97, 108, 108])))⟩, ⟨some 39, none, [], (.move (.t 43))⟩] false)
 (.cond (.t 39) .skip (.seq (.region [⟨some 44, none, [], (.bin .eql (.t 38) (.c (.str [108, 111, 111, 112, 48])))⟩, ⟨some 39, none, [], (.move (.t 44))⟩] false)
 (.cond (.t 39) .skip (.seq (.region [⟨some 45, none, [], (.bin .eql (.t 38) (.c (.str [108, 111, 111, 112, 49])))⟩, ⟨some 39, none, [], (.move (.t 45))⟩] false)
 (.cond (.t 39) .skip (.seq (.region [⟨some 46, none, [], (.bin .eql (.t 38) (.c (.str [105, 102])))⟩, ⟨some 39, none, [], (.move (.t 46))⟩] false)
 (.cond (.t 39) .skip (.seq (.region [⟨some 47, none, [], (.bin .eql (.t 38) (.c (.str [99, 111, 100, 101])))⟩, ⟨some 39, none, [], (.move (.t 47))⟩] false)
 (.cond (.t 39) .skip (.region [⟨some 48, none, [], (.bin .eql (.t 38) (.c (.str [100, 97, 116, 97])))⟩, ⟨some 39, none, [], (.move (.t 48))⟩] false)))))))))))))))))
 (.cond (.t 39) (.seq (.region [⟨some 2, none, [], (.move (.c (.bool true)))⟩] false)
 .ret) .skip))))
 (.seq (.region [⟨some 49, none, [], (.move (.t 9))⟩, ⟨some 50, none, [], (.move (.t 49))⟩, ⟨some 51, some (50, false), [], (.move (.t 11))⟩, ⟨some 52, none, [], (.pick (.t 50) (.c (.bool true)) (.t 51))⟩, ⟨some 2, none, [], (.move (.t 52))⟩] false)
 .ret))))))))⟩
-- strings.TrimSuffix
def ir100 : IFunc := ⟨8, [.tmp 4], (.seq (.region [⟨some 4, none, [], (.move (.c (.str [])))⟩] false)
 (.seq (.region [⟨some 5, none, [], (.move (.t 0))⟩, ⟨some 6, none, [], (.move (.t 1))⟩, ⟨some 7, none, [], (.call 143 [(.t 5), (.t 6)])⟩, ⟨some 4, none, [], (.move (.t 7))⟩] false)
 .ret))⟩
-- internal/stringslite.TrimSuffix
def ir143 : IFunc := ⟨16, [.tmp 4], (.seq (.region [⟨some 4, none, [], (.move (.c (.str [])))⟩] false)
 (.seq (.seq (.region [⟨some 5, none, [], (.move (.t 0))⟩, ⟨some 6, none, [], (.move (.t 1))⟩, ⟨some 7, none, [], (.call 178 [(.t 5), (.t 6)])⟩] false)
 (.cond (.t 7) (.seq (.region [⟨some 8, none, [], (.move (.t 0))⟩, ⟨some 9, none, [], (.move (.t 0))⟩, ⟨some 10, none, [], (.lenStr (.t 9))⟩, ⟨some 11, none, [], (.move (.t 1))⟩, ⟨some 12, none, [], (.lenStr (.t 11))⟩, ⟨some 13, none, [], (.bin .sub (.t 10) (.t 12))⟩, ⟨some 14, none, [], (.sliceStr (.t 8) none (some (.t 13)))⟩, ⟨some 4, none, [], (.move (.t 14))⟩] false)
 .ret) .skip))
 (.seq (.region [⟨some 15, none, [], (.move (.t 0))⟩, ⟨some 4, none, [], (.move (.t 15))⟩] false)
 .ret)))⟩
-- coxless/prog.directives
def ir53 : IFunc := ⟨3, [.tmp 0], (.seq (.region [⟨some 0, none, [], (.move (.c .nilMap))⟩] false)
 (.seq (.region [⟨some 1, none, [], .mkMap⟩, ⟨none, none, [], (.mapSet .str (.t 1) (.c (.str [46, 111, 114, 103])) (.c (.int .u8 3)))⟩, ⟨none, none, [], (.mapSet .str (.t 1) (.c (.str [46, 97, 108, 105, 103, 110])) (.c (.int .u8 4)))⟩, ⟨none, none, [], (.mapSet .str (.t 1) (.c (.str [46, 119, 111, 114, 100])) (.c (.int .u8 5)))⟩, ⟨none, none, [], (.mapSet .str (.t 1) (.c (.str [46, 98, 121, 116, 101])) (.c (.int .u8 6)))⟩, ⟨none, none, [], (.mapSet .str (.t 1) (.c (.str [46, 115, 112, 97, 99, 101])) (.c (.int .u8 7)))⟩, ⟨none, none, [], (.mapSet .str (.t 1) (.c (.str [46, 101, 113, 117])) (.c (.int .u8 8)))⟩, ⟨none, none, [], (.mapSet .str (.t 1) (.c (.str [46, 115, 101, 99, 116, 105, 111, 110])) (.c (.int .u8 9)))⟩, ⟨some 2, none, [], (.move (.t 1))⟩, ⟨some 0, none, [], (.move (.t 2))⟩] false)
 .ret))⟩
-- coxless/lex.Split
def ir15 : IFunc := ⟨23, [.tmp 2, .tmp 3], (.seq (.region [⟨some 2, none, [], (.move (.c .nilSlice))⟩, ⟨some 3, none, [], (.move (.c .nilSlice))⟩] false)
 (.seq (.seq (.region [⟨some 5, none, [], (.move (.t 0))⟩, ⟨some 6, none, [], (.lenStr (.t 5))⟩, ⟨some 7, none, [], (.bin .gtr (.t 6) (.c (.int .i64 33554432)))⟩] false)
 (.cond (.t 7) (.seq (.region [⟨some 8, none, [], (.build [(.int .i64 0), (.int .i64 0), (.int .i64 0)] [(0, 1, (.c (.int .i64 1))), (1, 1, (.c (.int .i64 1))), (2, 1, (.c (.int .i64 3)))])⟩, ⟨some 9, none, [], (.buildSlice 1 3 [(.int .i64 0), (.int .i64 0), (.int .i64 0)] [(0, 3, (.t 8))])⟩, ⟨some 2, none, [], (.move (.c .nilSlice))⟩, ⟨some 3, none, [], (.move (.t 9))⟩] false)
 .ret) .skip))
 (.seq (.region [⟨some 10, none, [], (.move (.t 0))⟩, ⟨some 11, none, [], (.build [(.str []), (.int .i64 0), (.int .i64 0), (.int .i64 0), .nilSlice, .nilSlice] [(0, 1, (.t 10)), (2, 1, (.c (.int .i64 1)))])⟩, ⟨some 12, none, [], (.box (.t 11))⟩, ⟨some 4, none, [], (.move (.t 12))⟩] false)
 (.seq (.region [⟨some 13, none, [], (.move (.t 4))⟩, ⟨some 14, none, [], (.call 30 [(.t 13)])⟩] false)
 (.seq (.region [⟨some 15, none, [], (.move (.t 4))⟩, ⟨some 16, none, [], (.nilCheck (.t 15))⟩, ⟨some 17, none, [], (.fieldAddr 4 (.t 16))⟩, ⟨some 18, none, [], (.load false 1 (.t 17))⟩, ⟨some 19, none, [], (.move (.t 4))⟩, ⟨some 20, none, [], (.nilCheck (.t 19))⟩, ⟨some 21, none, [], (.fieldAddr 5 (.t 20))⟩, ⟨some 22, none, [], (.load false 1 (.t 21))⟩, ⟨some 2, none, [], (.move (.t 18))⟩, ⟨some 3, none, [], (.move (.t 22))⟩] true)
 .ret)))))⟩
-- (*coxless/lex.cutter).cuts
def ir30 : IFunc := ⟨171, [], (.scope (.seq .label
 (.seq (.seq (.region [⟨some 5, none, [], (.move (.t 0))⟩, ⟨some 6, none, [], (.nilCheck (.t 5))⟩, ⟨some 7, none, [], (.fieldAddr 1 (.t 6))⟩, ⟨some 8, none, [], (.load false 1 (.t 7))⟩, ⟨some 9, none, [], (.move (.t 0))⟩, ⟨some 10, none, [], (.nilCheck (.t 9))⟩, ⟨some 11, none, [], (.fieldAddr 0 (.t 10))⟩, ⟨some 12, none, [], (.load false 1 (.t 11))⟩, ⟨some 13, none, [], (.lenStr (.t 12))⟩, ⟨some 14, none, [], (.bin .eql (.t 8) (.t 13))⟩] true)
 (.cond (.t 14) (.goto 0) .skip))
 (.seq (.seq (.region [⟨some 15, none, [], (.move (.t 0))⟩, ⟨some 16, none, [], (.nilCheck (.t 15))⟩, ⟨some 17, none, [], (.fieldAddr 0 (.t 16))⟩, ⟨some 18, none, [], (.load false 1 (.t 17))⟩, ⟨some 19, none, [], (.move (.t 0))⟩, ⟨some 20, none, [], (.nilCheck (.t 19))⟩, ⟨some 21, none, [], (.fieldAddr 1 (.t 20))⟩, ⟨some 22, none, [], (.load false 1 (.t 21))⟩, ⟨some 23, none, [], (.idxStr (.t 18) (.t 22))⟩, ⟨some 2, none, [], (.move (.t 23))⟩] true)
 (.block 0 (.seq (.region [⟨some 25, none, [], (.move (.t 2))⟩, ⟨some 26, none, [], (.bin .eql (.t 25) (.c (.int .u8 10)))⟩, ⟨some 24, none, [], (.move (.t 26))⟩] false)
 (.cond (.t 24) (.goto 2) (.seq (.region [⟨some 28, none, [], (.move (.t 2))⟩, ⟨some 29, none, [], (.bin .eql (.t 28) (.c (.int .u8 32)))⟩, ⟨some 30, none, [], (.move (.t 29))⟩, ⟨some 31, some (30, false), [], (.move (.t 2))⟩, ⟨some 32, some (30, false), [], (.bin .eql (.t 31) (.c (.int .u8 9)))⟩, ⟨some 33, none, [], (.pick (.t 30) (.c (.bool true)) (.t 32))⟩, ⟨some 34, none, [], (.move (.t 33))⟩, ⟨some 35, some (34, false), [], (.move (.t 2))⟩, ⟨some 36, some (34, false), [], (.bin .eql (.t 35) (.c (.int .u8 13)))⟩, ⟨some 37, none, [], (.pick (.t 34) (.c (.bool true)) (.t 36))⟩, ⟨some 27, none, [], (.move (.t 37))⟩] false)
 (.cond (.t 27) (.seq (.region [⟨some 38, none, [], (.move (.t 0))⟩, ⟨some 39, none, [], (.nilCheck (.t 38))⟩, ⟨some 40, none, [], (.fieldAddr 1 (.t 39))⟩, ⟨some 41, none, [], (.load false 1 (.t 40))⟩, ⟨some 42, none, [], (.bin .add (.t 41) (.c (.int .i64 1)))⟩, ⟨some 43, none, [], (.nilCheck (.t 38))⟩, ⟨some 44, none, [], (.fieldAddr 1 (.t 43))⟩, ⟨none, none, [], (.store 1 (.t 44) (.t 42))⟩] false)
 (.goto 1)) (.seq (.region [⟨some 46, none, [], (.move (.t 2))⟩, ⟨some 47, none, [], (.call 41 [(.t 46)])⟩, ⟨some 48, none, [], (.move (.t 47))⟩, ⟨some 49, some (48, false), [], (.move (.t 2))⟩, ⟨some 50, some (48, false), [], (.bin .eql (.t 49) (.c (.int .u8 46)))⟩, ⟨some 51, none, [], (.pick (.t 48) (.c (.bool true)) (.t 50))⟩, ⟨some 45, none, [], (.move (.t 51))⟩] false)
 (.cond (.t 45) (.goto 3) (.seq (.region [⟨some 53, none, [], (.move (.t 2))⟩, ⟨some 54, none, [], (.call 42 [(.t 53)])⟩, ⟨some 52, none, [], (.move (.t 54))⟩] false)
 (.cond (.t 52) (.goto 4) (.seq (.regionP [⟨some 56, none, [], (.move (.t 0))⟩, ⟨some 57, none, [], (.nilCheck (.t 56))⟩, ⟨some 58, none, [], (.fieldAddr 0 (.t 57))⟩, ⟨some 59, none, [], (.load false 1 (.t 58))⟩, ⟨some 60, none, [], (.move (.t 0))⟩, ⟨some 61, none, [], (.nilCheck (.t 60))⟩, ⟨some 62, none, [], (.fieldAddr 1 (.t 61))⟩, ⟨some 63, none, [], (.load false 1 (.t 62))⟩, ⟨some 64, none, [], (.sliceStr (.t 59) (some (.t 63)) none)⟩, ⟨some 65, none, [], (.call 43 [(.t 64), (.c (.str [47, 47]))])⟩, ⟨some 55, none, [], (.move (.t 65))⟩])
 (.cond (.t 55) (.goto 5) (.seq (.regionP [⟨some 67, none, [], (.move (.t 0))⟩, ⟨some 68, none, [], (.nilCheck (.t 67))⟩, ⟨some 69, none, [], (.fieldAddr 0 (.t 68))⟩, ⟨some 70, none, [], (.load false 1 (.t 69))⟩, ⟨some 71, none, [], (.move (.t 0))⟩, ⟨some 72, none, [], (.nilCheck (.t 71))⟩, ⟨some 73, none, [], (.fieldAddr 1 (.t 72))⟩, ⟨some 74, none, [], (.load false 1 (.t 73))⟩, ⟨some 75, none, [], (.sliceStr (.t 70) (some (.t 74)) none)⟩, ⟨some 76, none, [], (.call 43 [(.t 75), (.c (.str [35, 35]))])⟩, ⟨some 66, none, [], (.move (.t 76))⟩])
 (.cond (.t 66) (.seq (.region [⟨some 77, none, [], (.move (.t 0))⟩, ⟨some 78, none, [], (.call 44 [(.t 77), (.c (.int .u8 3)), (.c (.str [35, 35])), (.c (.int .i64 0))])⟩] false)
 (.goto 1)) (.seq (.region [⟨some 80, none, [], (.move (.t 2))⟩, ⟨some 81, none, [], (.call 45 [(.c (.str [123, 125, 59, 58, 40, 41, 44, 61, 43, 45, 42, 33, 35])), (.t 80)])⟩, ⟨some 82, none, [], (.bin .geq (.t 81) (.c (.int .i64 0)))⟩, ⟨some 79, none, [], (.move (.t 82))⟩] false)
 (.cond (.t 79) (.seq (.regionP [⟨some 83, none, [], (.move (.t 0))⟩, ⟨some 84, none, [], (.move (.t 0))⟩, ⟨some 85, none, [], (.nilCheck (.t 84))⟩, ⟨some 86, none, [], (.fieldAddr 0 (.t 85))⟩, ⟨some 87, none, [], (.load false 1 (.t 86))⟩, ⟨some 88, none, [], (.move (.t 0))⟩, ⟨some 89, none, [], (.nilCheck (.t 88))⟩, ⟨some 90, none, [], (.fieldAddr 1 (.t 89))⟩, ⟨some 91, none, [], (.load false 1 (.t 90))⟩, ⟨some 92, none, [], (.move (.t 0))⟩, ⟨some 93, none, [], (.nilCheck (.t 92))⟩, ⟨some 94, none, [], (.fieldAddr 1 (.t 93))⟩, ⟨some 95, none, [], (.load false 1 (.t 94))⟩, ⟨some 96, none, [], (.bin .add (.t 95) (.c (.int .i64 1)))⟩, ⟨some 97, none, [], (.sliceStr (.t 87) (some (.t 91)) (some (.t 96)))⟩, ⟨some 98, none, [], (.call 44 [(.t 83), (.c (.int .u8 3)), (.t 97), (.c (.int .i64 0))])⟩])
 (.goto 1)) .skip))))))))))))))))
 (.seq (.region [⟨some 99, none, [], (.move (.t 0))⟩, ⟨some 100, none, [], (.call 46 [(.t 99), (.c (.int .i64 8)), (.c (.int .i64 1))])⟩] false)
 (.seq (.goto 1)
 (.seq .label
 (.seq (.region [⟨some 101, none, [], (.move (.t 0))⟩, ⟨some 102, none, [], (.call 44 [(.t 101), (.c (.int .u8 4)), (.c (.str [])), (.c (.int .i64 0))])⟩] false)
 (.seq (.region [⟨some 103, none, [], (.move (.t 0))⟩, ⟨some 104, none, [], (.nilCheck (.t 103))⟩, ⟨some 105, none, [], (.fieldAddr 1 (.t 104))⟩, ⟨some 106, none, [], (.load false 1 (.t 105))⟩, ⟨some 107, none, [], (.bin .add (.t 106) (.c (.int .i64 1)))⟩, ⟨some 108, none, [], (.nilCheck (.t 103))⟩, ⟨some 109, none, [], (.fieldAddr 1 (.t 108))⟩, ⟨none, none, [], (.store 1 (.t 109) (.t 107))⟩] false)
 (.seq (.region [⟨some 110, none, [], (.move (.t 0))⟩, ⟨some 111, none, [], (.move (.t 0))⟩, ⟨some 112, none, [], (.move (.t 0))⟩, ⟨some 113, none, [], (.nilCheck (.t 112))⟩, ⟨some 114, none, [], (.fieldAddr 2 (.t 113))⟩, ⟨some 115, none, [], (.load false 1 (.t 114))⟩, ⟨some 116, none, [], (.bin .add (.t 115) (.c (.int .i64 1)))⟩, ⟨some 117, none, [], (.move (.t 0))⟩, ⟨some 118, none, [], (.nilCheck (.t 117))⟩, ⟨some 119, none, [], (.fieldAddr 1 (.t 118))⟩, ⟨some 120, none, [], (.load false 1 (.t 119))⟩, ⟨some 121, none, [], (.nilCheck (.t 110))⟩, ⟨some 122, none, [], (.fieldAddr 2 (.t 121))⟩, ⟨none, none, [], (.store 1 (.t 122) (.t 116))⟩, ⟨some 123, none, [], (.nilCheck (.t 111))⟩, ⟨some 124, none, [], (.fieldAddr 3 (.t 123))⟩, ⟨none, none, [], (.store 1 (.t 124) (.t 120))⟩] true)
 (.seq (.goto 1)
 (.seq .label
 (.seq (.seq (.regionP [⟨some 125, none, [], (.move (.t 0))⟩, ⟨some 126, none, [], (.nilCheck (.t 125))⟩, ⟨some 127, none, [], (.fieldAddr 0 (.t 126))⟩, ⟨some 128, none, [], (.load false 1 (.t 127))⟩, ⟨some 129, none, [], (.move (.t 0))⟩, ⟨some 130, none, [], (.nilCheck (.t 129))⟩, ⟨some 131, none, [], (.fieldAddr 1 (.t 130))⟩, ⟨some 132, none, [], (.load false 1 (.t 131))⟩, ⟨some 133, none, [], (.sliceStr (.t 128) (some (.t 132)) none)⟩, ⟨some 134, none, [], (.call 45 [(.t 133), (.c (.int .u8 10))])⟩, ⟨some 3, none, [], (.move (.t 134))⟩])
 (.seq (.region [⟨some 135, none, [], (.move (.t 3))⟩, ⟨some 136, none, [], (.bin .geq (.t 135) (.c (.int .i64 0)))⟩] false)
 (.cond (.t 136) (.seq (.region [⟨some 137, none, [], (.move (.t 0))⟩, ⟨some 138, none, [], (.nilCheck (.t 137))⟩, ⟨some 139, none, [], (.fieldAddr 1 (.t 138))⟩, ⟨some 140, none, [], (.load false 1 (.t 139))⟩, ⟨some 141, none, [], (.move (.t 3))⟩, ⟨some 142, none, [], (.bin .add (.t 140) (.t 141))⟩, ⟨some 143, none, [], (.nilCheck (.t 137))⟩, ⟨some 144, none, [], (.fieldAddr 1 (.t 143))⟩, ⟨none, none, [], (.store 1 (.t 144) (.t 142))⟩] false)
 (.goto 2)) .skip)))
 (.seq (.region [⟨some 145, none, [], (.move (.t 0))⟩, ⟨some 146, none, [], (.move (.t 0))⟩, ⟨some 147, none, [], (.nilCheck (.t 146))⟩, ⟨some 148, none, [], (.fieldAddr 0 (.t 147))⟩, ⟨some 149, none, [], (.load false 1 (.t 148))⟩, ⟨some 150, none, [], (.lenStr (.t 149))⟩, ⟨some 151, none, [], (.nilCheck (.t 145))⟩, ⟨some 152, none, [], (.fieldAddr 1 (.t 151))⟩, ⟨none, none, [], (.store 1 (.t 152) (.t 150))⟩] false)
 (.seq (.goto 0)
 (.seq .label
 (.seq (.seq (.region [⟨some 153, none, [], (.move (.t 0))⟩, ⟨some 154, none, [], (.call 47 [(.t 153), (.c (.str [46]))])⟩, ⟨some 4, none, [], (.move (.t 154))⟩] false)
 (.seq (.region [⟨some 155, none, [], (.move (.t 4))⟩, ⟨some 156, none, [], (.lenStr (.t 155))⟩, ⟨some 157, none, [], (.bin .gtr (.t 156) (.c (.int .i64 32)))⟩] false)
 (.cond (.t 157) (.region [⟨some 158, none, [], (.move (.t 0))⟩, ⟨some 159, none, [], (.move (.t 4))⟩, ⟨some 160, none, [], (.lenStr (.t 159))⟩, ⟨some 161, none, [], (.call 46 [(.t 158), (.c (.int .i64 3)), (.t 160)])⟩] false) (.region [⟨some 162, none, [], (.move (.t 0))⟩, ⟨some 163, none, [], (.move (.t 4))⟩, ⟨some 164, none, [], (.call 44 [(.t 162), (.c (.int .u8 1)), (.t 163), (.c (.int .i64 0))])⟩] false))))
 (.seq (.goto 1)
 (.seq .label
 (.seq (.region [⟨some 165, none, [], (.move (.t 0))⟩, ⟨some 166, none, [], (.move (.t 0))⟩, ⟨some 167, none, [], (.call 47 [(.t 166), (.c (.str []))])⟩, ⟨some 168, none, [], (.call 48 [(.t 165), (.t 167)])⟩] false)
 (.seq (.goto 1)
 (.seq .label
 (.region [⟨some 169, none, [], (.move (.t 0))⟩, ⟨some 170, none, [], (.call 44 [(.t 169), (.c (.int .u8 4)), (.c (.str [])), (.c (.int .i64 0))])⟩] false)))))))))))))))))))))) [(1, (.seq .skip
 (.seq (.seq (.region [⟨some 5, none, [], (.move (.t 0))⟩, ⟨some 6, none, [], (.nilCheck (.t 5))⟩, ⟨some 7, none, [], (.fieldAddr 1 (.t 6))⟩, ⟨some 8, none, [], (.load false 1 (.t 7))⟩, ⟨some 9, none, [], (.move (.t 0))⟩, ⟨some 10, none, [], (.nilCheck (.t 9))⟩, ⟨some 11, none, [], (.fieldAddr 0 (.t 10))⟩, ⟨some 12, none, [], (.load false 1 (.t 11))⟩, ⟨some 13, none, [], (.lenStr (.t 12))⟩, ⟨some 14, none, [], (.bin .eql (.t 8) (.t 13))⟩] true)
 (.cond (.t 14) (.goto 0) .skip))
 (.seq (.seq (.region [⟨some 15, none, [], (.move (.t 0))⟩, ⟨some 16, none, [], (.nilCheck (.t 15))⟩, ⟨some 17, none, [], (.fieldAddr 0 (.t 16))⟩, ⟨some 18, none, [], (.load false 1 (.t 17))⟩, ⟨some 19, none, [], (.move (.t 0))⟩, ⟨some 20, none, [], (.nilCheck (.t 19))⟩, ⟨some 21, none, [], (.fieldAddr 1 (.t 20))⟩, ⟨some 22, none, [], (.load false 1 (.t 21))⟩, ⟨some 23, none, [], (.idxStr (.t 18) (.t 22))⟩, ⟨some 2, none, [], (.move (.t 23))⟩] true)
 (.block 0 (.seq (.region [⟨some 25, none, [], (.move (.t 2))⟩, ⟨some 26, none, [], (.bin .eql (.t 25) (.c (.int .u8 10)))⟩, ⟨some 24, none, [], (.move (.t 26))⟩] false)
 (.cond (.t 24) (.goto 2) (.seq (.region [⟨some 28, none, [], (.move (.t 2))⟩, ⟨some 29, none, [], (.bin .eql (.t 28) (.c (.int .u8 32)))⟩, ⟨some 30, none, [], (.move (.t 29))⟩, ⟨some 31, some (30, false), [], (.move (.t 2))⟩, ⟨some 32, some (30, false), [], (.bin .eql (.t 31) (.c (.int .u8 9)))⟩, ⟨some 33, none, [], (.pick (.t 30) (.c (.bool true)) (.t 32))⟩, ⟨some 34, none, [], (.move (.t 33))⟩, ⟨some 35, some (34, false), [], (.move (.t 2))⟩, ⟨some 36, some (34, false), [], (.bin .eql (.t 35) (.c (.int .u8 13)))⟩, ⟨some 37, none, [], (.pick (.t 34) (.c (.bool true)) (.t 36))⟩, ⟨some 27, none, [], (.move (.t 37))⟩] false)
 (.cond (.t 27) (.seq (.region [⟨some 38, none, [], (.move (.t 0))⟩, ⟨some 39, none, [], (.nilCheck (.t 38))⟩, ⟨some 40, none, [], (.fieldAddr 1 (.t 39))⟩, ⟨some 41, none, [], (.load false 1 (.t 40))⟩, ⟨some 42, none, [], (.bin .add (.t 41) (.c (.int .i64 1)))⟩, ⟨some 43, none, [], (.nilCheck (.t 38))⟩, ⟨some 44, none, [], (.fieldAddr 1 (.t 43))⟩, ⟨none, none, [], (.store 1 (.t 44) (.t 42))⟩] false)
 (.goto 1)) (.seq (.region [⟨some 46, none, [], (.move (.t 2))⟩, ⟨some 47, none, [], (.call 41 [(.t 46)])⟩, ⟨some 48, none, [], (.move (.t 47))⟩, ⟨some 49, some (48, false), [], (.move (.t 2))⟩, ⟨some 50, some (48, false), [], (.bin .eql (.t 49) (.c (.int .u8 46)))⟩, ⟨some 51, none, [], (.pick (.t 48) (.c (.bool true)) (.t 50))⟩, ⟨some 45, none, [], (.move (.t 51))⟩] false)
 (.cond (.t 45) (.goto 3) (.seq (.region [⟨some 53, none, [], (.move (.t 2))⟩, ⟨some 54, none, [], (.call 42 [(.t 53)])⟩, ⟨some 52, none, [], (.move (.t 54))⟩] false)
 (.cond (.t 52) (.goto 4) (.seq (.regionP [⟨some 56, none, [], (.move (.t 0))⟩, ⟨some 57, none, [], (.nilCheck (.t 56))⟩, ⟨some 58, none, [], (.fieldAddr 0 (.t 57))⟩, ⟨some 59, none, [], (.load false 1 (.t 58))⟩, ⟨some 60, none, [], (.move (.t 0))⟩, ⟨some 61, none, [], (.nilCheck (.t 60))⟩, ⟨some 62, none, [], (.fieldAddr 1 (.t 61))⟩, ⟨some 63, none, [], (.load false 1 (.t 62))⟩, ⟨some 64, none, [], (.sliceStr (.t 59) (some (.t 63)) none)⟩, ⟨some 65, none, [], (.call 43 [(.t 64), (.c (.str [47, 47]))])⟩, ⟨some 55, none, [], (.move (.t 65))⟩])
 (.cond (.t 55) (.goto 5) (.seq (.regionP [⟨some 67, none, [], (.move (.t 0))⟩, ⟨some 68, none, [], (.nilCheck (.t 67))⟩, ⟨some 69, none, [], (.fieldAddr 0 (.t 68))⟩, ⟨some 70, none, [], (.load false 1 (.t 69))⟩, ⟨some 71, none, [], (.move (.t 0))⟩, ⟨some 72, none, [], (.nilCheck (.t 71))⟩, ⟨some 73, none, [], (.fieldAddr 1 (.t 72))⟩, ⟨some 74, none, [], (.load false 1 (.t 73))⟩, ⟨some 75, none, [], (.sliceStr (.t 70) (some (.t 74)) none)⟩, ⟨some 76, none, [], (.call 43 [(.t 75), (.c (.str [35, 35]))])⟩, ⟨some 66, none, [], (.move (.t 76))⟩])
 (.cond (.t 66) (.seq (.region [⟨some 77, none, [], (.move (.t 0))⟩, ⟨some 78, none, [], (.call 44 [(.t 77), (.c (.int .u8 3)), (.c (.str [35, 35])), (.c (.int .i64 0))])⟩] false)
 (.goto 1)) (.seq (.region [⟨some 80, none, [], (.move (.t 2))⟩, ⟨some 81, none, [], (.call 45 [(.c (.str [123, 125, 59, 58, 40, 41, 44, 61, 43, 45, 42, 33, 35])), (.t 80)])⟩, ⟨some 82, none, [], (.bin .geq (.t 81) (.c (.int .i64 0)))⟩, ⟨some 79, none, [], (.move (.t 82))⟩] false)
 (.cond (.t 79) (.seq (.regionP [⟨some 83, none, [], (.move (.t 0))⟩, ⟨some 84, none, [], (.move (.t 0))⟩, ⟨some 85, none, [], (.nilCheck (.t 84))⟩, ⟨some 86, none, [], (.fieldAddr 0 (.t 85))⟩, ⟨some 87, none, [], (.load false 1 (.t 86))⟩, ⟨some 88, none, [], (.move (.t 0))⟩, ⟨some 89, none, [], (.nilCheck (.t 88))⟩, ⟨some 90, none, [], (.fieldAddr 1 (.t 89))⟩, ⟨some 91, none, [], (.load false 1 (.t 90))⟩, ⟨some 92, none, [], (.move (.t 0))⟩, ⟨some 93, none, [], (.nilCheck (.t 92))⟩, ⟨some 94, none, [], (.fieldAddr 1 (.t 93))⟩, ⟨some 95, none, [], (.load false 1 (.t 94))⟩, ⟨some 96, none, [], (.bin .add (.t 95) (.c (.int .i64 1)))⟩, ⟨some 97, none, [], (.sliceStr (.t 87) (some (.t 91)) (some (.t 96)))⟩, ⟨some 98, none, [], (.call 44 [(.t 83), (.c (.int .u8 3)), (.t 97), (.c (.int .i64 0))])⟩])
 (.goto 1)) .skip))))))))))))))))
 (.seq (.region [⟨some 99, none, [], (.move (.t 0))⟩, ⟨some 100, none, [], (.call 46 [(.t 99), (.c (.int .i64 8)), (.c (.int .i64 1))])⟩] false)
 (.seq (.goto 1)
 (.seq .label
 (.seq (.region [⟨some 101, none, [], (.move (.t 0))⟩, ⟨some 102, none, [], (.call 44 [(.t 101), (.c (.int .u8 4)), (.c (.str [])), (.c (.int .i64 0))])⟩] false)
 (.seq (.region [⟨some 103, none, [], (.move (.t 0))⟩, ⟨some 104, none, [], (.nilCheck (.t 103))⟩, ⟨some 105, none, [], (.fieldAddr 1 (.t 104))⟩, ⟨some 106, none, [], (.load false 1 (.t 105))⟩, ⟨some 107, none, [], (.bin .add (.t 106) (.c (.int .i64 1)))⟩, ⟨some 108, none, [], (.nilCheck (.t 103))⟩, ⟨some 109, none, [], (.fieldAddr 1 (.t 108))⟩, ⟨none, none, [], (.store 1 (.t 109) (.t 107))⟩] false)
 (.seq (.region [⟨some 110, none, [], (.move (.t 0))⟩, ⟨some 111, none, [], (.move (.t 0))⟩, ⟨some 112, none, [], (.move (.t 0))⟩, ⟨some 113, none, [], (.nilCheck (.t 112))⟩, ⟨some 114, none, [], (.fieldAddr 2 (.t 113))⟩, ⟨some 115, none, [], (.load false 1 (.t 114))⟩, ⟨some 116, none, [], (.bin .add (.t 115) (.c (.int .i64 1)))⟩, ⟨some 117, none, [], (.move (.t 0))⟩, ⟨some 118, none, [], (.nilCheck (.t 117))⟩, ⟨some 119, none, [], (.fieldAddr 1 (.t 118))⟩, ⟨some 120, none, [], (.load false 1 (.t 119))⟩, ⟨some 121, none, [], (.nilCheck (.t 110))⟩, ⟨some 122, none, [], (.fieldAddr 2 (.t 121))⟩, ⟨none, none, [], (.store 1 (.t 122) (.t 116))⟩, ⟨some 123, none, [], (.nilCheck (.t 111))⟩, ⟨some 124, none, [], (.fieldAddr 3 (.t 123))⟩, ⟨none, none, [], (.store 1 (.t 124) (.t 120))⟩] true)
 (.seq (.goto 1)
 (.seq .label
 (.seq (.seq (.regionP [⟨some 125, none, [], (.move (.t 0))⟩, ⟨some 126, none, [], (.nilCheck (.t 125))⟩, ⟨some 127, none, [], (.fieldAddr 0 (.t 126))⟩, ⟨some 128, none, [], (.load false 1 (.t 127))⟩, ⟨some 129, none, [], (.move (.t 0))⟩, ⟨some 130, none, [], (.nilCheck (.t 129))⟩, ⟨some 131, none, [], (.fieldAddr 1 (.t 130))⟩, ⟨some 132, none, [], (.load false 1 (.t 131))⟩, ⟨some 133, none, [], (.sliceStr (.t 128) (some (.t 132)) none)⟩, ⟨some 134, none, [], (.call 45 [(.t 133), (.c (.int .u8 10))])⟩, ⟨some 3, none, [], (.move (.t 134))⟩])
 (.seq (.region [⟨some 135, none, [], (.move (.t 3))⟩, ⟨some 136, none, [], (.bin .geq (.t 135) (.c (.int .i64 0)))⟩] false)
 (.cond (.t 136) (.seq (.region [⟨some 137, none, [], (.move (.t 0))⟩, ⟨some 138, none, [], (.nilCheck (.t 137))⟩, ⟨some 139, none, [], (.fieldAddr 1 (.t 138))⟩, ⟨some 140, none, [], (.load false 1 (.t 139))⟩, ⟨some 141, none, [], (.move (.t 3))⟩, ⟨some 142, none, [], (.bin .add (.t 140) (.t 141))⟩, ⟨some 143, none, [], (.nilCheck (.t 137))⟩, ⟨some 144, none, [], (.fieldAddr 1 (.t 143))⟩, ⟨none, none, [], (.store 1 (.t 144) (.t 142))⟩] false)
 (.goto 2)) .skip)))
 (.seq (.region [⟨some 145, none, [], (.move (.t 0))⟩, ⟨some 146, none, [], (.move (.t 0))⟩, ⟨some 147, none, [], (.nilCheck (.t 146))⟩, ⟨some 148, none, [], (.fieldAddr 0 (.t 147))⟩, ⟨some 149, none, [], (.load false 1 (.t 148))⟩, ⟨some 150, none, [], (.lenStr (.t 149))⟩, ⟨some 151, none, [], (.nilCheck (.t 145))⟩, ⟨some 152, none, [], (.fieldAddr 1 (.t 151))⟩, ⟨none, none, [], (.store 1 (.t 152) (.t 150))⟩] false)
 (.seq (.goto 0)
 (.seq .label
 (.seq (.seq (.region [⟨some 153, none, [], (.move (.t 0))⟩, ⟨some 154, none, [], (.call 47 [(.t 153), (.c (.str [46]))])⟩, ⟨some 4, none, [], (.move (.t 154))⟩] false)
 (.seq (.region [⟨some 155, none, [], (.move (.t 4))⟩, ⟨some 156, none, [], (.lenStr (.t 155))⟩, ⟨some 157, none, [], (.bin .gtr (.t 156) (.c (.int .i64 32)))⟩] false)
 (.cond (.t 157) (.region [⟨some 158, none, [], (.move (.t 0))⟩, ⟨some 159, none, [], (.move (.t 4))⟩, ⟨some 160, none, [], (.lenStr (.t 159))⟩, ⟨some 161, none, [], (.call 46 [(.t 158), (.c (.int .i64 3)), (.t 160)])⟩] false) (.region [⟨some 162, none, [], (.move (.t 0))⟩, ⟨some 163, none, [], (.move (.t 4))⟩, ⟨some 164, none, [], (.call 44 [(.t 162), (.c (.int .u8 1)), (.t 163), (.c (.int .i64 0))])⟩] false))))
 (.seq (.goto 1)
 (.seq .label
 (.seq (.region [⟨some 165, none, [], (.move (.t 0))⟩, ⟨some 166, none, [], (.move (.t 0))⟩, ⟨some 167, none, [], (.call 47 [(.t 166), (.c (.str []))])⟩, ⟨some 168, none, [], (.call 48 [(.t 165), (.t 167)])⟩] false)
 (.seq (.goto 1)
 (.seq .label
 (.region [⟨some 169, none, [], (.move (.t 0))⟩, ⟨some 170, none, [], (.call 44 [(.t 169), (.c (.int .u8 4)), (.c (.str [])), (.c (.int .i64 0))])⟩] false))))))))))))))))))))))), (2, (.seq .skip
 (.seq (.region [⟨some 101, none, [], (.move (.t 0))⟩, ⟨some 102, none, [], (.call 44 [(.t 101), (.c (.int .u8 4)), (.c (.str [])), (.c (.int .i64 0))])⟩] false)
 (.seq (.region [⟨some 103, none, [], (.move (.t 0))⟩, ⟨some 104, none, [], (.nilCheck (.t 103))⟩, ⟨some 105, none, [], (.fieldAddr 1 (.t 104))⟩, ⟨some 106, none, [], (.load false 1 (.t 105))⟩, ⟨some 107, none, [], (.bin .add (.t 106) (.c (.int .i64 1)))⟩, ⟨some 108, none, [], (.nilCheck (.t 103))⟩, ⟨some 109, none, [], (.fieldAddr 1 (.t 108))⟩, ⟨none, none, [], (.store 1 (.t 109) (.t 107))⟩] false)
 (.seq (.region [⟨some 110, none, [], (.move (.t 0))⟩, ⟨some 111, none, [], (.move (.t 0))⟩, ⟨some 112, none, [], (.move (.t 0))⟩, ⟨some 113, none, [], (.nilCheck (.t 112))⟩, ⟨some 114, none, [], (.fieldAddr 2 (.t 113))⟩, ⟨some 115, none, [], (.load false 1 (.t 114))⟩, ⟨some 116, none, [], (.bin .add (.t 115) (.c (.int .i64 1)))⟩, ⟨some 117, none, [], (.move (.t 0))⟩, ⟨some 118, none, [], (.nilCheck (.t 117))⟩, ⟨some 119, none, [], (.fieldAddr 1 (.t 118))⟩, ⟨some 120, none, [], (.load false 1 (.t 119))⟩, ⟨some 121, none, [], (.nilCheck (.t 110))⟩, ⟨some 122, none, [], (.fieldAddr 2 (.t 121))⟩, ⟨none, none, [], (.store 1 (.t 122) (.t 116))⟩, ⟨some 123, none, [], (.nilCheck (.t 111))⟩, ⟨some 124, none, [], (.fieldAddr 3 (.t 123))⟩, ⟨none, none, [], (.store 1 (.t 124) (.t 120))⟩] true)
 (.seq (.goto 1)
 (.seq .label
 (.seq (.seq (.regionP [⟨some 125, none, [], (.move (.t 0))⟩, ⟨some 126, none, [], (.nilCheck (.t 125))⟩, ⟨some 127, none, [], (.fieldAddr 0 (.t 126))⟩, ⟨some 128, none, [], (.load false 1 (.t 127))⟩, ⟨some 129, none, [], (.move (.t 0))⟩, ⟨some 130, none, [], (.nilCheck (.t 129))⟩, ⟨some 131, none, [], (.fieldAddr 1 (.t 130))⟩, ⟨some 132, none, [], (.load false 1 (.t 131))⟩, ⟨some 133, none, [], (.sliceStr (.t 128) (some (.t 132)) none)⟩, ⟨some 134, none, [], (.call 45 [(.t 133), (.c (.int .u8 10))])⟩, ⟨some 3, none, [], (.move (.t 134))⟩])
 (.seq (.region [⟨some 135, none, [], (.move (.t 3))⟩, ⟨some 136, none, [], (.bin .geq (.t 135) (.c (.int .i64 0)))⟩] false)
 (.cond (.t 136) (.seq (.region [⟨some 137, none, [], (.move (.t 0))⟩, ⟨some 138, none, [], (.nilCheck (.t 137))⟩, ⟨some 139, none, [], (.fieldAddr 1 (.t 138))⟩, ⟨some 140, none, [], (.load false 1 (.t 139))⟩, ⟨some 141, none, [], (.move (.t 3))⟩, ⟨some 142, none, [], (.bin .add (.t 140) (.t 141))⟩, ⟨some 143, none, [], (.nilCheck (.t 137))⟩, ⟨some 144, none, [], (.fieldAddr 1 (.t 143))⟩, ⟨none, none, [], (.store 1 (.t 144) (.t 142))⟩] false)
 (.goto 2)) .skip)))
 (.seq (.region [⟨some 145, none, [], (.move (.t 0))⟩, ⟨some 146, none, [], (.move (.t 0))⟩, ⟨some 147, none, [], (.nilCheck (.t 146))⟩, ⟨some 148, none, [], (.fieldAddr 0 (.t 147))⟩, ⟨some 149, none, [], (.load false 1 (.t 148))⟩, ⟨some 150, none, [], (.lenStr (.t 149))⟩, ⟨some 151, none, [], (.nilCheck (.t 145))⟩, ⟨some 152, none, [], (.fieldAddr 1 (.t 151))⟩, ⟨none, none, [], (.store 1 (.t 152) (.t 150))⟩] false)
 (.seq (.goto 0)
 (.seq .label
 (.seq (.seq (.region [⟨some 153, none, [], (.move (.t 0))⟩, ⟨some 154, none, [], (.call 47 [(.t 153), (.c (.str [46]))])⟩, ⟨some 4, none, [], (.move (.t 154))⟩] false)
 (.seq (.region [⟨some 155, none, [], (.move (.t 4))⟩, ⟨some 156, none, [], (.lenStr (.t 155))⟩, ⟨some 157, none, [], (.bin .gtr (.t 156) (.c (.int .i64 32)))⟩] false)
 (.cond (.t 157) (.region [⟨some 158, none, [], (.move (.t 0))⟩, ⟨some 159, none, [], (.move (.t 4))⟩, ⟨some 160, none, [], (.lenStr (.t 159))⟩, ⟨some 161, none, [], (.call 46 [(.t 158), (.c (.int .i64 3)), (.t 160)])⟩] false) (.region [⟨some 162, none, [], (.move (.t 0))⟩, ⟨some 163, none, [], (.move (.t 4))⟩, ⟨some 164, none, [], (.call 44 [(.t 162), (.c (.int .u8 1)), (.t 163), (.c (.int .i64 0))])⟩] false))))
 (.seq (.goto 1)
 (.seq .label
 (.seq (.region [⟨some 165, none, [], (.move (.t 0))⟩, ⟨some 166, none, [], (.move (.t 0))⟩, ⟨some 167, none, [], (.call 47 [(.t 166), (.c (.str []))])⟩, ⟨some 168, none, [], (.call 48 [(.t 165), (.t 167)])⟩] false)
 (.seq (.goto 1)
 (.seq .label
 (.region [⟨some 169, none, [], (.move (.t 0))⟩, ⟨some 170, none, [], (.call 44 [(.t 169), (.c (.int .u8 4)), (.c (.str [])), (.c (.int .i64 0))])⟩] false)))))))))))))))))), (5, (.seq .skip
 (.seq (.seq (.regionP [⟨some 125, none, [], (.move (.t 0))⟩, ⟨some 126, none, [], (.nilCheck (.t 125))⟩, ⟨some 127, none, [], (.fieldAddr 0 (.t 126))⟩, ⟨some 128, none, [], (.load false 1 (.t 127))⟩, ⟨some 129, none, [], (.move (.t 0))⟩, ⟨some 130, none, [], (.nilCheck (.t 129))⟩, ⟨some 131, none, [], (.fieldAddr 1 (.t 130))⟩, ⟨some 132, none, [], (.load false 1 (.t 131))⟩, ⟨some 133, none, [], (.sliceStr (.t 128) (some (.t 132)) none)⟩, ⟨some 134, none, [], (.call 45 [(.t 133), (.c (.int .u8 10))])⟩, ⟨some 3, none, [], (.move (.t 134))⟩])
 (.seq (.region [⟨some 135, none, [], (.move (.t 3))⟩, ⟨some 136, none, [], (.bin .geq (.t 135) (.c (.int .i64 0)))⟩] false)
 (.cond (.t 136) (.seq (.region [⟨some 137, none, [], (.move (.t 0))⟩, ⟨some 138, none, [], (.nilCheck (.t 137))⟩, ⟨some 139, none, [], (.fieldAddr 1 (.t 138))⟩, ⟨some 140, none, [], (.load false 1 (.t 139))⟩, ⟨some 141, none, [], (.move (.t 3))⟩, ⟨some 142, none, [], (.bin .add (.t 140) (.t 141))⟩, ⟨some 143, none, [], (.nilCheck (.t 137))⟩, ⟨some 144, none, [], (.fieldAddr 1 (.t 143))⟩, ⟨none, none, [], (.store 1 (.t 144) (.t 142))⟩] false)
 (.goto 2)) .skip)))
 (.seq (.region [⟨some 145, none, [], (.move (.t 0))⟩, ⟨some 146, none, [], (.move (.t 0))⟩, ⟨some 147, none, [], (.nilCheck (.t 146))⟩, ⟨some 148, none, [], (.fieldAddr 0 (.t 147))⟩, ⟨some 149, none, [], (.load false 1 (.t 148))⟩, ⟨some 150, none, [], (.lenStr (.t 149))⟩, ⟨some 151, none, [], (.nilCheck (.t 145))⟩, ⟨some 152, none, [], (.fieldAddr 1 (.t 151))⟩, ⟨none, none, [], (.store 1 (.t 152) (.t 150))⟩] false)
 (.seq (.goto 0)
 (.seq .label
 (.seq (.seq (.region [⟨some 153, none, [], (.move (.t 0))⟩, ⟨some 154, none, [], (.call 47 [(.t 153), (.c (.str [46]))])⟩, ⟨some 4, none, [], (.move (.t 154))⟩] false)
 (.seq (.region [⟨some 155, none, [], (.move (.t 4))⟩, ⟨some 156, none, [], (.lenStr (.t 155))⟩, ⟨some 157, none, [], (.bin .gtr (.t 156) (.c (.int .i64 32)))⟩] false)
 (.cond (.t 157) (.region [⟨some 158, none, [], (.move (.t 0))⟩, ⟨some 159, none, [], (.move (.t 4))⟩, ⟨some 160, none, [], (.lenStr (.t 159))⟩, ⟨some 161, none, [], (.call 46 [(.t 158), (.c (.int .i64 3)), (.t 160)])⟩] false) (.region [⟨some 162, none, [], (.move (.t 0))⟩, ⟨some 163, none, [], (.move (.t 4))⟩, ⟨some 164, none, [], (.call 44 [(.t 162), (.c (.int .u8 1)), (.t 163), (.c (.int .i64 0))])⟩] false))))
 (.seq (.goto 1)
 (.seq .label
 (.seq (.region [⟨some 165, none, [], (.move (.t 0))⟩, ⟨some 166, none, [], (.move (.t 0))⟩, ⟨some 167, none, [], (.call 47 [(.t 166), (.c (.str []))])⟩, ⟨some 168, none, [], (.call 48 [(.t 165), (.t 167)])⟩] false)
 (.seq (.goto 1)
 (.seq .label
 (.region [⟨some 169, none, [], (.move (.t 0))⟩, ⟨some 170, none, [], (.call 44 [(.t 169), (.c (.int .u8 4)), (.c (.str [])), (.c (.int .i64 0))])⟩] false))))))))))))), (3, (.seq .skip
 (.seq (.seq (.region [⟨some 153, none, [], (.move (.t 0))⟩, ⟨some 154, none, [], (.call 47 [(.t 153), (.c (.str [46]))])⟩, ⟨some 4, none, [], (.move (.t 154))⟩] false)
 (.seq (.region [⟨some 155, none, [], (.move (.t 4))⟩, ⟨some 156, none, [], (.lenStr (.t 155))⟩, ⟨some 157, none, [], (.bin .gtr (.t 156) (.c (.int .i64 32)))⟩] false)
 (.cond (.t 157) (.region [⟨some 158, none, [], (.move (.t 0))⟩, ⟨some 159, none, [], (.move (.t 4))⟩, ⟨some 160, none, [], (.lenStr (.t 159))⟩, ⟨some 161, none, [], (.call 46 [(.t 158), (.c (.int .i64 3)), (.t 160)])⟩] false) (.region [⟨some 162, none, [], (.move (.t 0))⟩, ⟨some 163, none, [], (.move (.t 4))⟩, ⟨some 164, none, [], (.call 44 [(.t 162), (.c (.int .u8 1)), (.t 163), (.c (.int .i64 0))])⟩] false))))
 (.seq (.goto 1)
 (.seq .label
 (.seq (.region [⟨some 165, none, [], (.move (.t 0))⟩, ⟨some 166, none, [], (.move (.t 0))⟩, ⟨some 167, none, [], (.call 47 [(.t 166), (.c (.str []))])⟩, ⟨some 168, none, [], (.call 48 [(.t 165), (.t 167)])⟩] false)
 (.seq (.goto 1)
 (.seq .label
 (.region [⟨some 169, none, [], (.move (.t 0))⟩, ⟨some 170, none, [], (.call 44 [(.t 169), (.c (.int .u8 4)), (.c (.str [])), (.c (.int .i64 0))])⟩] false))))))))), (4, (.seq .skip
 (.seq (.region [⟨some 165, none, [], (.move (.t 0))⟩, ⟨some 166, none, [], (.move (.t 0))⟩, ⟨some 167, none, [], (.call 47 [(.t 166), (.c (.str []))])⟩, ⟨some 168, none, [], (.call 48 [(.t 165), (.t 167)])⟩] false)
 (.seq (.goto 1)
 (.seq .label
 (.region [⟨some 169, none, [], (.move (.t 0))⟩, ⟨some 170, none, [], (.call 44 [(.t 169), (.c (.int .u8 4)), (.c (.str [])), (.c (.int .i64 0))])⟩] false)))))), (0, (.seq .skip
 (.region [⟨some 169, none, [], (.move (.t 0))⟩, ⟨some 170, none, [], (.call 44 [(.t 169), (.c (.int .u8 4)), (.c (.str [])), (.c (.int .i64 0))])⟩] false)))])⟩
-- (*coxless/lex.cutter).takes
def ir44 : IFunc := ⟨44, [], (.seq (.region [⟨some 8, none, [], (.move (.t 0))⟩, ⟨some 9, none, [], (.move (.t 0))⟩, ⟨some 10, none, [], (.nilCheck (.t 9))⟩, ⟨some 11, none, [], (.fieldAddr 4 (.t 10))⟩, ⟨some 12, none, [], (.load false 1 (.t 11))⟩, ⟨some 13, none, [], (.move (.t 1))⟩, ⟨some 14, none, [], (.move (.t 2))⟩, ⟨some 15, none, [], (.move (.t 3))⟩, ⟨some 16, none, [], (.move (.t 0))⟩, ⟨some 17, none, [], (.nilCheck (.t 16))⟩, ⟨some 18, none, [], (.fieldAddr 2 (.t 17))⟩, ⟨some 19, none, [], (.load false 1 (.t 18))⟩, ⟨some 20, none, [], (.move (.t 0))⟩, ⟨some 21, none, [], (.nilCheck (.t 20))⟩, ⟨some 22, none, [], (.fieldAddr 1 (.t 21))⟩, ⟨some 23, none, [], (.load false 1 (.t 22))⟩, ⟨some 24, none, [], (.move (.t 0))⟩, ⟨some 25, none, [], (.nilCheck (.t 24))⟩, ⟨some 26, none, [], (.fieldAddr 3 (.t 25))⟩, ⟨some 27, none, [], (.load false 1 (.t 26))⟩, ⟨some 28, none, [], (.bin .sub (.t 23) (.t 27))⟩, ⟨some 29, none, [], (.bin .add (.t 28) (.c (.int .i64 1)))⟩, ⟨some 30, none, [], (.build [(.int .u8 0), (.str []), (.int .i64 0), (.int .i64 0), (.int .i64 0)] [(0, 1, (.t 13)), (1, 1, (.t 14)), (2, 1, (.t 15)), (3, 1, (.t 19)), (4, 1, (.t 29))])⟩, ⟨some 31, none, [], (.buildSlice 1 5 [(.int .u8 0), (.str []), (.int .i64 0), (.int .i64 0), (.int .i64 0)] [(0, 5, (.t 30))])⟩, ⟨some 32, none, [], (.append 5 48 (.t 12) (.t 31))⟩, ⟨some 33, none, [], (.nilCheck (.t 8))⟩, ⟨some 34, none, [], (.fieldAddr 4 (.t 33))⟩, ⟨none, none, [], (.store 1 (.t 34) (.t 32))⟩] true)
 (.region [⟨some 35, none, [], (.move (.t 0))⟩, ⟨some 36, none, [], (.nilCheck (.t 35))⟩, ⟨some 37, none, [], (.fieldAddr 1 (.t 36))⟩, ⟨some 38, none, [], (.load false 1 (.t 37))⟩, ⟨some 39, none, [], (.move (.t 2))⟩, ⟨some 40, none, [], (.lenStr (.t 39))⟩, ⟨some 41, none, [], (.bin .add (.t 38) (.t 40))⟩, ⟨some 42, none, [], (.nilCheck (.t 35))⟩, ⟨some 43, none, [], (.fieldAddr 1 (.t 42))⟩, ⟨none, none, [], (.store 1 (.t 43) (.t 41))⟩] false))⟩
-- (*coxless/lex.cutter).number
def ir48 : IFunc := ⟨22, [], (.seq (.region [⟨some 7, none, [], (.move (.t 1))⟩, ⟨some 8, none, [], (.call 69 [(.t 7)])⟩, ⟨some 6, none, [], (.move (.t 8))⟩, ⟨some 9, none, [], (.extract (.t 6) 0)⟩, ⟨some 10, none, [], (.extract (.t 6) 1)⟩, ⟨some 4, none, [], (.move (.t 9))⟩, ⟨some 5, none, [], (.move (.t 10))⟩] false)
 (.seq (.region [⟨some 11, none, [], (.move (.t 5))⟩, ⟨some 12, none, [], (.bin .neq (.t 11) (.c (.int .i64 0)))⟩] false)
 (.cond (.t 12) (.region [⟨some 13, none, [], (.move (.t 0))⟩, ⟨some 14, none, [], (.move (.t 5))⟩, ⟨some 15, none, [], (.move (.t 1))⟩, ⟨some 16, none, [], (.lenStr (.t 15))⟩, ⟨some 17, none, [], (.call 46 [(.t 13), (.t 14), (.t 16)])⟩] false) (.region [⟨some 18, none, [], (.move (.t 0))⟩, ⟨some 19, none, [], (.move (.t 1))⟩, ⟨some 20, none, [], (.move (.t 4))⟩, ⟨some 21, none, [], (.call 44 [(.t 18), (.c (.int .u8 2)), (.t 19), (.t 20)])⟩] false))))⟩
-- (*coxless/lex.cutter).wrong
def ir46 : IFunc := ⟨45, [], (.seq (.seq (.region [⟨some 6, none, [], (.move (.t 0))⟩, ⟨some 7, none, [], (.nilCheck (.t 6))⟩, ⟨some 8, none, [], (.fieldAddr 5 (.t 7))⟩, ⟨some 9, none, [], (.load false 1 (.t 8))⟩, ⟨some 10, none, [], (.lenSl (.t 9))⟩, ⟨some 11, none, [], (.bin .lss (.t 10) (.c (.int .i64 100)))⟩] false)
 (.cond (.t 11) (.region [⟨some 12, none, [], (.move (.t 0))⟩, ⟨some 13, none, [], (.move (.t 0))⟩, ⟨some 14, none, [], (.nilCheck (.t 13))⟩, ⟨some 15, none, [], (.fieldAddr 5 (.t 14))⟩, ⟨some 16, none, [], (.load false 1 (.t 15))⟩, ⟨some 17, none, [], (.move (.t 0))⟩, ⟨some 18, none, [], (.nilCheck (.t 17))⟩, ⟨some 19, none, [], (.fieldAddr 2 (.t 18))⟩, ⟨some 20, none, [], (.load false 1 (.t 19))⟩, ⟨some 21, none, [], (.move (.t 0))⟩, ⟨some 22, none, [], (.nilCheck (.t 21))⟩, ⟨some 23, none, [], (.fieldAddr 1 (.t 22))⟩, ⟨some 24, none, [], (.load false 1 (.t 23))⟩, ⟨some 25, none, [], (.move (.t 0))⟩, ⟨some 26, none, [], (.nilCheck (.t 25))⟩, ⟨some 27, none, [], (.fieldAddr 3 (.t 26))⟩, ⟨some 28, none, [], (.load false 1 (.t 27))⟩, ⟨some 29, none, [], (.bin .sub (.t 24) (.t 28))⟩, ⟨some 30, none, [], (.bin .add (.t 29) (.c (.int .i64 1)))⟩, ⟨some 31, none, [], (.move (.t 1))⟩, ⟨some 32, none, [], (.build [(.int .i64 0), (.int .i64 0), (.int .i64 0)] [(0, 1, (.t 20)), (1, 1, (.t 30)), (2, 1, (.t 31))])⟩, ⟨some 33, none, [], (.buildSlice 1 3 [(.int .i64 0), (.int .i64 0), (.int .i64 0)] [(0, 3, (.t 32))])⟩, ⟨some 34, none, [], (.append 3 24 (.t 16) (.t 33))⟩, ⟨some 35, none, [], (.nilCheck (.t 12))⟩, ⟨some 36, none, [], (.fieldAddr 5 (.t 35))⟩, ⟨none, none, [], (.store 1 (.t 36) (.t 34))⟩] true) .skip))
 (.region [⟨some 37, none, [], (.move (.t 0))⟩, ⟨some 38, none, [], (.nilCheck (.t 37))⟩, ⟨some 39, none, [], (.fieldAddr 1 (.t 38))⟩, ⟨some 40, none, [], (.load false 1 (.t 39))⟩, ⟨some 41, none, [], (.move (.t 2))⟩, ⟨some 42, none, [], (.bin .add (.t 40) (.t 41))⟩, ⟨some 43, none, [], (.nilCheck (.t 37))⟩, ⟨some 44, none, [], (.fieldAddr 1 (.t 43))⟩, ⟨none, none, [], (.store 1 (.t 44) (.t 42))⟩] false))⟩
-- coxless/lex.number
def ir69 : IFunc := ⟨50, [.tmp 2, .tmp 3], (.seq (.region [⟨some 2, none, [], (.move (.c (.int .i64 0)))⟩, ⟨some 3, none, [], (.move (.c (.int .i64 0)))⟩] false)
 (.seq (.region [⟨some 4, none, [], (.move (.c (.int .i64 10)))⟩] false)
 (.seq (.seq (.region [⟨some 9, none, [], (.move (.t 0))⟩, ⟨some 10, none, [], (.lenStr (.t 9))⟩, ⟨some 11, none, [], (.bin .gtr (.t 10) (.c (.int .i64 1)))⟩, ⟨some 12, none, [], (.move (.t 11))⟩, ⟨some 13, some (12, true), [], (.move (.t 0))⟩, ⟨some 14, some (12, true), [], (.idxStr (.t 13) (.c (.int .i64 0)))⟩, ⟨some 15, some (12, true), [], (.bin .eql (.t 14) (.c (.int .u8 48)))⟩, ⟨some 16, none, [], (.pick (.t 12) (.t 15) (.c (.bool false)))⟩, ⟨some 17, none, [], (.move (.t 16))⟩, ⟨some 18, some (17, true), [], (.move (.t 0))⟩, ⟨some 19, some (17, true), [], (.idxStr (.t 18) (.c (.int .i64 1)))⟩, ⟨some 20, some (17, true), [], (.bin .or (.t 19) (.c (.int .u8 32)))⟩, ⟨some 21, some (17, true), [], (.bin .eql (.t 20) (.c (.int .u8 120)))⟩, ⟨some 22, none, [], (.pick (.t 17) (.t 21) (.c (.bool false)))⟩] false)
 (.cond (.t 22) (.region [⟨some 23, none, [], (.move (.t 0))⟩, ⟨some 24, none, [], (.sliceStr (.t 23) (some (.c (.int .i64 2))) none)⟩, ⟨some 4, none, [], (.move (.c (.int .i64 16)))⟩, ⟨some 0, none, [], (.move (.t 24))⟩] true) .skip))
 (.seq (.region [⟨some 5, none, [], (.move (.c (.int .i64 0)))⟩, ⟨some 6, none, [], (.move (.c (.int .i64 0)))⟩] false)
 (.seq (.seq (.region [⟨some 25, none, [], (.move (.t 0))⟩, ⟨some 26, none, [], (.bin .eql (.t 25) (.c (.str [])))⟩] false)
 (.cond (.t 26) (.region [⟨some 6, none, [], (.move (.c (.int .i64 8)))⟩] false) .skip))
 (.seq (.seq (.region [⟨some 27, none, [], (.move (.t 0))⟩, ⟨some 28, none, [], (.lenStr (.t 27))⟩, ⟨some 29, none, [], (.move (.c (.int .i64 0)))⟩] false)
 (.block 0 (.loop (.seq (.region [⟨some 30, none, [], (.bin .lss (.t 29) (.t 28))⟩] false)
 (.seq (.cond (.t 30) .skip (.exit 0))
 (.seq (.block 1 (.seq (.region [⟨some 31, none, [], (.move (.t 29))⟩, ⟨some 7, none, [], (.move (.t 31))⟩] false)
 (.seq (.region [⟨some 32, none, [], (.move (.t 0))⟩, ⟨some 33, none, [], (.move (.t 7))⟩, ⟨some 34, none, [], (.idxStr (.t 32) (.t 33))⟩, ⟨some 35, none, [], (.call 99 [(.t 34)])⟩, ⟨some 8, none, [], (.move (.t 35))⟩] false)
 (.seq (.seq (.region [⟨some 36, none, [], (.move (.t 8))⟩, ⟨some 37, none, [], (.move (.t 4))⟩, ⟨some 38, none, [], (.bin .geq (.t 36) (.t 37))⟩] false)
 (.cond (.t 38) (.seq (.region [⟨some 2, none, [], (.move (.c (.int .i64 0)))⟩, ⟨some 3, none, [], (.move (.c (.int .i64 8)))⟩] false)
 .ret) .skip))
 (.region [⟨some 39, none, [], (.move (.t 5))⟩, ⟨some 40, none, [], (.move (.t 4))⟩, ⟨some 41, none, [], (.bin .mul (.t 39) (.t 40))⟩, ⟨some 42, none, [], (.move (.t 8))⟩, ⟨some 43, none, [], (.bin .add (.t 41) (.t 42))⟩, ⟨some 44, none, [], (.minmax false [(.t 43), (.c (.int .i64 1099511627777))])⟩, ⟨some 5, none, [], (.move (.t 44))⟩] false)))))
 (.region [⟨some 45, none, [], (.bin .add (.t 29) (.c (.int .i64 1)))⟩, ⟨some 29, none, [], (.move (.t 45))⟩] false)))))))
 (.seq (.seq (.region [⟨some 46, none, [], (.move (.t 5))⟩, ⟨some 47, none, [], (.bin .gtr (.t 46) (.c (.int .i64 1099511627776)))⟩] false)
 (.cond (.t 47) (.seq (.region [⟨some 2, none, [], (.move (.c (.int .i64 0)))⟩, ⟨some 3, none, [], (.move (.c (.int .i64 6)))⟩] false)
 .ret) .skip))
 (.seq (.region [⟨some 48, none, [], (.move (.t 5))⟩, ⟨some 49, none, [], (.move (.t 6))⟩, ⟨some 2, none, [], (.move (.t 48))⟩, ⟨some 3, none, [], (.move (.t 49))⟩] false)
 .ret))))))))⟩
-- coxless/lex.hex
def ir99 : IFunc := ⟨23, [.tmp 2], (.seq (.region [⟨some 2, none, [], (.move (.c (.int .i64 0)))⟩] false)
 (.seq (.block 0 (.seq (.region [⟨some 4, none, [], (.move (.t 0))⟩, ⟨some 5, none, [], (.call 42 [(.t 4)])⟩, ⟨some 3, none, [], (.move (.t 5))⟩] false)
 (.cond (.t 3) (.seq (.region [⟨some 6, none, [], (.move (.t 0))⟩, ⟨some 7, none, [], (.bin .sub (.t 6) (.c (.int .u8 48)))⟩, ⟨some 8, none, [], (.conv (.intInt .i64) (.t 7))⟩, ⟨some 2, none, [], (.move (.t 8))⟩] false)
 .ret) (.seq (.region [⟨some 10, none, [], (.move (.t 0))⟩, ⟨some 11, none, [], (.bin .or (.t 10) (.c (.int .u8 32)))⟩, ⟨some 12, none, [], (.bin .geq (.t 11) (.c (.int .u8 97)))⟩, ⟨some 13, none, [], (.move (.t 12))⟩, ⟨some 14, some (13, true), [], (.move (.t 0))⟩, ⟨some 15, some (13, true), [], (.bin .or (.t 14) (.c (.int .u8 32)))⟩, ⟨some 16, some (13, true), [], (.bin .leq (.t 15) (.c (.int .u8 102)))⟩, ⟨some 17, none, [], (.pick (.t 13) (.t 16) (.c (.bool false)))⟩, ⟨some 9, none, [], (.move (.t 17))⟩] false)
 (.cond (.t 9) (.seq (.region [⟨some 18, none, [], (.move (.t 0))⟩, ⟨some 19, none, [], (.bin .or (.t 18) (.c (.int .u8 32)))⟩, ⟨some 20, none, [], (.bin .sub (.t 19) (.c (.int .u8 97)))⟩, ⟨some 21, none, [], (.conv (.intInt .i64) (.t 20))⟩, ⟨some 22, none, [], (.bin .add (.t 21) (.c (.int .i64 10)))⟩, ⟨some 2, none, [], (.move (.t 22))⟩] false)
 .ret) .skip)))))
 (.seq (.region [⟨some 2, none, [], (.move (.c (.int .i64 16)))⟩] false)
 .ret)))⟩
-- coxless/lex.digit
def ir42 : IFunc := ⟨9, [.tmp 2], (.seq (.region [⟨some 2, none, [], (.move (.c (.bool false)))⟩] false)
 (.seq (.region [⟨some 3, none, [], (.move (.t 0))⟩, ⟨some 4, none, [], (.bin .geq (.t 3) (.c (.int .u8 48)))⟩, ⟨some 5, none, [], (.move (.t 4))⟩, ⟨some 6, some (5, true), [], (.move (.t 0))⟩, ⟨some 7, some (5, true), [], (.bin .leq (.t 6) (.c (.int .u8 57)))⟩, ⟨some 8, none, [], (.pick (.t 5) (.t 7) (.c (.bool false)))⟩, ⟨some 2, none, [], (.move (.t 8))⟩] false)
 .ret))⟩
-- (*coxless/lex.cutter).run
def ir47 : IFunc := ⟨58, [.tmp 4], (.seq (.region [⟨some 4, none, [], (.move (.c (.str [])))⟩] false)
 (.seq (.region [⟨some 6, none, [], (.move (.t 0))⟩, ⟨some 7, none, [], (.nilCheck (.t 6))⟩, ⟨some 8, none, [], (.fieldAddr 1 (.t 7))⟩, ⟨some 9, none, [], (.load false 1 (.t 8))⟩, ⟨some 5, none, [], (.move (.t 9))⟩] false)
 (.seq (.block 0 (.loop (.seq (.seq (.region [⟨some 10, none, [], (.move (.t 5))⟩, ⟨some 11, none, [], (.move (.t 0))⟩, ⟨some 12, none, [], (.nilCheck (.t 11))⟩, ⟨some 13, none, [], (.fieldAddr 0 (.t 12))⟩, ⟨some 14, none, [], (.load false 1 (.t 13))⟩, ⟨some 15, none, [], (.lenStr (.t 14))⟩, ⟨some 16, none, [], (.bin .lss (.t 10) (.t 15))⟩, ⟨some 17, none, [], (.move (.t 16))⟩, ⟨some 18, some (17, true), [], (.move (.t 0))⟩, ⟨some 19, some (17, true), [], (.nilCheck (.t 18))⟩, ⟨some 20, some (17, true), [], (.fieldAddr 0 (.t 19))⟩, ⟨some 21, some (17, true), [], (.load false 1 (.t 20))⟩, ⟨some 22, some (17, true), [], (.move (.t 5))⟩, ⟨some 23, some (17, true), [], (.idxStr (.t 21) (.t 22))⟩, ⟨some 24, some (17, true), [], (.call 41 [(.t 23)])⟩, ⟨some 25, some (17, true), [], (.move (.t 24))⟩, ⟨some 26, some (25, false), [], (.move (.t 0))⟩, ⟨some 27, some (25, false), [], (.nilCheck (.t 26))⟩, ⟨some 28, some (25, false), [], (.fieldAddr 0 (.t 27))⟩, ⟨some 29, some (25, false), [], (.load false 1 (.t 28))⟩, ⟨some 30, some (25, false), [], (.move (.t 5))⟩, ⟨some 31, some (25, false), [], (.idxStr (.t 29) (.t 30))⟩, ⟨some 32, some (25, false), [], (.call 42 [(.t 31)])⟩, ⟨some 33, some (17, true), [], (.pick (.t 25) (.c (.bool true)) (.t 32))⟩, ⟨some 34, some (17, true), [], (.move (.t 33))⟩, ⟨some 35, some (34, false), [], (.move (.t 1))⟩, ⟨some 36, some (34, false), [], (.move (.t 0))⟩, ⟨some 37, some (34, false), [], (.nilCheck (.t 36))⟩, ⟨some 38, some (34, false), [], (.fieldAddr 0 (.t 37))⟩, ⟨some 39, some (34, false), [], (.load false 1 (.t 38))⟩, ⟨some 40, some (34, false), [], (.move (.t 5))⟩, ⟨some 41, some (34, false), [], (.idxStr (.t 39) (.t 40))⟩, ⟨some 42, some (34, false), [], (.call 45 [(.t 35), (.t 41)])⟩, ⟨some 43, some (34, false), [], (.bin .geq (.t 42) (.c (.int .i64 0)))⟩, ⟨some 44, some (17, true), [], (.pick (.t 34) (.c (.bool true)) (.t 43))⟩, ⟨some 45, none, [], (.pick (.t 17) (.t 44) (.c (.bool false)))⟩] false)
 (.cond (.t 45) .skip (.exit 0)))
 (.block 1 (.region [⟨some 46, none, [], (.move (.t 5))⟩, ⟨some 47, none, [], (.bin .add (.t 46) (.c (.int .i64 1)))⟩, ⟨some 5, none, [], (.move (.t 47))⟩] false)))))
 (.seq (.region [⟨some 48, none, [], (.move (.t 0))⟩, ⟨some 49, none, [], (.nilCheck (.t 48))⟩, ⟨some 50, none, [], (.fieldAddr 0 (.t 49))⟩, ⟨some 51, none, [], (.load false 1 (.t 50))⟩, ⟨some 52, none, [], (.move (.t 0))⟩, ⟨some 53, none, [], (.nilCheck (.t 52))⟩, ⟨some 54, none, [], (.fieldAddr 1 (.t 53))⟩, ⟨some 55, none, [], (.load false 1 (.t 54))⟩, ⟨some 56, none, [], (.move (.t 5))⟩, ⟨some 57, none, [], (.sliceStr (.t 51) (some (.t 55)) (some (.t 56)))⟩, ⟨some 4, none, [], (.move (.t 57))⟩] true)
 .ret))))⟩
-- strings.IndexByte
def ir45 : IFunc := ⟨8, [.tmp 4], (.seq (.region [⟨some 4, none, [], (.move (.c (.int .i64 0)))⟩] false)
 (.seq (.region [⟨some 5, none, [], (.move (.t 0))⟩, ⟨some 6, none, [], (.move (.t 1))⟩, ⟨some 7, none, [], (.call 68 [(.t 5), (.t 6)])⟩, ⟨some 4, none, [], (.move (.t 7))⟩] false)
 .ret))⟩
-- internal/stringslite.IndexByte
def ir68 : IFunc := ⟨8, [.tmp 4], (.seq (.region [⟨some 4, none, [], (.move (.c (.int .i64 0)))⟩] false)
 (.seq (.region [⟨some 5, none, [], (.move (.t 0))⟩, ⟨some 6, none, [], (.move (.t 1))⟩, ⟨some 7, none, [], (.call 98 [(.t 5), (.t 6)])⟩, ⟨some 4, none, [], (.move (.t 7))⟩] false)
 .ret))⟩
-- coxless/lex.letter
def ir41 : IFunc := ⟨15, [.tmp 2], (.seq (.region [⟨some 2, none, [], (.move (.c (.bool false)))⟩] false)
 (.seq (.region [⟨some 3, none, [], (.move (.t 0))⟩, ⟨some 4, none, [], (.bin .or (.t 3) (.c (.int .u8 32)))⟩, ⟨some 5, none, [], (.bin .geq (.t 4) (.c (.int .u8 97)))⟩, ⟨some 6, none, [], (.move (.t 5))⟩, ⟨some 7, some (6, true), [], (.move (.t 0))⟩, ⟨some 8, some (6, true), [], (.bin .or (.t 7) (.c (.int .u8 32)))⟩, ⟨some 9, some (6, true), [], (.bin .leq (.t 8) (.c (.int .u8 122)))⟩, ⟨some 10, none, [], (.pick (.t 6) (.t 9) (.c (.bool false)))⟩, ⟨some 11, none, [], (.move (.t 10))⟩, ⟨some 12, some (11, false), [], (.move (.t 0))⟩, ⟨some 13, some (11, false), [], (.bin .eql (.t 12) (.c (.int .u8 95)))⟩, ⟨some 14, none, [], (.pick (.t 11) (.c (.bool true)) (.t 13))⟩, ⟨some 2, none, [], (.move (.t 14))⟩] false)
 .ret))⟩
end Go.V
