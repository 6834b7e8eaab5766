/- The tables of mem's functions. (Printed by mkmem.py.) -/
import Derived.Test.YtlpdekocilhciaaKU6
import Derived.Test.YtlpdekocilhciaaVE
set_option linter.unusedVariables false
set_option linter.unusedSimpArgs false
set_option linter.unusedSectionVars false
/- The tables of mem's functions. (Printed by mkmem.py.) -/
namespace Go.V
open Go Go.V.KU Go.Proofs
-- coxless/mem.New
def ir12 : IFunc := ⟨4, [.tmp 0], (.seq (.region [⟨some 0, none, [], (.move (.c .nilPtr))⟩] false)
 (.seq (.region [⟨some 1, none, [], .mkMap⟩, ⟨some 2, none, [], (.build [.nilMap] [(0, 1, (.t 1))])⟩, ⟨some 3, none, [], (.box (.t 2))⟩, ⟨some 0, none, [], (.move (.t 3))⟩] false)
 .ret))⟩
-- (*coxless/mem.Mem).Word
def ir14 : IFunc := ⟨39, [.tmp 6, .tmp 7], (.seq (.region [⟨some 6, none, [], (.move (.c (.int .u32 0)))⟩, ⟨some 7, none, [], (.move (.c (.int .i64 0)))⟩] false)
 (.seq (.seq (.region [⟨some 11, none, [], (.move (.t 0))⟩, ⟨some 12, none, [], (.move (.t 1))⟩, ⟨some 13, none, [], (.move (.t 2))⟩, ⟨some 14, none, [], (.call 52 [(.t 11), (.t 12), (.t 13)])⟩, ⟨some 8, none, [], (.move (.t 14))⟩] false)
 (.seq (.region [⟨some 15, none, [], (.move (.t 8))⟩, ⟨some 16, none, [], (.bin .neq (.t 15) (.c (.int .i64 0)))⟩] false)
 (.cond (.t 16) (.seq (.region [⟨some 17, none, [], (.move (.t 8))⟩, ⟨some 6, none, [], (.move (.c (.int .u32 0)))⟩, ⟨some 7, none, [], (.move (.t 17))⟩] false)
 .ret) .skip)))
 (.seq (.region [⟨some 9, none, [], (.move (.c (.int .u32 0)))⟩] false)
 (.seq (.seq (.region [⟨some 18, none, [], (.move (.t 2))⟩, ⟨some 19, none, [], (.move (.c (.int .i64 0)))⟩] false)
 (.block 0 (.loop (.seq (.region [⟨some 20, none, [], (.bin .lss (.t 19) (.t 18))⟩] false)
 (.seq (.cond (.t 20) .skip (.exit 0))
 (.seq (.block 1 (.seq (.region [⟨some 21, none, [], (.move (.t 19))⟩, ⟨some 10, none, [], (.move (.t 21))⟩] false)
 (.region [⟨some 22, none, [], (.move (.t 9))⟩, ⟨some 23, none, [], (.move (.t 0))⟩, ⟨some 24, none, [], (.nilCheck (.t 23))⟩, ⟨some 25, none, [], (.fieldAddr 0 (.t 24))⟩, ⟨some 26, none, [], (.load false 1 (.t 25))⟩, ⟨some 27, none, [], (.move (.t 1))⟩, ⟨some 28, none, [], (.move (.t 10))⟩, ⟨some 29, none, [], (.conv (.intInt .u32) (.t 28))⟩, ⟨some 30, none, [], (.bin .add (.t 27) (.t 29))⟩, ⟨some 31, none, [], (.lookup (.int .u32) (.int .u8 0) false (.t 26) (.t 30))⟩, ⟨some 32, none, [], (.conv (.intInt .u32) (.t 31))⟩, ⟨some 33, none, [], (.move (.t 10))⟩, ⟨some 34, none, [], (.bin .mul (.c (.int .i64 8)) (.t 33))⟩, ⟨some 35, none, [], (.bin .shl (.t 32) (.t 34))⟩, ⟨some 36, none, [], (.bin .or (.t 22) (.t 35))⟩, ⟨some 9, none, [], (.move (.t 36))⟩] false)))
 (.region [⟨some 37, none, [], (.bin .add (.t 19) (.c (.int .i64 1)))⟩, ⟨some 19, none, [], (.move (.t 37))⟩] false)))))))
 (.seq (.region [⟨some 38, none, [], (.move (.t 9))⟩, ⟨some 6, none, [], (.move (.t 38))⟩, ⟨some 7, none, [], (.move (.c (.int .i64 0)))⟩] false)
 .ret)))))⟩
-- (*coxless/mem.Mem).Store
def ir16 : IFunc := ⟨34, [.tmp 8], (.seq (.region [⟨some 8, none, [], (.move (.c (.int .i64 0)))⟩] false)
 (.seq (.seq (.region [⟨some 11, none, [], (.move (.t 0))⟩, ⟨some 12, none, [], (.move (.t 1))⟩, ⟨some 13, none, [], (.move (.t 2))⟩, ⟨some 14, none, [], (.call 52 [(.t 11), (.t 12), (.t 13)])⟩, ⟨some 9, none, [], (.move (.t 14))⟩] false)
 (.seq (.region [⟨some 15, none, [], (.move (.t 9))⟩, ⟨some 16, none, [], (.bin .neq (.t 15) (.c (.int .i64 0)))⟩] false)
 (.cond (.t 16) (.seq (.region [⟨some 17, none, [], (.move (.t 9))⟩, ⟨some 8, none, [], (.move (.t 17))⟩] false)
 .ret) .skip)))
 (.seq (.seq (.region [⟨some 18, none, [], (.move (.t 2))⟩, ⟨some 19, none, [], (.move (.c (.int .i64 0)))⟩] false)
 (.block 0 (.loop (.seq (.region [⟨some 20, none, [], (.bin .lss (.t 19) (.t 18))⟩] false)
 (.seq (.cond (.t 20) .skip (.exit 0))
 (.seq (.block 1 (.seq (.region [⟨some 21, none, [], (.move (.t 19))⟩, ⟨some 10, none, [], (.move (.t 21))⟩] false)
 (.region [⟨some 22, none, [], (.move (.t 0))⟩, ⟨some 23, none, [], (.move (.t 1))⟩, ⟨some 24, none, [], (.move (.t 10))⟩, ⟨some 25, none, [], (.conv (.intInt .u32) (.t 24))⟩, ⟨some 26, none, [], (.bin .add (.t 23) (.t 25))⟩, ⟨some 27, none, [], (.move (.t 3))⟩, ⟨some 28, none, [], (.move (.t 10))⟩, ⟨some 29, none, [], (.bin .mul (.c (.int .i64 8)) (.t 28))⟩, ⟨some 30, none, [], (.bin .shr (.t 27) (.t 29))⟩, ⟨some 31, none, [], (.conv (.intInt .u8) (.t 30))⟩, ⟨some 32, none, [], (.call 57 [(.t 22), (.t 26), (.t 31)])⟩] false)))
 (.region [⟨some 33, none, [], (.bin .add (.t 19) (.c (.int .i64 1)))⟩, ⟨some 19, none, [], (.move (.t 33))⟩] false)))))))
 (.seq (.region [⟨some 8, none, [], (.move (.c (.int .i64 0)))⟩] false)
 .ret))))⟩
-- (*coxless/mem.Mem).Put
def ir21 : IFunc := ⟨13, [.tmp 6], (.seq (.region [⟨some 6, none, [], (.move (.c (.int .i64 0)))⟩] false)
 (.seq (.seq (.region [⟨some 7, none, [], (.move (.t 0))⟩, ⟨some 8, none, [], (.eq false (.nilable .ptr) (.t 7) (.c .nilPtr))⟩] false)
 (.cond (.t 8) (.seq (.region [⟨some 6, none, [], (.move (.c (.int .i64 2)))⟩] false)
 .ret) .skip))
 (.seq (.region [⟨some 9, none, [], (.move (.t 0))⟩, ⟨some 10, none, [], (.move (.t 1))⟩, ⟨some 11, none, [], (.move (.t 2))⟩, ⟨some 12, none, [], (.call 57 [(.t 9), (.t 10), (.t 11)])⟩] false)
 (.seq (.region [⟨some 6, none, [], (.move (.c (.int .i64 0)))⟩] false)
 .ret))))⟩
-- (*coxless/mem.Mem).Load
def ir25 : IFunc := ⟨41, [.tmp 6], (.seq (.region [⟨some 6, none, [], (.move (.c (.int .i64 0)))⟩] false)
 (.seq (.block 0 (.seq (.region [⟨some 10, none, [], (.move (.t 0))⟩, ⟨some 11, none, [], (.eq false (.nilable .ptr) (.t 10) (.c .nilPtr))⟩, ⟨some 9, none, [], (.move (.t 11))⟩] false)
 (.cond (.t 9) (.seq (.region [⟨some 6, none, [], (.move (.c (.int .i64 2)))⟩] false)
 .ret) (.seq (.region [⟨some 13, none, [], (.move (.t 2))⟩, ⟨some 14, none, [], (.lenSl (.t 13))⟩, ⟨some 15, none, [], (.bin .gtr (.t 14) (.c (.int .i64 0)))⟩, ⟨some 16, none, [], (.move (.t 15))⟩, ⟨some 17, some (16, true), [], (.move (.t 1))⟩, ⟨some 18, some (16, true), [], (.conv (.intInt .u64) (.t 17))⟩, ⟨some 19, some (16, true), [], (.move (.t 2))⟩, ⟨some 20, some (16, true), [], (.lenSl (.t 19))⟩, ⟨some 21, some (16, true), [], (.conv (.intInt .u64) (.t 20))⟩, ⟨some 22, some (16, true), [], (.bin .add (.t 18) (.t 21))⟩, ⟨some 23, some (16, true), [], (.bin .sub (.t 22) (.c (.int .u64 1)))⟩, ⟨some 24, some (16, true), [], (.bin .gtr (.t 23) (.c (.int .u64 4294967295)))⟩, ⟨some 25, none, [], (.pick (.t 16) (.t 24) (.c (.bool false)))⟩, ⟨some 12, none, [], (.move (.t 25))⟩] false)
 (.cond (.t 12) (.seq (.region [⟨some 6, none, [], (.move (.c (.int .i64 1)))⟩] false)
 .ret) .skip)))))
 (.seq (.seq (.region [⟨some 26, none, [], (.move (.t 2))⟩, ⟨some 27, none, [], (.lenSl (.t 26))⟩, ⟨some 28, none, [], (.move (.c (.int .i64 0)))⟩] false)
 (.block 1 (.loop (.seq (.region [⟨some 29, none, [], (.bin .lss (.t 28) (.t 27))⟩] false)
 (.seq (.cond (.t 29) .skip (.exit 1))
 (.seq (.block 2 (.seq (.region [⟨some 30, none, [], (.move (.t 28))⟩, ⟨some 31, none, [], (.idxSl 1 (.t 26) (.t 28))⟩, ⟨some 32, none, [], (.load false 1 (.t 31))⟩, ⟨some 7, none, [], (.move (.t 30))⟩, ⟨some 8, none, [], (.move (.t 32))⟩] false)
 (.region [⟨some 33, none, [], (.move (.t 0))⟩, ⟨some 34, none, [], (.move (.t 1))⟩, ⟨some 35, none, [], (.move (.t 7))⟩, ⟨some 36, none, [], (.conv (.intInt .u32) (.t 35))⟩, ⟨some 37, none, [], (.bin .add (.t 34) (.t 36))⟩, ⟨some 38, none, [], (.move (.t 8))⟩, ⟨some 39, none, [], (.call 57 [(.t 33), (.t 37), (.t 38)])⟩] false)))
 (.region [⟨some 40, none, [], (.bin .add (.t 28) (.c (.int .i64 1)))⟩, ⟨some 28, none, [], (.move (.t 40))⟩] false)))))))
 (.seq (.region [⟨some 6, none, [], (.move (.c (.int .i64 0)))⟩] false)
 .ret))))⟩
-- (*coxless/mem.Mem).Get
def ir26 : IFunc := ⟨13, [.tmp 4], (.seq (.region [⟨some 4, none, [], (.move (.c (.int .u8 0)))⟩] false)
 (.seq (.seq (.region [⟨some 5, none, [], (.move (.t 0))⟩, ⟨some 6, none, [], (.eq false (.nilable .ptr) (.t 5) (.c .nilPtr))⟩] false)
 (.cond (.t 6) (.seq (.region [⟨some 4, none, [], (.move (.c (.int .u8 0)))⟩] false)
 .ret) .skip))
 (.seq (.region [⟨some 7, none, [], (.move (.t 0))⟩, ⟨some 8, none, [], (.nilCheck (.t 7))⟩, ⟨some 9, none, [], (.fieldAddr 0 (.t 8))⟩, ⟨some 10, none, [], (.load false 1 (.t 9))⟩, ⟨some 11, none, [], (.move (.t 1))⟩, ⟨some 12, none, [], (.lookup (.int .u32) (.int .u8 0) false (.t 10) (.t 11))⟩, ⟨some 4, none, [], (.move (.t 12))⟩] false)
 .ret)))⟩
-- (*coxless/mem.Mem).may
def ir52 : IFunc := ⟨26, [.tmp 6], (.seq (.region [⟨some 6, none, [], (.move (.c (.int .i64 0)))⟩] false)
 (.seq (.block 0 (.seq (.region [⟨some 8, none, [], (.move (.t 0))⟩, ⟨some 9, none, [], (.eq false (.nilable .ptr) (.t 8) (.c .nilPtr))⟩, ⟨some 7, none, [], (.move (.t 9))⟩] false)
 (.cond (.t 7) (.seq (.region [⟨some 6, none, [], (.move (.c (.int .i64 2)))⟩] false)
 .ret) (.seq (.seq (.region [⟨some 11, none, [], (.move (.t 2))⟩, ⟨some 12, none, [], (.bin .neq (.t 11) (.c (.int .i64 1)))⟩, ⟨some 13, none, [], (.move (.t 12))⟩, ⟨some 14, some (13, true), [], (.move (.t 2))⟩, ⟨some 15, some (13, true), [], (.bin .neq (.t 14) (.c (.int .i64 2)))⟩, ⟨some 16, none, [], (.pick (.t 13) (.t 15) (.c (.bool false)))⟩, ⟨some 17, none, [], (.move (.t 16))⟩, ⟨some 18, some (17, true), [], (.move (.t 2))⟩, ⟨some 19, some (17, true), [], (.bin .neq (.t 18) (.c (.int .i64 4)))⟩, ⟨some 20, none, [], (.pick (.t 17) (.t 19) (.c (.bool false)))⟩, ⟨some 10, none, [], (.move (.t 20))⟩] false)
 (.cond (.t 10) .skip (.region [⟨some 21, none, [], (.move (.t 1))⟩, ⟨some 22, none, [], (.move (.t 2))⟩, ⟨some 23, none, [], (.conv (.intInt .u32) (.t 22))⟩, ⟨some 24, none, [], (.bin .rem (.t 21) (.t 23))⟩, ⟨some 25, none, [], (.bin .neq (.t 24) (.c (.int .u32 0)))⟩, ⟨some 10, none, [], (.move (.t 25))⟩] false)))
 (.cond (.t 10) (.seq (.region [⟨some 6, none, [], (.move (.c (.int .i64 1)))⟩] false)
 .ret) .skip)))))
 (.seq (.region [⟨some 6, none, [], (.move (.c (.int .i64 0)))⟩] false)
 .ret)))⟩
-- (*coxless/mem.Mem).put
def ir57 : IFunc := ⟨28, [], (.seq (.seq (.region [⟨some 6, none, [], (.move (.t 2))⟩, ⟨some 7, none, [], (.bin .eql (.t 6) (.c (.int .u8 0)))⟩] false)
 (.cond (.t 7) (.seq (.region [⟨some 8, none, [], (.move (.t 0))⟩, ⟨some 9, none, [], (.nilCheck (.t 8))⟩, ⟨some 10, none, [], (.fieldAddr 0 (.t 9))⟩, ⟨some 11, none, [], (.load false 1 (.t 10))⟩, ⟨some 12, none, [], (.move (.t 1))⟩, ⟨none, none, [], (.delete (.int .u32) (.t 11) (.t 12))⟩] false)
 .ret) .skip))
 (.seq (.seq (.region [⟨some 13, none, [], (.move (.t 0))⟩, ⟨some 14, none, [], (.nilCheck (.t 13))⟩, ⟨some 15, none, [], (.fieldAddr 0 (.t 14))⟩, ⟨some 16, none, [], (.load false 1 (.t 15))⟩, ⟨some 17, none, [], (.eq false (.nilable .map) (.t 16) (.c .nilMap))⟩] false)
 (.cond (.t 17) (.region [⟨some 18, none, [], (.move (.t 0))⟩, ⟨some 19, none, [], .mkMap⟩, ⟨some 20, none, [], (.nilCheck (.t 18))⟩, ⟨some 21, none, [], (.fieldAddr 0 (.t 20))⟩, ⟨none, none, [], (.store 1 (.t 21) (.t 19))⟩] false) .skip))
 (.region [⟨some 22, none, [], (.move (.t 0))⟩, ⟨some 23, none, [], (.nilCheck (.t 22))⟩, ⟨some 24, none, [], (.fieldAddr 0 (.t 23))⟩, ⟨some 25, none, [], (.load false 1 (.t 24))⟩, ⟨some 26, none, [], (.move (.t 1))⟩, ⟨some 27, none, [], (.move (.t 2))⟩, ⟨none, none, [], (.mapSet (.int .u32) (.t 25) (.t 26) (.t 27))⟩] false)))⟩
-- (*coxless/mem.Mem).Parts
def ir30 : IFunc := ⟨32, [.tmp 2, .tmp 3], (.seq (.region [⟨some 2, none, [], (.move (.c .nilSlice))⟩, ⟨some 3, none, [], (.move (.c .nilSlice))⟩] false)
 (.seq (.seq (.region [⟨some 6, none, [], (.move (.t 0))⟩, ⟨some 7, none, [], (.eq false (.nilable .ptr) (.t 6) (.c .nilPtr))⟩] false)
 (.cond (.t 7) (.seq (.region [⟨some 2, none, [], (.move (.c .nilSlice))⟩, ⟨some 3, none, [], (.move (.c .nilSlice))⟩] false)
 .ret) .skip))
 (.seq (.region [⟨some 8, none, [], (.move (.t 0))⟩, ⟨some 9, none, [], (.nilCheck (.t 8))⟩, ⟨some 10, none, [], (.fieldAddr 0 (.t 9))⟩, ⟨some 11, none, [], (.load false 1 (.t 10))⟩, ⟨some 12, none, [], (.call 59 [(.t 11)])⟩, ⟨some 13, none, [], (.call 58 [(.t 12)])⟩, ⟨some 2, none, [], (.move (.t 13))⟩] false)
 (.seq (.seq (.region [⟨some 14, none, [], (.move (.t 2))⟩, ⟨some 15, none, [], (.lenSl (.t 14))⟩, ⟨some 16, none, [], (.move (.c (.int .i64 0)))⟩] false)
 (.block 0 (.loop (.seq (.region [⟨some 17, none, [], (.bin .lss (.t 16) (.t 15))⟩] false)
 (.seq (.cond (.t 17) .skip (.exit 0))
 (.seq (.block 1 (.seq (.region [⟨some 18, none, [], (.idxSl 1 (.t 14) (.t 16))⟩, ⟨some 19, none, [], (.load false 1 (.t 18))⟩, ⟨some 5, none, [], (.move (.t 19))⟩] false)
 (.region [⟨some 20, none, [], (.move (.t 3))⟩, ⟨some 21, none, [], (.move (.t 0))⟩, ⟨some 22, none, [], (.nilCheck (.t 21))⟩, ⟨some 23, none, [], (.fieldAddr 0 (.t 22))⟩, ⟨some 24, none, [], (.load false 1 (.t 23))⟩, ⟨some 25, none, [], (.move (.t 5))⟩, ⟨some 26, none, [], (.lookup (.int .u32) (.int .u8 0) false (.t 24) (.t 25))⟩, ⟨some 27, none, [], (.buildSlice 1 1 [(.int .u8 0)] [(0, 1, (.t 26))])⟩, ⟨some 28, none, [], (.append 1 1 (.t 20) (.t 27))⟩, ⟨some 3, none, [], (.move (.t 28))⟩] false)))
 (.region [⟨some 29, none, [], (.bin .add (.t 16) (.c (.int .i64 1)))⟩, ⟨some 16, none, [], (.move (.t 29))⟩] false)))))))
 (.seq (.region [⟨some 30, none, [], (.move (.t 2))⟩, ⟨some 31, none, [], (.move (.t 3))⟩, ⟨some 2, none, [], (.move (.t 30))⟩, ⟨some 3, none, [], (.move (.t 31))⟩] false)
 .ret)))))⟩
-- (*coxless/mem.Mem).Copy
def ir31 : IFunc := ⟨12, [.tmp 2], (.seq (.region [⟨some 2, none, [], (.move (.c .nilPtr))⟩] false)
 (.seq (.seq (.region [⟨some 3, none, [], (.move (.t 0))⟩, ⟨some 4, none, [], (.eq false (.nilable .ptr) (.t 3) (.c .nilPtr))⟩] false)
 (.cond (.t 4) (.seq (.region [⟨some 2, none, [], (.move (.c .nilPtr))⟩] false)
 .ret) .skip))
 (.seq (.region [⟨some 5, none, [], (.move (.t 0))⟩, ⟨some 6, none, [], (.nilCheck (.t 5))⟩, ⟨some 7, none, [], (.fieldAddr 0 (.t 6))⟩, ⟨some 8, none, [], (.load false 1 (.t 7))⟩, ⟨some 9, none, [], (.call 60 [(.t 8)])⟩, ⟨some 10, none, [], (.build [.nilMap] [(0, 1, (.t 9))])⟩, ⟨some 11, none, [], (.box (.t 10))⟩, ⟨some 2, none, [], (.move (.t 11))⟩] false)
 .ret)))⟩
-- coxless/mem.Same
def ir32 : IFunc := ⟨27, [.tmp 4], (.seq (.region [⟨some 4, none, [], (.move (.c (.bool false)))⟩] false)
 (.seq (.region [⟨some 10, none, [], (.move (.t 0))⟩, ⟨some 11, none, [], (.call 30 [(.t 10)])⟩, ⟨some 9, none, [], (.move (.t 11))⟩, ⟨some 12, none, [], (.extract (.t 9) 0)⟩, ⟨some 13, none, [], (.extract (.t 9) 1)⟩, ⟨some 5, none, [], (.move (.t 12))⟩, ⟨some 6, none, [], (.move (.t 13))⟩] false)
 (.seq (.region [⟨some 15, none, [], (.move (.t 1))⟩, ⟨some 16, none, [], (.call 30 [(.t 15)])⟩, ⟨some 14, none, [], (.move (.t 16))⟩, ⟨some 17, none, [], (.extract (.t 14) 0)⟩, ⟨some 18, none, [], (.extract (.t 14) 1)⟩, ⟨some 7, none, [], (.move (.t 17))⟩, ⟨some 8, none, [], (.move (.t 18))⟩] false)
 (.seq (.region [⟨some 19, none, [], (.move (.t 5))⟩, ⟨some 20, none, [], (.move (.t 7))⟩, ⟨some 21, none, [], (.call 61 [(.t 19), (.t 20)])⟩, ⟨some 22, none, [], (.move (.t 21))⟩, ⟨some 23, some (22, true), [], (.move (.t 6))⟩, ⟨some 24, some (22, true), [], (.move (.t 8))⟩, ⟨some 25, some (22, true), [], (.call 62 [(.t 23), (.t 24)])⟩, ⟨some 26, none, [], (.pick (.t 22) (.t 25) (.c (.bool false)))⟩, ⟨some 4, none, [], (.move (.t 26))⟩] false)
 .ret))))⟩
-- maps.Keys[map[uint32]byte,uint32,byte]
def ir59 : IFunc := ⟨4, [.tmp 2], (.seq (.region [⟨some 1, none, [], (.box (.t 0))⟩, ⟨some 2, none, [], (.move (.c .nilFunc))⟩] false)
 (.seq (.region [⟨some 3, none, [], (.mkFunc 82 [] [(.t 1)])⟩, ⟨some 2, none, [], (.move (.t 3))⟩] false)
 .ret))⟩
-- maps.Clone[map[uint32]byte,uint32,byte]
def ir60 : IFunc := ⟨9, [.tmp 2], (.seq (.region [⟨some 2, none, [], (.move (.c .nilMap))⟩] false)
 (.seq (.seq (.region [⟨some 3, none, [], (.move (.t 0))⟩, ⟨some 4, none, [], (.eq false (.nilable .map) (.t 3) (.c .nilMap))⟩] false)
 (.cond (.t 4) (.seq (.region [⟨some 2, none, [], (.move (.c .nilMap))⟩] false)
 .ret) .skip))
 (.seq (.region [⟨some 5, none, [], (.move (.t 0))⟩, ⟨some 6, none, [], (.mkIface 65 (.t 5))⟩, ⟨some 7, none, [], (.call 83 [(.t 6)])⟩, ⟨some 8, none, [], (.assertT 65 .nilMap false (.t 7))⟩, ⟨some 2, none, [], (.move (.t 8))⟩] false)
 .ret)))⟩
-- slices.Equal[[]uint32,uint32]
def ir61 : IFunc := ⟨26, [.tmp 4], (.seq (.region [⟨some 4, none, [], (.move (.c (.bool false)))⟩] false)
 (.seq (.seq (.region [⟨some 6, none, [], (.move (.t 0))⟩, ⟨some 7, none, [], (.lenSl (.t 6))⟩, ⟨some 8, none, [], (.move (.t 1))⟩, ⟨some 9, none, [], (.lenSl (.t 8))⟩, ⟨some 10, none, [], (.bin .neq (.t 7) (.t 9))⟩] false)
 (.cond (.t 10) (.seq (.region [⟨some 4, none, [], (.move (.c (.bool false)))⟩] false)
 .ret) .skip))
 (.seq (.seq (.region [⟨some 11, none, [], (.move (.t 0))⟩, ⟨some 12, none, [], (.lenSl (.t 11))⟩, ⟨some 13, none, [], (.move (.c (.int .i64 0)))⟩] false)
 (.block 0 (.loop (.seq (.region [⟨some 14, none, [], (.bin .lss (.t 13) (.t 12))⟩] false)
 (.seq (.cond (.t 14) .skip (.exit 0))
 (.seq (.block 1 (.seq (.region [⟨some 15, none, [], (.move (.t 13))⟩, ⟨some 5, none, [], (.move (.t 15))⟩] false)
 (.seq (.region [⟨some 16, none, [], (.move (.t 0))⟩, ⟨some 17, none, [], (.move (.t 5))⟩, ⟨some 18, none, [], (.idxSl 1 (.t 16) (.t 17))⟩, ⟨some 19, none, [], (.load false 1 (.t 18))⟩, ⟨some 20, none, [], (.move (.t 1))⟩, ⟨some 21, none, [], (.move (.t 5))⟩, ⟨some 22, none, [], (.idxSl 1 (.t 20) (.t 21))⟩, ⟨some 23, none, [], (.load false 1 (.t 22))⟩, ⟨some 24, none, [], (.bin .neq (.t 19) (.t 23))⟩] true)
 (.cond (.t 24) (.seq (.region [⟨some 4, none, [], (.move (.c (.bool false)))⟩] false)
 .ret) .skip))))
 (.region [⟨some 25, none, [], (.bin .add (.t 13) (.c (.int .i64 1)))⟩, ⟨some 13, none, [], (.move (.t 25))⟩] false)))))))
 (.seq (.region [⟨some 4, none, [], (.move (.c (.bool true)))⟩] false)
 .ret))))⟩
-- slices.Equal[[]byte,byte]
def ir62 : IFunc := ⟨26, [.tmp 4], (.seq (.region [⟨some 4, none, [], (.move (.c (.bool false)))⟩] false)
 (.seq (.seq (.region [⟨some 6, none, [], (.move (.t 0))⟩, ⟨some 7, none, [], (.lenSl (.t 6))⟩, ⟨some 8, none, [], (.move (.t 1))⟩, ⟨some 9, none, [], (.lenSl (.t 8))⟩, ⟨some 10, none, [], (.bin .neq (.t 7) (.t 9))⟩] false)
 (.cond (.t 10) (.seq (.region [⟨some 4, none, [], (.move (.c (.bool false)))⟩] false)
 .ret) .skip))
 (.seq (.seq (.region [⟨some 11, none, [], (.move (.t 0))⟩, ⟨some 12, none, [], (.lenSl (.t 11))⟩, ⟨some 13, none, [], (.move (.c (.int .i64 0)))⟩] false)
 (.block 0 (.loop (.seq (.region [⟨some 14, none, [], (.bin .lss (.t 13) (.t 12))⟩] false)
 (.seq (.cond (.t 14) .skip (.exit 0))
 (.seq (.block 1 (.seq (.region [⟨some 15, none, [], (.move (.t 13))⟩, ⟨some 5, none, [], (.move (.t 15))⟩] false)
 (.seq (.region [⟨some 16, none, [], (.move (.t 0))⟩, ⟨some 17, none, [], (.move (.t 5))⟩, ⟨some 18, none, [], (.idxSl 1 (.t 16) (.t 17))⟩, ⟨some 19, none, [], (.load false 1 (.t 18))⟩, ⟨some 20, none, [], (.move (.t 1))⟩, ⟨some 21, none, [], (.move (.t 5))⟩, ⟨some 22, none, [], (.idxSl 1 (.t 20) (.t 21))⟩, ⟨some 23, none, [], (.load false 1 (.t 22))⟩, ⟨some 24, none, [], (.bin .neq (.t 19) (.t 23))⟩] true)
 (.cond (.t 24) (.seq (.region [⟨some 4, none, [], (.move (.c (.bool false)))⟩] false)
 .ret) .skip))))
 (.region [⟨some 25, none, [], (.bin .add (.t 13) (.c (.int .i64 1)))⟩, ⟨some 13, none, [], (.move (.t 25))⟩] false)))))))
 (.seq (.region [⟨some 4, none, [], (.move (.c (.bool true)))⟩] false)
 .ret))))⟩
-- coxless/coxlessref24.Same
def ir28 : IFunc := ⟨26, [.tmp 4], (.seq (.region [⟨some 4, none, [], (.move (.c (.bool false)))⟩] false)
 (.seq (.seq (.region [⟨some 6, none, [], (.move (.t 0))⟩, ⟨some 7, none, [], (.lenSl (.t 6))⟩, ⟨some 8, none, [], (.move (.t 1))⟩, ⟨some 9, none, [], (.lenSl (.t 8))⟩, ⟨some 10, none, [], (.bin .neq (.t 7) (.t 9))⟩] false)
 (.cond (.t 10) (.seq (.region [⟨some 4, none, [], (.move (.c (.bool false)))⟩] false)
 .ret) .skip))
 (.seq (.seq (.region [⟨some 5, none, [], (.move (.c (.int .i64 0)))⟩] false)
 (.block 0 (.loop (.seq (.seq (.region [⟨some 11, none, [], (.move (.t 5))⟩, ⟨some 12, none, [], (.move (.t 0))⟩, ⟨some 13, none, [], (.lenSl (.t 12))⟩, ⟨some 14, none, [], (.bin .lss (.t 11) (.t 13))⟩] false)
 (.cond (.t 14) .skip (.exit 0)))
 (.seq (.block 1 (.seq (.region [⟨some 17, none, [], (.move (.t 0))⟩, ⟨some 18, none, [], (.move (.t 5))⟩, ⟨some 19, none, [], (.idxSl 2 (.t 17) (.t 18))⟩, ⟨some 20, none, [], (.load true 2 (.t 19))⟩, ⟨some 21, none, [], (.move (.t 1))⟩, ⟨some 22, none, [], (.move (.t 5))⟩, ⟨some 23, none, [], (.idxSl 2 (.t 21) (.t 22))⟩, ⟨some 24, none, [], (.load true 2 (.t 23))⟩, ⟨some 25, none, [], (.eq true (.agg [(0, 1, false, (.prim .int)), (1, 1, false, (.prim .int))]) (.t 20) (.t 24))⟩] true)
 (.cond (.t 25) (.seq (.region [⟨some 4, none, [], (.move (.c (.bool false)))⟩] false)
 .ret) .skip)))
 (.region [⟨some 15, none, [], (.move (.t 5))⟩, ⟨some 16, none, [], (.bin .add (.t 15) (.c (.int .i64 1)))⟩, ⟨some 5, none, [], (.move (.t 16))⟩] false))))))
 (.seq (.region [⟨some 4, none, [], (.move (.c (.bool true)))⟩] false)
 .ret))))⟩
-- coxless/coxlesslaw24.Cells
def ir29 : IFunc := ⟨37, [.tmp 2], (.seq (.region [⟨some 2, none, [], (.move (.c .nilSlice))⟩] false)
 (.seq (.region [⟨some 8, none, [], (.move (.t 0))⟩, ⟨some 9, none, [], (.call 30 [(.t 8)])⟩, ⟨some 7, none, [], (.move (.t 9))⟩, ⟨some 10, none, [], (.extract (.t 7) 0)⟩, ⟨some 11, none, [], (.extract (.t 7) 1)⟩, ⟨some 3, none, [], (.move (.t 10))⟩, ⟨some 4, none, [], (.move (.t 11))⟩] false)
 (.seq (.region [⟨some 5, none, [], (.move (.c .nilSlice))⟩] false)
 (.seq (.seq (.region [⟨some 6, none, [], (.move (.c (.int .i64 0)))⟩] false)
 (.block 0 (.loop (.seq (.seq (.region [⟨some 12, none, [], (.move (.t 6))⟩, ⟨some 13, none, [], (.move (.t 3))⟩, ⟨some 14, none, [], (.lenSl (.t 13))⟩, ⟨some 15, none, [], (.bin .lss (.t 12) (.t 14))⟩, ⟨some 16, none, [], (.move (.t 15))⟩, ⟨some 17, some (16, true), [], (.move (.t 6))⟩, ⟨some 18, some (16, true), [], (.move (.t 4))⟩, ⟨some 19, some (16, true), [], (.lenSl (.t 18))⟩, ⟨some 20, some (16, true), [], (.bin .lss (.t 17) (.t 19))⟩, ⟨some 21, none, [], (.pick (.t 16) (.t 20) (.c (.bool false)))⟩] false)
 (.cond (.t 21) .skip (.exit 0)))
 (.seq (.block 1 (.region [⟨some 24, none, [], (.move (.t 5))⟩, ⟨some 25, none, [], (.move (.t 3))⟩, ⟨some 26, none, [], (.move (.t 6))⟩, ⟨some 27, none, [], (.idxSl 1 (.t 25) (.t 26))⟩, ⟨some 28, none, [], (.load false 1 (.t 27))⟩, ⟨some 29, none, [], (.move (.t 4))⟩, ⟨some 30, none, [], (.move (.t 6))⟩, ⟨some 31, none, [], (.idxSl 1 (.t 29) (.t 30))⟩, ⟨some 32, none, [], (.load false 1 (.t 31))⟩, ⟨some 33, none, [], (.build [(.int .u32 0), (.int .u8 0)] [(0, 1, (.t 28)), (1, 1, (.t 32))])⟩, ⟨some 34, none, [], (.buildSlice 1 2 [(.int .u32 0), (.int .u8 0)] [(0, 2, (.t 33))])⟩, ⟨some 35, none, [], (.append 2 8 (.t 24) (.t 34))⟩, ⟨some 5, none, [], (.move (.t 35))⟩] true))
 (.region [⟨some 22, none, [], (.move (.t 6))⟩, ⟨some 23, none, [], (.bin .add (.t 22) (.c (.int .i64 1)))⟩, ⟨some 6, none, [], (.move (.t 23))⟩] false))))))
 (.seq (.region [⟨some 36, none, [], (.move (.t 5))⟩, ⟨some 2, none, [], (.move (.t 36))⟩] false)
 .ret)))))⟩
-- coxless/coxlesslaw24.awake
def ir19 : IFunc := ⟨43, [.tmp 0], (.seq (.region [⟨some 0, none, [], (.move (.c (.bool false)))⟩] false)
 (.seq (.region [⟨some 7, none, [], (.call 12 [])⟩, ⟨some 1, none, [], (.move (.t 7))⟩] false)
 (.seq (.region [⟨some 8, none, [], (.move (.t 1))⟩, ⟨some 9, none, [], (.call 16 [(.t 8), (.c (.int .u32 4)), (.c (.int .i64 4)), (.c (.int .u32 16909060))])⟩, ⟨some 2, none, [], (.move (.t 9))⟩] false)
 (.seq (.region [⟨some 11, none, [], (.move (.t 1))⟩, ⟨some 12, none, [], (.call 14 [(.t 11), (.c (.int .u32 6)), (.c (.int .i64 2))])⟩, ⟨some 10, none, [], (.move (.t 12))⟩, ⟨some 13, none, [], (.extract (.t 10) 0)⟩, ⟨some 14, none, [], (.extract (.t 10) 1)⟩, ⟨some 3, none, [], (.move (.t 13))⟩, ⟨some 4, none, [], (.move (.t 14))⟩] false)
 (.seq (.region [⟨some 16, none, [], (.move (.t 1))⟩, ⟨some 17, none, [], (.call 14 [(.t 16), (.c (.int .u32 6)), (.c (.int .i64 4))])⟩, ⟨some 15, none, [], (.move (.t 17))⟩, ⟨some 18, none, [], (.extract (.t 15) 0)⟩, ⟨some 19, none, [], (.extract (.t 15) 1)⟩, ⟨some 5, none, [], (.move (.t 18))⟩, ⟨some 6, none, [], (.move (.t 19))⟩] false)
 (.seq (.region [⟨some 20, none, [], (.move (.t 1))⟩, ⟨some 21, none, [], (.eq true (.nilable .ptr) (.t 20) (.c .nilPtr))⟩, ⟨some 22, none, [], (.move (.t 21))⟩, ⟨some 23, some (22, true), [], (.move (.t 2))⟩, ⟨some 24, some (22, true), [], (.bin .eql (.t 23) (.c (.int .i64 0)))⟩, ⟨some 25, none, [], (.pick (.t 22) (.t 24) (.c (.bool false)))⟩, ⟨some 26, none, [], (.move (.t 25))⟩, ⟨some 27, some (26, true), [], (.move (.t 1))⟩, ⟨some 28, some (26, true), [], (.call 26 [(.t 27), (.c (.int .u32 4))])⟩, ⟨some 29, some (26, true), [], (.bin .eql (.t 28) (.c (.int .u8 4)))⟩, ⟨some 30, none, [], (.pick (.t 26) (.t 29) (.c (.bool false)))⟩, ⟨some 31, none, [], (.move (.t 30))⟩, ⟨some 32, some (31, true), [], (.move (.t 3))⟩, ⟨some 33, some (31, true), [], (.bin .eql (.t 32) (.c (.int .u32 258)))⟩, ⟨some 34, none, [], (.pick (.t 31) (.t 33) (.c (.bool false)))⟩, ⟨some 35, none, [], (.move (.t 34))⟩, ⟨some 36, some (35, true), [], (.move (.t 4))⟩, ⟨some 37, some (35, true), [], (.bin .eql (.t 36) (.c (.int .i64 0)))⟩, ⟨some 38, none, [], (.pick (.t 35) (.t 37) (.c (.bool false)))⟩, ⟨some 39, none, [], (.move (.t 38))⟩, ⟨some 40, some (39, true), [], (.move (.t 6))⟩, ⟨some 41, some (39, true), [], (.bin .eql (.t 40) (.c (.int .i64 1)))⟩, ⟨some 42, none, [], (.pick (.t 39) (.t 41) (.c (.bool false)))⟩, ⟨some 0, none, [], (.move (.t 42))⟩] false)
 .ret))))))⟩

/-- All code that is used. -/
def sortCode : List (Nat × FnImp) := [(140, .code ir140), (157, .code ir157), (134, .code ir134), (154, .code ir154), (135, .code ir135), (88, .code ir88), (115, .code ir115), (146, .code ir146), (147, .code ir147), (136, .code ir136), (161, .code ir161), (156, .code ir156), (155, .code ir155), (137, .code ir137), (138, .code ir138), (139, .code ir139), (141, .code ir141), (142, .code ir142), (95, .code ir95), (81, .code ir81)]
def memCode : List (Nat × FnImp) := sortCode ++ [(12, .code ir12), (14, .code ir14), (16, .code ir16), (21, .code ir21), (25, .code ir25), (26, .code ir26), (52, .code ir52), (57, .code ir57), (30, .code ir30), (31, .code ir31), (32, .code ir32), (59, .code ir59), (60, .code ir60), (61, .code ir61), (62, .code ir62), (28, .code ir28), (29, .code ir29), (19, .code ir19)]
noncomputable def t_lessU : List (Nat × FnImp) := [(140, .code ir140), (157, .code ir157)]
noncomputable def t_sortU : List (Nat × FnImp) := [(140, .hook (pureH lessUG)), (134, .code ir134), (154, .code ir154), (135, .code ir135), (88, .code ir88), (115, .code ir115), (146, .code ir146), (147, .code ir147), (136, .code ir136), (161, .code ir161), (156, .code ir156), (155, .code ir155), (137, .code ir137), (138, .code ir138), (139, .code ir139), (141, .code ir141), (142, .code ir142), (95, .code ir95), (81, .code ir81)]
theorem e_mem {P : Prog} {n : Nat} {ir : IFunc} (ok : AllOk P memCode) (h : lookT n memCode = some (.code ir)) : EntryOk2 P n (.code ir) := .old (ok.get h)
section
variable {P : Prog} (hm : P.follows .mixedOrders = true) (ok : AllOk P memCode)
include hm ok
theorem h_lessU : EntryOk2 P 140 (.hook (pureH lessUG)) :=
  EntryOk2.pure hm (AllOk2.fine (l := t_lessU) (.cons (e_mem ok rfl) (.cons (e_mem ok rfl) (.nil)))) _ _ fun args v h => lessUG_ok rfl rfl args v h
theorem fine_sortU : TabFine P (tabL t_sortU) := AllOk2.fine (.cons (h_lessU hm ok) (.cons (e_mem ok rfl) (.cons (e_mem ok rfl) (.cons (e_mem ok rfl) (.cons (e_mem ok rfl) (.cons (e_mem ok rfl) (.cons (e_mem ok rfl) (.cons (e_mem ok rfl) (.cons (e_mem ok rfl) (.cons (e_mem ok rfl) (.cons (e_mem ok rfl) (.cons (e_mem ok rfl) (.cons (e_mem ok rfl) (.cons (e_mem ok rfl) (.cons (e_mem ok rfl) (.cons (e_mem ok rfl) (.cons (e_mem ok rfl) (.cons (e_mem ok rfl) (.cons (e_mem ok rfl) (.nil))))))))))))))))))))
omit hm ok in
theorem sortTabU : SortTab (tabL t_sortU) := ⟨rfl, rfl, rfl, rfl, rfl, rfl, rfl, rfl, rfl, rfl, rfl, rfl, rfl, rfl, rfl, rfl, rfl⟩
theorem h_sortedU (hp : P.toProgram = Try.prog) : EntryOk2 P 58 (.hook (sortedH 1000000000 82)) :=
  sorted_entry hp hm (fine_sortU hm ok) sortTabU rfl rfl
end
def memList : List (Nat × FnImp) := (58, .hook (sortedH 1000000000 82)) :: (83, .ext .mapsClone) :: [(12, .code ir12), (14, .code ir14), (16, .code ir16), (21, .code ir21), (25, .code ir25), (26, .code ir26), (52, .code ir52), (57, .code ir57), (30, .code ir30), (31, .code ir31), (32, .code ir32), (59, .code ir59), (60, .code ir60), (61, .code ir61), (62, .code ir62), (28, .code ir28), (29, .code ir29), (19, .code ir19)]
theorem memList_ok {P : Prog} (hm : P.follows .mixedOrders = true) (ok : AllOk P memCode) (hp : P.toProgram = Try.prog) (hc : EntryOk P 83 (.ext .mapsClone)) : AllOk2 P memList :=
  .cons (h_sortedU hm ok hp) (.cons (.old hc) (.cons (e_mem ok rfl) (.cons (e_mem ok rfl) (.cons (e_mem ok rfl) (.cons (e_mem ok rfl) (.cons (e_mem ok rfl) (.cons (e_mem ok rfl) (.cons (e_mem ok rfl) (.cons (e_mem ok rfl) (.cons (e_mem ok rfl) (.cons (e_mem ok rfl) (.cons (e_mem ok rfl) (.cons (e_mem ok rfl) (.cons (e_mem ok rfl) (.cons (e_mem ok rfl) (.cons (e_mem ok rfl) (.cons (e_mem ok rfl) (.cons (e_mem ok rfl) (.cons (e_mem ok rfl) (.nil))))))))))))))))))))
end Go.V
