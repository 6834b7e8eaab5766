/- slices.partialInsertionSortOrdered over the small language. -/
import Derived.Test.YtlpdekocilhciaaPdqQ
set_option linter.unusedVariables false
set_option linter.unusedSimpArgs false
set_option linter.unusedSectionVars false
/- slices.partialInsertionSortOrdered over the small language. -/
namespace Go.V
open Go
set_option linter.unusedSimpArgs false
set_option linter.unusedVariables false
-- slices.partialInsertionSortOrdered[uint32]
def ir139c1 : ICode := (.region [⟨some 33, none, [], (.move (.t 7))⟩, ⟨some 34, none, [], (.bin .add (.t 33) (.c (.int .i64 1)))⟩, ⟨some 7, none, [], (.move (.t 34))⟩] false)
def ir139c2 : ICode := (.block 3 ir139c1)
def ir139c3 : ICode := (.seq (.seq (.region [⟨some 17, none, [], (.move (.t 7))⟩, ⟨some 18, none, [], (.move (.t 2))⟩, ⟨some 19, none, [], (.bin .lss (.t 17) (.t 18))⟩, ⟨some 20, none, [], (.move (.t 19))⟩, ⟨some 21, some (20, true), [], (.move (.t 0))⟩, ⟨some 22, some (20, true), [], (.move (.t 7))⟩, ⟨some 23, some (20, true), [], (.idxSl 1 (.t 21) (.t 22))⟩, ⟨some 24, some (20, true), [], (.load false 1 (.t 23))⟩, ⟨some 25, some (20, true), [], (.move (.t 0))⟩, ⟨some 26, some (20, true), [], (.move (.t 7))⟩, ⟨some 27, some (20, true), [], (.bin .sub (.t 26) (.c (.int .i64 1)))⟩, ⟨some 28, some (20, true), [], (.idxSl 1 (.t 25) (.t 27))⟩, ⟨some 29, some (20, true), [], (.load false 1 (.t 28))⟩, ⟨some 30, some (20, true), [], (.call 140 [(.t 24), (.t 29)])⟩, ⟨some 31, some (20, true), [], (.un .not (.t 30))⟩, ⟨some 32, none, [], (.pick (.t 20) (.t 31) (.c (.bool false)))⟩] true) (.cond (.t 32) .skip (.exit 2))) ir139c2)
def ir139c4 : ICode := (.loop ir139c3)
def ir139c5 : ICode := (.cond (.t 37) (.seq (.region [⟨some 6, none, [], (.move (.c (.bool true)))⟩] false) .ret) .skip)
def ir139c6 : ICode := (.cond (.t 41) (.seq (.region [⟨some 6, none, [], (.move (.c (.bool false)))⟩] false) .ret) .skip)
def ir139c7 : ICode := (.region [⟨some 79, none, [], (.move (.t 0))⟩, ⟨some 80, none, [], (.move (.t 9))⟩, ⟨some 81, none, [], (.move (.t 0))⟩, ⟨some 82, none, [], (.move (.t 9))⟩, ⟨some 83, none, [], (.bin .sub (.t 82) (.c (.int .i64 1)))⟩, ⟨some 84, none, [], (.move (.t 0))⟩, ⟨some 85, none, [], (.move (.t 9))⟩, ⟨some 86, none, [], (.bin .sub (.t 85) (.c (.int .i64 1)))⟩, ⟨some 87, none, [], (.idxSl 1 (.t 84) (.t 86))⟩, ⟨some 88, none, [], (.load false 1 (.t 87))⟩, ⟨some 89, none, [], (.move (.t 0))⟩, ⟨some 90, none, [], (.move (.t 9))⟩, ⟨some 91, none, [], (.idxSl 1 (.t 89) (.t 90))⟩, ⟨some 92, none, [], (.load false 1 (.t 91))⟩, ⟨some 93, none, [], (.idxSl 1 (.t 79) (.t 80))⟩, ⟨none, none, [], (.store 1 (.t 93) (.t 88))⟩, ⟨some 94, none, [], (.idxSl 1 (.t 81) (.t 83))⟩, ⟨none, none, [], (.store 1 (.t 94) (.t 92))⟩] true)
def ir139c8 : ICode := (.seq (.seq (.region [⟨some 68, none, [], (.move (.t 0))⟩, ⟨some 69, none, [], (.move (.t 9))⟩, ⟨some 70, none, [], (.idxSl 1 (.t 68) (.t 69))⟩, ⟨some 71, none, [], (.load false 1 (.t 70))⟩, ⟨some 72, none, [], (.move (.t 0))⟩, ⟨some 73, none, [], (.move (.t 9))⟩, ⟨some 74, none, [], (.bin .sub (.t 73) (.c (.int .i64 1)))⟩, ⟨some 75, none, [], (.idxSl 1 (.t 72) (.t 74))⟩, ⟨some 76, none, [], (.load false 1 (.t 75))⟩, ⟨some 77, none, [], (.call 140 [(.t 71), (.t 76)])⟩, ⟨some 78, none, [], (.un .not (.t 77))⟩] true) (.cond (.t 78) (.exit 4) .skip)) ir139c7)
def ir139c9 : ICode := (.region [⟨some 66, none, [], (.move (.t 9))⟩, ⟨some 67, none, [], (.bin .sub (.t 66) (.c (.int .i64 1)))⟩, ⟨some 9, none, [], (.move (.t 67))⟩] false)
def ir139c10 : ICode := (.seq (.block 5 ir139c8) ir139c9)
def ir139c11 : ICode := (.seq (.seq (.region [⟨some 64, none, [], (.move (.t 9))⟩, ⟨some 65, none, [], (.bin .geq (.t 64) (.c (.int .i64 1)))⟩] false) (.cond (.t 65) .skip (.exit 4))) ir139c10)
def ir139c12 : ICode := (.loop ir139c11)
def ir139c13 : ICode := (.block 4 ir139c12)
def ir139c14 : ICode := (.seq (.region [⟨some 62, none, [], (.move (.t 7))⟩, ⟨some 63, none, [], (.bin .sub (.t 62) (.c (.int .i64 1)))⟩, ⟨some 9, none, [], (.move (.t 63))⟩] false) ir139c13)
def ir139c15 : ICode := (.cond (.t 61) ir139c14 .skip)
def ir139c16 : ICode := (.region [⟨some 117, none, [], (.move (.t 0))⟩, ⟨some 118, none, [], (.move (.t 10))⟩, ⟨some 119, none, [], (.move (.t 0))⟩, ⟨some 120, none, [], (.move (.t 10))⟩, ⟨some 121, none, [], (.bin .sub (.t 120) (.c (.int .i64 1)))⟩, ⟨some 122, none, [], (.move (.t 0))⟩, ⟨some 123, none, [], (.move (.t 10))⟩, ⟨some 124, none, [], (.bin .sub (.t 123) (.c (.int .i64 1)))⟩, ⟨some 125, none, [], (.idxSl 1 (.t 122) (.t 124))⟩, ⟨some 126, none, [], (.load false 1 (.t 125))⟩, ⟨some 127, none, [], (.move (.t 0))⟩, ⟨some 128, none, [], (.move (.t 10))⟩, ⟨some 129, none, [], (.idxSl 1 (.t 127) (.t 128))⟩, ⟨some 130, none, [], (.load false 1 (.t 129))⟩, ⟨some 131, none, [], (.idxSl 1 (.t 117) (.t 118))⟩, ⟨none, none, [], (.store 1 (.t 131) (.t 126))⟩, ⟨some 132, none, [], (.idxSl 1 (.t 119) (.t 121))⟩, ⟨none, none, [], (.store 1 (.t 132) (.t 130))⟩] true)
def ir139c17 : ICode := (.seq (.seq (.region [⟨some 106, none, [], (.move (.t 0))⟩, ⟨some 107, none, [], (.move (.t 10))⟩, ⟨some 108, none, [], (.idxSl 1 (.t 106) (.t 107))⟩, ⟨some 109, none, [], (.load false 1 (.t 108))⟩, ⟨some 110, none, [], (.move (.t 0))⟩, ⟨some 111, none, [], (.move (.t 10))⟩, ⟨some 112, none, [], (.bin .sub (.t 111) (.c (.int .i64 1)))⟩, ⟨some 113, none, [], (.idxSl 1 (.t 110) (.t 112))⟩, ⟨some 114, none, [], (.load false 1 (.t 113))⟩, ⟨some 115, none, [], (.call 140 [(.t 109), (.t 114)])⟩, ⟨some 116, none, [], (.un .not (.t 115))⟩] true) (.cond (.t 116) (.exit 6) .skip)) ir139c16)
def ir139c18 : ICode := (.region [⟨some 104, none, [], (.move (.t 10))⟩, ⟨some 105, none, [], (.bin .add (.t 104) (.c (.int .i64 1)))⟩, ⟨some 10, none, [], (.move (.t 105))⟩] false)
def ir139c19 : ICode := (.seq (.block 7 ir139c17) ir139c18)
def ir139c20 : ICode := (.seq (.seq (.region [⟨some 101, none, [], (.move (.t 10))⟩, ⟨some 102, none, [], (.move (.t 2))⟩, ⟨some 103, none, [], (.bin .lss (.t 101) (.t 102))⟩] false) (.cond (.t 103) .skip (.exit 6))) ir139c19)
def ir139c21 : ICode := (.loop ir139c20)
def ir139c22 : ICode := (.block 6 ir139c21)
def ir139c23 : ICode := (.seq (.region [⟨some 99, none, [], (.move (.t 7))⟩, ⟨some 100, none, [], (.bin .add (.t 99) (.c (.int .i64 1)))⟩, ⟨some 10, none, [], (.move (.t 100))⟩] false) ir139c22)
def ir139c24 : ICode := (.cond (.t 98) ir139c23 .skip)
def ir139c25 : ICode := (.seq (.region [⟨some 95, none, [], (.move (.t 2))⟩, ⟨some 96, none, [], (.move (.t 7))⟩, ⟨some 97, none, [], (.bin .sub (.t 95) (.t 96))⟩, ⟨some 98, none, [], (.bin .geq (.t 97) (.c (.int .i64 2)))⟩] false) ir139c24)
def ir139c26 : ICode := (.seq (.seq (.region [⟨some 58, none, [], (.move (.t 7))⟩, ⟨some 59, none, [], (.move (.t 1))⟩, ⟨some 60, none, [], (.bin .sub (.t 58) (.t 59))⟩, ⟨some 61, none, [], (.bin .geq (.t 60) (.c (.int .i64 2)))⟩] false) ir139c15) ir139c25)
def ir139c27 : ICode := (.seq (.region [⟨some 42, none, [], (.move (.t 0))⟩, ⟨some 43, none, [], (.move (.t 7))⟩, ⟨some 44, none, [], (.move (.t 0))⟩, ⟨some 45, none, [], (.move (.t 7))⟩, ⟨some 46, none, [], (.bin .sub (.t 45) (.c (.int .i64 1)))⟩, ⟨some 47, none, [], (.move (.t 0))⟩, ⟨some 48, none, [], (.move (.t 7))⟩, ⟨some 49, none, [], (.bin .sub (.t 48) (.c (.int .i64 1)))⟩, ⟨some 50, none, [], (.idxSl 1 (.t 47) (.t 49))⟩, ⟨some 51, none, [], (.load false 1 (.t 50))⟩, ⟨some 52, none, [], (.move (.t 0))⟩, ⟨some 53, none, [], (.move (.t 7))⟩, ⟨some 54, none, [], (.idxSl 1 (.t 52) (.t 53))⟩, ⟨some 55, none, [], (.load false 1 (.t 54))⟩, ⟨some 56, none, [], (.idxSl 1 (.t 42) (.t 43))⟩, ⟨none, none, [], (.store 1 (.t 56) (.t 51))⟩, ⟨some 57, none, [], (.idxSl 1 (.t 44) (.t 46))⟩, ⟨none, none, [], (.store 1 (.t 57) (.t 55))⟩] true) ir139c26)
def ir139c28 : ICode := (.seq (.seq (.region [⟨some 38, none, [], (.move (.t 2))⟩, ⟨some 39, none, [], (.move (.t 1))⟩, ⟨some 40, none, [], (.bin .sub (.t 38) (.t 39))⟩, ⟨some 41, none, [], (.bin .lss (.t 40) (.c (.int .i64 50)))⟩] false) ir139c6) ir139c27)
def ir139c29 : ICode := (.seq (.seq (.region [⟨some 35, none, [], (.move (.t 7))⟩, ⟨some 36, none, [], (.move (.t 2))⟩, ⟨some 37, none, [], (.bin .eql (.t 35) (.t 36))⟩] false) ir139c5) ir139c28)
def ir139c30 : ICode := (.seq (.block 2 ir139c4) ir139c29)
def ir139c31 : ICode := (.region [⟨some 15, none, [], (.move (.t 8))⟩, ⟨some 16, none, [], (.bin .add (.t 15) (.c (.int .i64 1)))⟩, ⟨some 8, none, [], (.move (.t 16))⟩] false)
def ir139c32 : ICode := (.seq (.block 1 ir139c30) ir139c31)
def ir139c33 : ICode := (.seq (.seq (.region [⟨some 13, none, [], (.move (.t 8))⟩, ⟨some 14, none, [], (.bin .lss (.t 13) (.c (.int .i64 5)))⟩] false) (.cond (.t 14) .skip (.exit 0))) ir139c32)
def ir139c34 : ICode := (.loop ir139c33)
def ir139c35 : ICode := (.block 0 ir139c34)
def ir139c36 : ICode := (.seq (.seq (.region [⟨some 8, none, [], (.move (.c (.int .i64 0)))⟩] false) ir139c35) (.seq (.region [⟨some 6, none, [], (.move (.c (.bool false)))⟩] false) .ret))
def ir139c37 : ICode := (.seq (.region [⟨some 11, none, [], (.move (.t 1))⟩, ⟨some 12, none, [], (.bin .add (.t 11) (.c (.int .i64 1)))⟩, ⟨some 7, none, [], (.move (.t 12))⟩] false) ir139c36)
def ir139 : IFunc := ⟨133, [.tmp 6], (.seq (.region [⟨some 6, none, [], (.move (.c (.bool false)))⟩] false) ir139c37)⟩
theorem g139c1 (T : Tab) (Q : Post) (fs : List Fr) (e : Env) (s : St) : Go T Q ir139c1 fs e s ↔ Go T Q (.region [⟨some 33, none, [], (.move (.t 7))⟩, ⟨some 34, none, [], (.bin .add (.t 33) (.c (.int .i64 1)))⟩, ⟨some 7, none, [], (.move (.t 34))⟩] false) fs e s := Iff.rfl
theorem g139c2 (T : Tab) (Q : Post) (fs : List Fr) (e : Env) (s : St) : Go T Q ir139c2 fs e s ↔ Go T Q (.block 3 ir139c1) fs e s := Iff.rfl
theorem g139c3 (T : Tab) (Q : Post) (fs : List Fr) (e : Env) (s : St) : Go T Q ir139c3 fs e s ↔ Go T Q (.seq (.seq (.region [⟨some 17, none, [], (.move (.t 7))⟩, ⟨some 18, none, [], (.move (.t 2))⟩, ⟨some 19, none, [], (.bin .lss (.t 17) (.t 18))⟩, ⟨some 20, none, [], (.move (.t 19))⟩, ⟨some 21, some (20, true), [], (.move (.t 0))⟩, ⟨some 22, some (20, true), [], (.move (.t 7))⟩, ⟨some 23, some (20, true), [], (.idxSl 1 (.t 21) (.t 22))⟩, ⟨some 24, some (20, true), [], (.load false 1 (.t 23))⟩, ⟨some 25, some (20, true), [], (.move (.t 0))⟩, ⟨some 26, some (20, true), [], (.move (.t 7))⟩, ⟨some 27, some (20, true), [], (.bin .sub (.t 26) (.c (.int .i64 1)))⟩, ⟨some 28, some (20, true), [], (.idxSl 1 (.t 25) (.t 27))⟩, ⟨some 29, some (20, true), [], (.load false 1 (.t 28))⟩, ⟨some 30, some (20, true), [], (.call 140 [(.t 24), (.t 29)])⟩, ⟨some 31, some (20, true), [], (.un .not (.t 30))⟩, ⟨some 32, none, [], (.pick (.t 20) (.t 31) (.c (.bool false)))⟩] true) (.cond (.t 32) .skip (.exit 2))) ir139c2) fs e s := Iff.rfl
theorem g139c4 (T : Tab) (Q : Post) (fs : List Fr) (e : Env) (s : St) : Go T Q ir139c4 fs e s ↔ Go T Q (.loop ir139c3) fs e s := Iff.rfl
theorem g139c5 (T : Tab) (Q : Post) (fs : List Fr) (e : Env) (s : St) : Go T Q ir139c5 fs e s ↔ Go T Q (.cond (.t 37) (.seq (.region [⟨some 6, none, [], (.move (.c (.bool true)))⟩] false) .ret) .skip) fs e s := Iff.rfl
theorem g139c6 (T : Tab) (Q : Post) (fs : List Fr) (e : Env) (s : St) : Go T Q ir139c6 fs e s ↔ Go T Q (.cond (.t 41) (.seq (.region [⟨some 6, none, [], (.move (.c (.bool false)))⟩] false) .ret) .skip) fs e s := Iff.rfl
theorem g139c7 (T : Tab) (Q : Post) (fs : List Fr) (e : Env) (s : St) : Go T Q ir139c7 fs e s ↔ Go T Q (.region [⟨some 79, none, [], (.move (.t 0))⟩, ⟨some 80, none, [], (.move (.t 9))⟩, ⟨some 81, none, [], (.move (.t 0))⟩, ⟨some 82, none, [], (.move (.t 9))⟩, ⟨some 83, none, [], (.bin .sub (.t 82) (.c (.int .i64 1)))⟩, ⟨some 84, none, [], (.move (.t 0))⟩, ⟨some 85, none, [], (.move (.t 9))⟩, ⟨some 86, none, [], (.bin .sub (.t 85) (.c (.int .i64 1)))⟩, ⟨some 87, none, [], (.idxSl 1 (.t 84) (.t 86))⟩, ⟨some 88, none, [], (.load false 1 (.t 87))⟩, ⟨some 89, none, [], (.move (.t 0))⟩, ⟨some 90, none, [], (.move (.t 9))⟩, ⟨some 91, none, [], (.idxSl 1 (.t 89) (.t 90))⟩, ⟨some 92, none, [], (.load false 1 (.t 91))⟩, ⟨some 93, none, [], (.idxSl 1 (.t 79) (.t 80))⟩, ⟨none, none, [], (.store 1 (.t 93) (.t 88))⟩, ⟨some 94, none, [], (.idxSl 1 (.t 81) (.t 83))⟩, ⟨none, none, [], (.store 1 (.t 94) (.t 92))⟩] true) fs e s := Iff.rfl
theorem g139c8 (T : Tab) (Q : Post) (fs : List Fr) (e : Env) (s : St) : Go T Q ir139c8 fs e s ↔ Go T Q (.seq (.seq (.region [⟨some 68, none, [], (.move (.t 0))⟩, ⟨some 69, none, [], (.move (.t 9))⟩, ⟨some 70, none, [], (.idxSl 1 (.t 68) (.t 69))⟩, ⟨some 71, none, [], (.load false 1 (.t 70))⟩, ⟨some 72, none, [], (.move (.t 0))⟩, ⟨some 73, none, [], (.move (.t 9))⟩, ⟨some 74, none, [], (.bin .sub (.t 73) (.c (.int .i64 1)))⟩, ⟨some 75, none, [], (.idxSl 1 (.t 72) (.t 74))⟩, ⟨some 76, none, [], (.load false 1 (.t 75))⟩, ⟨some 77, none, [], (.call 140 [(.t 71), (.t 76)])⟩, ⟨some 78, none, [], (.un .not (.t 77))⟩] true) (.cond (.t 78) (.exit 4) .skip)) ir139c7) fs e s := Iff.rfl
theorem g139c9 (T : Tab) (Q : Post) (fs : List Fr) (e : Env) (s : St) : Go T Q ir139c9 fs e s ↔ Go T Q (.region [⟨some 66, none, [], (.move (.t 9))⟩, ⟨some 67, none, [], (.bin .sub (.t 66) (.c (.int .i64 1)))⟩, ⟨some 9, none, [], (.move (.t 67))⟩] false) fs e s := Iff.rfl
theorem g139c10 (T : Tab) (Q : Post) (fs : List Fr) (e : Env) (s : St) : Go T Q ir139c10 fs e s ↔ Go T Q (.seq (.block 5 ir139c8) ir139c9) fs e s := Iff.rfl
theorem g139c11 (T : Tab) (Q : Post) (fs : List Fr) (e : Env) (s : St) : Go T Q ir139c11 fs e s ↔ Go T Q (.seq (.seq (.region [⟨some 64, none, [], (.move (.t 9))⟩, ⟨some 65, none, [], (.bin .geq (.t 64) (.c (.int .i64 1)))⟩] false) (.cond (.t 65) .skip (.exit 4))) ir139c10) fs e s := Iff.rfl
theorem g139c12 (T : Tab) (Q : Post) (fs : List Fr) (e : Env) (s : St) : Go T Q ir139c12 fs e s ↔ Go T Q (.loop ir139c11) fs e s := Iff.rfl
theorem g139c13 (T : Tab) (Q : Post) (fs : List Fr) (e : Env) (s : St) : Go T Q ir139c13 fs e s ↔ Go T Q (.block 4 ir139c12) fs e s := Iff.rfl
theorem g139c14 (T : Tab) (Q : Post) (fs : List Fr) (e : Env) (s : St) : Go T Q ir139c14 fs e s ↔ Go T Q (.seq (.region [⟨some 62, none, [], (.move (.t 7))⟩, ⟨some 63, none, [], (.bin .sub (.t 62) (.c (.int .i64 1)))⟩, ⟨some 9, none, [], (.move (.t 63))⟩] false) ir139c13) fs e s := Iff.rfl
theorem g139c15 (T : Tab) (Q : Post) (fs : List Fr) (e : Env) (s : St) : Go T Q ir139c15 fs e s ↔ Go T Q (.cond (.t 61) ir139c14 .skip) fs e s := Iff.rfl
theorem g139c16 (T : Tab) (Q : Post) (fs : List Fr) (e : Env) (s : St) : Go T Q ir139c16 fs e s ↔ Go T Q (.region [⟨some 117, none, [], (.move (.t 0))⟩, ⟨some 118, none, [], (.move (.t 10))⟩, ⟨some 119, none, [], (.move (.t 0))⟩, ⟨some 120, none, [], (.move (.t 10))⟩, ⟨some 121, none, [], (.bin .sub (.t 120) (.c (.int .i64 1)))⟩, ⟨some 122, none, [], (.move (.t 0))⟩, ⟨some 123, none, [], (.move (.t 10))⟩, ⟨some 124, none, [], (.bin .sub (.t 123) (.c (.int .i64 1)))⟩, ⟨some 125, none, [], (.idxSl 1 (.t 122) (.t 124))⟩, ⟨some 126, none, [], (.load false 1 (.t 125))⟩, ⟨some 127, none, [], (.move (.t 0))⟩, ⟨some 128, none, [], (.move (.t 10))⟩, ⟨some 129, none, [], (.idxSl 1 (.t 127) (.t 128))⟩, ⟨some 130, none, [], (.load false 1 (.t 129))⟩, ⟨some 131, none, [], (.idxSl 1 (.t 117) (.t 118))⟩, ⟨none, none, [], (.store 1 (.t 131) (.t 126))⟩, ⟨some 132, none, [], (.idxSl 1 (.t 119) (.t 121))⟩, ⟨none, none, [], (.store 1 (.t 132) (.t 130))⟩] true) fs e s := Iff.rfl
theorem g139c17 (T : Tab) (Q : Post) (fs : List Fr) (e : Env) (s : St) : Go T Q ir139c17 fs e s ↔ Go T Q (.seq (.seq (.region [⟨some 106, none, [], (.move (.t 0))⟩, ⟨some 107, none, [], (.move (.t 10))⟩, ⟨some 108, none, [], (.idxSl 1 (.t 106) (.t 107))⟩, ⟨some 109, none, [], (.load false 1 (.t 108))⟩, ⟨some 110, none, [], (.move (.t 0))⟩, ⟨some 111, none, [], (.move (.t 10))⟩, ⟨some 112, none, [], (.bin .sub (.t 111) (.c (.int .i64 1)))⟩, ⟨some 113, none, [], (.idxSl 1 (.t 110) (.t 112))⟩, ⟨some 114, none, [], (.load false 1 (.t 113))⟩, ⟨some 115, none, [], (.call 140 [(.t 109), (.t 114)])⟩, ⟨some 116, none, [], (.un .not (.t 115))⟩] true) (.cond (.t 116) (.exit 6) .skip)) ir139c16) fs e s := Iff.rfl
theorem g139c18 (T : Tab) (Q : Post) (fs : List Fr) (e : Env) (s : St) : Go T Q ir139c18 fs e s ↔ Go T Q (.region [⟨some 104, none, [], (.move (.t 10))⟩, ⟨some 105, none, [], (.bin .add (.t 104) (.c (.int .i64 1)))⟩, ⟨some 10, none, [], (.move (.t 105))⟩] false) fs e s := Iff.rfl
theorem g139c19 (T : Tab) (Q : Post) (fs : List Fr) (e : Env) (s : St) : Go T Q ir139c19 fs e s ↔ Go T Q (.seq (.block 7 ir139c17) ir139c18) fs e s := Iff.rfl
theorem g139c20 (T : Tab) (Q : Post) (fs : List Fr) (e : Env) (s : St) : Go T Q ir139c20 fs e s ↔ Go T Q (.seq (.seq (.region [⟨some 101, none, [], (.move (.t 10))⟩, ⟨some 102, none, [], (.move (.t 2))⟩, ⟨some 103, none, [], (.bin .lss (.t 101) (.t 102))⟩] false) (.cond (.t 103) .skip (.exit 6))) ir139c19) fs e s := Iff.rfl
theorem g139c21 (T : Tab) (Q : Post) (fs : List Fr) (e : Env) (s : St) : Go T Q ir139c21 fs e s ↔ Go T Q (.loop ir139c20) fs e s := Iff.rfl
theorem g139c22 (T : Tab) (Q : Post) (fs : List Fr) (e : Env) (s : St) : Go T Q ir139c22 fs e s ↔ Go T Q (.block 6 ir139c21) fs e s := Iff.rfl
theorem g139c23 (T : Tab) (Q : Post) (fs : List Fr) (e : Env) (s : St) : Go T Q ir139c23 fs e s ↔ Go T Q (.seq (.region [⟨some 99, none, [], (.move (.t 7))⟩, ⟨some 100, none, [], (.bin .add (.t 99) (.c (.int .i64 1)))⟩, ⟨some 10, none, [], (.move (.t 100))⟩] false) ir139c22) fs e s := Iff.rfl
theorem g139c24 (T : Tab) (Q : Post) (fs : List Fr) (e : Env) (s : St) : Go T Q ir139c24 fs e s ↔ Go T Q (.cond (.t 98) ir139c23 .skip) fs e s := Iff.rfl
theorem g139c25 (T : Tab) (Q : Post) (fs : List Fr) (e : Env) (s : St) : Go T Q ir139c25 fs e s ↔ Go T Q (.seq (.region [⟨some 95, none, [], (.move (.t 2))⟩, ⟨some 96, none, [], (.move (.t 7))⟩, ⟨some 97, none, [], (.bin .sub (.t 95) (.t 96))⟩, ⟨some 98, none, [], (.bin .geq (.t 97) (.c (.int .i64 2)))⟩] false) ir139c24) fs e s := Iff.rfl
theorem g139c26 (T : Tab) (Q : Post) (fs : List Fr) (e : Env) (s : St) : Go T Q ir139c26 fs e s ↔ Go T Q (.seq (.seq (.region [⟨some 58, none, [], (.move (.t 7))⟩, ⟨some 59, none, [], (.move (.t 1))⟩, ⟨some 60, none, [], (.bin .sub (.t 58) (.t 59))⟩, ⟨some 61, none, [], (.bin .geq (.t 60) (.c (.int .i64 2)))⟩] false) ir139c15) ir139c25) fs e s := Iff.rfl
theorem g139c27 (T : Tab) (Q : Post) (fs : List Fr) (e : Env) (s : St) : Go T Q ir139c27 fs e s ↔ Go T Q (.seq (.region [⟨some 42, none, [], (.move (.t 0))⟩, ⟨some 43, none, [], (.move (.t 7))⟩, ⟨some 44, none, [], (.move (.t 0))⟩, ⟨some 45, none, [], (.move (.t 7))⟩, ⟨some 46, none, [], (.bin .sub (.t 45) (.c (.int .i64 1)))⟩, ⟨some 47, none, [], (.move (.t 0))⟩, ⟨some 48, none, [], (.move (.t 7))⟩, ⟨some 49, none, [], (.bin .sub (.t 48) (.c (.int .i64 1)))⟩, ⟨some 50, none, [], (.idxSl 1 (.t 47) (.t 49))⟩, ⟨some 51, none, [], (.load false 1 (.t 50))⟩, ⟨some 52, none, [], (.move (.t 0))⟩, ⟨some 53, none, [], (.move (.t 7))⟩, ⟨some 54, none, [], (.idxSl 1 (.t 52) (.t 53))⟩, ⟨some 55, none, [], (.load false 1 (.t 54))⟩, ⟨some 56, none, [], (.idxSl 1 (.t 42) (.t 43))⟩, ⟨none, none, [], (.store 1 (.t 56) (.t 51))⟩, ⟨some 57, none, [], (.idxSl 1 (.t 44) (.t 46))⟩, ⟨none, none, [], (.store 1 (.t 57) (.t 55))⟩] true) ir139c26) fs e s := Iff.rfl
theorem g139c28 (T : Tab) (Q : Post) (fs : List Fr) (e : Env) (s : St) : Go T Q ir139c28 fs e s ↔ Go T Q (.seq (.seq (.region [⟨some 38, none, [], (.move (.t 2))⟩, ⟨some 39, none, [], (.move (.t 1))⟩, ⟨some 40, none, [], (.bin .sub (.t 38) (.t 39))⟩, ⟨some 41, none, [], (.bin .lss (.t 40) (.c (.int .i64 50)))⟩] false) ir139c6) ir139c27) fs e s := Iff.rfl
theorem g139c29 (T : Tab) (Q : Post) (fs : List Fr) (e : Env) (s : St) : Go T Q ir139c29 fs e s ↔ Go T Q (.seq (.seq (.region [⟨some 35, none, [], (.move (.t 7))⟩, ⟨some 36, none, [], (.move (.t 2))⟩, ⟨some 37, none, [], (.bin .eql (.t 35) (.t 36))⟩] false) ir139c5) ir139c28) fs e s := Iff.rfl
theorem g139c30 (T : Tab) (Q : Post) (fs : List Fr) (e : Env) (s : St) : Go T Q ir139c30 fs e s ↔ Go T Q (.seq (.block 2 ir139c4) ir139c29) fs e s := Iff.rfl
theorem g139c31 (T : Tab) (Q : Post) (fs : List Fr) (e : Env) (s : St) : Go T Q ir139c31 fs e s ↔ Go T Q (.region [⟨some 15, none, [], (.move (.t 8))⟩, ⟨some 16, none, [], (.bin .add (.t 15) (.c (.int .i64 1)))⟩, ⟨some 8, none, [], (.move (.t 16))⟩] false) fs e s := Iff.rfl
theorem g139c32 (T : Tab) (Q : Post) (fs : List Fr) (e : Env) (s : St) : Go T Q ir139c32 fs e s ↔ Go T Q (.seq (.block 1 ir139c30) ir139c31) fs e s := Iff.rfl
theorem g139c33 (T : Tab) (Q : Post) (fs : List Fr) (e : Env) (s : St) : Go T Q ir139c33 fs e s ↔ Go T Q (.seq (.seq (.region [⟨some 13, none, [], (.move (.t 8))⟩, ⟨some 14, none, [], (.bin .lss (.t 13) (.c (.int .i64 5)))⟩] false) (.cond (.t 14) .skip (.exit 0))) ir139c32) fs e s := Iff.rfl
theorem g139c34 (T : Tab) (Q : Post) (fs : List Fr) (e : Env) (s : St) : Go T Q ir139c34 fs e s ↔ Go T Q (.loop ir139c33) fs e s := Iff.rfl
theorem g139c35 (T : Tab) (Q : Post) (fs : List Fr) (e : Env) (s : St) : Go T Q ir139c35 fs e s ↔ Go T Q (.block 0 ir139c34) fs e s := Iff.rfl
theorem g139c36 (T : Tab) (Q : Post) (fs : List Fr) (e : Env) (s : St) : Go T Q ir139c36 fs e s ↔ Go T Q (.seq (.seq (.region [⟨some 8, none, [], (.move (.c (.int .i64 0)))⟩] false) ir139c35) (.seq (.region [⟨some 6, none, [], (.move (.c (.bool false)))⟩] false) .ret)) fs e s := Iff.rfl
theorem g139c37 (T : Tab) (Q : Post) (fs : List Fr) (e : Env) (s : St) : Go T Q ir139c37 fs e s ↔ Go T Q (.seq (.region [⟨some 11, none, [], (.move (.t 1))⟩, ⟨some 12, none, [], (.bin .add (.t 11) (.c (.int .i64 1)))⟩, ⟨some 7, none, [], (.move (.t 12))⟩] false) ir139c36) fs e s := Iff.rfl

section
variable {α : Type} {en : α → AV} {lt : α → α → Bool} {T : Tab}
/-- What stands ahead of a is at most what stands from a on. -/
def PreA (lt : α → α → Bool) (a b : Nat) (f : Nat → α) : Prop := 1 ≤ a → ∀ i, a ≤ i → i < b → Le lt (f (a - 1)) (f i)
theorem PreA.perm {a b : Nat} {f g : Nat → α} (h : PreA lt a b f) (hp : PermR a b f g) : PreA lt a b g := by
  intro h1 i i1 i2
  rw [hp.out (by omega : ¬ (a ≤ a - 1 ∧ a - 1 < b))]
  exact hp.all (P := fun x => Le lt (f (a - 1)) x) (h h1) i i1 i2

structure PsE (B inc n cap : Nat) (ex : Bool) (a b c i : Nat) (e : Env) : Prop where
  h0 : opd e (.t 0) = dsl B inc n cap ex
  h1 : opd e (.t 1) = .int .i64 (a : Int)
  h2 : opd e (.t 2) = .int .i64 (b : Int)
  h7 : opd e (.t 7) = .int .i64 (i : Int)
  h8 : opd e (.t 8) = .int .i64 (c : Int)

set_option maxHeartbeats 8000000 in
theorem ps_scan (hL : LessOk T 140 en lt) (ho : Ord lt) {Q : Post} {s0 s : St} {B inc n cap : Nat} {ex : Bool} (hn : n ≤ 1000000000) (a b c : Nat) (hbn : b ≤ n) (g : Nat → α) (hA : Aft en s0 B inc n g s)
    (K : ∀ (e : Env) (m : Nat), a < m → m ≤ b → Srt lt a m g → (m < b → lt (g m) (g (m - 1)) = true) → PsE B inc n cap ex a b c m e → Ret T Q [.seq ir139c29, .block 1, .seq ir139c31, .loop ir139c33, .block 0, .seq (.seq (.region [⟨some 6, none, [], (.move (.c (.bool false)))⟩] false) .ret)] .normal e s) :
    ∀ (k i : Nat) (e : Env), k + i = b → a < i → Srt lt a i g → PsE B inc n cap ex a b c i e →
      Go T Q (.loop ir139c3) [.block 2, .seq ir139c29, .block 1, .seq ir139c31, .loop ir139c33, .block 0, .seq (.seq (.region [⟨some 6, none, [], (.move (.c (.bool false)))⟩] false) .ret)] e s := by
  have kl := hL.call
  obtain ⟨lo', hlo, hrow⟩ := hA.row
  intro k
  induction k with
  | zero =>
    intro i e hk hai hS hE
    obtain ⟨h0, h1, h2, h7, h8⟩ := hE
    have hc : ¬ ((i : Int) < (b : Int)) := by omega
    have hK := fun e h0 h1 h2 h7 h8 => K e i hai (by omega) hS (fun hm => by omega) ⟨h0, h1, h2, h7, h8⟩
    rw [go_loop]
    generalize ([.seq ir139c29, .block 1, .seq ir139c31, .loop ir139c33, .block 0, .seq (.seq (.region [⟨some 6, none, [], (.move (.c (.bool false)))⟩] false) .ret)] : List Fr) = FF at *
    simp only [g139c1, g139c2, g139c3, g139c4, g139c5, g139c6, g139c7, g139c8, g139c9, g139c10, g139c11, g139c12, g139c13, g139c14, g139c15, g139c16, g139c17, g139c18, g139c19, g139c20, g139c21, g139c22, g139c23, g139c24, g139c25, g139c26, g139c27, g139c28, g139c29, g139c30, g139c31, g139c32, g139c33, g139c34, g139c35, g139c36, g139c37, h0, h1, h2, h7, hc, wk, wk1, wk2, Option.some.injEq, exists_eq_left', decide_true, decide_false, Nat.reduceAdd, Nat.reduceEqDiff, Nat.reduceLeDiff, Nat.reduceLT, Nat.reduceMul, Nat.reduceBEq, Int.reduceLT, Int.reduceLE, Int.reduceEq, Int.reduceAdd, Int.reduceSub, Int.reduceMul, Int.reduceMod, Int.reduceTMod, Int.reduceTDiv, Int.reduceNeg, Nat.reduceSub, Nat.reduceDiv, reduceIte, reduceCtorEq]
    refine hK _ ?_ ?_ ?_ ?_ ?_ <;> simp only [h0, h1, h2, h7, h8, wk, wk1, wk2, Option.some.injEq, exists_eq_left', decide_true, decide_false, Nat.reduceAdd, Nat.reduceEqDiff, Nat.reduceLeDiff, Nat.reduceLT, Nat.reduceMul, Nat.reduceBEq, Int.reduceLT, Int.reduceLE, Int.reduceEq, Int.reduceAdd, Int.reduceSub, Int.reduceMul, Int.reduceMod, Int.reduceTMod, Int.reduceTDiv, Int.reduceNeg, Nat.reduceSub, Nat.reduceDiv, reduceIte, reduceCtorEq]
  | succ k ih =>
    intro i e hk hai hS hE
    obtain ⟨h0, h1, h2, h7, h8⟩ := hE
    have hc : ((i : Int) < (b : Int)) := by omega
    have hin : i < n := by omega
    have hin' : i - 1 < n := by omega
    have hi1 : i + 1 ≤ n := by omega
    have hi1' : i - 1 + 1 ≤ n := by omega
    have r1 := mp_take (en := en) (f := g) hin
    have r2 := mp_take (en := en) (f := g) hin'
    have u1 : wrapF .i64 ((i : Int) - 1) = ((i - 1 : Nat) : Int) := i64_sub1 (by omega) (by omega)
    have u2 : wrapF .i64 ((i : Int) + 1) = ((i + 1 : Nat) : Int) := i64_add1 (by omega)
    rw [go_loop]
    cases hl : lt (g i) (g (i - 1)) with
    | true =>
      have hK := fun e h0 h1 h2 h7 h8 => K e i hai (by omega) hS (fun hm => hl) ⟨h0, h1, h2, h7, h8⟩
      generalize ([.seq ir139c29, .block 1, .seq ir139c31, .loop ir139c33, .block 0, .seq (.seq (.region [⟨some 6, none, [], (.move (.c (.bool false)))⟩] false) .ret)] : List Fr) = FF at *
      simp only [g139c1, g139c2, g139c3, g139c4, g139c5, g139c6, g139c7, g139c8, g139c9, g139c10, g139c11, g139c12, g139c13, g139c14, g139c15, g139c16, g139c17, g139c18, g139c19, g139c20, g139c21, g139c22, g139c23, g139c24, g139c25, g139c26, g139c27, g139c28, g139c29, g139c30, g139c31, g139c32, g139c33, g139c34, g139c35, g139c36, g139c37, h0, h1, h2, h7, hc, hin, hin', hi1, hi1', hrow, hlo, r1, r2, u1, u2, kl, hl, wk, wk1, wk2, Option.some.injEq, exists_eq_left', decide_true, decide_false, Nat.reduceAdd, Nat.reduceEqDiff, Nat.reduceLeDiff, Nat.reduceLT, Nat.reduceMul, Nat.reduceBEq, Int.reduceLT, Int.reduceLE, Int.reduceEq, Int.reduceAdd, Int.reduceSub, Int.reduceMul, Int.reduceMod, Int.reduceTMod, Int.reduceTDiv, Int.reduceNeg, Nat.reduceSub, Nat.reduceDiv, reduceIte, reduceCtorEq]
      refine hK _ ?_ ?_ ?_ ?_ ?_ <;> simp only [h0, h1, h2, h7, h8, wk, wk1, wk2, Option.some.injEq, exists_eq_left', decide_true, decide_false, Nat.reduceAdd, Nat.reduceEqDiff, Nat.reduceLeDiff, Nat.reduceLT, Nat.reduceMul, Nat.reduceBEq, Int.reduceLT, Int.reduceLE, Int.reduceEq, Int.reduceAdd, Int.reduceSub, Int.reduceMul, Int.reduceMod, Int.reduceTMod, Int.reduceTDiv, Int.reduceNeg, Nat.reduceSub, Nat.reduceDiv, reduceIte, reduceCtorEq]
    | false =>
      simp only [g139c1, g139c2, g139c3, g139c4, g139c5, g139c6, g139c7, g139c8, g139c9, g139c10, g139c11, g139c12, g139c13, g139c14, g139c15, g139c16, g139c17, g139c18, g139c19, g139c20, g139c21, g139c22, g139c23, g139c24, g139c25, g139c26, g139c27, g139c28, g139c29, g139c30, g139c31, g139c32, g139c33, g139c34, g139c35, g139c36, g139c37, h0, h1, h2, h7, hc, hin, hin', hi1, hi1', hrow, hlo, r1, r2, u1, u2, kl, hl, wk, wk1, wk2, Option.some.injEq, exists_eq_left', decide_true, decide_false, Nat.reduceAdd, Nat.reduceEqDiff, Nat.reduceLeDiff, Nat.reduceLT, Nat.reduceMul, Nat.reduceBEq, Int.reduceLT, Int.reduceLE, Int.reduceEq, Int.reduceAdd, Int.reduceSub, Int.reduceMul, Int.reduceMod, Int.reduceTMod, Int.reduceTDiv, Int.reduceNeg, Nat.reduceSub, Nat.reduceDiv, reduceIte, reduceCtorEq]
      refine ih (i + 1) _ (by omega) (by omega) ?_ ⟨?_, ?_, ?_, ?_, ?_⟩
      · intro p q p1 q1 q2
        by_cases e1 : q = i
        · subst e1
          by_cases e2 : p = q - 1
          · subst e2; exact hl
          · exact ho.trans _ _ _ (hS p (q - 1) p1 (by omega) (by omega)) hl
        · exact hS p q p1 q1 (by omega)
      all_goals simp only [h0, h1, h2, h7, h8, u2, wk, wk1, wk2, Option.some.injEq, exists_eq_left', decide_true, decide_false, Nat.reduceAdd, Nat.reduceEqDiff, Nat.reduceLeDiff, Nat.reduceLT, Nat.reduceMul, Nat.reduceBEq, Int.reduceLT, Int.reduceLE, Int.reduceEq, Int.reduceAdd, Int.reduceSub, Int.reduceMul, Int.reduceMod, Int.reduceTMod, Int.reduceTDiv, Int.reduceNeg, Nat.reduceSub, Nat.reduceDiv, reduceIte, reduceCtorEq]

set_option maxHeartbeats 8000000 in
theorem ps_left (hL : LessOk T 140 en lt) (ho : Ord lt) {Q : Post} {s0 : St} {B inc n cap : Nat} {ex : Bool} (hB : B < s0.next) (hn : n ≤ 1000000000) (a b c i : Nat) (hai : a < i) (hib : i < b) (hbn : b ≤ n) (f0 : Nat → α) (hpre : PreA lt a b f0)
    (K : ∀ (e : Env) (s : St) (g : Nat → α), Srt lt a i g → PermR a b f0 g → Aft en s0 B inc n g s → PsE B inc n cap ex a b c i e → Ret T Q [.seq ir139c25, .block 1, .seq ir139c31, .loop ir139c33, .block 0, .seq (.seq (.region [⟨some 6, none, [], (.move (.c (.bool false)))⟩] false) .ret)] .normal e s) :
    ∀ (k j : Nat) (e : Env) (s : St) (g : Nat → α), j = a + k → j < i → InsInv lt a (i - 1) j g → PermR a b f0 g → Aft en s0 B inc n g s → PsE B inc n cap ex a b c i e → opd e (.t 9) = .int .i64 (j : Int) →
      Go T Q (.loop ir139c11) [.block 4, .seq ir139c25, .block 1, .seq ir139c31, .loop ir139c33, .block 0, .seq (.seq (.region [⟨some 6, none, [], (.move (.c (.bool false)))⟩] false) .ret)] e s := by
  have kl := hL.call
  have kc := hL.cells
  have ki := hL.cell
  intro k
  induction k with
  | zero =>
    intro j e s g hj hji hI hP hA hE h9
    obtain ⟨h0, h1, h2, h7, h8⟩ := hE
    have hja : j = a := by omega
    have hS : Srt lt a i g := by
      have := hI.done ho (by omega) (fun h => by omega)
      have e1 : i - 1 + 1 = i := by omega
      rwa [e1] at this
    have hK := fun e h0 h1 h2 h7 h8 => K e s g hS hP hA ⟨h0, h1, h2, h7, h8⟩
    rw [go_loop]
    by_cases hz : 1 ≤ j
    · have hc : ((1 : Int) ≤ (j : Int)) := by omega
      have hl : lt (g j) (g (j - 1)) = false := by
        have := hpre.perm hP (by omega) a (Nat.le_refl _) (by omega)
        rw [hja]; exact this
      obtain ⟨lo', hlo, hrow⟩ := hA.row
      have hjn : j < n := by omega
      have hjn' : j - 1 < n := by omega
      have hj1 : j + 1 ≤ n := by omega
      have hj1' : j - 1 + 1 ≤ n := by omega
      have r1 := mp_take (en := en) (f := g) hjn
      have r2 := mp_take (en := en) (f := g) hjn'
      have u1 : wrapF .i64 ((j : Int) - 1) = ((j - 1 : Nat) : Int) := i64_sub1 (by omega) (by omega)
      generalize ([.seq ir139c25, .block 1, .seq ir139c31, .loop ir139c33, .block 0, .seq (.seq (.region [⟨some 6, none, [], (.move (.c (.bool false)))⟩] false) .ret)] : List Fr) = FF at *
      simp only [g139c1, g139c2, g139c3, g139c4, g139c5, g139c6, g139c7, g139c8, g139c9, g139c10, g139c11, g139c12, g139c13, g139c14, g139c15, g139c16, g139c17, g139c18, g139c19, g139c20, g139c21, g139c22, g139c23, g139c24, g139c25, g139c26, g139c27, g139c28, g139c29, g139c30, g139c31, g139c32, g139c33, g139c34, g139c35, g139c36, g139c37, h0, h1, h2, h7, h9, hc, hjn, hjn', hj1, hj1', hrow, hlo, r1, r2, u1, kl, hl, wk, wk1, wk2, Option.some.injEq, exists_eq_left', decide_true, decide_false, Nat.reduceAdd, Nat.reduceEqDiff, Nat.reduceLeDiff, Nat.reduceLT, Nat.reduceMul, Nat.reduceBEq, Int.reduceLT, Int.reduceLE, Int.reduceEq, Int.reduceAdd, Int.reduceSub, Int.reduceMul, Int.reduceMod, Int.reduceTMod, Int.reduceTDiv, Int.reduceNeg, Nat.reduceSub, Nat.reduceDiv, reduceIte, reduceCtorEq]
      refine hK _ ?_ ?_ ?_ ?_ ?_ <;> simp only [h0, h1, h2, h7, h8, wk, wk1, wk2, Option.some.injEq, exists_eq_left', decide_true, decide_false, Nat.reduceAdd, Nat.reduceEqDiff, Nat.reduceLeDiff, Nat.reduceLT, Nat.reduceMul, Nat.reduceBEq, Int.reduceLT, Int.reduceLE, Int.reduceEq, Int.reduceAdd, Int.reduceSub, Int.reduceMul, Int.reduceMod, Int.reduceTMod, Int.reduceTDiv, Int.reduceNeg, Nat.reduceSub, Nat.reduceDiv, reduceIte, reduceCtorEq]
    · have hc : ¬ ((1 : Int) ≤ (j : Int)) := by omega
      generalize ([.seq ir139c25, .block 1, .seq ir139c31, .loop ir139c33, .block 0, .seq (.seq (.region [⟨some 6, none, [], (.move (.c (.bool false)))⟩] false) .ret)] : List Fr) = FF at *
      simp only [g139c1, g139c2, g139c3, g139c4, g139c5, g139c6, g139c7, g139c8, g139c9, g139c10, g139c11, g139c12, g139c13, g139c14, g139c15, g139c16, g139c17, g139c18, g139c19, g139c20, g139c21, g139c22, g139c23, g139c24, g139c25, g139c26, g139c27, g139c28, g139c29, g139c30, g139c31, g139c32, g139c33, g139c34, g139c35, g139c36, g139c37, h0, h1, h2, h7, h9, hc, wk, wk1, wk2, Option.some.injEq, exists_eq_left', decide_true, decide_false, Nat.reduceAdd, Nat.reduceEqDiff, Nat.reduceLeDiff, Nat.reduceLT, Nat.reduceMul, Nat.reduceBEq, Int.reduceLT, Int.reduceLE, Int.reduceEq, Int.reduceAdd, Int.reduceSub, Int.reduceMul, Int.reduceMod, Int.reduceTMod, Int.reduceTDiv, Int.reduceNeg, Nat.reduceSub, Nat.reduceDiv, reduceIte, reduceCtorEq]
      refine hK _ ?_ ?_ ?_ ?_ ?_ <;> simp only [h0, h1, h2, h7, h8, wk, wk1, wk2, Option.some.injEq, exists_eq_left', decide_true, decide_false, Nat.reduceAdd, Nat.reduceEqDiff, Nat.reduceLeDiff, Nat.reduceLT, Nat.reduceMul, Nat.reduceBEq, Int.reduceLT, Int.reduceLE, Int.reduceEq, Int.reduceAdd, Int.reduceSub, Int.reduceMul, Int.reduceMod, Int.reduceTMod, Int.reduceTDiv, Int.reduceNeg, Nat.reduceSub, Nat.reduceDiv, reduceIte, reduceCtorEq]
  | succ k ih =>
    intro j e s g hj hji hI hP hA hE h9
    obtain ⟨h0, h1, h2, h7, h8⟩ := hE
    have hc : ((1 : Int) ≤ (j : Int)) := by omega
    obtain ⟨lo', hlo, hrow⟩ := hA.row
    have hjn : j < n := by omega
    have hjn' : j - 1 < n := by omega
    have hj1 : j + 1 ≤ n := by omega
    have hj1' : j - 1 + 1 ≤ n := by omega
    have r1 := mp_take (en := en) (f := g) hjn
    have r2 := mp_take (en := en) (f := g) hjn'
    have sp1 := fun x => mp_splice (en := en) (f := g) (x := x) hjn
    have sp2 := fun f x => mp_splice (en := en) (f := f) (x := x) hjn'
    have u1 : wrapF .i64 ((j : Int) - 1) = ((j - 1 : Nat) : Int) := i64_sub1 (by omega) (by omega)
    rw [go_loop]
    cases hl : lt (g j) (g (j - 1)) with
    | false =>
      have hS : Srt lt a i g := by
        have := hI.done ho (by omega) (fun h => hl)
        have e1 : i - 1 + 1 = i := by omega
        rwa [e1] at this
      have hK := fun e h0 h1 h2 h7 h8 => K e s g hS hP hA ⟨h0, h1, h2, h7, h8⟩
      generalize ([.seq ir139c25, .block 1, .seq ir139c31, .loop ir139c33, .block 0, .seq (.seq (.region [⟨some 6, none, [], (.move (.c (.bool false)))⟩] false) .ret)] : List Fr) = FF at *
      simp only [g139c1, g139c2, g139c3, g139c4, g139c5, g139c6, g139c7, g139c8, g139c9, g139c10, g139c11, g139c12, g139c13, g139c14, g139c15, g139c16, g139c17, g139c18, g139c19, g139c20, g139c21, g139c22, g139c23, g139c24, g139c25, g139c26, g139c27, g139c28, g139c29, g139c30, g139c31, g139c32, g139c33, g139c34, g139c35, g139c36, g139c37, h0, h1, h2, h7, h9, hc, hjn, hjn', hj1, hj1', hrow, hlo, r1, r2, u1, kl, hl, wk, wk1, wk2, Option.some.injEq, exists_eq_left', decide_true, decide_false, Nat.reduceAdd, Nat.reduceEqDiff, Nat.reduceLeDiff, Nat.reduceLT, Nat.reduceMul, Nat.reduceBEq, Int.reduceLT, Int.reduceLE, Int.reduceEq, Int.reduceAdd, Int.reduceSub, Int.reduceMul, Int.reduceMod, Int.reduceTMod, Int.reduceTDiv, Int.reduceNeg, Nat.reduceSub, Nat.reduceDiv, reduceIte, reduceCtorEq]
      refine hK _ ?_ ?_ ?_ ?_ ?_ <;> simp only [h0, h1, h2, h7, h8, wk, wk1, wk2, Option.some.injEq, exists_eq_left', decide_true, decide_false, Nat.reduceAdd, Nat.reduceEqDiff, Nat.reduceLeDiff, Nat.reduceLT, Nat.reduceMul, Nat.reduceBEq, Int.reduceLT, Int.reduceLE, Int.reduceEq, Int.reduceAdd, Int.reduceSub, Int.reduceMul, Int.reduceMod, Int.reduceTMod, Int.reduceTDiv, Int.reduceNeg, Nat.reduceSub, Nat.reduceDiv, reduceIte, reduceCtorEq]
    | true =>
      have hA' := hA.put hB (swp g j (j - 1))
      have hI' := hI.step ho (by omega) (by omega) hl
      have hP' := hP.trans (PermR.swap (f := g) (i := j) (j := j - 1) (a := a) (b := b) (by omega) (by omega) (by omega) (by omega))
      simp only [g139c1, g139c2, g139c3, g139c4, g139c5, g139c6, g139c7, g139c8, g139c9, g139c10, g139c11, g139c12, g139c13, g139c14, g139c15, g139c16, g139c17, g139c18, g139c19, g139c20, g139c21, g139c22, g139c23, g139c24, g139c25, g139c26, g139c27, g139c28, g139c29, g139c30, g139c31, g139c32, g139c33, g139c34, g139c35, g139c36, g139c37, h0, h1, h2, h7, h9, hc, hjn, hjn', hj1, hj1', hrow, hlo, r1, r2, u1, kl, kc, ki, hl, sp1, sp2, upd_swp, wk, wk1, wk2, Option.some.injEq, exists_eq_left', decide_true, decide_false, Nat.reduceAdd, Nat.reduceEqDiff, Nat.reduceLeDiff, Nat.reduceLT, Nat.reduceMul, Nat.reduceBEq, Int.reduceLT, Int.reduceLE, Int.reduceEq, Int.reduceAdd, Int.reduceSub, Int.reduceMul, Int.reduceMod, Int.reduceTMod, Int.reduceTDiv, Int.reduceNeg, Nat.reduceSub, Nat.reduceDiv, reduceIte, reduceCtorEq]
      refine ih (j - 1) _ _ _ (by omega) (by omega) hI' hP' hA' ⟨?_, ?_, ?_, ?_, ?_⟩ ?_ <;> simp only [h0, h1, h2, h7, h8, u1, wk, wk1, wk2, Option.some.injEq, exists_eq_left', decide_true, decide_false, Nat.reduceAdd, Nat.reduceEqDiff, Nat.reduceLeDiff, Nat.reduceLT, Nat.reduceMul, Nat.reduceBEq, Int.reduceLT, Int.reduceLE, Int.reduceEq, Int.reduceAdd, Int.reduceSub, Int.reduceMul, Int.reduceMod, Int.reduceTMod, Int.reduceTDiv, Int.reduceNeg, Nat.reduceSub, Nat.reduceDiv, reduceIte, reduceCtorEq]

set_option maxHeartbeats 8000000 in
theorem ps_right (hL : LessOk T 140 en lt) {Q : Post} {s0 : St} {B inc n cap : Nat} {ex : Bool} (hB : B < s0.next) (hn : n ≤ 1000000000) (a b c i : Nat) (hai : a < i) (hbn : b ≤ n) (f0 : Nat → α)
    (K : ∀ (e : Env) (s : St) (g : Nat → α), Srt lt a i g → PermR a b f0 g → Aft en s0 B inc n g s → PsE B inc n cap ex a b c i e → Ret T Q [.block 1, .seq ir139c31, .loop ir139c33, .block 0, .seq (.seq (.region [⟨some 6, none, [], (.move (.c (.bool false)))⟩] false) .ret)] .normal e s) :
    ∀ (k j : Nat) (e : Env) (s : St) (g : Nat → α), k + j = b → i < j → Srt lt a i g → PermR a b f0 g → Aft en s0 B inc n g s → PsE B inc n cap ex a b c i e → opd e (.t 10) = .int .i64 (j : Int) →
      Go T Q (.loop ir139c20) [.block 6, .block 1, .seq ir139c31, .loop ir139c33, .block 0, .seq (.seq (.region [⟨some 6, none, [], (.move (.c (.bool false)))⟩] false) .ret)] e s := by
  have kl := hL.call
  have kc := hL.cells
  have ki := hL.cell
  intro k
  induction k with
  | zero =>
    intro j e s g hj hji hS hP hA hE h9
    obtain ⟨h0, h1, h2, h7, h8⟩ := hE
    have hc : ¬ ((j : Int) < (b : Int)) := by omega
    have hK := fun e h0 h1 h2 h7 h8 => K e s g hS hP hA ⟨h0, h1, h2, h7, h8⟩
    rw [go_loop]
    generalize ([.block 1, .seq ir139c31, .loop ir139c33, .block 0, .seq (.seq (.region [⟨some 6, none, [], (.move (.c (.bool false)))⟩] false) .ret)] : List Fr) = FF at *
    simp only [g139c1, g139c2, g139c3, g139c4, g139c5, g139c6, g139c7, g139c8, g139c9, g139c10, g139c11, g139c12, g139c13, g139c14, g139c15, g139c16, g139c17, g139c18, g139c19, g139c20, g139c21, g139c22, g139c23, g139c24, g139c25, g139c26, g139c27, g139c28, g139c29, g139c30, g139c31, g139c32, g139c33, g139c34, g139c35, g139c36, g139c37, h0, h1, h2, h7, h9, hc, wk, wk1, wk2, Option.some.injEq, exists_eq_left', decide_true, decide_false, Nat.reduceAdd, Nat.reduceEqDiff, Nat.reduceLeDiff, Nat.reduceLT, Nat.reduceMul, Nat.reduceBEq, Int.reduceLT, Int.reduceLE, Int.reduceEq, Int.reduceAdd, Int.reduceSub, Int.reduceMul, Int.reduceMod, Int.reduceTMod, Int.reduceTDiv, Int.reduceNeg, Nat.reduceSub, Nat.reduceDiv, reduceIte, reduceCtorEq]
    refine hK _ ?_ ?_ ?_ ?_ ?_ <;> simp only [h0, h1, h2, h7, h8, wk, wk1, wk2, Option.some.injEq, exists_eq_left', decide_true, decide_false, Nat.reduceAdd, Nat.reduceEqDiff, Nat.reduceLeDiff, Nat.reduceLT, Nat.reduceMul, Nat.reduceBEq, Int.reduceLT, Int.reduceLE, Int.reduceEq, Int.reduceAdd, Int.reduceSub, Int.reduceMul, Int.reduceMod, Int.reduceTMod, Int.reduceTDiv, Int.reduceNeg, Nat.reduceSub, Nat.reduceDiv, reduceIte, reduceCtorEq]
  | succ k ih =>
    intro j e s g hj hji hS hP hA hE h9
    obtain ⟨h0, h1, h2, h7, h8⟩ := hE
    have hc : ((j : Int) < (b : Int)) := by omega
    obtain ⟨lo', hlo, hrow⟩ := hA.row
    have hjn : j < n := by omega
    have hjn' : j - 1 < n := by omega
    have hj1 : j + 1 ≤ n := by omega
    have hj1' : j - 1 + 1 ≤ n := by omega
    have r1 := mp_take (en := en) (f := g) hjn
    have r2 := mp_take (en := en) (f := g) hjn'
    have sp1 := fun x => mp_splice (en := en) (f := g) (x := x) hjn
    have sp2 := fun f x => mp_splice (en := en) (f := f) (x := x) hjn'
    have u1 : wrapF .i64 ((j : Int) - 1) = ((j - 1 : Nat) : Int) := i64_sub1 (by omega) (by omega)
    have u2 : wrapF .i64 ((j : Int) + 1) = ((j + 1 : Nat) : Int) := i64_add1 (by omega)
    rw [go_loop]
    cases hl : lt (g j) (g (j - 1)) with
    | false =>
      have hK := fun e h0 h1 h2 h7 h8 => K e s g hS hP hA ⟨h0, h1, h2, h7, h8⟩
      generalize ([.block 1, .seq ir139c31, .loop ir139c33, .block 0, .seq (.seq (.region [⟨some 6, none, [], (.move (.c (.bool false)))⟩] false) .ret)] : List Fr) = FF at *
      simp only [g139c1, g139c2, g139c3, g139c4, g139c5, g139c6, g139c7, g139c8, g139c9, g139c10, g139c11, g139c12, g139c13, g139c14, g139c15, g139c16, g139c17, g139c18, g139c19, g139c20, g139c21, g139c22, g139c23, g139c24, g139c25, g139c26, g139c27, g139c28, g139c29, g139c30, g139c31, g139c32, g139c33, g139c34, g139c35, g139c36, g139c37, h0, h1, h2, h7, h9, hc, hjn, hjn', hj1, hj1', hrow, hlo, r1, r2, u1, kl, hl, wk, wk1, wk2, Option.some.injEq, exists_eq_left', decide_true, decide_false, Nat.reduceAdd, Nat.reduceEqDiff, Nat.reduceLeDiff, Nat.reduceLT, Nat.reduceMul, Nat.reduceBEq, Int.reduceLT, Int.reduceLE, Int.reduceEq, Int.reduceAdd, Int.reduceSub, Int.reduceMul, Int.reduceMod, Int.reduceTMod, Int.reduceTDiv, Int.reduceNeg, Nat.reduceSub, Nat.reduceDiv, reduceIte, reduceCtorEq]
      refine hK _ ?_ ?_ ?_ ?_ ?_ <;> simp only [h0, h1, h2, h7, h8, wk, wk1, wk2, Option.some.injEq, exists_eq_left', decide_true, decide_false, Nat.reduceAdd, Nat.reduceEqDiff, Nat.reduceLeDiff, Nat.reduceLT, Nat.reduceMul, Nat.reduceBEq, Int.reduceLT, Int.reduceLE, Int.reduceEq, Int.reduceAdd, Int.reduceSub, Int.reduceMul, Int.reduceMod, Int.reduceTMod, Int.reduceTDiv, Int.reduceNeg, Nat.reduceSub, Nat.reduceDiv, reduceIte, reduceCtorEq]
    | true =>
      have hA' := hA.put hB (swp g j (j - 1))
      have hS' : Srt lt a i (swp g j (j - 1)) := by
        intro p q p1 q1 q2
        unfold swp
        rw [if_neg (by omega), if_neg (by omega), if_neg (by omega), if_neg (by omega)]
        exact hS p q p1 q1 q2
      have hP' := hP.trans (PermR.swap (f := g) (i := j) (j := j - 1) (a := a) (b := b) (by omega) (by omega) (by omega) (by omega))
      simp only [g139c1, g139c2, g139c3, g139c4, g139c5, g139c6, g139c7, g139c8, g139c9, g139c10, g139c11, g139c12, g139c13, g139c14, g139c15, g139c16, g139c17, g139c18, g139c19, g139c20, g139c21, g139c22, g139c23, g139c24, g139c25, g139c26, g139c27, g139c28, g139c29, g139c30, g139c31, g139c32, g139c33, g139c34, g139c35, g139c36, g139c37, h0, h1, h2, h7, h9, hc, hjn, hjn', hj1, hj1', hrow, hlo, r1, r2, u1, u2, kl, kc, ki, hl, sp1, sp2, upd_swp, wk, wk1, wk2, Option.some.injEq, exists_eq_left', decide_true, decide_false, Nat.reduceAdd, Nat.reduceEqDiff, Nat.reduceLeDiff, Nat.reduceLT, Nat.reduceMul, Nat.reduceBEq, Int.reduceLT, Int.reduceLE, Int.reduceEq, Int.reduceAdd, Int.reduceSub, Int.reduceMul, Int.reduceMod, Int.reduceTMod, Int.reduceTDiv, Int.reduceNeg, Nat.reduceSub, Nat.reduceDiv, reduceIte, reduceCtorEq]
      refine ih (j + 1) _ _ _ (by omega) (by omega) hS' hP' hA' ⟨?_, ?_, ?_, ?_, ?_⟩ ?_ <;> simp only [h0, h1, h2, h7, h8, u2, wk, wk1, wk2, Option.some.injEq, exists_eq_left', decide_true, decide_false, Nat.reduceAdd, Nat.reduceEqDiff, Nat.reduceLeDiff, Nat.reduceLT, Nat.reduceMul, Nat.reduceBEq, Int.reduceLT, Int.reduceLE, Int.reduceEq, Int.reduceAdd, Int.reduceSub, Int.reduceMul, Int.reduceMod, Int.reduceTMod, Int.reduceTDiv, Int.reduceNeg, Nat.reduceSub, Nat.reduceDiv, reduceIte, reduceCtorEq]
end
end Go.V
