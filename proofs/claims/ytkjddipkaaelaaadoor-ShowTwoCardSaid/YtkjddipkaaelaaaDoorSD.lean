/- The document's answer for inst: its small functions. -/
import Derived.Test.YtkjddipkaaelaaaDoorVZ
import Derived.Test.YtkjddipkaaelaaaDoorSA
import Derived.Test.YtkjddipkaaelaaaDoorVE
import Derived.KernelRfl
import Derived.Test.YtkjddipkaaelaaaDoorPA
set_option linter.unusedVariables false
set_option linter.unusedSimpArgs false
set_option linter.unusedSectionVars false
/- The document's answer for inst: its small functions. -/
/- The document's answer for inst: its small functions. -/
namespace Go.V
open Go
set_option linter.unusedSimpArgs false
set_option linter.unusedVariables false
open Z in def ir39 : IFunc := ⟨14,[.tmp 2],(q (R [(mi 2 0)]) (q (R [(o 4 (.buildSlice 32 1 [(i 0)] [(0,1,(I 0)),(1,1,(I 17)),(2,1,(I 1)),(3,1,(I 1)),(4,1,(I 1)),(5,1,(I 1)),(6,1,(I 1)),(7,1,(I 2)),(8,1,(I 3)),(9,1,(I 4)),(10,1,(I 5)),(11,1,(I 5)),(12,1,(I 5)),(13,1,(I 6)),(14,1,(I 7)),(15,1,(I 8)),(16,1,(I 8)),(17,1,(I 8)),(18,1,(I 9)),(19,1,(I 9)),(20,1,(I 9)),(21,1,(I 10)),(22,1,(I 10)),(23,1,(I 10)),(24,1,(I 11)),(25,1,(I 11)),(26,1,(I 11)),(27,1,(I 12)),(28,1,(I 13)),(29,1,(I 14)),(30,1,(I 15)),(31,1,(I 16))])),(m 3 4)]) (q (q (R [(m 5 0),(o 6 (.conv (.intInt .i64) t5)),(m 7 3),(o 8 (.lenSl t7)),(o 9 (.bin .lss t6 t8))]) (.cond t9 (q (R [(m 10 3),(m 11 0),(ix 12 1 10 11),(l 13 1 12),(m 2 13)]) .ret) .skip)) (q (R [(mi 2 0)]) .ret))))⟩
open Z in def ir42 : IFunc := ⟨10,[.tmp 2],(q (R [(mi 2 0)]) (q (q (R [(m 3 0)]) (.block 0 (q (q (R [(o 5 (.bin .eql t3 (B 21))),(m 4 5)]) (.cond t4 .skip (R [(o 6 (.bin .eql t3 (B 24))),(m 4 6)]))) (.cond t4 (q (R [(mi 2 4)]) .ret) (q (q (R [(o 8 (.bin .eql t3 (B 22))),(m 7 8)]) (.cond t7 .skip (R [(o 9 (.bin .eql t3 (B 25))),(m 7 9)]))) (.cond t7 (q (R [(mi 2 2)]) .ret) .skip)))))) (q (R [(mi 2 1)]) .ret)))⟩
open Z in def ir40 : IFunc := ⟨21,[.tmp 2],(q (R [(o 1 (.box t0)),(o 2 (.move F))]) (q (R [(f 3 6 1),(l 4 1 3),(o 5 (.bin .leq t4 (B 4))),(m 6 5),(og 7 6 true (.fieldAddr 5 t1)),(og 8 6 true (.load false 1 t7)),(og 9 6 true (.bin .leq t8 (B 3))),(o 10 (.pick t6 t9 F)),(m 11 10),(og 12 11 true (.fieldAddr 6 t1)),(og 13 11 true (.load false 1 t12)),(og 14 11 true (.bin .gtr t13 (B 0))),(og 15 11 true (.move t14)),(og 16 15 false (.fieldAddr 5 t1)),(og 17 15 false (.load false 1 t16)),(og 18 15 false (.bin .eql t17 (B 0))),(og 19 11 true (.pick t15 T t18)),(o 20 (.pick t11 t19 F)),(m 2 20)]) .ret))⟩
open Z in def ir43 : IFunc := ⟨14,[.tmp 2],(q (R [(o 2 (.move F))]) (q (R [(m 3 0),(o 4 (.bin .geq t3 (I 0))),(m 5 4),(og 6 5 true (.move t0)),(og 7 5 true (.bin .leq t6 (I 4294967292))),(o 8 (.pick t5 t7 F)),(m 9 8),(og 10 9 true (.move t0)),(og 11 9 true (.bin .rem t10 (I 4))),(og 12 9 true (.bin .eql t11 (I 0))),(o 13 (.pick t9 t12 F)),(m 2 13)]) .ret))⟩
open Z in def ir41 : IFunc := ⟨48,[.tmp 6],(q (R [(o 3 (.box t0)),(o 6 (.move F))]) (q (q (R [(f 9 8 3),(l 10 1 9)]) (.cond t10 (q (R [(f 11 10 3),(l 12 1 11),(o 13 (.bin .geq t12 (I (-2147483648)))),(m 14 13),(og 15 14 true (.fieldAddr 10 t3)),(og 16 14 true (.load false 1 t15)),(og 17 14 true (.bin .leq t16 (I 2147483647))),(o 18 (.pick t14 t17 F)),(m 6 18)]) .ret) .skip)) (q (R [(mi 7 1)]) (q (q (R [(mi 8 1)]) (.block 0 (.loop (q (q (R [(m 19 8),(m 20 1),(o 21 (.bin .lss t19 t20))]) (.cond t21 .skip (.exit 0))) (q (.block 1 (R [(m 24 7),(o 25 (.bin .mul t24 (I 2))),(m 7 25)])) (R [(m 22 8),(o 23 (.bin .add t22 (I 1))),(m 8 23)])))))) (q (R [(f 26 10 3),(l 27 1 26),(m 28 2),(o 29 (.bin .rem t27 t28)),(o 30 (.bin .eql t29 (I 0))),(m 31 30),(og 32 31 true (.fieldAddr 10 t3)),(og 33 31 true (.load false 1 t32)),(og 34 31 true (.move t2)),(og 35 31 true (.bin .quo t33 t34)),(og 36 31 true (.move t7)),(og 37 31 true (.un .neg t36)),(og 38 31 true (.bin .geq t35 t37)),(o 39 (.pick t31 t38 F)),(m 40 39),(og 41 40 true (.fieldAddr 10 t3)),(og 42 40 true (.load false 1 t41)),(og 43 40 true (.move t2)),(og 44 40 true (.bin .quo t42 t43)),(og 45 40 true (.move t7)),(og 46 40 true (.bin .lss t44 t45)),(o 47 (.pick t40 t46 F)),(m 6 47)]) .ret)))))⟩
def kindF (op : Int) : Int := match op with
  | .ofNat n => match [0, 17, 1, 1, 1, 1, 1, 2, 3, 4, 5, 5, 5, 6, 7, 8, 8, 8, 9, 9, 9, 10, 10, 10, 11, 11, 11, 12, 13, 14, 15, 16][n]? with
    | some k => k
    | none => 0
  | .negSucc _ => 0
def scaleF (op : Int) : Int := if op = 21 ∨ op = 24 then 4 else if op = 22 ∨ op = 25 then 2 else 1
def byteG (f : Int → AV) (args : List AV) : Option (AV × List AObj) := match args with
  | [.int .u8 op] => match isByte op with
    | true => some (f op, [])
    | false => none
  | _ => none
def kindR (op : Int) : AV := .int .i64 (kindF op)
def classR (op : Int) : AV := .int .u8 (classF op)
def scaleR (op : Int) : AV := .int .i64 (scaleF op)
def refCode1 : List (Nat × FnImp) := [(39, .code ir39), (42, .code ir42)]

def condRF (i : In) : Bool := decide (i.mode ≤ 4) && (decide (i.pred ≤ 3) && (decide (0 < i.mode) || decide (i.pred = 0)))
def targetRF (v : Int) : Bool := decide (0 ≤ v) && (decide (v ≤ 4294967292) && decide (v % 4 = 0))
def withinRF (i : In) (n sc : Int) : Bool := if i.ext = true then decide (-2147483648 ≤ i.imm) && decide (i.imm ≤ 2147483647) else decide (i.imm % sc = 0) && (decide (-(2 ^ (n - 1).toNat) ≤ Int.tdiv i.imm sc) && decide (Int.tdiv i.imm sc < 2 ^ (n - 1).toNat))
section
variable {T : Tab}
end
end Go.V
/- The document's Right for inst. -/
namespace Go.V
open Go
set_option linter.unusedSimpArgs false
set_option linter.unusedVariables false
-- coxless/coxlessref04.Right
def ir20c1 : ICode := (.region [⟨some 43, none, [], (.move (.t 4))⟩, ⟨some 44, none, [], (.move (.t 43))⟩, ⟨some 45, some (44, true), [], (.load true 11 (.t 1))⟩, ⟨some 46, some (44, true), [], (.call 40 [(.t 45)])⟩, ⟨some 47, none, [], (.pick (.t 44) (.t 46) (.c (.bool false)))⟩, ⟨some 4, none, [], (.move (.t 47))⟩] false)
def ir20c2 : ICode := (.seq (.region [⟨some 28, none, [], (.fieldAddr 6 (.t 1))⟩, ⟨some 29, none, [], (.load false 1 (.t 28))⟩, ⟨some 30, none, [], (.fieldAddr 5 (.t 1))⟩, ⟨some 31, none, [], (.load false 1 (.t 30))⟩, ⟨some 32, none, [], (.fieldAddr 1 (.t 1))⟩, ⟨some 33, none, [], (.load false 1 (.t 32))⟩, ⟨some 34, none, [], (.fieldAddr 2 (.t 1))⟩, ⟨some 35, none, [], (.load false 1 (.t 34))⟩, ⟨some 36, none, [], (.fieldAddr 3 (.t 1))⟩, ⟨some 37, none, [], (.load false 1 (.t 36))⟩, ⟨some 38, none, [], (.fieldAddr 6 (.t 3))⟩, ⟨none, none, [(.t 30), (.t 32), (.t 34), (.t 36)], (.store 1 (.t 38) (.t 29))⟩, ⟨some 39, none, [], (.fieldAddr 5 (.t 3))⟩, ⟨none, none, [(.t 32), (.t 34), (.t 36)], (.store 1 (.t 39) (.t 31))⟩, ⟨some 40, none, [], (.fieldAddr 1 (.t 3))⟩, ⟨none, none, [(.t 34), (.t 36)], (.store 1 (.t 40) (.t 33))⟩, ⟨some 41, none, [], (.fieldAddr 2 (.t 3))⟩, ⟨none, none, [(.t 36)], (.store 1 (.t 41) (.t 35))⟩, ⟨some 42, none, [], (.fieldAddr 3 (.t 3))⟩, ⟨none, none, [], (.store 1 (.t 42) (.t 37))⟩] true) ir20c1)
def ir20c3 : ICode := (.region [⟨some 62, none, [], (.move (.t 4))⟩, ⟨some 63, none, [], (.move (.t 62))⟩, ⟨some 64, some (63, true), [], (.load true 11 (.t 1))⟩, ⟨some 65, some (63, true), [], (.call 41 [(.t 64), (.c (.int .i64 14)), (.c (.int .i64 1))])⟩, ⟨some 66, none, [], (.pick (.t 63) (.t 65) (.c (.bool false)))⟩, ⟨some 4, none, [], (.move (.t 66))⟩] false)
def ir20c4 : ICode := (.seq (.region [⟨some 50, none, [], (.fieldAddr 1 (.t 1))⟩, ⟨some 51, none, [], (.load false 1 (.t 50))⟩, ⟨some 52, none, [], (.fieldAddr 2 (.t 1))⟩, ⟨some 53, none, [], (.load false 1 (.t 52))⟩, ⟨some 54, none, [], (.fieldAddr 10 (.t 1))⟩, ⟨some 55, none, [], (.load false 1 (.t 54))⟩, ⟨some 56, none, [], (.fieldAddr 8 (.t 1))⟩, ⟨some 57, none, [], (.load false 1 (.t 56))⟩, ⟨some 58, none, [], (.fieldAddr 1 (.t 3))⟩, ⟨none, none, [(.t 52), (.t 54), (.t 56)], (.store 1 (.t 58) (.t 51))⟩, ⟨some 59, none, [], (.fieldAddr 2 (.t 3))⟩, ⟨none, none, [(.t 54), (.t 56)], (.store 1 (.t 59) (.t 53))⟩, ⟨some 60, none, [], (.fieldAddr 10 (.t 3))⟩, ⟨none, none, [(.t 56)], (.store 1 (.t 60) (.t 55))⟩, ⟨some 61, none, [], (.fieldAddr 8 (.t 3))⟩, ⟨none, none, [], (.store 1 (.t 61) (.t 57))⟩] true) ir20c3)
def ir20c5 : ICode := (.region [⟨some 84, none, [], (.move (.t 4))⟩, ⟨some 85, none, [], (.move (.t 84))⟩, ⟨some 86, some (85, true), [], (.load true 11 (.t 1))⟩, ⟨some 87, some (85, true), [], (.call 40 [(.t 86)])⟩, ⟨some 88, none, [], (.pick (.t 85) (.t 87) (.c (.bool false)))⟩, ⟨some 89, none, [], (.move (.t 88))⟩, ⟨some 90, some (89, true), [], (.load true 11 (.t 1))⟩, ⟨some 91, some (89, true), [], (.call 41 [(.t 90), (.c (.int .i64 14)), (.c (.int .i64 1))])⟩, ⟨some 92, none, [], (.pick (.t 89) (.t 91) (.c (.bool false)))⟩, ⟨some 4, none, [], (.move (.t 92))⟩] false)
def ir20c6 : ICode := (.seq (.region [⟨some 69, none, [], (.fieldAddr 6 (.t 1))⟩, ⟨some 70, none, [], (.load false 1 (.t 69))⟩, ⟨some 71, none, [], (.fieldAddr 5 (.t 1))⟩, ⟨some 72, none, [], (.load false 1 (.t 71))⟩, ⟨some 73, none, [], (.fieldAddr 1 (.t 1))⟩, ⟨some 74, none, [], (.load false 1 (.t 73))⟩, ⟨some 75, none, [], (.fieldAddr 10 (.t 1))⟩, ⟨some 76, none, [], (.load false 1 (.t 75))⟩, ⟨some 77, none, [], (.fieldAddr 8 (.t 1))⟩, ⟨some 78, none, [], (.load false 1 (.t 77))⟩, ⟨some 79, none, [], (.fieldAddr 6 (.t 3))⟩, ⟨none, none, [(.t 71), (.t 73), (.t 75), (.t 77)], (.store 1 (.t 79) (.t 70))⟩, ⟨some 80, none, [], (.fieldAddr 5 (.t 3))⟩, ⟨none, none, [(.t 73), (.t 75), (.t 77)], (.store 1 (.t 80) (.t 72))⟩, ⟨some 81, none, [], (.fieldAddr 1 (.t 3))⟩, ⟨none, none, [(.t 75), (.t 77)], (.store 1 (.t 81) (.t 74))⟩, ⟨some 82, none, [], (.fieldAddr 10 (.t 3))⟩, ⟨none, none, [(.t 77)], (.store 1 (.t 82) (.t 76))⟩, ⟨some 83, none, [], (.fieldAddr 8 (.t 3))⟩, ⟨none, none, [], (.store 1 (.t 83) (.t 78))⟩] true) ir20c5)
def ir20c7 : ICode := (.region [⟨some 107, none, [], (.move (.t 4))⟩, ⟨some 108, none, [], (.move (.t 107))⟩, ⟨some 109, some (108, true), [], (.load true 11 (.t 1))⟩, ⟨some 110, some (108, true), [], (.call 40 [(.t 109)])⟩, ⟨some 111, none, [], (.pick (.t 108) (.t 110) (.c (.bool false)))⟩, ⟨some 4, none, [], (.move (.t 111))⟩] false)
def ir20c8 : ICode := (.seq (.region [⟨some 95, none, [], (.fieldAddr 6 (.t 1))⟩, ⟨some 96, none, [], (.load false 1 (.t 95))⟩, ⟨some 97, none, [], (.fieldAddr 5 (.t 1))⟩, ⟨some 98, none, [], (.load false 1 (.t 97))⟩, ⟨some 99, none, [], (.fieldAddr 1 (.t 1))⟩, ⟨some 100, none, [], (.load false 1 (.t 99))⟩, ⟨some 101, none, [], (.fieldAddr 2 (.t 1))⟩, ⟨some 102, none, [], (.load false 1 (.t 101))⟩, ⟨some 103, none, [], (.fieldAddr 6 (.t 3))⟩, ⟨none, none, [(.t 97), (.t 99), (.t 101)], (.store 1 (.t 103) (.t 96))⟩, ⟨some 104, none, [], (.fieldAddr 5 (.t 3))⟩, ⟨none, none, [(.t 99), (.t 101)], (.store 1 (.t 104) (.t 98))⟩, ⟨some 105, none, [], (.fieldAddr 1 (.t 3))⟩, ⟨none, none, [(.t 101)], (.store 1 (.t 105) (.t 100))⟩, ⟨some 106, none, [], (.fieldAddr 2 (.t 3))⟩, ⟨none, none, [], (.store 1 (.t 106) (.t 102))⟩] true) ir20c7)
def ir20c9 : ICode := (.region [⟨some 123, none, [], (.move (.t 4))⟩, ⟨some 124, none, [], (.move (.t 123))⟩, ⟨some 125, some (124, true), [], (.fieldAddr 1 (.t 1))⟩, ⟨some 126, some (124, true), [], (.load false 1 (.t 125))⟩, ⟨some 127, some (124, true), [], (.bin .lss (.t 126) (.c (.int .u8 4)))⟩, ⟨some 128, none, [], (.pick (.t 124) (.t 127) (.c (.bool false)))⟩, ⟨some 4, none, [], (.move (.t 128))⟩] false)
def ir20c10 : ICode := (.seq (.region [⟨some 114, none, [], (.fieldAddr 1 (.t 1))⟩, ⟨some 115, none, [], (.load false 1 (.t 114))⟩, ⟨some 116, none, [], (.fieldAddr 2 (.t 1))⟩, ⟨some 117, none, [], (.load false 1 (.t 116))⟩, ⟨some 118, none, [], (.fieldAddr 3 (.t 1))⟩, ⟨some 119, none, [], (.load false 1 (.t 118))⟩, ⟨some 120, none, [], (.fieldAddr 1 (.t 3))⟩, ⟨none, none, [(.t 116), (.t 118)], (.store 1 (.t 120) (.t 115))⟩, ⟨some 121, none, [], (.fieldAddr 2 (.t 3))⟩, ⟨none, none, [(.t 118)], (.store 1 (.t 121) (.t 117))⟩, ⟨some 122, none, [], (.fieldAddr 3 (.t 3))⟩, ⟨none, none, [], (.store 1 (.t 122) (.t 119))⟩] true) ir20c9)
def ir20c11 : ICode := (.region [⟨some 143, none, [], (.move (.t 4))⟩, ⟨some 144, none, [], (.move (.t 143))⟩, ⟨some 145, some (144, true), [], (.fieldAddr 1 (.t 1))⟩, ⟨some 146, some (144, true), [], (.load false 1 (.t 145))⟩, ⟨some 147, some (144, true), [], (.bin .lss (.t 146) (.c (.int .u8 4)))⟩, ⟨some 148, none, [], (.pick (.t 144) (.t 147) (.c (.bool false)))⟩, ⟨some 149, none, [], (.move (.t 148))⟩, ⟨some 150, some (149, true), [], (.load true 11 (.t 1))⟩, ⟨some 151, some (149, true), [], (.call 41 [(.t 150), (.c (.int .i64 14)), (.c (.int .i64 1))])⟩, ⟨some 152, none, [], (.pick (.t 149) (.t 151) (.c (.bool false)))⟩, ⟨some 4, none, [], (.move (.t 152))⟩] false)
def ir20c12 : ICode := (.seq (.region [⟨some 131, none, [], (.fieldAddr 1 (.t 1))⟩, ⟨some 132, none, [], (.load false 1 (.t 131))⟩, ⟨some 133, none, [], (.fieldAddr 2 (.t 1))⟩, ⟨some 134, none, [], (.load false 1 (.t 133))⟩, ⟨some 135, none, [], (.fieldAddr 10 (.t 1))⟩, ⟨some 136, none, [], (.load false 1 (.t 135))⟩, ⟨some 137, none, [], (.fieldAddr 8 (.t 1))⟩, ⟨some 138, none, [], (.load false 1 (.t 137))⟩, ⟨some 139, none, [], (.fieldAddr 1 (.t 3))⟩, ⟨none, none, [(.t 133), (.t 135), (.t 137)], (.store 1 (.t 139) (.t 132))⟩, ⟨some 140, none, [], (.fieldAddr 2 (.t 3))⟩, ⟨none, none, [(.t 135), (.t 137)], (.store 1 (.t 140) (.t 134))⟩, ⟨some 141, none, [], (.fieldAddr 10 (.t 3))⟩, ⟨none, none, [(.t 137)], (.store 1 (.t 141) (.t 136))⟩, ⟨some 142, none, [], (.fieldAddr 8 (.t 3))⟩, ⟨none, none, [], (.store 1 (.t 142) (.t 138))⟩] true) ir20c11)
def ir20c13 : ICode := (.region [⟨some 167, none, [], (.move (.t 4))⟩, ⟨some 168, none, [], (.move (.t 167))⟩, ⟨some 169, some (168, true), [], (.fieldAddr 5 (.t 1))⟩, ⟨some 170, some (168, true), [], (.load false 1 (.t 169))⟩, ⟨some 171, some (168, true), [], (.bin .lss (.t 170) (.c (.int .u8 4)))⟩, ⟨some 172, none, [], (.pick (.t 168) (.t 171) (.c (.bool false)))⟩, ⟨some 4, none, [], (.move (.t 172))⟩] false)
def ir20c14 : ICode := (.seq (.region [⟨some 155, none, [], (.fieldAddr 1 (.t 1))⟩, ⟨some 156, none, [], (.load false 1 (.t 155))⟩, ⟨some 157, none, [], (.fieldAddr 5 (.t 1))⟩, ⟨some 158, none, [], (.load false 1 (.t 157))⟩, ⟨some 159, none, [], (.fieldAddr 2 (.t 1))⟩, ⟨some 160, none, [], (.load false 1 (.t 159))⟩, ⟨some 161, none, [], (.fieldAddr 3 (.t 1))⟩, ⟨some 162, none, [], (.load false 1 (.t 161))⟩, ⟨some 163, none, [], (.fieldAddr 1 (.t 3))⟩, ⟨none, none, [(.t 157), (.t 159), (.t 161)], (.store 1 (.t 163) (.t 156))⟩, ⟨some 164, none, [], (.fieldAddr 5 (.t 3))⟩, ⟨none, none, [(.t 159), (.t 161)], (.store 1 (.t 164) (.t 158))⟩, ⟨some 165, none, [], (.fieldAddr 2 (.t 3))⟩, ⟨none, none, [(.t 161)], (.store 1 (.t 165) (.t 160))⟩, ⟨some 166, none, [], (.fieldAddr 3 (.t 3))⟩, ⟨none, none, [], (.store 1 (.t 166) (.t 162))⟩] true) ir20c13)
def ir20c15 : ICode := (.region [⟨some 184, none, [], (.move (.t 4))⟩, ⟨some 185, none, [], (.move (.t 184))⟩, ⟨some 186, some (185, true), [], (.fieldAddr 10 (.t 1))⟩, ⟨some 187, some (185, true), [], (.load false 1 (.t 186))⟩, ⟨some 188, some (185, true), [], (.bin .geq (.t 187) (.c (.int .i64 0)))⟩, ⟨some 189, none, [], (.pick (.t 185) (.t 188) (.c (.bool false)))⟩, ⟨some 190, none, [], (.move (.t 189))⟩, ⟨some 191, some (190, true), [], (.fieldAddr 10 (.t 1))⟩, ⟨some 192, some (190, true), [], (.load false 1 (.t 191))⟩, ⟨some 193, some (190, true), [], (.bin .lss (.t 192) (.c (.int .i64 32)))⟩, ⟨some 194, none, [], (.pick (.t 190) (.t 193) (.c (.bool false)))⟩, ⟨some 4, none, [], (.move (.t 194))⟩] false)
def ir20c16 : ICode := (.seq (.region [⟨some 175, none, [], (.fieldAddr 1 (.t 1))⟩, ⟨some 176, none, [], (.load false 1 (.t 175))⟩, ⟨some 177, none, [], (.fieldAddr 2 (.t 1))⟩, ⟨some 178, none, [], (.load false 1 (.t 177))⟩, ⟨some 179, none, [], (.fieldAddr 10 (.t 1))⟩, ⟨some 180, none, [], (.load false 1 (.t 179))⟩, ⟨some 181, none, [], (.fieldAddr 1 (.t 3))⟩, ⟨none, none, [(.t 177), (.t 179)], (.store 1 (.t 181) (.t 176))⟩, ⟨some 182, none, [], (.fieldAddr 2 (.t 3))⟩, ⟨none, none, [(.t 179)], (.store 1 (.t 182) (.t 178))⟩, ⟨some 183, none, [], (.fieldAddr 10 (.t 3))⟩, ⟨none, none, [], (.store 1 (.t 183) (.t 180))⟩] true) ir20c15)
def ir20c17 : ICode := (.region [⟨some 197, none, [], (.fieldAddr 1 (.t 1))⟩, ⟨some 198, none, [], (.load false 1 (.t 197))⟩, ⟨some 199, none, [], (.fieldAddr 2 (.t 1))⟩, ⟨some 200, none, [], (.load false 1 (.t 199))⟩, ⟨some 201, none, [], (.fieldAddr 3 (.t 1))⟩, ⟨some 202, none, [], (.load false 1 (.t 201))⟩, ⟨some 203, none, [], (.fieldAddr 1 (.t 3))⟩, ⟨none, none, [(.t 199), (.t 201)], (.store 1 (.t 203) (.t 198))⟩, ⟨some 204, none, [], (.fieldAddr 2 (.t 3))⟩, ⟨none, none, [(.t 201)], (.store 1 (.t 204) (.t 200))⟩, ⟨some 205, none, [], (.fieldAddr 3 (.t 3))⟩, ⟨none, none, [], (.store 1 (.t 205) (.t 202))⟩] true)
def ir20c18 : ICode := (.regionP [⟨some 220, none, [], (.move (.t 4))⟩, ⟨some 221, none, [], (.move (.t 220))⟩, ⟨some 222, some (221, true), [], (.load true 11 (.t 1))⟩, ⟨some 223, some (221, true), [], (.fieldAddr 0 (.t 1))⟩, ⟨some 224, some (221, true), [], (.load false 1 (.t 223))⟩, ⟨some 225, some (221, true), [(.t 1)], (.call 42 [(.t 224)])⟩, ⟨some 226, some (221, true), [], (.call 41 [(.t 222), (.c (.int .i64 12)), (.t 225)])⟩, ⟨some 227, none, [], (.pick (.t 221) (.t 226) (.c (.bool false)))⟩, ⟨some 4, none, [], (.move (.t 227))⟩])
def ir20c19 : ICode := (.seq (.region [⟨some 208, none, [], (.fieldAddr 1 (.t 1))⟩, ⟨some 209, none, [], (.load false 1 (.t 208))⟩, ⟨some 210, none, [], (.fieldAddr 2 (.t 1))⟩, ⟨some 211, none, [], (.load false 1 (.t 210))⟩, ⟨some 212, none, [], (.fieldAddr 10 (.t 1))⟩, ⟨some 213, none, [], (.load false 1 (.t 212))⟩, ⟨some 214, none, [], (.fieldAddr 8 (.t 1))⟩, ⟨some 215, none, [], (.load false 1 (.t 214))⟩, ⟨some 216, none, [], (.fieldAddr 1 (.t 3))⟩, ⟨none, none, [(.t 210), (.t 212), (.t 214)], (.store 1 (.t 216) (.t 209))⟩, ⟨some 217, none, [], (.fieldAddr 2 (.t 3))⟩, ⟨none, none, [(.t 212), (.t 214)], (.store 1 (.t 217) (.t 211))⟩, ⟨some 218, none, [], (.fieldAddr 10 (.t 3))⟩, ⟨none, none, [(.t 214)], (.store 1 (.t 218) (.t 213))⟩, ⟨some 219, none, [], (.fieldAddr 8 (.t 3))⟩, ⟨none, none, [], (.store 1 (.t 219) (.t 215))⟩] true) ir20c18)
def ir20c20 : ICode := (.regionP [⟨some 245, none, [], (.move (.t 4))⟩, ⟨some 246, none, [], (.move (.t 245))⟩, ⟨some 247, some (246, true), [], (.load true 11 (.t 1))⟩, ⟨some 248, some (246, true), [], (.fieldAddr 0 (.t 1))⟩, ⟨some 249, some (246, true), [], (.load false 1 (.t 248))⟩, ⟨some 250, some (246, true), [(.t 1)], (.call 42 [(.t 249)])⟩, ⟨some 251, some (246, true), [], (.call 41 [(.t 247), (.c (.int .i64 12)), (.t 250)])⟩, ⟨some 252, none, [], (.pick (.t 246) (.t 251) (.c (.bool false)))⟩, ⟨some 4, none, [], (.move (.t 252))⟩])
def ir20c21 : ICode := (.seq (.region [⟨some 230, none, [], (.fieldAddr 2 (.t 1))⟩, ⟨some 231, none, [], (.load false 1 (.t 230))⟩, ⟨some 232, none, [], (.fieldAddr 3 (.t 1))⟩, ⟨some 233, none, [], (.load false 1 (.t 232))⟩, ⟨some 234, none, [], (.fieldAddr 7 (.t 1))⟩, ⟨some 235, none, [], (.load false 1 (.t 234))⟩, ⟨some 236, none, [], (.fieldAddr 10 (.t 1))⟩, ⟨some 237, none, [], (.load false 1 (.t 236))⟩, ⟨some 238, none, [], (.fieldAddr 8 (.t 1))⟩, ⟨some 239, none, [], (.load false 1 (.t 238))⟩, ⟨some 240, none, [], (.fieldAddr 2 (.t 3))⟩, ⟨none, none, [(.t 232), (.t 234), (.t 236), (.t 238)], (.store 1 (.t 240) (.t 231))⟩, ⟨some 241, none, [], (.fieldAddr 3 (.t 3))⟩, ⟨none, none, [(.t 234), (.t 236), (.t 238)], (.store 1 (.t 241) (.t 233))⟩, ⟨some 242, none, [], (.fieldAddr 7 (.t 3))⟩, ⟨none, none, [(.t 236), (.t 238)], (.store 1 (.t 242) (.t 235))⟩, ⟨some 243, none, [], (.fieldAddr 10 (.t 3))⟩, ⟨none, none, [(.t 238)], (.store 1 (.t 243) (.t 237))⟩, ⟨some 244, none, [], (.fieldAddr 8 (.t 3))⟩, ⟨none, none, [], (.store 1 (.t 244) (.t 239))⟩] true) ir20c20)
def ir20c22 : ICode := (.region [⟨some 267, none, [], (.move (.t 4))⟩, ⟨some 268, none, [], (.move (.t 267))⟩, ⟨some 269, some (268, true), [], (.load true 11 (.t 1))⟩, ⟨some 270, some (268, true), [], (.call 40 [(.t 269)])⟩, ⟨some 271, none, [], (.pick (.t 268) (.t 270) (.c (.bool false)))⟩, ⟨some 272, none, [], (.move (.t 271))⟩, ⟨some 273, some (272, true), [], (.fieldAddr 10 (.t 1))⟩, ⟨some 274, some (272, true), [], (.load false 1 (.t 273))⟩, ⟨some 275, some (272, true), [], (.call 43 [(.t 274)])⟩, ⟨some 276, none, [], (.pick (.t 272) (.t 275) (.c (.bool false)))⟩, ⟨some 4, none, [], (.move (.t 276))⟩] false)
def ir20c23 : ICode := (.seq (.region [⟨some 255, none, [], (.fieldAddr 6 (.t 1))⟩, ⟨some 256, none, [], (.load false 1 (.t 255))⟩, ⟨some 257, none, [], (.fieldAddr 5 (.t 1))⟩, ⟨some 258, none, [], (.load false 1 (.t 257))⟩, ⟨some 259, none, [], (.fieldAddr 10 (.t 1))⟩, ⟨some 260, none, [], (.load false 1 (.t 259))⟩, ⟨some 261, none, [], (.fieldAddr 8 (.t 1))⟩, ⟨some 262, none, [], (.load false 1 (.t 261))⟩, ⟨some 263, none, [], (.fieldAddr 6 (.t 3))⟩, ⟨none, none, [(.t 257), (.t 259), (.t 261)], (.store 1 (.t 263) (.t 256))⟩, ⟨some 264, none, [], (.fieldAddr 5 (.t 3))⟩, ⟨none, none, [(.t 259), (.t 261)], (.store 1 (.t 264) (.t 258))⟩, ⟨some 265, none, [], (.fieldAddr 10 (.t 3))⟩, ⟨none, none, [(.t 261)], (.store 1 (.t 265) (.t 260))⟩, ⟨some 266, none, [], (.fieldAddr 8 (.t 3))⟩, ⟨none, none, [], (.store 1 (.t 266) (.t 262))⟩] true) ir20c22)
def ir20c24 : ICode := (.region [⟨some 288, none, [], (.move (.t 4))⟩, ⟨some 289, none, [], (.move (.t 288))⟩, ⟨some 290, some (289, true), [], (.load true 11 (.t 1))⟩, ⟨some 291, some (289, true), [], (.call 40 [(.t 290)])⟩, ⟨some 292, none, [], (.pick (.t 289) (.t 291) (.c (.bool false)))⟩, ⟨some 4, none, [], (.move (.t 292))⟩] false)
def ir20c25 : ICode := (.seq (.region [⟨some 279, none, [], (.fieldAddr 6 (.t 1))⟩, ⟨some 280, none, [], (.load false 1 (.t 279))⟩, ⟨some 281, none, [], (.fieldAddr 5 (.t 1))⟩, ⟨some 282, none, [], (.load false 1 (.t 281))⟩, ⟨some 283, none, [], (.fieldAddr 2 (.t 1))⟩, ⟨some 284, none, [], (.load false 1 (.t 283))⟩, ⟨some 285, none, [], (.fieldAddr 6 (.t 3))⟩, ⟨none, none, [(.t 281), (.t 283)], (.store 1 (.t 285) (.t 280))⟩, ⟨some 286, none, [], (.fieldAddr 5 (.t 3))⟩, ⟨none, none, [(.t 283)], (.store 1 (.t 286) (.t 282))⟩, ⟨some 287, none, [], (.fieldAddr 2 (.t 3))⟩, ⟨none, none, [], (.store 1 (.t 287) (.t 284))⟩] true) ir20c24)
def ir20c26 : ICode := (.region [⟨some 301, none, [], (.move (.t 4))⟩, ⟨some 302, none, [], (.move (.t 301))⟩, ⟨some 303, some (302, true), [], (.fieldAddr 10 (.t 1))⟩, ⟨some 304, some (302, true), [], (.load false 1 (.t 303))⟩, ⟨some 305, some (302, true), [], (.call 43 [(.t 304)])⟩, ⟨some 306, none, [], (.pick (.t 302) (.t 305) (.c (.bool false)))⟩, ⟨some 4, none, [], (.move (.t 306))⟩] false)
def ir20c27 : ICode := (.seq (.region [⟨some 295, none, [], (.fieldAddr 10 (.t 1))⟩, ⟨some 296, none, [], (.load false 1 (.t 295))⟩, ⟨some 297, none, [], (.fieldAddr 8 (.t 1))⟩, ⟨some 298, none, [], (.load false 1 (.t 297))⟩, ⟨some 299, none, [], (.fieldAddr 10 (.t 3))⟩, ⟨none, none, [(.t 297)], (.store 1 (.t 299) (.t 296))⟩, ⟨some 300, none, [], (.fieldAddr 8 (.t 3))⟩, ⟨none, none, [], (.store 1 (.t 300) (.t 298))⟩] true) ir20c26)
def ir20c28 : ICode := (.region [⟨some 321, none, [], (.move (.t 4))⟩, ⟨some 322, none, [], (.move (.t 321))⟩, ⟨some 323, some (322, true), [], (.fieldAddr 4 (.t 1))⟩, ⟨some 324, some (322, true), [], (.load false 1 (.t 323))⟩, ⟨some 325, some (322, true), [], (.bin .lss (.t 324) (.c (.int .u8 2)))⟩, ⟨some 326, none, [], (.pick (.t 322) (.t 325) (.c (.bool false)))⟩, ⟨some 327, none, [], (.move (.t 326))⟩, ⟨some 328, some (327, true), [], (.fieldAddr 10 (.t 1))⟩, ⟨some 329, some (327, true), [], (.load false 1 (.t 328))⟩, ⟨some 330, some (327, true), [], (.call 43 [(.t 329)])⟩, ⟨some 331, none, [], (.pick (.t 327) (.t 330) (.c (.bool false)))⟩, ⟨some 332, none, [], (.move (.t 331))⟩, ⟨some 333, some (332, true), [], (.fieldAddr 9 (.t 1))⟩, ⟨some 334, some (332, true), [], (.load false 1 (.t 333))⟩, ⟨some 335, some (332, true), [], (.bin .lss (.t 334) (.c (.int .u16 2048)))⟩, ⟨some 336, none, [], (.pick (.t 332) (.t 335) (.c (.bool false)))⟩, ⟨some 4, none, [], (.move (.t 336))⟩] false)
def ir20c29 : ICode := (.seq (.region [⟨some 309, none, [], (.fieldAddr 4 (.t 1))⟩, ⟨some 310, none, [], (.load false 1 (.t 309))⟩, ⟨some 311, none, [], (.fieldAddr 10 (.t 1))⟩, ⟨some 312, none, [], (.load false 1 (.t 311))⟩, ⟨some 313, none, [], (.fieldAddr 8 (.t 1))⟩, ⟨some 314, none, [], (.load false 1 (.t 313))⟩, ⟨some 315, none, [], (.fieldAddr 9 (.t 1))⟩, ⟨some 316, none, [], (.load false 1 (.t 315))⟩, ⟨some 317, none, [], (.fieldAddr 4 (.t 3))⟩, ⟨none, none, [(.t 311), (.t 313), (.t 315)], (.store 1 (.t 317) (.t 310))⟩, ⟨some 318, none, [], (.fieldAddr 10 (.t 3))⟩, ⟨none, none, [(.t 313), (.t 315)], (.store 1 (.t 318) (.t 312))⟩, ⟨some 319, none, [], (.fieldAddr 8 (.t 3))⟩, ⟨none, none, [(.t 315)], (.store 1 (.t 319) (.t 314))⟩, ⟨some 320, none, [], (.fieldAddr 9 (.t 3))⟩, ⟨none, none, [], (.store 1 (.t 320) (.t 316))⟩] true) ir20c28)
def ir20c30 : ICode := (.region [⟨some 351, none, [], (.move (.t 4))⟩, ⟨some 352, none, [], (.move (.t 351))⟩, ⟨some 353, some (352, true), [], (.fieldAddr 4 (.t 1))⟩, ⟨some 354, some (352, true), [], (.load false 1 (.t 353))⟩, ⟨some 355, some (352, true), [], (.bin .lss (.t 354) (.c (.int .u8 2)))⟩, ⟨some 356, none, [], (.pick (.t 352) (.t 355) (.c (.bool false)))⟩, ⟨some 357, none, [], (.move (.t 356))⟩, ⟨some 358, some (357, true), [], (.fieldAddr 10 (.t 1))⟩, ⟨some 359, some (357, true), [], (.load false 1 (.t 358))⟩, ⟨some 360, some (357, true), [], (.call 43 [(.t 359)])⟩, ⟨some 361, none, [], (.pick (.t 357) (.t 360) (.c (.bool false)))⟩, ⟨some 4, none, [], (.move (.t 361))⟩] false)
def ir20c31 : ICode := (.seq (.region [⟨some 339, none, [], (.fieldAddr 4 (.t 1))⟩, ⟨some 340, none, [], (.load false 1 (.t 339))⟩, ⟨some 341, none, [], (.fieldAddr 10 (.t 1))⟩, ⟨some 342, none, [], (.load false 1 (.t 341))⟩, ⟨some 343, none, [], (.fieldAddr 8 (.t 1))⟩, ⟨some 344, none, [], (.load false 1 (.t 343))⟩, ⟨some 345, none, [], (.fieldAddr 2 (.t 1))⟩, ⟨some 346, none, [], (.load false 1 (.t 345))⟩, ⟨some 347, none, [], (.fieldAddr 4 (.t 3))⟩, ⟨none, none, [(.t 341), (.t 343), (.t 345)], (.store 1 (.t 347) (.t 340))⟩, ⟨some 348, none, [], (.fieldAddr 10 (.t 3))⟩, ⟨none, none, [(.t 343), (.t 345)], (.store 1 (.t 348) (.t 342))⟩, ⟨some 349, none, [], (.fieldAddr 8 (.t 3))⟩, ⟨none, none, [(.t 345)], (.store 1 (.t 349) (.t 344))⟩, ⟨some 350, none, [], (.fieldAddr 2 (.t 3))⟩, ⟨none, none, [], (.store 1 (.t 350) (.t 346))⟩] true) ir20c30)
def ir20c32 : ICode := (.cond (.t 337) ir20c31 .skip)
def ir20c33 : ICode := (.seq (.region [⟨some 338, none, [], (.bin .eql (.t 23) (.c (.int .i64 16)))⟩, ⟨some 337, none, [], (.move (.t 338))⟩] false) ir20c32)
def ir20c34 : ICode := (.cond (.t 307) ir20c29 ir20c33)
def ir20c35 : ICode := (.seq (.region [⟨some 308, none, [], (.bin .eql (.t 23) (.c (.int .i64 15)))⟩, ⟨some 307, none, [], (.move (.t 308))⟩] false) ir20c34)
def ir20c36 : ICode := (.cond (.t 293) ir20c27 ir20c35)
def ir20c37 : ICode := (.seq (.region [⟨some 294, none, [], (.bin .eql (.t 23) (.c (.int .i64 14)))⟩, ⟨some 293, none, [], (.move (.t 294))⟩] false) ir20c36)
def ir20c38 : ICode := (.cond (.t 277) ir20c25 ir20c37)
def ir20c39 : ICode := (.seq (.region [⟨some 278, none, [], (.bin .eql (.t 23) (.c (.int .i64 13)))⟩, ⟨some 277, none, [], (.move (.t 278))⟩] false) ir20c38)
def ir20c40 : ICode := (.cond (.t 253) ir20c23 ir20c39)
def ir20c41 : ICode := (.seq (.region [⟨some 254, none, [], (.bin .eql (.t 23) (.c (.int .i64 12)))⟩, ⟨some 253, none, [], (.move (.t 254))⟩] false) ir20c40)
def ir20c42 : ICode := (.cond (.t 228) ir20c21 ir20c41)
def ir20c43 : ICode := (.seq (.region [⟨some 229, none, [], (.bin .eql (.t 23) (.c (.int .i64 11)))⟩, ⟨some 228, none, [], (.move (.t 229))⟩] false) ir20c42)
def ir20c44 : ICode := (.cond (.t 206) ir20c19 ir20c43)
def ir20c45 : ICode := (.seq (.region [⟨some 207, none, [], (.bin .eql (.t 23) (.c (.int .i64 10)))⟩, ⟨some 206, none, [], (.move (.t 207))⟩] false) ir20c44)
def ir20c46 : ICode := (.cond (.t 195) ir20c17 ir20c45)
def ir20c47 : ICode := (.seq (.region [⟨some 196, none, [], (.bin .eql (.t 23) (.c (.int .i64 9)))⟩, ⟨some 195, none, [], (.move (.t 196))⟩] false) ir20c46)
def ir20c48 : ICode := (.cond (.t 173) ir20c16 ir20c47)
def ir20c49 : ICode := (.seq (.region [⟨some 174, none, [], (.bin .eql (.t 23) (.c (.int .i64 8)))⟩, ⟨some 173, none, [], (.move (.t 174))⟩] false) ir20c48)
def ir20c50 : ICode := (.cond (.t 153) ir20c14 ir20c49)
def ir20c51 : ICode := (.seq (.region [⟨some 154, none, [], (.bin .eql (.t 23) (.c (.int .i64 7)))⟩, ⟨some 153, none, [], (.move (.t 154))⟩] false) ir20c50)
def ir20c52 : ICode := (.cond (.t 129) ir20c12 ir20c51)
def ir20c53 : ICode := (.seq (.region [⟨some 130, none, [], (.bin .eql (.t 23) (.c (.int .i64 6)))⟩, ⟨some 129, none, [], (.move (.t 130))⟩] false) ir20c52)
def ir20c54 : ICode := (.cond (.t 112) ir20c10 ir20c53)
def ir20c55 : ICode := (.seq (.region [⟨some 113, none, [], (.bin .eql (.t 23) (.c (.int .i64 5)))⟩, ⟨some 112, none, [], (.move (.t 113))⟩] false) ir20c54)
def ir20c56 : ICode := (.cond (.t 93) ir20c8 ir20c55)
def ir20c57 : ICode := (.seq (.region [⟨some 94, none, [], (.bin .eql (.t 23) (.c (.int .i64 4)))⟩, ⟨some 93, none, [], (.move (.t 94))⟩] false) ir20c56)
def ir20c58 : ICode := (.cond (.t 67) ir20c6 ir20c57)
def ir20c59 : ICode := (.seq (.region [⟨some 68, none, [], (.bin .eql (.t 23) (.c (.int .i64 3)))⟩, ⟨some 67, none, [], (.move (.t 68))⟩] false) ir20c58)
def ir20c60 : ICode := (.cond (.t 48) ir20c4 ir20c59)
def ir20c61 : ICode := (.seq (.region [⟨some 49, none, [], (.bin .eql (.t 23) (.c (.int .i64 2)))⟩, ⟨some 48, none, [], (.move (.t 49))⟩] false) ir20c60)
def ir20c62 : ICode := (.cond (.t 26) ir20c2 ir20c61)
def ir20c63 : ICode := (.seq (.region [⟨some 27, none, [], (.bin .eql (.t 23) (.c (.int .i64 1)))⟩, ⟨some 26, none, [], (.move (.t 27))⟩] false) ir20c62)
def ir20c64 : ICode := (.cond (.t 24) (.seq (.region [⟨some 2, none, [], (.move (.c (.bool false)))⟩] false) .ret) ir20c63)
def ir20c65 : ICode := (.seq (.region [⟨some 25, none, [], (.bin .eql (.t 23) (.c (.int .i64 0)))⟩, ⟨some 24, none, [], (.move (.t 25))⟩] false) ir20c64)
def ir20c66 : ICode := (.block 0 ir20c65)
def ir20c67 : ICode := (.seq (.region [⟨some 362, none, [], (.move (.t 4))⟩, ⟨some 363, none, [], (.move (.t 362))⟩, ⟨some 364, some (363, true), [], (.load true 11 (.t 3))⟩, ⟨some 365, some (363, true), [], (.load true 11 (.t 1))⟩, ⟨some 366, some (363, true), [], (.eq false (.agg [(0, 1, false, (.prim .int)), (1, 1, false, (.prim .int)), (2, 1, false, (.prim .int)), (3, 1, false, (.prim .int)), (4, 1, false, (.prim .int)), (5, 1, false, (.prim .int)), (6, 1, false, (.prim .int)), (7, 1, false, (.prim .bool)), (8, 1, false, (.prim .bool)), (9, 1, false, (.prim .int)), (10, 1, false, (.prim .int))]) (.t 364) (.t 365))⟩, ⟨some 367, none, [], (.pick (.t 363) (.t 366) (.c (.bool false)))⟩, ⟨some 2, none, [], (.move (.t 367))⟩] false) .ret)
def ir20c68 : ICode := (.seq (.seq (.region [⟨some 21, none, [], (.fieldAddr 0 (.t 1))⟩, ⟨some 22, none, [], (.load false 1 (.t 21))⟩, ⟨some 23, none, [], (.call 39 [(.t 22)])⟩] false) ir20c66) ir20c67)
def ir20c69 : ICode := (.seq (.region [⟨some 8, none, [], (.fieldAddr 1 (.t 1))⟩, ⟨some 9, none, [], (.load false 1 (.t 8))⟩, ⟨some 10, none, [], (.bin .lss (.t 9) (.c (.int .u8 32)))⟩, ⟨some 11, none, [], (.move (.t 10))⟩, ⟨some 12, some (11, true), [], (.fieldAddr 2 (.t 1))⟩, ⟨some 13, some (11, true), [], (.load false 1 (.t 12))⟩, ⟨some 14, some (11, true), [], (.bin .lss (.t 13) (.c (.int .u8 32)))⟩, ⟨some 15, none, [], (.pick (.t 11) (.t 14) (.c (.bool false)))⟩, ⟨some 16, none, [], (.move (.t 15))⟩, ⟨some 17, some (16, true), [], (.fieldAddr 3 (.t 1))⟩, ⟨some 18, some (16, true), [], (.load false 1 (.t 17))⟩, ⟨some 19, some (16, true), [], (.bin .lss (.t 18) (.c (.int .u8 32)))⟩, ⟨some 20, none, [], (.pick (.t 16) (.t 19) (.c (.bool false)))⟩, ⟨some 4, none, [], (.move (.t 20))⟩] false) ir20c68)
def ir20c70 : ICode := (.seq (.region [⟨some 5, none, [], (.fieldAddr 0 (.t 1))⟩, ⟨some 6, none, [], (.load false 1 (.t 5))⟩, ⟨some 7, none, [], (.build [(.int .u8 0), (.int .u8 0), (.int .u8 0), (.int .u8 0), (.int .u8 0), (.int .u8 0), (.int .u8 0), (.bool false), (.bool false), (.int .u16 0), (.int .i64 0)] [(0, 1, (.t 6))])⟩, ⟨some 3, none, [], (.alloc [(.int .u8 0), (.int .u8 0), (.int .u8 0), (.int .u8 0), (.int .u8 0), (.int .u8 0), (.int .u8 0), (.bool false), (.bool false), (.int .u16 0), (.int .i64 0)])⟩, ⟨none, none, [], (.store 11 (.t 3) (.t 7))⟩] false) ir20c69)
open Z in def ir20 : IFunc := ⟨368,[.tmp 2],(q (R [(o 1 (.box t0)),(o 2 (.move F))]) ir20c70)⟩

def condRR (i : In) : AV := .bool (condRF i)
def targetRG (args : List AV) : Option AV := match args with
  | [.int .i64 v] => some (.bool (targetRF v))
  | _ => none
def withinOk (n sc : Int) : Bool := (decide (n = 12) || decide (n = 14)) && (decide (sc = 1) || (decide (sc = 2) || decide (sc = 4)))
def withinRG (args : List AV) : Option AV := match args with
  | [x, .int .i64 n, .int .i64 sc] => match getIn x with
    | some i => match isI64 i.imm && withinOk n sc with
      | true => some (.bool (withinRF i n sc))
      | false => none
    | none => none
  | _ => none

def regsF (i : In) : Bool := decide (i.d < 32) && (decide (i.s < 32) && decide (i.t < 32))
/-- What an op's way leaves of an instruction. -/
def wayF (i : In) : In := match kindF i.op with
  | 1 => ⟨i.op, i.d, i.s, i.t, 0, i.pred, i.mode, false, false, 0, 0⟩
  | 2 => ⟨i.op, i.d, i.s, 0, 0, 0, 0, false, i.ext, 0, i.imm⟩
  | 3 => ⟨i.op, i.d, 0, 0, 0, i.pred, i.mode, false, i.ext, 0, i.imm⟩
  | 4 => ⟨i.op, i.d, i.s, 0, 0, i.pred, i.mode, false, false, 0, 0⟩
  | 5 => ⟨i.op, i.d, i.s, i.t, 0, 0, 0, false, false, 0, 0⟩
  | 6 => ⟨i.op, i.d, i.s, 0, 0, 0, 0, false, i.ext, 0, i.imm⟩
  | 7 => ⟨i.op, i.d, i.s, i.t, 0, i.pred, 0, false, false, 0, 0⟩
  | 8 => ⟨i.op, i.d, i.s, 0, 0, 0, 0, false, false, 0, i.imm⟩
  | 9 => ⟨i.op, i.d, i.s, i.t, 0, 0, 0, false, false, 0, 0⟩
  | 10 => ⟨i.op, i.d, i.s, 0, 0, 0, 0, false, i.ext, 0, i.imm⟩
  | 11 => ⟨i.op, 0, i.s, i.t, 0, 0, 0, i.nw, i.ext, 0, i.imm⟩
  | 12 => ⟨i.op, 0, 0, 0, 0, i.pred, i.mode, false, i.ext, 0, i.imm⟩
  | 13 => ⟨i.op, 0, i.s, 0, 0, i.pred, i.mode, false, false, 0, 0⟩
  | 14 => ⟨i.op, 0, 0, 0, 0, 0, 0, false, i.ext, 0, i.imm⟩
  | 15 => ⟨i.op, 0, 0, 0, i.n, 0, 0, false, i.ext, i.count, i.imm⟩
  | 16 => ⟨i.op, 0, i.s, 0, i.n, 0, 0, false, i.ext, 0, i.imm⟩
  | _ => ⟨i.op, 0, 0, 0, 0, 0, 0, false, false, 0, 0⟩
/-- What an op's way asks of an instruction's values. -/
def asksF (i : In) : Bool := match kindF i.op with
  | 1 => condRF i
  | 2 => withinRF i 14 1
  | 3 => condRF i && withinRF i 14 1
  | 4 => condRF i
  | 5 => decide (i.d < 4)
  | 6 => decide (i.d < 4) && withinRF i 14 1
  | 7 => decide (i.pred < 4)
  | 8 => decide (0 ≤ i.imm) && decide (i.imm < 32)
  | 10 => withinRF i 12 (scaleF i.op)
  | 11 => withinRF i 12 (scaleF i.op)
  | 12 => condRF i && targetRF i.imm
  | 13 => condRF i
  | 14 => targetRF i.imm
  | 15 => decide (i.n < 2) && (targetRF i.imm && decide (i.count < 2048))
  | 16 => decide (i.n < 2) && targetRF i.imm
  | _ => true
def refF (i : In) : Bool := !decide (kindF i.op = 0) && (regsF i && (asksF i && decide (wayF i = i)))
section
variable {T : Tab}
end
end Go.V
/- The document's Right is inst's. -/
namespace Go.V
open Go
set_option linter.unusedSimpArgs false
set_option linter.unusedVariables false
end Go.V
