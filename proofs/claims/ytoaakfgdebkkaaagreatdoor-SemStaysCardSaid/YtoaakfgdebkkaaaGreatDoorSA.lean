/- THE TABLE OF INSTRUCTIONS: what isa's functions come to. -/
import Derived.Test.YtoaakfgdebkkaaaGreatDoorVZ
import Derived.Test.YtoaakfgdebkkaaaGreatDoorVD
import Derived.KernelRfl
import Derived.Test.YtoaakfgdebkkaaaGreatDoorVE
set_option linter.unusedVariables false
set_option linter.unusedSimpArgs false
set_option linter.unusedSectionVars false
/- THE TABLE OF INSTRUCTIONS: what isa's functions come to. -/
/- THE TABLE OF INSTRUCTIONS: what isa's functions come to. -/
namespace Go.V
open Go
set_option linter.unusedSimpArgs false
set_option linter.unusedVariables false
open Z in def ir127 : IFunc := ⟨158,[.tmp 0],(q (R [(o 0 (.move (.c .nilSlice)))]) (q (R [(o 1 (.call 146 [(B 1),(sc [110,111,112]),(B 1),(.c .nilSlice)])),(o 2 (.call 147 [])),(o 3 (.call 148 [])),(o 4 (.call 149 [])),(o 5 (.call 150 [])),(o 6 (.buildSlice 4 1 [.nilSlice] [(0,1,t2),(1,1,t3),(2,1,t4),(3,1,t5)])),(o 7 (.call 146 [(B 2),(sc [97,100,100]),(B 1),t6])),(o 8 (.call 147 [])),(o 9 (.call 148 [])),(o 10 (.call 149 [])),(o 11 (.call 150 [])),(o 12 (.buildSlice 4 1 [.nilSlice] [(0,1,t8),(1,1,t9),(2,1,t10),(3,1,t11)])),(o 13 (.call 146 [(B 3),(sc [115,117,98]),(B 1),t12])),(o 14 (.call 147 [])),(o 15 (.call 148 [])),(o 16 (.call 149 [])),(o 17 (.call 150 [])),(o 18 (.buildSlice 4 1 [.nilSlice] [(0,1,t14),(1,1,t15),(2,1,t16),(3,1,t17)])),(o 19 (.call 146 [(B 4),(sc [97,110,100]),(B 1),t18])),(o 20 (.call 147 [])),(o 21 (.call 148 [])),(o 22 (.call 149 [])),(o 23 (.call 150 [])),(o 24 (.buildSlice 4 1 [.nilSlice] [(0,1,t20),(1,1,t21),(2,1,t22),(3,1,t23)])),(o 25 (.call 146 [(B 5),(sc [111,114]),(B 1),t24])),(o 26 (.call 147 [])),(o 27 (.call 148 [])),(o 28 (.call 149 [])),(o 29 (.call 150 [])),(o 30 (.buildSlice 4 1 [.nilSlice] [(0,1,t26),(1,1,t27),(2,1,t28),(3,1,t29)])),(o 31 (.call 146 [(B 6),(sc [120,111,114]),(B 1),t30])),(o 32 (.call 148 [])),(o 33 (.call 149 [])),(o 34 (.call 151 [(I 14),(I 0)])),(o 35 (.buildSlice 3 1 [.nilSlice] [(0,1,t32),(1,1,t33),(2,1,t34)])),(o 36 (.call 146 [(B 7),(sc [97,100,100,105]),(B 1),t35])),(o 37 (.call 147 [])),(o 38 (.call 148 [])),(o 39 (.call 151 [(I 14),(I 0)])),(o 40 (.buildSlice 3 1 [.nilSlice] [(0,1,t37),(1,1,t38),(2,1,t39)])),(o 41 (.call 146 [(B 8),(sc [109,111,118,105]),(B 1),t40])),(o 42 (.call 147 [])),(o 43 (.call 148 [])),(o 44 (.call 149 [])),(o 45 (.buildSlice 3 1 [.nilSlice] [(0,1,t42),(1,1,t43),(2,1,t44)])),(o 46 (.call 146 [(B 9),(sc [109,111,118]),(B 1),t45])),(o 47 (.call 152 [])),(o 48 (.call 149 [])),(o 49 (.call 150 [])),(o 50 (.buildSlice 3 1 [.nilSlice] [(0,1,t47),(1,1,t48),(2,1,t49)])),(o 51 (.call 146 [(B 10),(sc [99,109,112,101,113]),(B 1),t50])),(o 52 (.call 152 [])),(o 53 (.call 149 [])),(o 54 (.call 150 [])),(o 55 (.buildSlice 3 1 [.nilSlice] [(0,1,t52),(1,1,t53),(2,1,t54)])),(o 56 (.call 146 [(B 11),(sc [99,109,112,103,116]),(B 1),t55])),(o 57 (.call 152 [])),(o 58 (.call 149 [])),(o 59 (.call 150 [])),(o 60 (.buildSlice 3 1 [.nilSlice] [(0,1,t57),(1,1,t58),(2,1,t59)])),(o 61 (.call 146 [(B 12),(sc [99,109,112,103,116,117]),(B 1),t60])),(o 62 (.call 152 [])),(o 63 (.call 149 [])),(o 64 (.call 151 [(I 14),(I 0)])),(o 65 (.buildSlice 3 1 [.nilSlice] [(0,1,t62),(1,1,t63),(2,1,t64)])),(o 66 (.call 146 [(B 13),(sc [99,109,112,101,113,105]),(B 1),t65])),(o 67 (.call 148 [])),(o 68 (.call 153 [(B 2),(I 2)])),(o 69 (.call 149 [])),(o 70 (.call 150 [])),(o 71 (.buildSlice 4 1 [.nilSlice] [(0,1,t67),(1,1,t68),(2,1,t69),(3,1,t70)])),(o 72 (.call 146 [(B 14),(sc [109,117,120]),(B 1),t71])),(o 73 (.call 148 [])),(o 74 (.call 149 [])),(o 75 (.call 153 [(B 9),(I 5)])),(o 76 (.buildSlice 3 1 [.nilSlice] [(0,1,t73),(1,1,t74),(2,1,t75)])),(o 77 (.call 146 [(B 15),(sc [97,115,108]),(B 2),t76])),(o 78 (.call 148 [])),(o 79 (.call 149 [])),(o 80 (.call 153 [(B 9),(I 5)])),(o 81 (.buildSlice 3 1 [.nilSlice] [(0,1,t78),(1,1,t79),(2,1,t80)])),(o 82 (.call 146 [(B 16),(sc [108,115,114]),(B 2),t81])),(o 83 (.call 148 [])),(o 84 (.call 149 [])),(o 85 (.call 153 [(B 9),(I 5)])),(o 86 (.buildSlice 3 1 [.nilSlice] [(0,1,t83),(1,1,t84),(2,1,t85)])),(o 87 (.call 146 [(B 17),(sc [97,115,114]),(B 2),t86])),(o 88 (.call 148 [])),(o 89 (.call 149 [])),(o 90 (.call 150 [])),(o 91 (.buildSlice 3 1 [.nilSlice] [(0,1,t88),(1,1,t89),(2,1,t90)])),(o 92 (.call 146 [(B 18),(sc [109,112,121]),(B 2),t91])),(o 93 (.call 148 [])),(o 94 (.call 149 [])),(o 95 (.call 150 [])),(o 96 (.buildSlice 3 1 [.nilSlice] [(0,1,t93),(1,1,t94),(2,1,t95)])),(o 97 (.call 146 [(B 19),(sc [99,109,112,121]),(B 2),t96])),(o 98 (.call 148 [])),(o 99 (.call 149 [])),(o 100 (.call 150 [])),(o 101 (.buildSlice 3 1 [.nilSlice] [(0,1,t98),(1,1,t99),(2,1,t100)])),(o 102 (.call 146 [(B 20),(sc [99,109,112,121,99]),(B 2),t101])),(o 103 (.call 148 [])),(o 104 (.call 149 [])),(o 105 (.call 151 [(I 12),(I 2)])),(o 106 (.buildSlice 3 1 [.nilSlice] [(0,1,t103),(1,1,t104),(2,1,t105)])),(o 107 (.call 146 [(B 21),(sc [108,100,119]),(B 3),t106])),(o 108 (.call 148 [])),(o 109 (.call 149 [])),(o 110 (.call 151 [(I 12),(I 1)])),(o 111 (.buildSlice 3 1 [.nilSlice] [(0,1,t108),(1,1,t109),(2,1,t110)])),(o 112 (.call 146 [(B 22),(sc [108,100,104]),(B 3),t111])),(o 113 (.call 148 [])),(o 114 (.call 149 [])),(o 115 (.call 151 [(I 12),(I 0)])),(o 116 (.buildSlice 3 1 [.nilSlice] [(0,1,t113),(1,1,t114),(2,1,t115)])),(o 117 (.call 146 [(B 23),(sc [108,100,98]),(B 3),t116])),(o 118 (.call 149 [])),(o 119 (.call 153 [(B 8),(I 1)])),(o 120 (.call 150 [])),(o 121 (.call 151 [(I 12),(I 2)])),(o 122 (.buildSlice 4 1 [.nilSlice] [(0,1,t118),(1,1,t119),(2,1,t120),(3,1,t121)])),(o 123 (.call 146 [(B 24),(sc [115,116,119]),(B 4),t122])),(o 124 (.call 149 [])),(o 125 (.call 153 [(B 8),(I 1)])),(o 126 (.call 150 [])),(o 127 (.call 151 [(I 12),(I 1)])),(o 128 (.buildSlice 4 1 [.nilSlice] [(0,1,t124),(1,1,t125),(2,1,t126),(3,1,t127)])),(o 129 (.call 146 [(B 25),(sc [115,116,104]),(B 4),t128])),(o 130 (.call 149 [])),(o 131 (.call 153 [(B 8),(I 1)])),(o 132 (.call 150 [])),(o 133 (.call 151 [(I 12),(I 0)])),(o 134 (.buildSlice 4 1 [.nilSlice] [(0,1,t130),(1,1,t131),(2,1,t132),(3,1,t133)])),(o 135 (.call 146 [(B 26),(sc [115,116,98]),(B 4),t134])),(o 136 (.call 147 [])),(o 137 (.call 154 [(I 19)])),(o 138 (.buildSlice 2 1 [.nilSlice] [(0,1,t136),(1,1,t137)])),(o 139 (.call 146 [(B 27),(sc [106,117,109,112]),(B 5),t138])),(o 140 (.call 147 [])),(o 141 (.call 149 [])),(o 142 (.buildSlice 2 1 [.nilSlice] [(0,1,t140),(1,1,t141)])),(o 143 (.call 146 [(B 28),(sc [106,117,109,112,114]),(B 5),t142])),(o 144 (.call 154 [(I 24)])),(o 145 (.buildSlice 1 1 [.nilSlice] [(0,1,t144)])),(o 146 (.call 146 [(B 29),(sc [99,97,108,108]),(B 5),t145])),(o 147 (.call 153 [(B 7),(I 1)])),(o 148 (.call 154 [(I 12)])),(o 149 (.call 153 [(B 11),(I 11)])),(o 150 (.buildSlice 3 1 [.nilSlice] [(0,1,t147),(1,1,t148),(2,1,t149)])),(o 151 (.call 146 [(B 30),(sc [108,111,111,112,105]),(B 6),t150])),(o 152 (.call 153 [(B 7),(I 1)])),(o 153 (.call 154 [(I 12)])),(o 154 (.call 149 [])),(o 155 (.buildSlice 3 1 [.nilSlice] [(0,1,t152),(1,1,t153),(2,1,t154)])),(o 156 (.call 146 [(B 31),(sc [108,111,111,112,114]),(B 6),t155])),(o 157 (.buildSlice 31 5 [(b 0),(s []),(b 0),(b 0),.nilSlice] [(0,5,t1),(5,5,t7),(10,5,t13),(15,5,t19),(20,5,t25),(25,5,t31),(30,5,t36),(35,5,t41),(40,5,t46),(45,5,t51),(50,5,t56),(55,5,t61),(60,5,t66),(65,5,t72),(70,5,t77),(75,5,t82),(80,5,t87),(85,5,t92),(90,5,t97),(95,5,t102),(100,5,t107),(105,5,t112),(110,5,t117),(115,5,t123),(120,5,t129),(125,5,t135),(130,5,t139),(135,5,t143),(140,5,t146),(145,5,t151),(150,5,t156)])),(m 0 157)]) .ret))⟩
open Z in def ir99 : IFunc := ⟨21,[.cell 2 true 5,.tmp 3],(q (R [(o 2 (.alloc [(b 0),(s []),(b 0),(b 0),.nilSlice])),(o 3 (.move F))]) (q (R [(o 5 (.call 127 [])),(m 4 5)]) (q (q (R [(m 6 0),(o 7 (.bin .lss t6 (B 1))),(m 8 7),(og 9 8 false (.move t0)),(og 10 8 false (.conv (.intInt .i64) t9)),(og 11 8 false (.move t4)),(og 12 8 false (.lenSl t11)),(og 13 8 false (.bin .gtr t10 t12)),(o 14 (.pick t8 T t13))]) (.cond t14 (q (R [(o 15 (.build [(b 0),(s []),(b 0),(b 0),.nilSlice] [])),(st 5 2 15),(o 3 (.move F))]) .ret) .skip)) (q (R [(m 16 4),(m 17 0),(o 18 (.bin .sub t17 (B 1))),(ix 19 5 16 18),(la 20 5 19),(st 5 2 20),(o 3 (.move T))]) .ret))))⟩
open Z in def ir71 : IFunc := ⟨17,[.cell 2 true 5,.tmp 3],(q (R [(o 2 (.alloc [(b 0),(s []),(b 0),(b 0),.nilSlice])),(o 3 (.move F))]) (q (R [(m 7 0),(o 8 (.call 99 [t7])),(m 6 8),(x 9 6 0),(x 10 6 1),(o 4 (.alloc [(b 0),(s []),(b 0),(b 0),.nilSlice])),(st 5 4 9),(m 5 10)]) (q (R [(f 11 4 4),(l 12 1 11),(o 13 (.call 100 [t12])),(f 14 4 4),(st 1 14 13)]) (q (R [(la 15 5 4),(m 16 5),(st 5 2 15),(m 3 16)]) .ret))))⟩
open Z in def ir128 : IFunc := ⟨35,[.cell 4 true 5,.tmp 5,.tmp 6],(q (R [(o 4 (.alloc [(b 0),(i 0),(i 0),z,z])),(mi 5 0),(o 6 (.move F))]) (q (R [(m 12 0),(o 13 (.call 99 [t12])),(m 11 13),(x 14 11 0),(x 15 11 1),(o 7 (.alloc [(b 0),(s []),(b 0),(b 0),.nilSlice])),(st 5 7 14),(m 8 15)]) (q (R [(mi 5 24)]) (q (q (R [(f 16 4 7),(l 17 1 16),(o 18 (.lenSl t17)),(mi 19 0)]) (.block 0 (.loop (q (R [(o 20 (.bin .lss t19 t18))]) (q (.cond t20 .skip (.exit 0)) (q (.block 1 (q (R [(ix 21 5 17 19),(la 22 5 21),(o 10 (.alloc [(b 0),(i 0),(i 0),z,z])),(st 5 10 22)]) (q (R [(m 23 5),(f 24 1 10),(l 25 1 24),(o 26 (.bin .sub t23 t25)),(m 5 26)]) (q (R [(f 27 0 10),(l 28 1 27),(m 29 1),(o 30 (.bin .eql t28 t29))]) (.cond t30 (q (R [(la 31 5 10),(m 32 5),(st 5 4 31),(m 5 32),(o 6 (.move T))]) .ret) .skip))))) (R [(o 33 (.bin .add t19 (I 1))),(m 19 33)]))))))) (q (R [(o 34 (.build [(b 0),(i 0),(i 0),z,z] [])),(st 5 4 34),(mi 5 0),(o 6 (.move F))]) .ret)))))⟩
open Z in def ir146 : IFunc := ⟨17,[.cell 8 true 5],(q (R [(o 8 (.alloc [(b 0),(s []),(b 0),(b 0),.nilSlice]))]) (q (R [(m 9 0),(m 10 1),(m 11 2),(m 12 2),(o 13 (.call 84 [t12])),(m 14 3),(o 15 (.call 165 [t14])),(o 16 (.build [(b 0),(s []),(b 0),(b 0),.nilSlice] [(0,1,t9),(1,1,t10),(2,1,t11),(3,1,t13),(4,1,t15)])),(st 5 8 16)]) .ret))⟩
open Z in def ir147 : IFunc := ⟨4,[.tmp 0],(q (R [(o 0 (.move (.c .nilSlice)))]) (q (R [(o 1 (.call 153 [(B 1),(I 3)])),(o 2 (.call 153 [(B 2),(I 2)])),(o 3 (.append 5 32 t1 t2)),(m 0 3)]) .ret))⟩
open Z in def ir148 : IFunc := ⟨2,[.tmp 0],(q (R [(o 0 (.move (.c .nilSlice)))]) (q (R [(o 1 (.call 153 [(B 3),(I 5)])),(m 0 1)]) .ret))⟩
open Z in def ir149 : IFunc := ⟨2,[.tmp 0],(q (R [(o 0 (.move (.c .nilSlice)))]) (q (R [(o 1 (.call 153 [(B 5),(I 5)])),(m 0 1)]) .ret))⟩
open Z in def ir150 : IFunc := ⟨2,[.tmp 0],(q (R [(o 0 (.move (.c .nilSlice)))]) (q (R [(o 1 (.call 153 [(B 6),(I 5)])),(m 0 1)]) .ret))⟩
open Z in def ir151 : IFunc := ⟨9,[.tmp 4],(q (R [(o 4 (.move (.c .nilSlice)))]) (q (R [(m 5 0),(m 6 1),(o 7 (.build [(b 0),(i 0),(i 0),z,z] [(0,1,(B 9)),(1,1,t5),(2,1,t6),(3,1,T),(4,1,T)])),(o 8 (.buildSlice 1 5 [(b 0),(i 0),(i 0),z,z] [(0,5,t7)])),(m 4 8)]) .ret))⟩
open Z in def ir152 : IFunc := ⟨2,[.tmp 0],(q (R [(o 0 (.move (.c .nilSlice)))]) (q (R [(o 1 (.call 153 [(B 4),(I 2)])),(m 0 1)]) .ret))⟩
open Z in def ir153 : IFunc := ⟨9,[.tmp 4],(q (R [(o 4 (.move (.c .nilSlice)))]) (q (R [(m 5 0),(m 6 1),(o 7 (.build [(b 0),(i 0),(i 0),z,z] [(0,1,t5),(1,1,t6)])),(o 8 (.buildSlice 1 5 [(b 0),(i 0),(i 0),z,z] [(0,5,t7)])),(m 4 8)]) .ret))⟩
open Z in def ir154 : IFunc := ⟨6,[.tmp 2],(q (R [(o 2 (.move (.c .nilSlice)))]) (q (R [(m 3 0),(o 4 (.build [(b 0),(i 0),(i 0),z,z] [(0,1,(B 10)),(1,1,t3),(2,1,(I 2)),(3,1,T),(4,1,T)])),(o 5 (.buildSlice 1 5 [(b 0),(i 0),(i 0),z,z] [(0,5,t4)])),(m 2 5)]) .ret))⟩
open Z in def ir84 : IFunc := ⟨15,[.tmp 2],(q (R [(o 2 (.move (B 0)))]) (q (q (R [(m 3 0)]) (.block 0 (q (R [(o 5 (.bin .eql t3 (B 1))),(m 4 5)]) (.cond t4 (q (R [(o 2 (.move (B 15)))]) .ret) (q (q (R [(o 7 (.bin .eql t3 (B 2))),(m 6 7)]) (.cond t6 .skip (R [(o 8 (.bin .eql t3 (B 5))),(m 6 8)]))) (.cond t6 (q (R [(o 2 (.move (B 12)))]) .ret) (q (R [(o 10 (.bin .eql t3 (B 3))),(m 9 10)]) (.cond t9 (q (R [(o 2 (.move (B 3)))]) .ret) (q (R [(o 12 (.bin .eql t3 (B 4))),(m 11 12)]) (.cond t11 (q (R [(o 2 (.move (B 1)))]) .ret) (q (R [(o 14 (.bin .eql t3 (B 6))),(m 13 14)]) (.cond t13 (q (R [(o 2 (.move (B 8)))]) .ret) .skip)))))))))))) (q (R [(o 2 (.move (B 0)))]) .ret)))⟩
open Z in def ir100 : IFunc := ⟨8,[.tmp 2],(q (R [(o 2 (.move (.c .nilSlice)))]) (q (q (R [(m 3 0),(o 4 (.eq false (.nilable .sl) t3 (.c .nilSlice)))]) (.cond t4 (q (R [(o 2 (.move (.c .nilSlice)))]) .ret) .skip)) (q (R [(o 5 (.buildSlice 0 5 [(b 0),(i 0),(i 0),z,z] [])),(m 6 0),(o 7 (.append 5 32 t5 t6)),(m 2 7)]) .ret)))⟩
open Z in def ir165 : IFunc := ⟨36,[.tmp 2],(q (R [(o 2 (.move (.c .nilSlice)))]) (q (R [(mi 3 0)]) (q (q (R [(m 9 0),(o 10 (.lenSl t9)),(mi 11 0)]) (.block 0 (.loop (q (R [(o 12 (.bin .lss t11 t10))]) (q (.cond t12 .skip (.exit 0)) (q (.block 1 (q (R [(ix 13 1 9 11),(l 14 1 13),(m 5 14)]) (q (R [(m 15 3),(m 16 5),(o 17 (.lenSl t16)),(o 18 (.bin .add t15 t17)),(m 3 18)]) (q (R [(m 19 3),(o 20 (.bin .lss t19 (I 0)))]) (.cond t20 (R [(o 21 (.mkIface 9 (sc [108,101,110,32,111,117,116,32,111,102,32,114,97,110,103,101]))),(n (.panic t21))]) .skip))))) (R [(o 22 (.bin .add t11 (I 1))),(m 11 22)]))))))) (q (R [(m 23 3),(o 24 (.call 176 [(.c .nilSlice),t23])),(m 6 24)]) (q (q (R [(m 25 0),(o 26 (.lenSl t25)),(mi 27 0)]) (.block 2 (.loop (q (R [(o 28 (.bin .lss t27 t26))]) (q (.cond t28 .skip (.exit 2)) (q (.block 3 (q (R [(ix 29 1 25 27),(l 30 1 29),(m 8 30)]) (R [(m 31 6),(m 32 8),(o 33 (.append 5 32 t31 t32)),(m 6 33)]))) (R [(o 34 (.bin .add t27 (I 1))),(m 27 34)]))))))) (q (R [(m 35 6),(m 2 35)]) .ret))))))⟩
open Z in def ir176 : IFunc := ⟨27,[.tmp 4],(q (R [(o 4 (.move (.c .nilSlice)))]) (q (q (R [(m 5 1),(o 6 (.bin .lss t5 (I 0)))]) (.cond t6 (R [(o 7 (.mkIface 9 (sc [99,97,110,110,111,116,32,98,101,32,110,101,103,97,116,105,118,101]))),(n (.panic t7))]) .skip)) (q (q (R [(m 8 1),(m 9 0),(o 10 (.cap t9)),(m 11 0),(o 12 (.lenSl t11)),(o 13 (.bin .sub t10 t12)),(o 14 (.bin .sub t8 t13)),(m 1 14)]) (q (R [(m 15 1),(o 16 (.bin .gtr t15 (I 0)))]) (.cond t16 (R [(m 17 0),(m 18 0),(o 19 (.cap t18)),(o 20 (.sliceSl 5 t17 none (some t19) none)),(m 21 1),(o 22 (.appendZ 5 32 [(b 0),(i 0),(i 0),z,z] t20 t21)),(m 23 0),(o 24 (.lenSl t23)),(o 25 (.sliceSl 5 t22 none (some t24) none)),(m 0 25)]) .skip))) (q (R [(m 26 0),(m 4 26)]) .ret))))⟩
def isaCode : List (Nat × FnImp) := [(127, .code ir127), (146, .code ir146), (147, .code ir147), (148, .code ir148), (149, .code ir149), (150, .code ir150), (151, .code ir151), (152, .code ir152), (153, .code ir153), (154, .code ir154), (84, .code ir84), (100, .code ir100), (165, .code ir165), (176, .code ir176)]

def isaTabV : AV := (.slice ⟨0, 0, 0, 155⟩ 31 31 true 5)
def isaTabL : List AObj := [(.cells [(.int .u8 1), (.str [110, 111, 112]), (.int .u8 1), (.int .u8 15), .nilSlice, (.int .u8 2), (.str [97, 100, 100]), (.int .u8 1), (.int .u8 15), (.slice ⟨1, 0, 0, 25⟩ 5 5 false 5), (.int .u8 3), (.str [115, 117, 98]), (.int .u8 1), (.int .u8 15), (.slice ⟨2, 0, 0, 25⟩ 5 5 false 5), (.int .u8 4), (.str [97, 110, 100]), (.int .u8 1), (.int .u8 15), (.slice ⟨3, 0, 0, 25⟩ 5 5 false 5), (.int .u8 5), (.str [111, 114]), (.int .u8 1), (.int .u8 15), (.slice ⟨4, 0, 0, 25⟩ 5 5 false 5), (.int .u8 6), (.str [120, 111, 114]), (.int .u8 1), (.int .u8 15), (.slice ⟨5, 0, 0, 25⟩ 5 5 false 5), (.int .u8 7), (.str [97, 100, 100, 105]), (.int .u8 1), (.int .u8 15), (.slice ⟨6, 0, 0, 15⟩ 3 3 false 5), (.int .u8 8), (.str [109, 111, 118, 105]), (.int .u8 1), (.int .u8 15), (.slice ⟨7, 0, 0, 20⟩ 4 4 false 5), (.int .u8 9), (.str [109, 111, 118]), (.int .u8 1), (.int .u8 15), (.slice ⟨8, 0, 0, 20⟩ 4 4 false 5), (.int .u8 10), (.str [99, 109, 112, 101, 113]), (.int .u8 1), (.int .u8 15), (.slice ⟨9, 0, 0, 15⟩ 3 3 false 5), (.int .u8 11), (.str [99, 109, 112, 103, 116]), (.int .u8 1), (.int .u8 15), (.slice ⟨10, 0, 0, 15⟩ 3 3 false 5), (.int .u8 12), (.str [99, 109, 112, 103, 116, 117]), (.int .u8 1), (.int .u8 15), (.slice ⟨11, 0, 0, 15⟩ 3 3 false 5), (.int .u8 13), (.str [99, 109, 112, 101, 113, 105]), (.int .u8 1), (.int .u8 15), (.slice ⟨12, 0, 0, 15⟩ 3 3 false 5), (.int .u8 14), (.str [109, 117, 120]), (.int .u8 1), (.int .u8 15), (.slice ⟨13, 0, 0, 20⟩ 4 4 false 5), (.int .u8 15), (.str [97, 115, 108]), (.int .u8 2), (.int .u8 12), (.slice ⟨14, 0, 0, 15⟩ 3 3 false 5), (.int .u8 16), (.str [108, 115, 114]), (.int .u8 2), (.int .u8 12), (.slice ⟨15, 0, 0, 15⟩ 3 3 false 5), (.int .u8 17), (.str [97, 115, 114]), (.int .u8 2), (.int .u8 12), (.slice ⟨16, 0, 0, 15⟩ 3 3 false 5), (.int .u8 18), (.str [109, 112, 121]), (.int .u8 2), (.int .u8 12), (.slice ⟨17, 0, 0, 15⟩ 3 3 false 5), (.int .u8 19), (.str [99, 109, 112, 121]), (.int .u8 2), (.int .u8 12), (.slice ⟨18, 0, 0, 15⟩ 3 3 false 5), (.int .u8 20), (.str [99, 109, 112, 121, 99]), (.int .u8 2), (.int .u8 12), (.slice ⟨19, 0, 0, 15⟩ 3 3 false 5), (.int .u8 21), (.str [108, 100, 119]), (.int .u8 3), (.int .u8 3), (.slice ⟨20, 0, 0, 15⟩ 3 3 false 5), (.int .u8 22), (.str [108, 100, 104]), (.int .u8 3), (.int .u8 3), (.slice ⟨21, 0, 0, 15⟩ 3 3 false 5), (.int .u8 23), (.str [108, 100, 98]), (.int .u8 3), (.int .u8 3), (.slice ⟨22, 0, 0, 15⟩ 3 3 false 5), (.int .u8 24), (.str [115, 116, 119]), (.int .u8 4), (.int .u8 1), (.slice ⟨23, 0, 0, 20⟩ 4 4 false 5), (.int .u8 25), (.str [115, 116, 104]), (.int .u8 4), (.int .u8 1), (.slice ⟨24, 0, 0, 20⟩ 4 4 false 5), (.int .u8 26), (.str [115, 116, 98]), (.int .u8 4), (.int .u8 1), (.slice ⟨25, 0, 0, 20⟩ 4 4 false 5), (.int .u8 27), (.str [106, 117, 109, 112]), (.int .u8 5), (.int .u8 12), (.slice ⟨26, 0, 0, 15⟩ 3 3 false 5), (.int .u8 28), (.str [106, 117, 109, 112, 114]), (.int .u8 5), (.int .u8 12), (.slice ⟨27, 0, 0, 15⟩ 3 3 false 5), (.int .u8 29), (.str [99, 97, 108, 108]), (.int .u8 5), (.int .u8 12), (.slice ⟨28, 0, 0, 5⟩ 1 1 false 5), (.int .u8 30), (.str [108, 111, 111, 112, 105]), (.int .u8 6), (.int .u8 8), (.slice ⟨29, 0, 0, 15⟩ 3 3 false 5), (.int .u8 31), (.str [108, 111, 111, 112, 114]), (.int .u8 6), (.int .u8 8), (.slice ⟨30, 0, 0, 15⟩ 3 3 false 5)] 0 0 false), (.cells [(.int .u8 1), (.int .i64 3), (.int .i64 0), (.bool false), (.bool false), (.int .u8 2), (.int .i64 2), (.int .i64 0), (.bool false), (.bool false), (.int .u8 3), (.int .i64 5), (.int .i64 0), (.bool false), (.bool false), (.int .u8 5), (.int .i64 5), (.int .i64 0), (.bool false), (.bool false), (.int .u8 6), (.int .i64 5), (.int .i64 0), (.bool false), (.bool false)] 0 0 false), (.cells [(.int .u8 1), (.int .i64 3), (.int .i64 0), (.bool false), (.bool false), (.int .u8 2), (.int .i64 2), (.int .i64 0), (.bool false), (.bool false), (.int .u8 3), (.int .i64 5), (.int .i64 0), (.bool false), (.bool false), (.int .u8 5), (.int .i64 5), (.int .i64 0), (.bool false), (.bool false), (.int .u8 6), (.int .i64 5), (.int .i64 0), (.bool false), (.bool false)] 0 0 false), (.cells [(.int .u8 1), (.int .i64 3), (.int .i64 0), (.bool false), (.bool false), (.int .u8 2), (.int .i64 2), (.int .i64 0), (.bool false), (.bool false), (.int .u8 3), (.int .i64 5), (.int .i64 0), (.bool false), (.bool false), (.int .u8 5), (.int .i64 5), (.int .i64 0), (.bool false), (.bool false), (.int .u8 6), (.int .i64 5), (.int .i64 0), (.bool false), (.bool false)] 0 0 false), (.cells [(.int .u8 1), (.int .i64 3), (.int .i64 0), (.bool false), (.bool false), (.int .u8 2), (.int .i64 2), (.int .i64 0), (.bool false), (.bool false), (.int .u8 3), (.int .i64 5), (.int .i64 0), (.bool false), (.bool false), (.int .u8 5), (.int .i64 5), (.int .i64 0), (.bool false), (.bool false), (.int .u8 6), (.int .i64 5), (.int .i64 0), (.bool false), (.bool false)] 0 0 false), (.cells [(.int .u8 1), (.int .i64 3), (.int .i64 0), (.bool false), (.bool false), (.int .u8 2), (.int .i64 2), (.int .i64 0), (.bool false), (.bool false), (.int .u8 3), (.int .i64 5), (.int .i64 0), (.bool false), (.bool false), (.int .u8 5), (.int .i64 5), (.int .i64 0), (.bool false), (.bool false), (.int .u8 6), (.int .i64 5), (.int .i64 0), (.bool false), (.bool false)] 0 0 false), (.cells [(.int .u8 3), (.int .i64 5), (.int .i64 0), (.bool false), (.bool false), (.int .u8 5), (.int .i64 5), (.int .i64 0), (.bool false), (.bool false), (.int .u8 9), (.int .i64 14), (.int .i64 0), (.bool true), (.bool true)] 0 0 false), (.cells [(.int .u8 1), (.int .i64 3), (.int .i64 0), (.bool false), (.bool false), (.int .u8 2), (.int .i64 2), (.int .i64 0), (.bool false), (.bool false), (.int .u8 3), (.int .i64 5), (.int .i64 0), (.bool false), (.bool false), (.int .u8 9), (.int .i64 14), (.int .i64 0), (.bool true), (.bool true)] 0 0 false), (.cells [(.int .u8 1), (.int .i64 3), (.int .i64 0), (.bool false), (.bool false), (.int .u8 2), (.int .i64 2), (.int .i64 0), (.bool false), (.bool false), (.int .u8 3), (.int .i64 5), (.int .i64 0), (.bool false), (.bool false), (.int .u8 5), (.int .i64 5), (.int .i64 0), (.bool false), (.bool false)] 0 0 false), (.cells [(.int .u8 4), (.int .i64 2), (.int .i64 0), (.bool false), (.bool false), (.int .u8 5), (.int .i64 5), (.int .i64 0), (.bool false), (.bool false), (.int .u8 6), (.int .i64 5), (.int .i64 0), (.bool false), (.bool false)] 0 0 false), (.cells [(.int .u8 4), (.int .i64 2), (.int .i64 0), (.bool false), (.bool false), (.int .u8 5), (.int .i64 5), (.int .i64 0), (.bool false), (.bool false), (.int .u8 6), (.int .i64 5), (.int .i64 0), (.bool false), (.bool false)] 0 0 false), (.cells [(.int .u8 4), (.int .i64 2), (.int .i64 0), (.bool false), (.bool false), (.int .u8 5), (.int .i64 5), (.int .i64 0), (.bool false), (.bool false), (.int .u8 6), (.int .i64 5), (.int .i64 0), (.bool false), (.bool false)] 0 0 false), (.cells [(.int .u8 4), (.int .i64 2), (.int .i64 0), (.bool false), (.bool false), (.int .u8 5), (.int .i64 5), (.int .i64 0), (.bool false), (.bool false), (.int .u8 9), (.int .i64 14), (.int .i64 0), (.bool true), (.bool true)] 0 0 false), (.cells [(.int .u8 3), (.int .i64 5), (.int .i64 0), (.bool false), (.bool false), (.int .u8 2), (.int .i64 2), (.int .i64 0), (.bool false), (.bool false), (.int .u8 5), (.int .i64 5), (.int .i64 0), (.bool false), (.bool false), (.int .u8 6), (.int .i64 5), (.int .i64 0), (.bool false), (.bool false)] 0 0 false), (.cells [(.int .u8 3), (.int .i64 5), (.int .i64 0), (.bool false), (.bool false), (.int .u8 5), (.int .i64 5), (.int .i64 0), (.bool false), (.bool false), (.int .u8 9), (.int .i64 5), (.int .i64 0), (.bool false), (.bool false)] 0 0 false), (.cells [(.int .u8 3), (.int .i64 5), (.int .i64 0), (.bool false), (.bool false), (.int .u8 5), (.int .i64 5), (.int .i64 0), (.bool false), (.bool false), (.int .u8 9), (.int .i64 5), (.int .i64 0), (.bool false), (.bool false)] 0 0 false), (.cells [(.int .u8 3), (.int .i64 5), (.int .i64 0), (.bool false), (.bool false), (.int .u8 5), (.int .i64 5), (.int .i64 0), (.bool false), (.bool false), (.int .u8 9), (.int .i64 5), (.int .i64 0), (.bool false), (.bool false)] 0 0 false), (.cells [(.int .u8 3), (.int .i64 5), (.int .i64 0), (.bool false), (.bool false), (.int .u8 5), (.int .i64 5), (.int .i64 0), (.bool false), (.bool false), (.int .u8 6), (.int .i64 5), (.int .i64 0), (.bool false), (.bool false)] 0 0 false), (.cells [(.int .u8 3), (.int .i64 5), (.int .i64 0), (.bool false), (.bool false), (.int .u8 5), (.int .i64 5), (.int .i64 0), (.bool false), (.bool false), (.int .u8 6), (.int .i64 5), (.int .i64 0), (.bool false), (.bool false)] 0 0 false), (.cells [(.int .u8 3), (.int .i64 5), (.int .i64 0), (.bool false), (.bool false), (.int .u8 5), (.int .i64 5), (.int .i64 0), (.bool false), (.bool false), (.int .u8 6), (.int .i64 5), (.int .i64 0), (.bool false), (.bool false)] 0 0 false), (.cells [(.int .u8 3), (.int .i64 5), (.int .i64 0), (.bool false), (.bool false), (.int .u8 5), (.int .i64 5), (.int .i64 0), (.bool false), (.bool false), (.int .u8 9), (.int .i64 12), (.int .i64 2), (.bool true), (.bool true)] 0 0 false), (.cells [(.int .u8 3), (.int .i64 5), (.int .i64 0), (.bool false), (.bool false), (.int .u8 5), (.int .i64 5), (.int .i64 0), (.bool false), (.bool false), (.int .u8 9), (.int .i64 12), (.int .i64 1), (.bool true), (.bool true)] 0 0 false), (.cells [(.int .u8 3), (.int .i64 5), (.int .i64 0), (.bool false), (.bool false), (.int .u8 5), (.int .i64 5), (.int .i64 0), (.bool false), (.bool false), (.int .u8 9), (.int .i64 12), (.int .i64 0), (.bool true), (.bool true)] 0 0 false), (.cells [(.int .u8 5), (.int .i64 5), (.int .i64 0), (.bool false), (.bool false), (.int .u8 8), (.int .i64 1), (.int .i64 0), (.bool false), (.bool false), (.int .u8 6), (.int .i64 5), (.int .i64 0), (.bool false), (.bool false), (.int .u8 9), (.int .i64 12), (.int .i64 2), (.bool true), (.bool true)] 0 0 false), (.cells [(.int .u8 5), (.int .i64 5), (.int .i64 0), (.bool false), (.bool false), (.int .u8 8), (.int .i64 1), (.int .i64 0), (.bool false), (.bool false), (.int .u8 6), (.int .i64 5), (.int .i64 0), (.bool false), (.bool false), (.int .u8 9), (.int .i64 12), (.int .i64 1), (.bool true), (.bool true)] 0 0 false), (.cells [(.int .u8 5), (.int .i64 5), (.int .i64 0), (.bool false), (.bool false), (.int .u8 8), (.int .i64 1), (.int .i64 0), (.bool false), (.bool false), (.int .u8 6), (.int .i64 5), (.int .i64 0), (.bool false), (.bool false), (.int .u8 9), (.int .i64 12), (.int .i64 0), (.bool true), (.bool true)] 0 0 false), (.cells [(.int .u8 1), (.int .i64 3), (.int .i64 0), (.bool false), (.bool false), (.int .u8 2), (.int .i64 2), (.int .i64 0), (.bool false), (.bool false), (.int .u8 10), (.int .i64 19), (.int .i64 2), (.bool true), (.bool true)] 0 0 false), (.cells [(.int .u8 1), (.int .i64 3), (.int .i64 0), (.bool false), (.bool false), (.int .u8 2), (.int .i64 2), (.int .i64 0), (.bool false), (.bool false), (.int .u8 5), (.int .i64 5), (.int .i64 0), (.bool false), (.bool false)] 0 0 false), (.cells [(.int .u8 10), (.int .i64 24), (.int .i64 2), (.bool true), (.bool true)] 0 0 false), (.cells [(.int .u8 7), (.int .i64 1), (.int .i64 0), (.bool false), (.bool false), (.int .u8 10), (.int .i64 12), (.int .i64 2), (.bool true), (.bool true), (.int .u8 11), (.int .i64 11), (.int .i64 0), (.bool false), (.bool false)] 0 0 false), (.cells [(.int .u8 7), (.int .i64 1), (.int .i64 0), (.bool false), (.bool false), (.int .u8 10), (.int .i64 12), (.int .i64 2), (.bool true), (.bool true), (.int .u8 5), (.int .i64 5), (.int .i64 0), (.bool false), (.bool false)] 0 0 false)]
set_option maxRecDepth 100000
theorem isaTab_ev : compAuto (callF (tabL isaCode) (evalF (tabL isaCode) 300) 127 [] s0) isaTabV isaTabL = true := by kernel_rfl

structure Fld where
 kind : Int
 bits : Int
 shift : Int
 signed : Bool
 ext : Bool
structure IRow where
 name : List UInt8
 cls : Int
 slots : Int
 fields : List Fld
def Fld.cells (f : Fld) : List AV := [.int .u8 f.kind, .int .i64 f.bits, .int .i64 f.shift, .bool f.signed, .bool f.ext]
def isaRows : List IRow := [⟨[110, 111, 112], 1, 15, []⟩, ⟨[97, 100, 100], 1, 15, [⟨1, 3, 0, false, false⟩, ⟨2, 2, 0, false, false⟩, ⟨3, 5, 0, false, false⟩, ⟨5, 5, 0, false, false⟩, ⟨6, 5, 0, false, false⟩]⟩, ⟨[115, 117, 98], 1, 15, [⟨1, 3, 0, false, false⟩, ⟨2, 2, 0, false, false⟩, ⟨3, 5, 0, false, false⟩, ⟨5, 5, 0, false, false⟩, ⟨6, 5, 0, false, false⟩]⟩, ⟨[97, 110, 100], 1, 15, [⟨1, 3, 0, false, false⟩, ⟨2, 2, 0, false, false⟩, ⟨3, 5, 0, false, false⟩, ⟨5, 5, 0, false, false⟩, ⟨6, 5, 0, false, false⟩]⟩, ⟨[111, 114], 1, 15, [⟨1, 3, 0, false, false⟩, ⟨2, 2, 0, false, false⟩, ⟨3, 5, 0, false, false⟩, ⟨5, 5, 0, false, false⟩, ⟨6, 5, 0, false, false⟩]⟩, ⟨[120, 111, 114], 1, 15, [⟨1, 3, 0, false, false⟩, ⟨2, 2, 0, false, false⟩, ⟨3, 5, 0, false, false⟩, ⟨5, 5, 0, false, false⟩, ⟨6, 5, 0, false, false⟩]⟩, ⟨[97, 100, 100, 105], 1, 15, [⟨3, 5, 0, false, false⟩, ⟨5, 5, 0, false, false⟩, ⟨9, 14, 0, true, true⟩]⟩, ⟨[109, 111, 118, 105], 1, 15, [⟨1, 3, 0, false, false⟩, ⟨2, 2, 0, false, false⟩, ⟨3, 5, 0, false, false⟩, ⟨9, 14, 0, true, true⟩]⟩, ⟨[109, 111, 118], 1, 15, [⟨1, 3, 0, false, false⟩, ⟨2, 2, 0, false, false⟩, ⟨3, 5, 0, false, false⟩, ⟨5, 5, 0, false, false⟩]⟩, ⟨[99, 109, 112, 101, 113], 1, 15, [⟨4, 2, 0, false, false⟩, ⟨5, 5, 0, false, false⟩, ⟨6, 5, 0, false, false⟩]⟩, ⟨[99, 109, 112, 103, 116], 1, 15, [⟨4, 2, 0, false, false⟩, ⟨5, 5, 0, false, false⟩, ⟨6, 5, 0, false, false⟩]⟩, ⟨[99, 109, 112, 103, 116, 117], 1, 15, [⟨4, 2, 0, false, false⟩, ⟨5, 5, 0, false, false⟩, ⟨6, 5, 0, false, false⟩]⟩, ⟨[99, 109, 112, 101, 113, 105], 1, 15, [⟨4, 2, 0, false, false⟩, ⟨5, 5, 0, false, false⟩, ⟨9, 14, 0, true, true⟩]⟩, ⟨[109, 117, 120], 1, 15, [⟨3, 5, 0, false, false⟩, ⟨2, 2, 0, false, false⟩, ⟨5, 5, 0, false, false⟩, ⟨6, 5, 0, false, false⟩]⟩, ⟨[97, 115, 108], 2, 12, [⟨3, 5, 0, false, false⟩, ⟨5, 5, 0, false, false⟩, ⟨9, 5, 0, false, false⟩]⟩, ⟨[108, 115, 114], 2, 12, [⟨3, 5, 0, false, false⟩, ⟨5, 5, 0, false, false⟩, ⟨9, 5, 0, false, false⟩]⟩, ⟨[97, 115, 114], 2, 12, [⟨3, 5, 0, false, false⟩, ⟨5, 5, 0, false, false⟩, ⟨9, 5, 0, false, false⟩]⟩, ⟨[109, 112, 121], 2, 12, [⟨3, 5, 0, false, false⟩, ⟨5, 5, 0, false, false⟩, ⟨6, 5, 0, false, false⟩]⟩, ⟨[99, 109, 112, 121], 2, 12, [⟨3, 5, 0, false, false⟩, ⟨5, 5, 0, false, false⟩, ⟨6, 5, 0, false, false⟩]⟩, ⟨[99, 109, 112, 121, 99], 2, 12, [⟨3, 5, 0, false, false⟩, ⟨5, 5, 0, false, false⟩, ⟨6, 5, 0, false, false⟩]⟩, ⟨[108, 100, 119], 3, 3, [⟨3, 5, 0, false, false⟩, ⟨5, 5, 0, false, false⟩, ⟨9, 12, 2, true, true⟩]⟩, ⟨[108, 100, 104], 3, 3, [⟨3, 5, 0, false, false⟩, ⟨5, 5, 0, false, false⟩, ⟨9, 12, 1, true, true⟩]⟩, ⟨[108, 100, 98], 3, 3, [⟨3, 5, 0, false, false⟩, ⟨5, 5, 0, false, false⟩, ⟨9, 12, 0, true, true⟩]⟩, ⟨[115, 116, 119], 4, 1, [⟨5, 5, 0, false, false⟩, ⟨8, 1, 0, false, false⟩, ⟨6, 5, 0, false, false⟩, ⟨9, 12, 2, true, true⟩]⟩, ⟨[115, 116, 104], 4, 1, [⟨5, 5, 0, false, false⟩, ⟨8, 1, 0, false, false⟩, ⟨6, 5, 0, false, false⟩, ⟨9, 12, 1, true, true⟩]⟩, ⟨[115, 116, 98], 4, 1, [⟨5, 5, 0, false, false⟩, ⟨8, 1, 0, false, false⟩, ⟨6, 5, 0, false, false⟩, ⟨9, 12, 0, true, true⟩]⟩, ⟨[106, 117, 109, 112], 5, 12, [⟨1, 3, 0, false, false⟩, ⟨2, 2, 0, false, false⟩, ⟨10, 19, 2, true, true⟩]⟩, ⟨[106, 117, 109, 112, 114], 5, 12, [⟨1, 3, 0, false, false⟩, ⟨2, 2, 0, false, false⟩, ⟨5, 5, 0, false, false⟩]⟩, ⟨[99, 97, 108, 108], 5, 12, [⟨10, 24, 2, true, true⟩]⟩, ⟨[108, 111, 111, 112, 105], 6, 8, [⟨7, 1, 0, false, false⟩, ⟨10, 12, 2, true, true⟩, ⟨11, 11, 0, false, false⟩]⟩, ⟨[108, 111, 111, 112, 114], 6, 8, [⟨7, 1, 0, false, false⟩, ⟨10, 12, 2, true, true⟩, ⟨5, 5, 0, false, false⟩]⟩]
def isaRow (op : Int) : Option IRow := match op with
 | .ofNat n => match n with
  | 0 => none
  | n + 1 => isaRows[n]?
 | .negSucc _ => none
def fldsV : List Fld → AV
 | [] => .nilSlice
 | f :: l => .slice ⟨0, 0, 0, 5 * (f :: l).length⟩ (f :: l).length (f :: l).length false 5
def fldsL : List Fld → List AObj
 | [] => []
 | f :: l => [.cells ((f :: l).flatMap Fld.cells) 0 0 false]
def rowAns (op : Int) : AV × List AObj := match isaRow op with
 | none => (.tuple [.agg [.int .u8 0, .str [], .int .u8 0, .int .u8 0, .nilSlice], .bool false], [])
 | some r => (.tuple [.agg [.int .u8 op, .str r.name, .int .u8 r.cls, .int .u8 r.slots, fldsV r.fields], .bool true], fldsL r.fields)
def tableG (args : List AV) : Option (AV × List AObj) := match args with
 | [] => some (isaTabV, isaTabL)
 | _ => none
def isByte (n : Int) : Bool := match n with
 | .ofNat n => Nat.blt n 256
 | .negSucc _ => false
def rowG (args : List AV) : Option (AV × List AObj) := match args with
 | [.int .u8 op] => match isByte op with
  | true => some (rowAns op)
  | false => none
 | _ => none
def allBelow (p : Nat → Bool) : Nat → Bool
 | 0 => true
 | n + 1 => p n && allBelow p n
theorem allBelow_get {p : Nat → Bool} : ∀ {n : Nat}, allBelow p n = true → ∀ i, i < n → p i = true
 | 0, _, i, hi => by omega
 | n + 1, h, i, hi => by
  simp only [allBelow, Bool.and_eq_true] at h
  rcases Nat.lt_succ_iff_lt_or_eq.1 hi with h1 | rfl
  · exact allBelow_get h.2 i h1
  · exact h.1

noncomputable def isaCode1 : List (Nat × FnImp) := [(127, .hook (litH tableG)), (99, .code ir99)]
theorem find_ev : allBelow (fun n => compAuto (callF (tabL isaCode1) (evalF (tabL isaCode1) 100) 99 [.int .u8 (.ofNat n)] s0) (rowAns (.ofNat n)).1 (rowAns (.ofNat n)).2) 256 = true := by kernel_rfl
end Go.V
/- ISA's functions, as contracts and hooks. -/
namespace Go.V
open Go
set_option linter.unusedSimpArgs false
set_option linter.unusedVariables false

def Fld.zero : Fld := ⟨0, 0, 0, false, false⟩
def atSpec (kind : Int) : List Fld → Int → Fld × Int × Bool
 | [], _ => (.zero, 0, false)
 | f :: l, a => if f.kind = kind then (f, wrapF .i64 (a - f.bits), true) else atSpec kind l (wrapF .i64 (a - f.bits))
theorem Fld.len (f : Fld) : f.cells.length = 5 := rfl
theorem Fld.plain (f : Fld) : plains f.cells = true := rfl
theorem isaRow_mem {op : Int} {r : IRow} (h : isaRow op = some r) : r ∈ isaRows := by
 unfold isaRow at h
 split at h
 · split at h
   · cases h
   · exact List.mem_of_getElem? h
 · cases h
theorem isaRow_len {op : Int} {r : IRow} (h : isaRow op = some r) : r.fields.length < 1000 := by
 have h1 : isaRows.all (fun r => Nat.blt r.fields.length 1000) = true := by decide +kernel
 exact Nat.le_of_ble_eq_true (List.all_eq_true.1 h1 r (isaRow_mem h))
def fieldsOf (op : Int) : List Fld := match isaRow op with
 | some r => r.fields
 | none => []

section
variable {T : Tab}

theorem at_ran (hc : T 128 = some (.code ir128)) (hf : T 99 = some (.hook (litH rowG))) (s : St) (hs : WFS s) (op kind : Int) (hop : isByte op = true) :
 Ran T 128 [.int .u8 op, .int .u8 kind] s fun v s' => v = (match atSpec kind (fieldsOf op) 24 with | (f, a, b) => .tuple [.agg f.cells, .int .i64 a, .bool b]) ∧ Ext s s' := by
 refine ran_code hc (Nat.le_of_ble_eq_true rfl) ?_
 simp only [ir128, wq, seval]
 refine goCall_by (ran_hook hf (K := fun v s' => v = (rowAns op).1.sh (s.next + 1) ∧ s' = addAll (s.next + 1) (rowAns op).2 (s.add (.cells [.int .u8 0, .int .i64 0, .int .i64 0, .bool false, .bool false] 0 0 false))) (by simp only [litH, rowG, hop, add_next]) ⟨rfl, rfl⟩) ?_
 rintro v s' ⟨rfl, rfl⟩
 unfold rowAns fieldsOf
 cases hr : isaRow op with
 | none =>
  simp only [AV.sh, AV.shs, addAll, atSpec, wq, seval]
  simp only [go_loop, wq, seval]
  exact ⟨rfl, (((Ext.refl hs).add _).add _)⟩
 | some r =>
  obtain ⟨nm, cl, sl, fs⟩ := r
  cases fs with
  | nil =>
   simp only [AV.sh, AV.shs, addAll, atSpec, fldsV, fldsL, wq, seval]
   simp only [go_loop, wq, seval]
   exact ⟨rfl, (((Ext.refl hs).add _).add _)⟩
  | cons f0 fs0 =>
   simp only [AV.sh, AV.shs, addAll, fldsV, fldsL, AObj.sh, wq, seval]
   have hn : (f0 :: fs0).length < 1000 := isaRow_len hr
   generalize hfs : f0 :: fs0 = fs at *
   refine (?_ : ∀ (k i : Nat) (e : Env) (σ : St) (a : Int), k + i = fs.length → atSpec kind (fs.drop i) a = atSpec kind fs 24 →
    opd e (.t 1) = .int .u8 kind → opd e (.t 4) = .ptr ⟨s.next, 0, 0, 5⟩ → opd e (.t 5) = .int .i64 a → opd e (.t 17) = .slice ⟨s.next + 1, 0, 0, 5 * fs.length⟩ fs.length fs.length false 5 →
    opd e (.t 18) = .int .i64 fs.length → opd e (.t 19) = .int .i64 i →
    Ext s σ → s.next + 1 < σ.next → σ.heap.get (s.next + 1) = some (.cells (fs.flatMap Fld.cells) 0 0 false) → σ.heap.get s.next = some (.cells Fld.zero.cells 0 0 false) → Go T _ _ _ e σ) fs.length 0 _ _ 24 ?_ ?_ ?_ ?_ ?_ ?_ ?_ ?_ ?_ ?_ ?_ ?_
   · intro k
     induction k with
     | zero =>
      intro i e σ a hi hat h1 h4 h5 h17 h18 h19 hext hlt ho1 ho0
      have hlt' : ¬ ((i : Int) < (fs.length : Int)) := by omega
      have hii : i = fs.length := by omega
      subst hii
      rw [List.drop_length] at hat
      simp only [go_loop, h17, h18, h19, h4, ho0, hlt', wq, seval]
      simp only [← hat, atSpec, Fld.zero, Fld.cells]
      exact ⟨trivial, hext.put (Nat.le_refl _) (by omega) _⟩
     | succ k ih =>
      intro i e σ a hi hat h1 h4 h5 h17 h18 h19 hext hlt ho1 ho0
      have hlt' : ((i : Int) < (fs.length : Int)) := by omega
      have hi' : i < fs.length := by omega
      rw [List.drop_eq_getElem_cons hi'] at hat
      simp only [atSpec] at hat
      have hrd : i * 5 + 5 ≤ 5 * fs.length := by omega
      have hfl : List.take 5 (List.drop (i * 5) (List.flatMap Fld.cells fs)) = fs[i].cells := flat_at Fld.len fs i hi'
      simp only [go_loop, h17, h18, h19, h4, h5, h1, ho0, ho1, hlt', hi', hrd, hfl, Fld.cells, wq, seval]
      have hne0 : ¬ (s.next = σ.next) := by omega
      have hne1 : ¬ (s.next + 1 = σ.next) := by omega
      refine goC_split (fun h => ?_) (fun h => ?_)
      · have h := of_decide_eq_true h
        rw [if_pos h] at hat
        simp only [h17, h18, h19, h4, h5, h1, ho0, ho1, hne0, hne1, Fld.zero, Fld.cells, wq, seval]
        simp only [← hat, Fld.cells]
        exact ⟨trivial, (hext.put (Nat.le_refl _) (by omega) _).add _⟩
      · have h := of_decide_eq_false h
        rw [if_neg h] at hat
        simp only [h17, h18, h19, h4, h5, h1, ho0, ho1, hne0, hne1, wq, seval]
        refine ih (i + 1) _ _ (wrapF .i64 (a - fs[i].bits)) (by omega) hat ?_ ?_ ?_ ?_ ?_ ?_ (hext.add _) (by rw [add_next]; omega) (by rw [add_get, if_neg hne1, ho1]) (by rw [add_get, if_neg hne0, ho0])
        all_goals simp only [h17, h18, h19, h4, h5, h1, wq, seval]
        rw [wrap_i64 _ (by omega) (by omega)]; rfl
   all_goals (try simp only [wq, seval])
   all_goals first
    | rfl
    | (rw [← hfs]; rfl)
    | exact (((Ext.refl hs).add _).add _).add _
    | omega
    | rw [plains_sh (plains_flatMap Fld.plain fs)]
end
end Go.V
/- inst's small functions. -/
namespace Go.V
open Go
set_option linter.unusedSimpArgs false
set_option linter.unusedVariables false

open Z in def ir101 : IFunc := ⟨48,[.tmp 8],(q (R [(o 8 (.move F))]) (q (q (R [(m 9 1),(o 10 (.bin .lss t9 (I 1))),(m 11 10),(og 12 11 false (.move t1)),(og 13 11 false (.bin .gtr t12 (I 32))),(o 14 (.pick t11 T t13)),(m 15 14),(og 16 15 false (.move t2)),(og 17 15 false (.bin .lss t16 (I 0))),(o 18 (.pick t15 T t17)),(m 19 18),(og 20 19 false (.move t2)),(og 21 19 false (.bin .gtr t20 (I 8))),(o 22 (.pick t19 T t21)),(m 23 22),(og 24 23 false (.move t0)),(og 25 23 false (.move t2)),(og 26 23 false (.bin .shl (I 1) t25)),(og 27 23 false (.bin .sub t26 (I 1))),(og 28 23 false (.bin .and t24 t27)),(og 29 23 false (.bin .neq t28 (I 0))),(o 30 (.pick t23 T t29))]) (.cond t30 (q (R [(o 8 (.move F))]) .ret) .skip)) (q (R [(m 31 0),(m 32 2),(o 33 (.bin .shr t31 t32)),(m 0 33)]) (q (q (R [(m 34 3)]) (.cond t34 (R [(m 35 0),(m 36 1),(o 37 (.bin .sub t36 (I 1))),(o 38 (.bin .shl (I 1) t37)),(o 39 (.bin .add t35 t38)),(m 0 39)]) .skip)) (q (R [(m 40 0),(o 41 (.bin .geq t40 (I 0))),(m 42 41),(og 43 42 true (.move t0)),(og 44 42 true (.move t1)),(og 45 42 true (.bin .shl (I 1) t44)),(og 46 42 true (.bin .lss t43 t45)),(o 47 (.pick t42 t46 F)),(m 8 47)]) .ret)))))⟩
open Z in def ir72 : IFunc := ⟨40,[.cell 4 true 11],(q (R [(o 2 (.box t0)),(o 3 (.box t1)),(o 4 (.alloc [(b 0),(b 0),(b 0),(b 0),(b 0),(b 0),(b 0),z,z,(.int .u16 0),(i 0)]))]) (q (q (R [(f 5 0 3),(l 6 1 5)]) (.block 0 (q (R [(o 8 (.bin .eql t6 (B 1))),(m 7 8)]) (.cond t7 (R [(f 9 6 2),(n (.store 1 t9 (B 0)))]) (q (R [(o 11 (.bin .eql t6 (B 2))),(m 10 11)]) (.cond t10 (R [(f 12 5 2),(n (.store 1 t12 (B 0)))]) (q (q (R [(o 14 (.bin .eql t6 (B 3))),(m 13 14)]) (.cond t13 .skip (R [(o 15 (.bin .eql t6 (B 4))),(m 13 15)]))) (.cond t13 (R [(f 16 1 2),(n (.store 1 t16 (B 0)))]) (q (R [(o 18 (.bin .eql t6 (B 5))),(m 17 18)]) (.cond t17 (R [(f 19 2 2),(n (.store 1 t19 (B 0)))]) (q (R [(o 21 (.bin .eql t6 (B 6))),(m 20 21)]) (.cond t20 (R [(f 22 3 2),(n (.store 1 t22 (B 0)))]) (q (R [(o 24 (.bin .eql t6 (B 7))),(m 23 24)]) (.cond t23 (R [(f 25 4 2),(n (.store 1 t25 (B 0)))]) (q (R [(o 27 (.bin .eql t6 (B 8))),(m 26 27)]) (.cond t26 (R [(f 28 7 2),(n (.store 1 t28 F))]) (q (q (R [(o 30 (.bin .eql t6 (B 9))),(m 29 30)]) (.cond t29 .skip (R [(o 31 (.bin .eql t6 (B 10))),(m 29 31)]))) (.cond t29 (R [(f 32 10 2),(n (.store 1 t32 (I 0)))]) (q (R [(o 34 (.bin .eql t6 (B 11))),(m 33 34)]) (.cond t33 (R [(f 35 9 2),(n (.store 1 t35 (.c (.int .u16 0))))]) .skip)))))))))))))))))))) (q (q (R [(f 36 4 3),(l 37 1 36)]) (.cond t37 (R [(f 38 8 2),(n (.store 1 t38 F))]) .skip)) (q (R [(la 39 11 2),(st 11 4 39)]) .ret))))⟩
open Z in def ir73 : IFunc := ⟨84,[.tmp 4],(q (R [(o 2 (.box t0)),(o 3 (.box t1)),(o 4 (.move F))]) (q (q (R [(f 5 0 3),(l 6 1 5)]) (.block 0 (q (R [(o 8 (.bin .eql t6 (B 1))),(m 7 8)]) (.cond t7 (q (R [(f 9 6 2),(l 10 1 9),(o 11 (.bin .leq t10 (B 4))),(m 4 11)]) .ret) (q (R [(o 13 (.bin .eql t6 (B 2))),(m 12 13)]) (.cond t12 (q (R [(f 14 5 2),(l 15 1 14),(o 16 (.bin .lss t15 (B 4))),(m 4 16)]) .ret) (q (R [(o 18 (.bin .eql t6 (B 3))),(m 17 18)]) (.cond t17 (q (R [(f 19 1 2),(l 20 1 19),(o 21 (.bin .lss t20 (B 32))),(m 4 21)]) .ret) (q (R [(o 23 (.bin .eql t6 (B 4))),(m 22 23)]) (.cond t22 (q (R [(f 24 1 2),(l 25 1 24),(o 26 (.bin .lss t25 (B 4))),(m 4 26)]) .ret) (q (R [(o 28 (.bin .eql t6 (B 5))),(m 27 28)]) (.cond t27 (q (R [(f 29 2 2),(l 30 1 29),(o 31 (.bin .lss t30 (B 32))),(m 4 31)]) .ret) (q (R [(o 33 (.bin .eql t6 (B 6))),(m 32 33)]) (.cond t32 (q (R [(f 34 3 2),(l 35 1 34),(o 36 (.bin .lss t35 (B 32))),(m 4 36)]) .ret) (q (R [(o 38 (.bin .eql t6 (B 7))),(m 37 38)]) (.cond t37 (q (R [(f 39 4 2),(l 40 1 39),(o 41 (.bin .lss t40 (B 2))),(m 4 41)]) .ret) (q (R [(o 43 (.bin .eql t6 (B 9))),(m 42 43)]) (.cond t42 (q (q (R [(f 44 8 2),(l 45 1 44)]) (.cond t45 (q (R [(f 46 10 2),(l 47 1 46),(o 48 (.bin .geq t47 (I (-2147483648)))),(m 49 48),(og 50 49 true (.fieldAddr 10 t2)),(og 51 49 true (.load false 1 t50)),(og 52 49 true (.bin .leq t51 (I 2147483647))),(o 53 (.pick t49 t52 F)),(m 4 53)]) .ret) .skip)) (q (R [(f 54 10 2),(l 55 1 54),(f 56 1 3),(l 57 1 56),(f 58 2 3),(l 59 1 58),(f 60 3 3),(l 61 1 60),(o 62 (.call 101 [t55,t57,t59,t61])),(m 4 62)]) .ret)) (q (R [(o 64 (.bin .eql t6 (B 10))),(m 63 64)]) (.cond t63 (q (R [(f 65 10 2),(l 66 1 65),(o 67 (.bin .geq t66 (I 0))),(m 68 67),(og 69 68 true (.fieldAddr 10 t2)),(og 70 68 true (.load false 1 t69)),(og 71 68 true (.bin .lss t70 (I 4294967296))),(o 72 (.pick t68 t71 F)),(m 73 72),(og 74 73 true (.fieldAddr 10 t2)),(og 75 73 true (.load false 1 t74)),(og 76 73 true (.bin .rem t75 (I 4))),(og 77 73 true (.bin .eql t76 (I 0))),(o 78 (.pick t73 t77 F)),(m 4 78)]) .ret) (q (R [(o 80 (.bin .eql t6 (B 11))),(m 79 80)]) (.cond t79 (q (R [(f 81 9 2),(l 82 1 81),(o 83 (.bin .lss t82 (.c (.int .u16 2048)))),(m 4 83)]) .ret) .skip)))))))))))))))))))))) (q (R [(o 4 (.move T))]) .ret)))⟩
structure In where
 op : Int
 d : Int
 s : Int
 t : Int
 n : Int
 pred : Int
 mode : Int
 nw : Bool
 ext : Bool
 count : Int
 imm : Int
 deriving DecidableEq
def In.cells (i : In) : List AV := [.int .u8 i.op, .int .u8 i.d, .int .u8 i.s, .int .u8 i.t, .int .u8 i.n, .int .u8 i.pred, .int .u8 i.mode, .bool i.nw, .bool i.ext, .int .u16 i.count, .int .i64 i.imm]
def In.zero : In := ⟨0, 0, 0, 0, 0, 0, 0, false, false, 0, 0⟩

def fitsSpec (v n sc : Int) (sg : Bool) : Bool := decide (v % 2 ^ sc.toNat = 0) && (match sg with
 | true => decide (-(2 ^ (n - 1).toNat) ≤ v / 2 ^ sc.toNat) && decide (v / 2 ^ sc.toNat < 2 ^ (n - 1).toNat)
 | false => decide (0 ≤ v) && decide (v / 2 ^ sc.toNat < 2 ^ n.toNat))
def fitsKnown : List (Int × Int × Bool) := [(14, 0, true), (5, 0, false), (12, 0, true), (12, 1, true), (12, 2, true)]

def withoutSpec (i : In) (f : Fld) : In :=
 let j := if f.kind = 1 then { i with mode := 0 } else if f.kind = 2 then { i with pred := 0 } else if f.kind = 3 then { i with d := 0 } else if f.kind = 4 then { i with d := 0 }
  else if f.kind = 5 then { i with s := 0 } else if f.kind = 6 then { i with t := 0 } else if f.kind = 7 then { i with n := 0 } else if f.kind = 8 then { i with nw := false }
  else if f.kind = 9 then { i with imm := 0 } else if f.kind = 10 then { i with imm := 0 } else if f.kind = 11 then { i with count := 0 } else i
 if f.ext = true then { j with ext := false } else j
def holdsSpec (i : In) (f : Fld) : Bool :=
 if f.kind = 1 then decide (i.mode ≤ 4) else if f.kind = 2 then decide (i.pred < 4) else if f.kind = 3 then decide (i.d < 32) else if f.kind = 4 then decide (i.d < 4)
  else if f.kind = 5 then decide (i.s < 32) else if f.kind = 6 then decide (i.t < 32) else if f.kind = 7 then decide (i.n < 2)
  else if f.kind = 9 then (if i.ext = true then decide (-2147483648 ≤ i.imm) && decide (i.imm ≤ 2147483647) else fitsSpec i.imm f.bits f.shift f.signed)
  else if f.kind = 10 then decide (0 ≤ i.imm) && (decide (i.imm < 4294967296) && decide (i.imm % 4 = 0)) else if f.kind = 11 then decide (i.count < 2048) else true
section
variable {T : Tab}
theorem without_ran (hc : T 72 = some (.code ir72)) (s : St) (hs : WFS s) (i : In) (f : Fld) :
 Ran T 72 [.agg i.cells, .agg f.cells] s fun v s' => v = .agg (withoutSpec i f).cells ∧ Ext s s' := by
 refine ran_code hc (Nat.le_of_ble_eq_true rfl) ?_
 simp only [ir72, In.cells, Fld.cells, wq, seval]
 repeat' (first | refine goC_split (fun h => ?_) (fun h => ?_) | refine goG_split_t (fun h => ?_) (fun h => ?_) | refine goG_split_f (fun h => ?_) (fun h => ?_)) <;> (try simp only [Bool.not_eq_true', Bool.not_eq_false'] at h) <;> (try simp only [h, wq, seval])
 all_goals refine ⟨?_, by (repeat (first | exact Ext.refl hs | refine Ext.add ?_ _))⟩
 all_goals simp_all [withoutSpec]
theorem fits_ran (hc : T 101 = some (.code ir101)) (s : St) (hs : WFS s) (v n sc : Int) (sg : Bool) (hk : (n, sc, sg) ∈ fitsKnown) (h1 : -9223372036854775808 ≤ v) (h2 : v ≤ 9223372036854775807) :
 Ran T 101 [.int .i64 v, .int .i64 n, .int .i64 sc, .bool sg] s fun r s' => r = .bool (fitsSpec v n sc sg) ∧ Ext s s' := by
 refine ran_code hc (Nat.le_of_ble_eq_true rfl) ?_
 have s0 : binV .shl (.int .i64 1) (.int .i64 0) = some (.int .i64 1) := rfl
 have s1 : binV .shl (.int .i64 1) (.int .i64 1) = some (.int .i64 2) := rfl
 have s2 : binV .shl (.int .i64 1) (.int .i64 2) = some (.int .i64 4) := rfl
 have s5 : binV .shl (.int .i64 1) (.int .i64 5) = some (.int .i64 32) := rfl
 have s11 : binV .shl (.int .i64 1) (.int .i64 11) = some (.int .i64 2048) := rfl
 have s12 : binV .shl (.int .i64 1) (.int .i64 12) = some (.int .i64 4096) := rfl
 have s13 : binV .shl (.int .i64 1) (.int .i64 13) = some (.int .i64 8192) := rfl
 have s14 : binV .shl (.int .i64 1) (.int .i64 14) = some (.int .i64 16384) := rfl
 have r0 : binV .shr (.int .i64 v) (.int .i64 0) = some (.int .i64 v) := by simp [binV, binInt, mkInt]
 have r1 : binV .shr (.int .i64 v) (.int .i64 1) = some (.int .i64 (v / 2)) := b_shr .i64 .i64 v 1
 have r2 : binV .shr (.int .i64 v) (.int .i64 2) = some (.int .i64 (v / 4)) := b_shr .i64 .i64 v 2
 have a0 : binV .and (.int .i64 v) (.int .i64 0) = some (.int .i64 0) := by have := b_mask v 0 (by omega); simpa [Int.emod_one] using this
 have a1 : binV .and (.int .i64 v) (.int .i64 1) = some (.int .i64 (v % 2)) := b_mask v 1 (by omega)
 have a3 : binV .and (.int .i64 v) (.int .i64 3) = some (.int .i64 (v % 4)) := b_mask v 2 (by omega)
 simp only [fitsKnown, List.mem_cons, Prod.mk.injEq, List.not_mem_nil, or_false] at hk
 rcases hk with ⟨rfl, rfl, rfl⟩ | ⟨rfl, rfl, rfl⟩ | ⟨rfl, rfl, rfl⟩ | ⟨rfl, rfl, rfl⟩ | ⟨rfl, rfl, rfl⟩
 all_goals simp only [ir101, s0, s1, s2, s5, s11, s12, s13, s14, r0, r1, r2, a0, a1, a3, wrap_i64, wq, seval]
 all_goals repeat' ((first | refine goC_split (fun h => ?_) (fun h => ?_) | refine goG_split_t (fun h => ?_) (fun h => ?_) | refine goG_split_f (fun h => ?_) (fun h => ?_)) <;> (try simp only [Bool.not_eq_true', Bool.not_eq_false'] at h) <;> (try simp only [h, s0, s1, s2, s5, s11, s12, s13, s14, r0, r1, r2, wrap_i64, wq, seval]))
 all_goals refine ⟨?_, by (repeat (first | exact Ext.refl hs | refine Ext.add ?_ _))⟩
 all_goals (try (rw [wrap_i64_up _ (by omega) (by omega)] at *))
 all_goals clear s0 s1 s2 s5 s11 s12 s13 s14 r0 r1 r2 a0 a1 a3
 all_goals congr 1
 all_goals rw [Bool.eq_iff_iff]
 all_goals simp [fitsSpec] at *
 all_goals omega
theorem holds_ran (hc : T 73 = some (.code ir73)) (hf : T 101 = some (.code ir101)) (s : St) (hs : WFS s) (i : In) (f : Fld) (hk : f.kind = 9 → (f.bits, f.shift, f.signed) ∈ fitsKnown) (h1 : -9223372036854775808 ≤ i.imm) (h2 : i.imm ≤ 9223372036854775807) :
 Ran T 73 [.agg i.cells, .agg f.cells] s fun v s' => v = .bool (holdsSpec i f) ∧ Ext s s' := by
 refine ran_code hc (Nat.le_of_ble_eq_true rfl) ?_
 have m4 : binV .rem (.int .i64 i.imm) (.int .i64 4) = some (.int .i64 (Int.tmod i.imm 4)) := by rw [b_rem, if_neg (by decide)]
 simp only [ir73, m4, In.cells, Fld.cells, wq, seval]
 repeat' ((first | refine goC_split (fun h => ?_) (fun h => ?_) | refine goG_split_t (fun h => ?_) (fun h => ?_) | refine goG_split_f (fun h => ?_) (fun h => ?_) | (refine goCall_by (fits_ran hf _ (by repeat (first | exact hs | refine WFS.add ?_ _)) _ _ _ _ (hk (by simp_all)) h1 h2) ?_; rintro v s' ⟨rfl, hx⟩; simp only [wq, seval])) <;> (try simp only [Bool.not_eq_true', Bool.not_eq_false'] at h) <;> (try simp only [h, m4, wq, seval]))
 all_goals clear m4
 all_goals refine ⟨?_, by first | (refine Ext.trans ?_ (by assumption); (repeat (first | exact Ext.refl hs | refine Ext.add ?_ _))) | (repeat (first | exact Ext.refl hs | refine Ext.add ?_ _))⟩
 all_goals (try (have htm : 0 ≤ i.imm := by simp_all))
 all_goals (try rw [Int.tmod_eq_emod_of_nonneg htm])
 all_goals simp_all [holdsSpec]
 all_goals omega
end
end Go.V
/- inst's functions over the table, as hooks; has, Cond, Class. -/
namespace Go.V
open Go
set_option linter.unusedSimpArgs false
set_option linter.unusedVariables false

open Z in def ir102 : IFunc := ⟨17,[.tmp 4],(q (R [(o 2 (.box t0)),(o 4 (.move F))]) (q (R [(f 9 0 2),(l 10 1 9),(m 11 1),(o 12 (.call 128 [t10,t11])),(m 8 12),(x 13 8 0),(x 14 8 1),(x 15 8 2),(o 5 (.alloc [(b 0),(i 0),(i 0),z,z])),(st 5 5 13),(m 6 14),(m 7 15)]) (q (R [(m 16 7),(m 4 16)]) .ret)))⟩
open Z in def ir74 : IFunc := ⟨5,[.tmp 2],(q (R [(o 1 (.box t0)),(o 2 (.move F))]) (q (R [(la 3 11 1),(o 4 (.call 102 [t3,(B 1)])),(m 2 4)]) .ret))⟩
open Z in def ir69 : IFunc := ⟨13,[.tmp 2],(q (R [(o 1 (.box t0)),(o 2 (.move (B 0)))]) (q (R [(f 6 0 1),(l 7 1 6),(o 8 (.call 71 [t7])),(m 5 8),(x 9 5 0),(x 10 5 1),(o 3 (.alloc [(b 0),(s []),(b 0),(b 0),.nilSlice])),(st 5 3 9),(m 4 10)]) (q (R [(f 11 2 3),(l 12 1 11),(m 2 12)]) .ret)))⟩
open Z in def ir43 : IFunc := ⟨54,[.tmp 2],(q (R [(o 1 (.box t0)),(o 2 (.move F))]) (q (R [(f 9 0 1),(l 10 1 9),(o 11 (.call 71 [t10])),(m 8 11),(x 12 8 0),(x 13 8 1),(o 3 (.alloc [(b 0),(s []),(b 0),(b 0),.nilSlice])),(st 5 3 12),(m 4 13)]) (q (R [(la 14 11 1),(o 5 (.alloc [(b 0),(b 0),(b 0),(b 0),(b 0),(b 0),(b 0),z,z,(.int .u16 0),(i 0)])),(st 11 5 14)]) (q (R [(f 15 0 5),(n (.store 1 t15 (B 0)))]) (q (q (R [(f 16 4 3),(l 17 1 16),(o 18 (.lenSl t17)),(mi 19 0)]) (.block 0 (.loop (q (R [(o 20 (.bin .lss t19 t18))]) (q (.cond t20 .skip (.exit 0)) (q (.block 1 (q (R [(ix 21 5 17 19),(la 22 5 21),(o 7 (.alloc [(b 0),(i 0),(i 0),z,z])),(st 5 7 22)]) (q (R [(la 23 11 5),(la 24 5 7),(o 25 (.call 72 [t23,t24])),(st 11 5 25)]) (R [(m 26 4),(m 27 26),(og 28 27 true (.load true 11 t1)),(og 29 27 true (.load true 5 t7)),(og 30 27 true (.call 73 [t28,t29])),(o 31 (.pick t27 t30 F)),(m 4 31)])))) (R [(o 32 (.bin .add t19 (I 1))),(m 19 32)]))))))) (q (R [(m 33 4),(m 34 33),(og 35 34 true (.load true 11 t5)),(og 36 34 true (.build [(b 0),(b 0),(b 0),(b 0),(b 0),(b 0),(b 0),z,z,(.int .u16 0),(i 0)] [])),(og 37 34 true (.eq false (.agg [(0,1,false,(.prim .int)),(1,1,false,(.prim .int)),(2,1,false,(.prim .int)),(3,1,false,(.prim .int)),(4,1,false,(.prim .int)),(5,1,false,(.prim .int)),(6,1,false,(.prim .int)),(7,1,false,(.prim .bool)),(8,1,false,(.prim .bool)),(9,1,false,(.prim .int)),(10,1,false,(.prim .int))]) t35 t36)),(o 38 (.pick t34 t37 F)),(m 39 38),(og 40 39 true (.load true 11 t1)),(og 41 39 true (.call 74 [t40])),(og 42 39 true (.move t41)),(og 43 42 true (.fieldAddr 6 t1)),(og 44 42 true (.load false 1 t43)),(og 45 42 true (.bin .eql t44 (B 0))),(og 46 39 true (.pick t42 t45 F)),(og 47 39 true (.move t46)),(og 48 47 true (.fieldAddr 5 t1)),(og 49 47 true (.load false 1 t48)),(og 50 47 true (.bin .neq t49 (B 0))),(og 51 39 true (.pick t47 t50 F)),(og 52 39 true (.un .not t51)),(o 53 (.pick t39 t52 F)),(m 2 53)]) .ret))))))⟩

theorem goCall_hook {T : Tab} {f : FuncId} {h : List AV → St → Option (AV × St)} (hf : T f = some (.hook h)) (Q : Post) (d : Bool) (dst : Option Nat) (w : List Opd) (args : List AV) (l : List IOp) (fs : List Fr) (e : Env) (s : St) :
 GoCall T Q d dst w f args l fs e s ↔ GoR T Q d dst w (ofBoth (h args s)) l fs e s := by
 unfold GoCall
 have : ∀ n, callF T (evalN T n) f args s = ofBoth (h args s) := fun n => by simp only [callF, hf]
 constructor
 · rintro ⟨n, h⟩; rwa [this] at h
 · intro h; exact ⟨0, by rwa [this]⟩

def getIn : AV → Option In
 | .agg [.int .u8 a, .int .u8 b, .int .u8 c, .int .u8 d, .int .u8 e, .int .u8 f, .int .u8 g, .bool h, .bool i, .int .u16 j, .int .i64 k] => some ⟨a, b, c, d, e, f, g, h, i, j, k⟩
 | _ => none
def getFld : AV → Option Fld
 | .agg [.int .u8 a, .int .i64 b, .int .i64 c, .bool d, .bool e] => some ⟨a, b, c, d, e⟩
 | _ => none
theorem getIn_eq {v : AV} {i : In} (h : getIn v = some i) : v = .agg i.cells := by
 unfold getIn at h
 split at h
 · cases h; rfl
 · cases h
theorem getFld_eq {v : AV} {f : Fld} (h : getFld v = some f) : v = .agg f.cells := by
 unfold getFld at h
 split at h
 · cases h; rfl
 · cases h

/-- Every cell fits its kind. -/
def isI64 (n : Int) : Bool := decide (-9223372036854775808 ≤ n) && decide (n ≤ 9223372036854775807)
def In.ok (i : In) : Bool := isByte i.op && (isByte i.d && (isByte i.s && (isByte i.t && (isByte i.n && (isByte i.pred && (isByte i.mode && (decide (0 ≤ i.count) && (decide (i.count < 65536) && isI64 i.imm))))))))
def fldOk (f : Fld) : Bool := !decide (f.kind = 9) || decide ((f.bits, f.shift, f.signed) ∈ fitsKnown)

def atG (args : List AV) : Option AV := match args with
 | [.int .u8 op, .int .u8 kind] => match isByte op with
  | true => match atSpec kind (fieldsOf op) 24 with | (f, a, b) => some (.tuple [.agg f.cells, .int .i64 a, .bool b])
  | false => none
 | _ => none
def withoutG (args : List AV) : Option AV := match args with
 | [x, y] => match getIn x, getFld y with
  | some i, some f => some (.agg (withoutSpec i f).cells)
  | _, _ => none
 | _ => none
def holdsG (args : List AV) : Option AV := match args with
 | [x, y] => match getIn x, getFld y with
  | some i, some f => match isI64 i.imm && fldOk f with
   | true => some (.bool (holdsSpec i f))
   | false => none
  | _, _ => none
 | _ => none

theorem atG_ok {T : Tab} (hc : T 128 = some (.code ir128)) (hf : T 99 = some (.hook (litH rowG))) (args : List AV) (v : AV) (h : atG args = some v) :
 plain v = true ∧ ∀ s, WFS s → Ran T 128 args s fun v' s' => v' = v ∧ Ext s s' := by
 unfold atG at h
 split at h
 · rename_i op kind
   split at h
   · rename_i hb
     cases h
     exact ⟨rfl, fun s hs => at_ran hc hf s hs op kind hb⟩
   · cases h
 · cases h
theorem withoutG_ok {T : Tab} (hc : T 72 = some (.code ir72)) (args : List AV) (v : AV) (h : withoutG args = some v) :
 plain v = true ∧ ∀ s, WFS s → Ran T 72 args s fun v' s' => v' = v ∧ Ext s s' := by
 unfold withoutG at h
 split at h
 · split at h
   · rename_i i f hi hf
     rw [getIn_eq hi, getFld_eq hf]
     cases h
     exact ⟨rfl, fun s hs => without_ran hc s hs i f⟩
   · cases h
 · cases h
theorem holdsG_ok {T : Tab} (hc : T 73 = some (.code ir73)) (hf : T 101 = some (.code ir101)) (args : List AV) (v : AV) (h : holdsG args = some v) :
 plain v = true ∧ ∀ s, WFS s → Ran T 73 args s fun v' s' => v' = v ∧ Ext s s' := by
 unfold holdsG at h
 split at h
 · split at h
   · rename_i i f hi hf'
     rw [getIn_eq hi, getFld_eq hf']
     split at h
     · rename_i hk
       cases h
       simp only [isI64, fldOk, Bool.and_eq_true, decide_eq_true_eq, Bool.or_eq_true, Bool.not_eq_true', decide_eq_false_iff_not] at hk
       exact ⟨rfl, fun s hs => holds_ran hc hf s hs i f (fun h9 => hk.2.resolve_left (fun hn => hn h9)) hk.1.1 hk.1.2⟩
     · cases h
   · cases h
 · cases h

theorem atH_eq (op kind : Int) (s : St) (h : isByte op = true) : pureH atG [.int .u8 op, .int .u8 kind] s = some (.tuple [.agg (atSpec kind (fieldsOf op) 24).1.cells, .int .i64 (atSpec kind (fieldsOf op) 24).2.1, .bool (atSpec kind (fieldsOf op) 24).2.2], s) := by
 simp only [pureH, atG, h]
theorem withoutH_eq (i : In) (f : Fld) (s : St) : pureH withoutG [.agg i.cells, .agg f.cells] s = some (.agg (withoutSpec i f).cells, s) := rfl
theorem holdsH_eq (i : In) (f : Fld) (s : St) (h1 : isI64 i.imm = true) (h2 : fldOk f = true) : pureH holdsG [.agg i.cells, .agg f.cells] s = some (.bool (holdsSpec i f), s) := by
 have hi : getIn (.agg i.cells) = some i := rfl
 have hf : getFld (.agg f.cells) = some f := rfl
 simp only [pureH, holdsG, hi, hf, h1, h2, Bool.and_self]

def hasF (op kind : Int) : Bool := (fieldsOf op).any fun f => decide (f.kind = kind)
theorem atSpec_has (kind : Int) : ∀ (l : List Fld) (a : Int), (atSpec kind l a).2.2 = l.any fun f => decide (f.kind = kind)
 | [], a => rfl
 | f :: l, a => by
  simp only [atSpec, List.any_cons]
  by_cases h : f.kind = kind
  · simp [h]
  · simp [h, atSpec_has kind l]
section
variable {T : Tab}
theorem has_ran (hc : T 102 = some (.code ir102)) (hf : T 128 = some (.hook (pureH atG))) (s : St) (hs : WFS s) (i : In) (kind : Int) (hi : isByte i.op = true) :
 Ran T 102 [.agg i.cells, .int .u8 kind] s fun v s' => v = .bool (hasF i.op kind) ∧ Ext s s' := by
 refine ran_code hc (Nat.le_of_ble_eq_true rfl) ?_
 have h1 := goCall_hook hf
 simp only [ir102, In.cells, h1, atH_eq i.op kind _ hi, Fld.cells, wq, seval]
 exact ⟨by rw [atSpec_has]; rfl, by (repeat (first | exact Ext.refl hs | refine Ext.add ?_ _))⟩

def hasG (args : List AV) : Option AV := match args with
 | [x, .int .u8 kind] => match getIn x with
  | some i => match isByte i.op with
   | true => some (.bool (hasF i.op kind))
   | false => none
  | none => none
 | _ => none
theorem hasG_ok (hc : T 102 = some (.code ir102)) (hf : T 128 = some (.hook (pureH atG))) (args : List AV) (v : AV) (h : hasG args = some v) :
 plain v = true ∧ ∀ s, WFS s → Ran T 102 args s fun v' s' => v' = v ∧ Ext s s' := by
 unfold hasG at h
 split at h
 · split at h
   · rename_i i hi
     rw [getIn_eq hi]
     split at h
     · rename_i hb; cases h
       exact ⟨rfl, fun s hs => has_ran hc hf s hs i _ hb⟩
     · cases h
   · cases h
 · cases h
theorem hasH_eq (i : In) (kind : Int) (s : St) (h : isByte i.op = true) : pureH hasG [.agg i.cells, .int .u8 kind] s = some (.bool (hasF i.op kind), s) := by
 have hi : getIn (.agg i.cells) = some i := rfl
 simp only [pureH, hasG, hi, h]

theorem cond_ran (hc : T 74 = some (.code ir74)) (hf : T 102 = some (.hook (pureH hasG))) (s : St) (hs : WFS s) (i : In) (hi : isByte i.op = true) :
 Ran T 74 [.agg i.cells] s fun v s' => v = .bool (hasF i.op 1) ∧ Ext s s' := by
 refine ran_code hc (Nat.le_of_ble_eq_true rfl) ?_
 have h1 := goCall_hook hf
 have h2 := hasH_eq i
 simp only [In.cells] at h2
 simp only [ir74, In.cells, h1, h2, hi, wq, seval]
 (first | (refine ⟨rfl, ?_⟩; (repeat (first | exact Ext.refl hs | refine Ext.add ?_ _)); done) | ((repeat (first | exact Ext.refl hs | refine Ext.add ?_ _)); done))

def classF (op : Int) : Int := match isaRow op with | some r => r.cls | none => 0
theorem class_ran (hc : T 69 = some (.code ir69)) (hf : T 71 = some (.hook (litH rowG))) (s : St) (hs : WFS s) (i : In) (hi : isByte i.op = true) :
 Ran T 69 [.agg i.cells] s fun v s' => v = .int .u8 (classF i.op) ∧ Ext s s' := by
 refine ran_code hc (Nat.le_of_ble_eq_true rfl) ?_
 have h1 := goCall_hook hf
 simp only [ir69, In.cells, h1, litH, rowG, hi, rowAns, classF, wq, seval]
 cases hr : isaRow i.op with
 | none =>
  simp only [AV.sh, AV.shs, addAll, wq, seval]
  (first | (refine ⟨rfl, ?_⟩; (repeat (first | exact Ext.refl hs | refine Ext.add ?_ _)); done) | ((repeat (first | exact Ext.refl hs | refine Ext.add ?_ _)); done))
 | some r =>
  obtain ⟨nm, cl, sl, fs⟩ := r
  cases fs with
  | nil =>
   simp only [AV.sh, AV.shs, addAll, fldsV, fldsL, wq, seval]
   (first | (refine ⟨rfl, ?_⟩; (repeat (first | exact Ext.refl hs | refine Ext.add ?_ _)); done) | ((repeat (first | exact Ext.refl hs | refine Ext.add ?_ _)); done))
  | cons f0 fs0 =>
   simp only [AV.sh, AV.shs, addAll, fldsV, fldsL, AObj.sh, wq, seval]
   (first | (refine ⟨rfl, ?_⟩; (repeat (first | exact Ext.refl hs | refine Ext.add ?_ _)); done) | ((repeat (first | exact Ext.refl hs | refine Ext.add ?_ _)); done))

def condG (args : List AV) : Option AV := match args with
 | [x] => match getIn x with
  | some i => match isByte i.op with
   | true => some (.bool (hasF i.op 1))
   | false => none
  | none => none
 | _ => none
theorem condG_ok (hc : T 74 = some (.code ir74)) (hf : T 102 = some (.hook (pureH hasG))) (args : List AV) (v : AV) (h : condG args = some v) :
 plain v = true ∧ ∀ s, WFS s → Ran T 74 args s fun v' s' => v' = v ∧ Ext s s' := by
 unfold condG at h
 split at h
 · split at h
   · rename_i i hi
     rw [getIn_eq hi]
     split at h
     · rename_i hb; cases h
       exact ⟨rfl, fun s hs => cond_ran hc hf s hs i hb⟩
     · cases h
   · cases h
 · cases h
theorem condH_eq (i : In) (s : St) (h : isByte i.op = true) : pureH condG [.agg i.cells] s = some (.bool (hasF i.op 1), s) := by
 have hi : getIn (.agg i.cells) = some i := rfl
 simp only [pureH, condG, hi, h]
def classG (args : List AV) : Option AV := match args with
 | [x] => match getIn x with
  | some i => match isByte i.op with
   | true => some (.int .u8 (classF i.op))
   | false => none
  | none => none
 | _ => none
theorem classG_ok (hc : T 69 = some (.code ir69)) (hf : T 71 = some (.hook (litH rowG))) (args : List AV) (v : AV) (h : classG args = some v) :
 plain v = true ∧ ∀ s, WFS s → Ran T 69 args s fun v' s' => v' = v ∧ Ext s s' := by
 unfold classG at h
 split at h
 · split at h
   · rename_i i hi
     rw [getIn_eq hi]
     split at h
     · rename_i hb; cases h
       exact ⟨rfl, fun s hs => class_ran hc hf s hs i hb⟩
     · cases h
   · cases h
 · cases h
theorem classH_eq (i : In) (s : St) (h : isByte i.op = true) : pureH classG [.agg i.cells] s = some (.int .u8 (classF i.op), s) := by
 have hi : getIn (.agg i.cells) = some i := rfl
 simp only [pureH, classG, hi, h]

/- Right -/
def eqtIn : EqT := .agg [(0, 1, false, .prim .int), (1, 1, false, .prim .int), (2, 1, false, .prim .int), (3, 1, false, .prim .int), (4, 1, false, .prim .int), (5, 1, false, .prim .int), (6, 1, false, .prim .int), (7, 1, false, .prim .bool), (8, 1, false, .prim .bool), (9, 1, false, .prim .int), (10, 1, false, .prim .int)]
theorem eqIn (i j : In) : eqV eqtIn (.agg i.cells) (.agg j.cells) = some (decide (i = j)) := by
 obtain ⟨a1, a2, a3, a4, a5, a6, a7, a8, a9, a10, a11⟩ := i
 obtain ⟨b1, b2, b3, b4, b5, b6, b7, b8, b9, b10, b11⟩ := j
 simp only [eqtIn, eqV, eqParts, partAV, In.cells, List.getElem?_cons_succ, List.getElem?_cons_zero, primEq, if_true, In.mk.injEq]
 by_cases h1 : a1 = b1 <;> simp only [h1, decide_true, decide_false, true_and, false_and]
 by_cases h2 : a2 = b2 <;> simp only [h2, decide_true, decide_false, true_and, false_and]
 by_cases h3 : a3 = b3 <;> simp only [h3, decide_true, decide_false, true_and, false_and]
 by_cases h4 : a4 = b4 <;> simp only [h4, decide_true, decide_false, true_and, false_and]
 by_cases h5 : a5 = b5 <;> simp only [h5, decide_true, decide_false, true_and, false_and]
 by_cases h6 : a6 = b6 <;> simp only [h6, decide_true, decide_false, true_and, false_and]
 by_cases h7 : a7 = b7 <;> simp only [h7, decide_true, decide_false, true_and, false_and]
 by_cases h8 : a8 = b8 <;> by_cases h9 : a9 = b9 <;> by_cases h10 : a10 = b10 <;> by_cases h11 : a11 = b11 <;> simp [h8, h9, h10, h11]
theorem eqIn' (a1 a2 a3 a4 a5 a6 a7 : Int) (a8 a9 : Bool) (a10 a11 : Int) (b1 b2 b3 b4 b5 b6 b7 : Int) (b8 b9 : Bool) (b10 b11 : Int) : eqV (.agg [(0, 1, false, .prim .int), (1, 1, false, .prim .int), (2, 1, false, .prim .int), (3, 1, false, .prim .int), (4, 1, false, .prim .int), (5, 1, false, .prim .int), (6, 1, false, .prim .int), (7, 1, false, .prim .bool), (8, 1, false, .prim .bool), (9, 1, false, .prim .int), (10, 1, false, .prim .int)]) (.agg [.int .u8 a1, .int .u8 a2, .int .u8 a3, .int .u8 a4, .int .u8 a5, .int .u8 a6, .int .u8 a7, .bool a8, .bool a9, .int .u16 a10, .int .i64 a11]) (.agg [.int .u8 b1, .int .u8 b2, .int .u8 b3, .int .u8 b4, .int .u8 b5, .int .u8 b6, .int .u8 b7, .bool b8, .bool b9, .int .u16 b10, .int .i64 b11]) = some (decide ((⟨a1, a2, a3, a4, a5, a6, a7, a8, a9, a10, a11⟩ : In) = ⟨b1, b2, b3, b4, b5, b6, b7, b8, b9, b10, b11⟩)) := eqIn ⟨a1, a2, a3, a4, a5, a6, a7, a8, a9, a10, a11⟩ ⟨b1, b2, b3, b4, b5, b6, b7, b8, b9, b10, b11⟩
def leftF (i : In) (fs : List Fld) : In := fs.foldl withoutSpec i
def okF (i : In) (fs : List Fld) (b : Bool) : Bool := fs.foldl (fun b f => b && holdsSpec i f) b
def rightF (i : In) : Bool := okF i (fieldsOf i.op) (isaRow i.op).isSome && (decide (leftF { i with op := 0 } (fieldsOf i.op) = In.zero) && !(hasF i.op 1 && (decide (i.mode = 0) && !decide (i.pred = 0))))

theorem leftF_take (i : In) (fs : List Fld) (j : Nat) (h : j < fs.length) : leftF i (fs.take (j + 1)) = withoutSpec (leftF i (fs.take j)) fs[j] := by
 unfold leftF
 rw [List.take_succ_eq_append_getElem h, List.foldl_append]
 rfl
theorem okF_take (i : In) (fs : List Fld) (b : Bool) (j : Nat) (h : j < fs.length) : okF i (fs.take (j + 1)) b = (okF i (fs.take j) b && holdsSpec i fs[j]) := by
 unfold okF
 rw [List.take_succ_eq_append_getElem h, List.foldl_append]
 rfl
theorem isaRow_fldOk {op : Int} {r : IRow} (h : isaRow op = some r) : ∀ f ∈ r.fields, fldOk f = true := by
 have h1 : isaRows.all (fun r => r.fields.all fldOk) = true := by decide +kernel
 exact List.all_eq_true.1 (List.all_eq_true.1 h1 r (isaRow_mem h))

theorem right_tail (hcd : T 74 = some (.hook (pureH condG))) (K : AV → St → Prop) (i L : In) (ok : Bool) (hi : isByte i.op = true) (e : Env) (σ : St) (pi pl : Nat)
 (h4 : opd e (.t 4) = .bool ok) (h5 : opd e (.t 5) = .ptr ⟨pl, 0, 0, 11⟩) (h1 : opd e (.t 1) = .ptr ⟨pi, 0, 0, 11⟩) (ol : σ.heap.get pl = some (.cells L.cells 0 0 false)) (oi : σ.heap.get pi = some (.cells i.cells 0 0 false))
 (hK : K (.bool (ok && (decide (L = In.zero) && !(hasF i.op 1 && (decide (i.mode = 0) && !decide (i.pred = 0)))))) σ) :
 Ret T (Fin [.tmp 2] K) [.seq (.seq (.region [⟨some 33, none, [], (.move (.t 4))⟩, ⟨some 34, none, [], (.move (.t 33))⟩, ⟨some 35, some (34, true), [], (.load true 11 (.t 5))⟩, ⟨some 36, some (34, true), [], (.build [(.int .u8 0), (.int .u8 0), (.int .u8 0), (.int .u8 0), (.int .u8 0), (.int .u8 0), (.int .u8 0), (.bool false), (.bool false), (.int .u16 0), (.int .i64 0)] [])⟩, ⟨some 37, some (34, true), [], (.eq false (.agg [(0, 1, false, (.prim .int)), (1, 1, false, (.prim .int)), (2, 1, false, (.prim .int)), (3, 1, false, (.prim .int)), (4, 1, false, (.prim .int)), (5, 1, false, (.prim .int)), (6, 1, false, (.prim .int)), (7, 1, false, (.prim .bool)), (8, 1, false, (.prim .bool)), (9, 1, false, (.prim .int)), (10, 1, false, (.prim .int))]) (.t 35) (.t 36))⟩, ⟨some 38, none, [], (.pick (.t 34) (.t 37) (.c (.bool false)))⟩, ⟨some 39, none, [], (.move (.t 38))⟩, ⟨some 40, some (39, true), [], (.load true 11 (.t 1))⟩, ⟨some 41, some (39, true), [], (.call 74 [(.t 40)])⟩, ⟨some 42, some (39, true), [], (.move (.t 41))⟩, ⟨some 43, some (42, true), [], (.fieldAddr 6 (.t 1))⟩, ⟨some 44, some (42, true), [], (.load false 1 (.t 43))⟩, ⟨some 45, some (42, true), [], (.bin .eql (.t 44) (.c (.int .u8 0)))⟩, ⟨some 46, some (39, true), [], (.pick (.t 42) (.t 45) (.c (.bool false)))⟩, ⟨some 47, some (39, true), [], (.move (.t 46))⟩, ⟨some 48, some (47, true), [], (.fieldAddr 5 (.t 1))⟩, ⟨some 49, some (47, true), [], (.load false 1 (.t 48))⟩, ⟨some 50, some (47, true), [], (.bin .neq (.t 49) (.c (.int .u8 0)))⟩, ⟨some 51, some (39, true), [], (.pick (.t 47) (.t 50) (.c (.bool false)))⟩, ⟨some 52, some (39, true), [], (.un .not (.t 51))⟩, ⟨some 53, none, [], (.pick (.t 39) (.t 52) (.c (.bool false)))⟩, ⟨some 2, none, [], (.move (.t 53))⟩] false) .ret)] .normal e σ := by
 have k4 := goCall_hook hcd
 have q4 := condH_eq i
 simp only [In.cells] at q4
 generalize hQ : Fin _ _ = Q
 obtain ⟨l1, l2, l3, l4, l5, l6, l7, l8, l9, l10, l11⟩ := L
 simp only [h4, h5, h1, ol, oi, In.cells, eqIn', k4, q4, hi, wq, seval]
 repeat' ((first | refine goC_split (fun h => ?_) (fun h => ?_) | refine goG_split_t (fun h => ?_) (fun h => ?_) | refine goG_split_f (fun h => ?_) (fun h => ?_)) <;> (try simp only [Bool.not_eq_true', Bool.not_eq_false'] at h) <;> (try simp only [h, h4, h5, h1, ol, oi, In.cells, eqIn', k4, q4, hi, wq, seval]))
 all_goals subst hQ
 all_goals simp only [wq, seval]
 all_goals clear k4 q4
 all_goals refine cast (congrArg (fun b => K (AV.bool b) σ) ?_) hK
 all_goals simp_all [In.zero]
theorem right_loop (hcd : T 74 = some (.hook (pureH condG))) (hw : T 72 = some (.hook (pureH withoutG))) (hh : T 73 = some (.hook (pureH holdsG))) (s : St) (i : In) (hi : isByte i.op = true) (him : isI64 i.imm = true) (fs : List Fld) (hfs : ∀ f ∈ fs, fldOk f = true) (hn : fs.length < 1000) (ok0 : Bool) (pi pl fid : Nat) (hpi : s.next ≤ pi) (hpl : s.next ≤ pl) (hpil : pi ≠ pl) (hpf : fid ≠ pl) :
 ∀ (k j : Nat) (e : Env) (σ : St), k + j = fs.length → opd e (.t 4) = .bool (okF i (fs.take j) ok0) → opd e (.t 5) = .ptr ⟨pl, 0, 0, 11⟩ → opd e (.t 1) = .ptr ⟨pi, 0, 0, 11⟩ → opd e (.t 18) = .int .i64 fs.length → opd e (.t 19) = .int .i64 j →
  (0 < fs.length → opd e (.t 17) = .slice ⟨fid, 0, 0, 5 * fs.length⟩ fs.length fs.length false 5 ∧ fid < σ.next ∧ σ.heap.get fid = some (.cells (fs.flatMap Fld.cells) 0 0 false)) →
  pi < σ.next → pl < σ.next → σ.heap.get pl = some (.cells (leftF { i with op := 0 } (fs.take j)).cells 0 0 false) → σ.heap.get pi = some (.cells i.cells 0 0 false) → Ext s σ →
  Go T (Fin [.tmp 2] fun v s' => v = .bool (okF i fs ok0 && (decide (leftF { i with op := 0 } fs = In.zero) && !(hasF i.op 1 && (decide (i.mode = 0) && !decide (i.pred = 0))))) ∧ Ext s s') (.loop (.seq (.region [⟨some 20, none, [], (.bin .lss (.t 19) (.t 18))⟩] false) (.seq (.cond (.t 20) .skip (.exit 0)) (.seq (.block 1 (.seq (.region [⟨some 21, none, [], (.idxSl 5 (.t 17) (.t 19))⟩, ⟨some 22, none, [], (.load true 5 (.t 21))⟩, ⟨some 7, none, [], (.alloc [(.int .u8 0), (.int .i64 0), (.int .i64 0), (.bool false), (.bool false)])⟩, ⟨none, none, [], (.store 5 (.t 7) (.t 22))⟩] false) (.seq (.region [⟨some 23, none, [], (.load true 11 (.t 5))⟩, ⟨some 24, none, [], (.load true 5 (.t 7))⟩, ⟨some 25, none, [], (.call 72 [(.t 23), (.t 24)])⟩, ⟨none, none, [], (.store 11 (.t 5) (.t 25))⟩] false) (.region [⟨some 26, none, [], (.move (.t 4))⟩, ⟨some 27, none, [], (.move (.t 26))⟩, ⟨some 28, some (27, true), [], (.load true 11 (.t 1))⟩, ⟨some 29, some (27, true), [], (.load true 5 (.t 7))⟩, ⟨some 30, some (27, true), [], (.call 73 [(.t 28), (.t 29)])⟩, ⟨some 31, none, [], (.pick (.t 27) (.t 30) (.c (.bool false)))⟩, ⟨some 4, none, [], (.move (.t 31))⟩] false)))) (.region [⟨some 32, none, [], (.bin .add (.t 19) (.c (.int .i64 1)))⟩, ⟨some 19, none, [], (.move (.t 32))⟩] false))))) [.block 0, .seq (.seq (.region [⟨some 33, none, [], (.move (.t 4))⟩, ⟨some 34, none, [], (.move (.t 33))⟩, ⟨some 35, some (34, true), [], (.load true 11 (.t 5))⟩, ⟨some 36, some (34, true), [], (.build [(.int .u8 0), (.int .u8 0), (.int .u8 0), (.int .u8 0), (.int .u8 0), (.int .u8 0), (.int .u8 0), (.bool false), (.bool false), (.int .u16 0), (.int .i64 0)] [])⟩, ⟨some 37, some (34, true), [], (.eq false (.agg [(0, 1, false, (.prim .int)), (1, 1, false, (.prim .int)), (2, 1, false, (.prim .int)), (3, 1, false, (.prim .int)), (4, 1, false, (.prim .int)), (5, 1, false, (.prim .int)), (6, 1, false, (.prim .int)), (7, 1, false, (.prim .bool)), (8, 1, false, (.prim .bool)), (9, 1, false, (.prim .int)), (10, 1, false, (.prim .int))]) (.t 35) (.t 36))⟩, ⟨some 38, none, [], (.pick (.t 34) (.t 37) (.c (.bool false)))⟩, ⟨some 39, none, [], (.move (.t 38))⟩, ⟨some 40, some (39, true), [], (.load true 11 (.t 1))⟩, ⟨some 41, some (39, true), [], (.call 74 [(.t 40)])⟩, ⟨some 42, some (39, true), [], (.move (.t 41))⟩, ⟨some 43, some (42, true), [], (.fieldAddr 6 (.t 1))⟩, ⟨some 44, some (42, true), [], (.load false 1 (.t 43))⟩, ⟨some 45, some (42, true), [], (.bin .eql (.t 44) (.c (.int .u8 0)))⟩, ⟨some 46, some (39, true), [], (.pick (.t 42) (.t 45) (.c (.bool false)))⟩, ⟨some 47, some (39, true), [], (.move (.t 46))⟩, ⟨some 48, some (47, true), [], (.fieldAddr 5 (.t 1))⟩, ⟨some 49, some (47, true), [], (.load false 1 (.t 48))⟩, ⟨some 50, some (47, true), [], (.bin .neq (.t 49) (.c (.int .u8 0)))⟩, ⟨some 51, some (39, true), [], (.pick (.t 47) (.t 50) (.c (.bool false)))⟩, ⟨some 52, some (39, true), [], (.un .not (.t 51))⟩, ⟨some 53, none, [], (.pick (.t 39) (.t 52) (.c (.bool false)))⟩, ⟨some 2, none, [], (.move (.t 53))⟩] false) .ret)] e σ := by
 intro k
 induction k with
 | zero =>
  intro j e σ hj h4 h5 h1 h18 h19 h17 hlpi hlpl ol oi hx
  have hjj : j = fs.length := by omega
  subst hjj
  have hlt : ¬ ((fs.length : Int) < (fs.length : Int)) := by omega
  rw [List.take_length] at h4 ol
  generalize hQ : Fin _ _ = Q
  simp only [go_loop, h18, h19, hlt, wq, seval]
  subst hQ
  have := right_tail hcd (fun v s' => v = .bool (okF i fs ok0 && (decide (leftF { i with op := 0 } fs = In.zero) && !(hasF i.op 1 && (decide (i.mode = 0) && !decide (i.pred = 0))))) ∧ Ext s s') i (leftF { i with op := 0 } fs) (okF i fs ok0) hi (e.set 20 (.bool false)) σ pi pl (by simp only [h4, wq, seval]) (by simp only [h5, wq, seval]) (by simp only [h1, wq, seval]) ol oi ⟨rfl, hx⟩
  simp only [wq, seval] at this
  exact this
 | succ k ih =>
  intro j e σ hj h4 h5 h1 h18 h19 h17 hlpi hlpl ol oi hx
  have hlt : ((j : Int) < (fs.length : Int)) := by omega
  have hj' : j < fs.length := by omega
  obtain ⟨h17, hfσ, ofi⟩ := h17 (by omega)
  have hrd : j * 5 + 5 ≤ 5 * fs.length := by omega
  have hfl : List.take 5 (List.drop (j * 5) (List.flatMap Fld.cells fs)) = fs[j].cells := flat_at Fld.len fs j hj'
  have hok := hfs fs[j] (List.getElem_mem hj')
  have k2 := goCall_hook hw
  have k3 := goCall_hook hh
  have q2 := withoutH_eq
  have q3 := fun s => holdsH_eq i fs[j] s him hok
  have n1 : ¬ (pl = σ.next) := by omega
  have n2 : ¬ (pi = σ.next) := by omega
  have n3 : ¬ (σ.next = pl) := by omega
  have n4 : ¬ (fid = σ.next) := by omega
  have n5 : ¬ (pl = pi) := fun h => hpil h.symm
  generalize hL : leftF { i with op := 0 } (fs.take j) = L at *
  generalize hO : okF i (fs.take j) ok0 = ok at *
  simp only [In.cells, Fld.cells] at q2 q3 ol oi hfl
  generalize hQ : Fin _ _ = Q at *
  simp only [go_loop, h4, h5, h1, h18, h19, h17, hlt, hj', hrd, hfl, ol, oi, ofi, n1, n2, n3, n4, n5, hpil, hpf, Fld.cells, In.cells, k2, k3, q2, q3, wq, seval]
  refine goG_split_t (fun h => ?_) (fun h => ?_)
  all_goals simp only [h, h4, h5, h1, h18, h19, h17, hlt, hj', hrd, hfl, ol, oi, ofi, n1, n2, n3, n4, n5, hpil, hpf, Fld.cells, In.cells, k2, k3, q2, q3, wq, seval]
  all_goals refine ih (j + 1) _ _ (by omega) ?_ ?_ ?_ ?_ ?_ ?_ ?_ ?_ ?_ ?_ ?_
  all_goals (try rw [okF_take _ _ _ _ hj', hO, h])
  all_goals (try rw [leftF_take _ _ _ hj', hL])
  all_goals (try simp only [h4, h5, h1, h18, h19, h17, hlt, hj', hrd, hfl, ol, oi, ofi, n1, n2, n3, n4, n5, hpil, hpf, Fld.cells, In.cells, k2, k3, q2, q3, wq, seval])
  all_goals first
   | rfl
   | (rw [wrap_i64 _ (by omega) (by omega)]; rfl)
   | omega
   | exact (hx.put hpl hlpl _).add _
theorem right_ran (hc : T 43 = some (.code ir43)) (hof : T 71 = some (.hook (litH rowG))) (hw : T 72 = some (.hook (pureH withoutG))) (hh : T 73 = some (.hook (pureH holdsG)))
 (hcd : T 74 = some (.hook (pureH condG))) (s : St) (hs : WFS s) (i : In) (hi : isByte i.op = true) (him : isI64 i.imm = true) :
 Ran T 43 [.agg i.cells] s fun v s' => v = .bool (rightF i) ∧ Ext s s' := by
 refine ran_code hc (Nat.le_of_ble_eq_true rfl) ?_
 have k1 := goCall_hook hof
 have key := fun fs h1 h2 ok0 pi pl fid a b c d e σ => right_loop hcd hw hh s i hi him fs h1 h2 ok0 pi pl fid a b c d fs.length 0 e σ (by omega)
 unfold rightF fieldsOf
 cases hr : isaRow i.op with
 | none =>
  have key := key [] (by simp) (by simp) false s.next (s.next + 2) 0 (by omega) (by omega) (by omega) (by omega)
  generalize hQ : Fin _ _ = Q
  simp only [ir43, In.cells, k1, litH, rowG, hi, rowAns, hr, AV.sh, AV.shs, addAll, wq, seval]
  subst hQ
  refine key _ _ ?_ ?_ ?_ ?_ ?_ ?_ ?_ ?_ ?_ ?_ ?_
  all_goals (try simp only [okF, leftF, List.take_nil, List.foldl, In.cells, wq, seval])
  all_goals first | rfl | omega | ((repeat (first | exact Ext.refl hs | refine Ext.add ?_ _)); done) | (intro h; exact absurd h (by decide))
 | some r =>
  obtain ⟨nm, cl, sl, fs⟩ := r
  have hok := isaRow_fldOk hr
  have hn := isaRow_len hr
  cases fs with
  | nil =>
   have key := key [] (by simp) (by simp) true s.next (s.next + 2) 0 (by omega) (by omega) (by omega) (by omega)
   generalize hQ : Fin _ _ = Q
   simp only [ir43, In.cells, k1, litH, rowG, hi, rowAns, hr, AV.sh, AV.shs, addAll, fldsV, fldsL, wq, seval]
   subst hQ
   refine key _ _ ?_ ?_ ?_ ?_ ?_ ?_ ?_ ?_ ?_ ?_ ?_
   all_goals (try simp only [okF, leftF, List.take_nil, List.foldl, In.cells, wq, seval])
   all_goals first | rfl | omega | ((repeat (first | exact Ext.refl hs | refine Ext.add ?_ _)); done) | (intro h; exact absurd h (by decide))
  | cons f0 fs0 =>
   have key := key (f0 :: fs0) hok hn true s.next (s.next + 3) (s.next + 1) (by omega) (by omega) (by omega) (by omega)
   generalize hQ : Fin _ _ = Q
   simp only [ir43, In.cells, k1, litH, rowG, hi, rowAns, hr, AV.sh, AV.shs, addAll, fldsV, fldsL, AObj.sh, wq, seval]
   subst hQ
   refine key _ _ ?_ ?_ ?_ ?_ ?_ ?_ ?_ ?_ ?_ ?_ ?_
   all_goals (try simp only [okF, leftF, List.take_zero, List.foldl, In.cells, wq, seval])
   all_goals first | rfl | omega | ((repeat (first | exact Ext.refl hs | refine Ext.add ?_ _)); done) | (intro h; exact absurd h (by decide)) | (intro h; exact ⟨by omega, by rw [plains_sh (plains_flatMap Fld.plain (f0 :: fs0))]⟩)
end
end Go.V
/- inst: Writes, WritesPred, ReadsPred, Target, Reads. -/
namespace Go.V
open Go
set_option linter.unusedSimpArgs false
set_option linter.unusedVariables false
open Z in def ir80 : IFunc := ⟨18,[.tmp 2,.tmp 3],(q (R [(o 1 (.box t0)),(o 2 (.move (B 0))),(o 3 (.move F))]) (q (.block 0 (q (R [(la 5 11 1),(o 6 (.call 43 [t5])),(o 7 (.un .not t6)),(m 4 7)]) (.cond t4 (q (R [(o 2 (.move (B 0))),(o 3 (.move F))]) .ret) (q (R [(f 9 0 1),(l 10 1 9),(o 11 (.bin .eql t10 (B 29))),(m 8 11)]) (.cond t8 (q (R [(o 2 (.move (B 31))),(o 3 (.move T))]) .ret) (q (R [(la 13 11 1),(o 14 (.call 102 [t13,(B 3)])),(o 15 (.un .not t14)),(m 12 15)]) (.cond t12 (q (R [(o 2 (.move (B 0))),(o 3 (.move F))]) .ret) .skip))))))) (q (R [(f 16 1 1),(l 17 1 16),(m 2 17),(o 3 (.move T))]) .ret)))⟩
open Z in def ir79 : IFunc := ⟨14,[.tmp 2,.tmp 3],(q (R [(o 1 (.box t0)),(o 2 (.move (B 0))),(o 3 (.move F))]) (q (q (R [(la 4 11 1),(o 5 (.call 43 [t4])),(o 6 (.un .not t5)),(m 7 6),(og 8 7 false (.load true 11 t1)),(og 9 7 false (.call 102 [t8,(B 4)])),(og 10 7 false (.un .not t9)),(o 11 (.pick t7 T t10))]) (.cond t11 (q (R [(o 2 (.move (B 0))),(o 3 (.move F))]) .ret) .skip)) (q (R [(f 12 1 1),(l 13 1 12),(m 2 13),(o 3 (.move T))]) .ret)))⟩
open Z in def ir77 : IFunc := ⟨23,[.tmp 2,.tmp 3,.tmp 4],(q (R [(o 1 (.box t0)),(o 2 (.move (B 0))),(o 3 (.move F)),(o 4 (.move F))]) (q (q (R [(la 5 11 1),(o 6 (.call 43 [t5])),(o 7 (.un .not t6)),(m 8 7),(og 9 8 false (.fieldAddr 0 t1)),(og 10 8 false (.load false 1 t9)),(og 11 8 false (.bin .neq t10 (B 14))),(og 12 8 false (.move t11)),(og 13 12 true (.fieldAddr 6 t1)),(og 14 12 true (.load false 1 t13)),(og 15 12 true (.bin .eql t14 (B 0))),(og 16 8 false (.pick t12 t15 F)),(o 17 (.pick t8 T t16))]) (.cond t17 (q (R [(o 2 (.move (B 0))),(o 3 (.move F)),(o 4 (.move F))]) .ret) .skip)) (q (.region [(f 18 5 1),(l 19 1 18),(f 20 6 1),(l 21 1 20),(o 22 (.bin .geq t21 (B 3))),(m 2 19),(m 3 22),(o 4 (.move T))] true) .ret)))⟩

def okI (i : In) : Bool := isByte i.op && isI64 i.imm
def inF (r : In → AV) (args : List AV) : Option AV := match args with
 | [x] => match getIn x with
  | some i => match okI i with
   | true => some (r i)
   | false => none
  | none => none
 | _ => none
theorem inF_ok {T : Tab} {f : FuncId} {r : In → AV} (hp : ∀ i, plain (r i) = true) (h : ∀ s, WFS s → ∀ i, okI i = true → Ran T f [.agg i.cells] s fun v s' => v = r i ∧ Ext s s') (args : List AV) (v : AV) (hv : inF r args = some v) :
 plain v = true ∧ ∀ s, WFS s → Ran T f args s fun v' s' => v' = v ∧ Ext s s' := by
 unfold inF at hv
 split at hv
 · split at hv
   · rename_i i hi
     rw [getIn_eq hi]
     split at hv
     · rename_i hb; cases hv
       exact ⟨hp i, fun s hs => h s hs i hb⟩
     · cases hv
   · cases hv
 · cases hv
theorem inF_eq (r : In → AV) (i : In) (s : St) (h : okI i = true) : pureH (inF r) [.agg i.cells] s = some (r i, s) := by
 have hi : getIn (.agg i.cells) = some i := rfl
 simp only [pureH, inF, hi, h]

def rightR (i : In) : AV := .bool (rightF i)
def writesF (i : In) : Int × Bool := if rightF i = true then (if i.op = 29 then (31, true) else if hasF i.op 3 = true then (i.d, true) else (0, false)) else (0, false)
def writesR (i : In) : AV := .tuple [.int .u8 (writesF i).1, .bool (writesF i).2]
def writesPredF (i : In) : Int × Bool := if rightF i = true ∧ hasF i.op 4 = true then (i.d, true) else (0, false)
def writesPredR (i : In) : AV := .tuple [.int .u8 (writesPredF i).1, .bool (writesPredF i).2]
def readsPredF (i : In) : Int × Bool × Bool := if rightF i = true ∧ ¬ (i.op ≠ 14 ∧ i.mode = 0) then (i.pred, decide (3 ≤ i.mode), true) else (0, false, false)
def readsPredR (i : In) : AV := .tuple [.int .u8 (readsPredF i).1, .bool (readsPredF i).2.1, .bool (readsPredF i).2.2]
def targetF (i : In) : Int × Bool := if rightF i = true ∧ hasF i.op 10 = true then (i.imm % 4294967296, true) else (0, false)
def targetR (i : In) : AV := .tuple [.int .u32 (targetF i).1, .bool (targetF i).2]

section
variable {T : Tab}
theorem writes_ran (hc : T 80 = some (.code ir80)) (hr : T 43 = some (.hook (pureH (inF rightR)))) (hh : T 102 = some (.hook (pureH hasG))) (s : St) (hs : WFS s) (i : In) (hi : okI i = true) :
 Ran T 80 [.agg i.cells] s fun v s' => v = writesR i ∧ Ext s s' := by
 refine ran_code hc (Nat.le_of_ble_eq_true rfl) ?_
 have k1 := goCall_hook hr
 have k2 := goCall_hook hh
 have q1 := fun s => inF_eq rightR i s hi
 have q2 := hasH_eq i
 have hb : isByte i.op = true := by simp only [okI, Bool.and_eq_true] at hi; exact hi.1
 simp only [In.cells, rightR] at q1 q2
 generalize hQ : Fin _ _ = Q
 simp only [ir80, In.cells, k1, k2, q1, q2, hb, wq, seval]
 repeat' ((first | refine goC_split (fun h => ?_) (fun h => ?_) | refine goG_split_t (fun h => ?_) (fun h => ?_) | refine goG_split_f (fun h => ?_) (fun h => ?_)) <;> (try simp only [Bool.not_eq_true', Bool.not_eq_false'] at h) <;> (try simp only [h, In.cells, k1, k2, q1, q2, hb, wq, seval]))
 all_goals subst hQ
 all_goals clear k1 k2 q1 q2
 all_goals simp only [ir80, wq, seval]
 all_goals refine ⟨?_, by (repeat (first | exact Ext.refl hs | refine Ext.add ?_ _))⟩
 all_goals simp_all [writesR, writesF]
theorem writesPred_ran (hc : T 79 = some (.code ir79)) (hr : T 43 = some (.hook (pureH (inF rightR)))) (hh : T 102 = some (.hook (pureH hasG))) (s : St) (hs : WFS s) (i : In) (hi : okI i = true) :
 Ran T 79 [.agg i.cells] s fun v s' => v = writesPredR i ∧ Ext s s' := by
 refine ran_code hc (Nat.le_of_ble_eq_true rfl) ?_
 have k1 := goCall_hook hr
 have k2 := goCall_hook hh
 have q1 := fun s => inF_eq rightR i s hi
 have q2 := hasH_eq i
 have hb : isByte i.op = true := by simp only [okI, Bool.and_eq_true] at hi; exact hi.1
 simp only [In.cells, rightR] at q1 q2
 generalize hQ : Fin _ _ = Q
 simp only [ir79, In.cells, k1, k2, q1, q2, hb, wq, seval]
 repeat' ((first | refine goC_split (fun h => ?_) (fun h => ?_) | refine goG_split_t (fun h => ?_) (fun h => ?_) | refine goG_split_f (fun h => ?_) (fun h => ?_)) <;> (try simp only [Bool.not_eq_true', Bool.not_eq_false'] at h) <;> (try simp only [h, In.cells, k1, k2, q1, q2, hb, wq, seval]))
 all_goals subst hQ
 all_goals clear k1 k2 q1 q2
 all_goals simp only [ir79, wq, seval]
 all_goals refine ⟨?_, by (repeat (first | exact Ext.refl hs | refine Ext.add ?_ _))⟩
 all_goals simp_all [writesPredR, writesPredF]
theorem readsPred_ran (hc : T 77 = some (.code ir77)) (hr : T 43 = some (.hook (pureH (inF rightR)))) (hh : T 102 = some (.hook (pureH hasG))) (s : St) (hs : WFS s) (i : In) (hi : okI i = true) :
 Ran T 77 [.agg i.cells] s fun v s' => v = readsPredR i ∧ Ext s s' := by
 refine ran_code hc (Nat.le_of_ble_eq_true rfl) ?_
 have k1 := goCall_hook hr
 have k2 := goCall_hook hh
 have q1 := fun s => inF_eq rightR i s hi
 have q2 := hasH_eq i
 have hb : isByte i.op = true := by simp only [okI, Bool.and_eq_true] at hi; exact hi.1
 simp only [In.cells, rightR] at q1 q2
 generalize hQ : Fin _ _ = Q
 simp only [ir77, In.cells, k1, k2, q1, q2, hb, wq, seval]
 repeat' ((first | refine goC_split (fun h => ?_) (fun h => ?_) | refine goG_split_t (fun h => ?_) (fun h => ?_) | refine goG_split_f (fun h => ?_) (fun h => ?_)) <;> (try simp only [Bool.not_eq_true', Bool.not_eq_false'] at h) <;> (try simp only [h, In.cells, k1, k2, q1, q2, hb, wq, seval]))
 all_goals subst hQ
 all_goals clear k1 k2 q1 q2
 all_goals simp only [ir77, wq, seval]
 all_goals refine ⟨?_, by (repeat (first | exact Ext.refl hs | refine Ext.add ?_ _))⟩
 all_goals simp_all [readsPredR, readsPredF]
end
end Go.V
/- THE TOWER OF HOOKS up to inst's functions. -/
namespace Go.V
open Go
set_option linter.unusedSimpArgs false
set_option linter.unusedVariables false
set_option linter.unusedSectionVars false
noncomputable def ofCode1 : List (Nat × FnImp) := [(99, .hook (litH rowG)), (71, .code ir71), (100, .code ir100)]
theorem of_ev : allBelow (fun n => compAuto (callF (tabL ofCode1) (evalF (tabL ofCode1) 100) 71 [.int .u8 (.ofNat n)] s0) (rowAns (.ofNat n)).1 (rowAns (.ofNat n)).2) 256 = true := by kernel_rfl
def instCode : List (Nat × FnImp) := isaCode ++ [(99, .code ir99), (71, .code ir71), (128, .code ir128), (101, .code ir101), (72, .code ir72), (73, .code ir73), (102, .code ir102), (74, .code ir74), (69, .code ir69), (43, .code ir43), (80, .code ir80), (79, .code ir79), (77, .code ir77)]

noncomputable def t_at : List (Nat × FnImp) := [(99, .hook (litH rowG)), (128, .code ir128)]
noncomputable def t_without : List (Nat × FnImp) := [(72, .code ir72)]
noncomputable def t_holds : List (Nat × FnImp) := [(73, .code ir73), (101, .code ir101)]
noncomputable def t_has : List (Nat × FnImp) := [(128, .hook (pureH atG)), (102, .code ir102)]
noncomputable def t_cond : List (Nat × FnImp) := [(102, .hook (pureH hasG)), (74, .code ir74)]
noncomputable def t_class : List (Nat × FnImp) := [(71, .hook (litH rowG)), (69, .code ir69)]
noncomputable def t_right : List (Nat × FnImp) := [(71, .hook (litH rowG)), (72, .hook (pureH withoutG)), (73, .hook (pureH holdsG)), (74, .hook (pureH condG)), (43, .code ir43)]
noncomputable def t_writes : List (Nat × FnImp) := [(43, .hook (pureH (inF rightR))), (102, .hook (pureH hasG)), (80, .code ir80)]
noncomputable def t_writesPred : List (Nat × FnImp) := [(43, .hook (pureH (inF rightR))), (102, .hook (pureH hasG)), (79, .code ir79)]
noncomputable def t_readsPred : List (Nat × FnImp) := [(43, .hook (pureH (inF rightR))), (102, .hook (pureH hasG)), (77, .code ir77)]
section
variable {P : Prog} (hm : P.follows .mixedOrders = true) (hG : P.G = []) (ok : AllOk P instCode)

theorem e_code (ok : AllOk P instCode) {n : Nat} {ir : IFunc} (h : lookT n instCode = some (.code ir)) : EntryOk2 P n (.code ir) := .old (ok.get h)
include hm hG ok
theorem fine_isa : TabFine P (tabL isaCode) := AllOk2.fine (.cons (e_code ok rfl) (.cons (e_code ok rfl) (.cons (e_code ok rfl) (.cons (e_code ok rfl) (.cons (e_code ok rfl) (.cons (e_code ok rfl) (.cons (e_code ok rfl) (.cons (e_code ok rfl) (.cons (e_code ok rfl) (.cons (e_code ok rfl) (.cons (e_code ok rfl) (.cons (e_code ok rfl) (.cons (e_code ok rfl) (.cons (e_code ok rfl) (.nil)))))))))))))))
theorem h_table : EntryOk2 P 127 (.hook (litH tableG)) := by
 refine EntryOk2.lit hm hG (fine_isa hm hG ok) 300 _ _ fun args v l h => ?_
 unfold tableG at h
 split at h
 · cases h; exact ⟨rfl, _, isaTab_ev⟩
 · cases h
theorem fine_find : TabFine P (tabL isaCode1) := AllOk2.fine (.cons (h_table hm hG ok) (.cons (e_code ok rfl) .nil))
omit hm hG ok in
theorem row_rows {T : Tab} {rec : Rec} {f : Nat} (h : allBelow (fun n => compAuto (callF T rec f [.int .u8 (.ofNat n)] s0) (rowAns (.ofNat n)).1 (rowAns (.ofNat n)).2) 256 = true) (args : List AV) (v : AV) (l : List AObj) (hg : rowG args = some (v, l)) : args.all scalar = true ∧ ∃ ks, compOk (callF T rec f args s0) ks v l = true := by
 unfold rowG at hg
 split at hg
 · rename_i op
   split at hg
   · rename_i hb
     cases op with
     | ofNat n =>
      have hn : n < 256 := by simpa [isByte, Nat.blt_eq] using hb
      have e : rowAns (.ofNat n) = (v, l) := Option.some.inj hg
      have := allBelow_get h n hn
      simp only [e] at this
      exact ⟨rfl, _, this⟩
     | negSucc n => simp [isByte] at hb
   · cases hg
 · cases hg
theorem h_find : EntryOk2 P 99 (.hook (litH rowG)) := EntryOk2.lit hm hG (fine_find hm hG ok) 100 _ _ (row_rows find_ev)
theorem fine_of : TabFine P (tabL ofCode1) := AllOk2.fine (.cons (h_find hm hG ok) (.cons (e_code ok rfl) (.cons (e_code ok rfl) .nil)))
theorem h_of : EntryOk2 P 71 (.hook (litH rowG)) := EntryOk2.lit hm hG (fine_of hm hG ok) 100 _ _ (row_rows of_ev)
theorem fine_at : TabFine P (tabL t_at) := AllOk2.fine (.cons (h_find hm hG ok) (.cons (e_code ok rfl) (.nil)))
theorem h_at : EntryOk2 P 128 (.hook (pureH atG)) := EntryOk2.pure hm (fine_at hm hG ok) _ _ (atG_ok rfl rfl)
theorem fine_without : TabFine P (tabL t_without) := AllOk2.fine (.cons (e_code ok rfl) (.nil))
theorem h_without : EntryOk2 P 72 (.hook (pureH withoutG)) := EntryOk2.pure hm (fine_without hm hG ok) _ _ (withoutG_ok rfl)
theorem fine_holds : TabFine P (tabL t_holds) := AllOk2.fine (.cons (e_code ok rfl) (.cons (e_code ok rfl) (.nil)))
theorem h_holds : EntryOk2 P 73 (.hook (pureH holdsG)) := EntryOk2.pure hm (fine_holds hm hG ok) _ _ (holdsG_ok rfl rfl)
theorem fine_has : TabFine P (tabL t_has) := AllOk2.fine (.cons (h_at hm hG ok) (.cons (e_code ok rfl) (.nil)))
theorem h_has : EntryOk2 P 102 (.hook (pureH hasG)) := EntryOk2.pure hm (fine_has hm hG ok) _ _ (hasG_ok rfl rfl)
theorem fine_cond : TabFine P (tabL t_cond) := AllOk2.fine (.cons (h_has hm hG ok) (.cons (e_code ok rfl) (.nil)))
theorem h_cond : EntryOk2 P 74 (.hook (pureH condG)) := EntryOk2.pure hm (fine_cond hm hG ok) _ _ (condG_ok rfl rfl)
theorem fine_class : TabFine P (tabL t_class) := AllOk2.fine (.cons (h_of hm hG ok) (.cons (e_code ok rfl) (.nil)))
theorem h_class : EntryOk2 P 69 (.hook (pureH classG)) := EntryOk2.pure hm (fine_class hm hG ok) _ _ (classG_ok rfl rfl)
theorem fine_right : TabFine P (tabL t_right) := AllOk2.fine (.cons (h_of hm hG ok) (.cons (h_without hm hG ok) (.cons (h_holds hm hG ok) (.cons (h_cond hm hG ok) (.cons (e_code ok rfl) (.nil))))))
theorem h_right : EntryOk2 P 43 (.hook (pureH (inF rightR))) := EntryOk2.pure hm (fine_right hm hG ok) _ _ (inF_ok (fun _ => rfl) fun s hs i hi => right_ran rfl rfl rfl rfl rfl s hs i (by simp only [okI, Bool.and_eq_true] at hi; exact hi.1) (by simp only [okI, Bool.and_eq_true] at hi; exact hi.2))
theorem fine_writes : TabFine P (tabL t_writes) := AllOk2.fine (.cons (h_right hm hG ok) (.cons (h_has hm hG ok) (.cons (e_code ok rfl) (.nil))))
theorem h_writes : EntryOk2 P 80 (.hook (pureH (inF writesR))) := EntryOk2.pure hm (fine_writes hm hG ok) _ _ (inF_ok (fun _ => rfl) fun s hs i hi => writes_ran rfl rfl rfl s hs i hi)
theorem fine_writesPred : TabFine P (tabL t_writesPred) := AllOk2.fine (.cons (h_right hm hG ok) (.cons (h_has hm hG ok) (.cons (e_code ok rfl) (.nil))))
theorem h_writesPred : EntryOk2 P 79 (.hook (pureH (inF writesPredR))) := EntryOk2.pure hm (fine_writesPred hm hG ok) _ _ (inF_ok (fun _ => rfl) fun s hs i hi => writesPred_ran rfl rfl rfl s hs i hi)
theorem fine_readsPred : TabFine P (tabL t_readsPred) := AllOk2.fine (.cons (h_right hm hG ok) (.cons (h_has hm hG ok) (.cons (e_code ok rfl) (.nil))))
theorem h_readsPred : EntryOk2 P 77 (.hook (pureH (inF readsPredR))) := EntryOk2.pure hm (fine_readsPred hm hG ok) _ _ (inF_ok (fun _ => rfl) fun s hs i hi => readsPred_ran rfl rfl rfl s hs i hi)
end
end Go.V
