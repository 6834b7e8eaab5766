/- Functions in the small language. -/
import Derived.Test.YtpllnmhfcpnhnaaGreatDoorFkIr2
set_option linter.unusedVariables false
set_option linter.unusedSimpArgs false
set_option linter.unusedSectionVars false
/- Functions in the small language. -/
namespace Go.V
open Go Go.V.Z
def ir46 : IFunc := ⟨171,[],(.scope (q .label
 (q (q (.region [(m 5 0),(k 6 5),(f 7 1 6),(l 8 1 7),(m 9 0),(k 10 9),(f 11 0 10),(l 12 1 11),(o 13 (.lenStr t12)),(o 14 (.bin .eql t8 t13))] true)
 (.cond t14 (.goto 0) .skip))
 (q (q (.region [(m 15 0),(k 16 15),(f 17 0 16),(l 18 1 17),(m 19 0),(k 20 19),(f 21 1 20),(l 22 1 21),(o 23 (.idxStr t18 t22)),(m 2 23)] true)
 (.block 0 (q (R [(m 25 2),(o 26 (.bin .eql t25 (B 10))),(m 24 26)])
 (.cond t24 (.goto 2) (q (R [(m 28 2),(o 29 (.bin .eql t28 (B 32))),(m 30 29),(og 31 30 false (.move t2)),(og 32 30 false (.bin .eql t31 (B 9))),(o 33 (.pick t30 T t32)),(m 34 33),(og 35 34 false (.move t2)),(og 36 34 false (.bin .eql t35 (B 13))),(o 37 (.pick t34 T t36)),(m 27 37)])
 (.cond t27 (q (R [(m 38 0),(k 39 38),(f 40 1 39),(l 41 1 40),(o 42 (.bin .add t41 (I 1))),(k 43 38),(f 44 1 43),(st 1 44 42)])
 (.goto 1)) (q (R [(m 46 2),(o 47 (.call 80 [t46])),(m 48 47),(og 49 48 false (.move t2)),(og 50 48 false (.bin .eql t49 (B 46))),(o 51 (.pick t48 T t50)),(m 45 51)])
 (.cond t45 (.goto 3) (q (R [(m 53 2),(o 54 (.call 81 [t53])),(m 52 54)])
 (.cond t52 (.goto 4) (q (.regionP [(m 56 0),(k 57 56),(f 58 0 57),(l 59 1 58),(m 60 0),(k 61 60),(f 62 1 61),(l 63 1 62),(o 64 (.sliceStr t59 (some t63) none)),(o 65 (.call 82 [t64,(sc [47,47])])),(m 55 65)])
 (.cond t55 (.goto 5) (q (.regionP [(m 67 0),(k 68 67),(f 69 0 68),(l 70 1 69),(m 71 0),(k 72 71),(f 73 1 72),(l 74 1 73),(o 75 (.sliceStr t70 (some t74) none)),(o 76 (.call 82 [t75,(sc [35,35])])),(m 66 76)])
 (.cond t66 (q (R [(m 77 0),(o 78 (.call 83 [t77,(B 3),(sc [35,35]),(I 0)]))])
 (.goto 1)) (q (R [(m 80 2),(o 81 (.call 84 [(sc [123,125,59,58,40,41,44,61,43,45,42,33,35]),t80])),(o 82 (.bin .geq t81 (I 0))),(m 79 82)])
 (.cond t79 (q (.regionP [(m 83 0),(m 84 0),(k 85 84),(f 86 0 85),(l 87 1 86),(m 88 0),(k 89 88),(f 90 1 89),(l 91 1 90),(m 92 0),(k 93 92),(f 94 1 93),(l 95 1 94),(o 96 (.bin .add t95 (I 1))),(o 97 (.sliceStr t87 (some t91) (some t96))),(o 98 (.call 83 [t83,(B 3),t97,(I 0)]))])
 (.goto 1)) .skip))))))))))))))))
 (q (R [(m 99 0),(o 100 (.call 85 [t99,(I 8),(I 1)]))])
 (q (.goto 1)
 (q .label
 (q (R [(m 101 0),(o 102 (.call 83 [t101,(B 4),(sc []),(I 0)]))])
 (q (R [(m 103 0),(k 104 103),(f 105 1 104),(l 106 1 105),(o 107 (.bin .add t106 (I 1))),(k 108 103),(f 109 1 108),(st 1 109 107)])
 (q (.region [(m 110 0),(m 111 0),(m 112 0),(k 113 112),(f 114 2 113),(l 115 1 114),(o 116 (.bin .add t115 (I 1))),(m 117 0),(k 118 117),(f 119 1 118),(l 120 1 119),(k 121 110),(f 122 2 121),(st 1 122 116),(k 123 111),(f 124 3 123),(st 1 124 120)] true)
 (q (.goto 1)
 (q .label
 (q (q (.regionP [(m 125 0),(k 126 125),(f 127 0 126),(l 128 1 127),(m 129 0),(k 130 129),(f 131 1 130),(l 132 1 131),(o 133 (.sliceStr t128 (some t132) none)),(o 134 (.call 84 [t133,(B 10)])),(m 3 134)])
 (q (R [(m 135 3),(o 136 (.bin .geq t135 (I 0)))])
 (.cond t136 (q (R [(m 137 0),(k 138 137),(f 139 1 138),(l 140 1 139),(m 141 3),(o 142 (.bin .add t140 t141)),(k 143 137),(f 144 1 143),(st 1 144 142)])
 (.goto 2)) .skip)))
 (q (R [(m 145 0),(m 146 0),(k 147 146),(f 148 0 147),(l 149 1 148),(o 150 (.lenStr t149)),(k 151 145),(f 152 1 151),(st 1 152 150)])
 (q (.goto 0)
 (q .label
 (q (q (R [(m 153 0),(o 154 (.call 86 [t153,(sc [46])])),(m 4 154)])
 (q (R [(m 155 4),(o 156 (.lenStr t155)),(o 157 (.bin .gtr t156 (I 32)))])
 (.cond t157 (R [(m 158 0),(m 159 4),(o 160 (.lenStr t159)),(o 161 (.call 85 [t158,(I 3),t160]))]) (R [(m 162 0),(m 163 4),(o 164 (.call 83 [t162,(B 1),t163,(I 0)]))]))))
 (q (.goto 1)
 (q .label
 (q (R [(m 165 0),(m 166 0),(o 167 (.call 86 [t166,(sc [])])),(o 168 (.call 87 [t165,t167]))])
 (q (.goto 1)
 (q .label
 (R [(m 169 0),(o 170 (.call 83 [t169,(B 4),(sc []),(I 0)]))])))))))))))))))))))))) [(1,(q .skip
 (q (q (.region [(m 5 0),(k 6 5),(f 7 1 6),(l 8 1 7),(m 9 0),(k 10 9),(f 11 0 10),(l 12 1 11),(o 13 (.lenStr t12)),(o 14 (.bin .eql t8 t13))] true)
 (.cond t14 (.goto 0) .skip))
 (q (q (.region [(m 15 0),(k 16 15),(f 17 0 16),(l 18 1 17),(m 19 0),(k 20 19),(f 21 1 20),(l 22 1 21),(o 23 (.idxStr t18 t22)),(m 2 23)] true)
 (.block 0 (q (R [(m 25 2),(o 26 (.bin .eql t25 (B 10))),(m 24 26)])
 (.cond t24 (.goto 2) (q (R [(m 28 2),(o 29 (.bin .eql t28 (B 32))),(m 30 29),(og 31 30 false (.move t2)),(og 32 30 false (.bin .eql t31 (B 9))),(o 33 (.pick t30 T t32)),(m 34 33),(og 35 34 false (.move t2)),(og 36 34 false (.bin .eql t35 (B 13))),(o 37 (.pick t34 T t36)),(m 27 37)])
 (.cond t27 (q (R [(m 38 0),(k 39 38),(f 40 1 39),(l 41 1 40),(o 42 (.bin .add t41 (I 1))),(k 43 38),(f 44 1 43),(st 1 44 42)])
 (.goto 1)) (q (R [(m 46 2),(o 47 (.call 80 [t46])),(m 48 47),(og 49 48 false (.move t2)),(og 50 48 false (.bin .eql t49 (B 46))),(o 51 (.pick t48 T t50)),(m 45 51)])
 (.cond t45 (.goto 3) (q (R [(m 53 2),(o 54 (.call 81 [t53])),(m 52 54)])
 (.cond t52 (.goto 4) (q (.regionP [(m 56 0),(k 57 56),(f 58 0 57),(l 59 1 58),(m 60 0),(k 61 60),(f 62 1 61),(l 63 1 62),(o 64 (.sliceStr t59 (some t63) none)),(o 65 (.call 82 [t64,(sc [47,47])])),(m 55 65)])
 (.cond t55 (.goto 5) (q (.regionP [(m 67 0),(k 68 67),(f 69 0 68),(l 70 1 69),(m 71 0),(k 72 71),(f 73 1 72),(l 74 1 73),(o 75 (.sliceStr t70 (some t74) none)),(o 76 (.call 82 [t75,(sc [35,35])])),(m 66 76)])
 (.cond t66 (q (R [(m 77 0),(o 78 (.call 83 [t77,(B 3),(sc [35,35]),(I 0)]))])
 (.goto 1)) (q (R [(m 80 2),(o 81 (.call 84 [(sc [123,125,59,58,40,41,44,61,43,45,42,33,35]),t80])),(o 82 (.bin .geq t81 (I 0))),(m 79 82)])
 (.cond t79 (q (.regionP [(m 83 0),(m 84 0),(k 85 84),(f 86 0 85),(l 87 1 86),(m 88 0),(k 89 88),(f 90 1 89),(l 91 1 90),(m 92 0),(k 93 92),(f 94 1 93),(l 95 1 94),(o 96 (.bin .add t95 (I 1))),(o 97 (.sliceStr t87 (some t91) (some t96))),(o 98 (.call 83 [t83,(B 3),t97,(I 0)]))])
 (.goto 1)) .skip))))))))))))))))
 (q (R [(m 99 0),(o 100 (.call 85 [t99,(I 8),(I 1)]))])
 (q (.goto 1)
 (q .label
 (q (R [(m 101 0),(o 102 (.call 83 [t101,(B 4),(sc []),(I 0)]))])
 (q (R [(m 103 0),(k 104 103),(f 105 1 104),(l 106 1 105),(o 107 (.bin .add t106 (I 1))),(k 108 103),(f 109 1 108),(st 1 109 107)])
 (q (.region [(m 110 0),(m 111 0),(m 112 0),(k 113 112),(f 114 2 113),(l 115 1 114),(o 116 (.bin .add t115 (I 1))),(m 117 0),(k 118 117),(f 119 1 118),(l 120 1 119),(k 121 110),(f 122 2 121),(st 1 122 116),(k 123 111),(f 124 3 123),(st 1 124 120)] true)
 (q (.goto 1)
 (q .label
 (q (q (.regionP [(m 125 0),(k 126 125),(f 127 0 126),(l 128 1 127),(m 129 0),(k 130 129),(f 131 1 130),(l 132 1 131),(o 133 (.sliceStr t128 (some t132) none)),(o 134 (.call 84 [t133,(B 10)])),(m 3 134)])
 (q (R [(m 135 3),(o 136 (.bin .geq t135 (I 0)))])
 (.cond t136 (q (R [(m 137 0),(k 138 137),(f 139 1 138),(l 140 1 139),(m 141 3),(o 142 (.bin .add t140 t141)),(k 143 137),(f 144 1 143),(st 1 144 142)])
 (.goto 2)) .skip)))
 (q (R [(m 145 0),(m 146 0),(k 147 146),(f 148 0 147),(l 149 1 148),(o 150 (.lenStr t149)),(k 151 145),(f 152 1 151),(st 1 152 150)])
 (q (.goto 0)
 (q .label
 (q (q (R [(m 153 0),(o 154 (.call 86 [t153,(sc [46])])),(m 4 154)])
 (q (R [(m 155 4),(o 156 (.lenStr t155)),(o 157 (.bin .gtr t156 (I 32)))])
 (.cond t157 (R [(m 158 0),(m 159 4),(o 160 (.lenStr t159)),(o 161 (.call 85 [t158,(I 3),t160]))]) (R [(m 162 0),(m 163 4),(o 164 (.call 83 [t162,(B 1),t163,(I 0)]))]))))
 (q (.goto 1)
 (q .label
 (q (R [(m 165 0),(m 166 0),(o 167 (.call 86 [t166,(sc [])])),(o 168 (.call 87 [t165,t167]))])
 (q (.goto 1)
 (q .label
 (R [(m 169 0),(o 170 (.call 83 [t169,(B 4),(sc []),(I 0)]))]))))))))))))))))))))))),(2,(q .skip
 (q (R [(m 101 0),(o 102 (.call 83 [t101,(B 4),(sc []),(I 0)]))])
 (q (R [(m 103 0),(k 104 103),(f 105 1 104),(l 106 1 105),(o 107 (.bin .add t106 (I 1))),(k 108 103),(f 109 1 108),(st 1 109 107)])
 (q (.region [(m 110 0),(m 111 0),(m 112 0),(k 113 112),(f 114 2 113),(l 115 1 114),(o 116 (.bin .add t115 (I 1))),(m 117 0),(k 118 117),(f 119 1 118),(l 120 1 119),(k 121 110),(f 122 2 121),(st 1 122 116),(k 123 111),(f 124 3 123),(st 1 124 120)] true)
 (q (.goto 1)
 (q .label
 (q (q (.regionP [(m 125 0),(k 126 125),(f 127 0 126),(l 128 1 127),(m 129 0),(k 130 129),(f 131 1 130),(l 132 1 131),(o 133 (.sliceStr t128 (some t132) none)),(o 134 (.call 84 [t133,(B 10)])),(m 3 134)])
 (q (R [(m 135 3),(o 136 (.bin .geq t135 (I 0)))])
 (.cond t136 (q (R [(m 137 0),(k 138 137),(f 139 1 138),(l 140 1 139),(m 141 3),(o 142 (.bin .add t140 t141)),(k 143 137),(f 144 1 143),(st 1 144 142)])
 (.goto 2)) .skip)))
 (q (R [(m 145 0),(m 146 0),(k 147 146),(f 148 0 147),(l 149 1 148),(o 150 (.lenStr t149)),(k 151 145),(f 152 1 151),(st 1 152 150)])
 (q (.goto 0)
 (q .label
 (q (q (R [(m 153 0),(o 154 (.call 86 [t153,(sc [46])])),(m 4 154)])
 (q (R [(m 155 4),(o 156 (.lenStr t155)),(o 157 (.bin .gtr t156 (I 32)))])
 (.cond t157 (R [(m 158 0),(m 159 4),(o 160 (.lenStr t159)),(o 161 (.call 85 [t158,(I 3),t160]))]) (R [(m 162 0),(m 163 4),(o 164 (.call 83 [t162,(B 1),t163,(I 0)]))]))))
 (q (.goto 1)
 (q .label
 (q (R [(m 165 0),(m 166 0),(o 167 (.call 86 [t166,(sc [])])),(o 168 (.call 87 [t165,t167]))])
 (q (.goto 1)
 (q .label
 (R [(m 169 0),(o 170 (.call 83 [t169,(B 4),(sc []),(I 0)]))])))))))))))))))))),(5,(q .skip
 (q (q (.regionP [(m 125 0),(k 126 125),(f 127 0 126),(l 128 1 127),(m 129 0),(k 130 129),(f 131 1 130),(l 132 1 131),(o 133 (.sliceStr t128 (some t132) none)),(o 134 (.call 84 [t133,(B 10)])),(m 3 134)])
 (q (R [(m 135 3),(o 136 (.bin .geq t135 (I 0)))])
 (.cond t136 (q (R [(m 137 0),(k 138 137),(f 139 1 138),(l 140 1 139),(m 141 3),(o 142 (.bin .add t140 t141)),(k 143 137),(f 144 1 143),(st 1 144 142)])
 (.goto 2)) .skip)))
 (q (R [(m 145 0),(m 146 0),(k 147 146),(f 148 0 147),(l 149 1 148),(o 150 (.lenStr t149)),(k 151 145),(f 152 1 151),(st 1 152 150)])
 (q (.goto 0)
 (q .label
 (q (q (R [(m 153 0),(o 154 (.call 86 [t153,(sc [46])])),(m 4 154)])
 (q (R [(m 155 4),(o 156 (.lenStr t155)),(o 157 (.bin .gtr t156 (I 32)))])
 (.cond t157 (R [(m 158 0),(m 159 4),(o 160 (.lenStr t159)),(o 161 (.call 85 [t158,(I 3),t160]))]) (R [(m 162 0),(m 163 4),(o 164 (.call 83 [t162,(B 1),t163,(I 0)]))]))))
 (q (.goto 1)
 (q .label
 (q (R [(m 165 0),(m 166 0),(o 167 (.call 86 [t166,(sc [])])),(o 168 (.call 87 [t165,t167]))])
 (q (.goto 1)
 (q .label
 (R [(m 169 0),(o 170 (.call 83 [t169,(B 4),(sc []),(I 0)]))]))))))))))))),(3,(q .skip
 (q (q (R [(m 153 0),(o 154 (.call 86 [t153,(sc [46])])),(m 4 154)])
 (q (R [(m 155 4),(o 156 (.lenStr t155)),(o 157 (.bin .gtr t156 (I 32)))])
 (.cond t157 (R [(m 158 0),(m 159 4),(o 160 (.lenStr t159)),(o 161 (.call 85 [t158,(I 3),t160]))]) (R [(m 162 0),(m 163 4),(o 164 (.call 83 [t162,(B 1),t163,(I 0)]))]))))
 (q (.goto 1)
 (q .label
 (q (R [(m 165 0),(m 166 0),(o 167 (.call 86 [t166,(sc [])])),(o 168 (.call 87 [t165,t167]))])
 (q (.goto 1)
 (q .label
 (R [(m 169 0),(o 170 (.call 83 [t169,(B 4),(sc []),(I 0)]))]))))))))),(4,(q .skip
 (q (R [(m 165 0),(m 166 0),(o 167 (.call 86 [t166,(sc [])])),(o 168 (.call 87 [t165,t167]))])
 (q (.goto 1)
 (q .label
 (R [(m 169 0),(o 170 (.call 83 [t169,(B 4),(sc []),(I 0)]))])))))),(0,(q .skip
 (R [(m 169 0),(o 170 (.call 83 [t169,(B 4),(sc []),(I 0)]))])))])⟩
def ir83 : IFunc := ⟨44,[],(q (.region [(m 8 0),(m 9 0),(k 10 9),(f 11 4 10),(l 12 1 11),(m 13 1),(m 14 2),(m 15 3),(m 16 0),(k 17 16),(f 18 2 17),(l 19 1 18),(m 20 0),(k 21 20),(f 22 1 21),(l 23 1 22),(m 24 0),(k 25 24),(f 26 3 25),(l 27 1 26),(o 28 (.bin .sub t23 t27)),(o 29 (.bin .add t28 (I 1))),(o 30 (.build [(b 0),(s []),(i 0),(i 0),(i 0)] [(0,1,t13),(1,1,t14),(2,1,t15),(3,1,t19),(4,1,t29)])),(o 31 (.buildSlice 1 5 [(b 0),(s []),(i 0),(i 0),(i 0)] [(0,5,t30)])),(o 32 (.append 5 48 t12 t31)),(k 33 8),(f 34 4 33),(st 1 34 32)] true)
 (R [(m 35 0),(k 36 35),(f 37 1 36),(l 38 1 37),(m 39 2),(o 40 (.lenStr t39)),(o 41 (.bin .add t38 t40)),(k 42 35),(f 43 1 42),(st 1 43 41)]))⟩
def ir87 : IFunc := ⟨22,[],(q (R [(m 7 1),(o 8 (.call 131 [t7])),(m 6 8),(x 9 6 0),(x 10 6 1),(m 4 9),(m 5 10)])
 (q (R [(m 11 5),(o 12 (.bin .neq t11 (I 0)))])
 (.cond t12 (R [(m 13 0),(m 14 5),(m 15 1),(o 16 (.lenStr t15)),(o 17 (.call 85 [t13,t14,t16]))]) (R [(m 18 0),(m 19 1),(m 20 4),(o 21 (.call 83 [t18,(B 2),t19,t20]))]))))⟩
def ir85 : IFunc := ⟨45,[],(q (q (R [(m 6 0),(k 7 6),(f 8 5 7),(l 9 1 8),(o 10 (.lenSl t9)),(o 11 (.bin .lss t10 (I 100)))])
 (.cond t11 (.region [(m 12 0),(m 13 0),(k 14 13),(f 15 5 14),(l 16 1 15),(m 17 0),(k 18 17),(f 19 2 18),(l 20 1 19),(m 21 0),(k 22 21),(f 23 1 22),(l 24 1 23),(m 25 0),(k 26 25),(f 27 3 26),(l 28 1 27),(o 29 (.bin .sub t24 t28)),(o 30 (.bin .add t29 (I 1))),(m 31 1),(o 32 (.build [(i 0),(i 0),(i 0)] [(0,1,t20),(1,1,t30),(2,1,t31)])),(o 33 (.buildSlice 1 3 [(i 0),(i 0),(i 0)] [(0,3,t32)])),(o 34 (.append 3 24 t16 t33)),(k 35 12),(f 36 5 35),(st 1 36 34)] true) .skip))
 (R [(m 37 0),(k 38 37),(f 39 1 38),(l 40 1 39),(m 41 2),(o 42 (.bin .add t40 t41)),(k 43 37),(f 44 1 43),(st 1 44 42)]))⟩
def ir131 : IFunc := ⟨50,[.tmp 2,.tmp 3],(q (R [(mi 2 0),(mi 3 0)])
 (q (R [(mi 4 10)])
 (q (q (R [(m 9 0),(o 10 (.lenStr t9)),(o 11 (.bin .gtr t10 (I 1))),(m 12 11),(og 13 12 true (.move t0)),(og 14 12 true (.idxStr t13 (I 0))),(og 15 12 true (.bin .eql t14 (B 48))),(o 16 (.pick t12 t15 F)),(m 17 16),(og 18 17 true (.move t0)),(og 19 17 true (.idxStr t18 (I 1))),(og 20 17 true (.bin .or t19 (B 32))),(og 21 17 true (.bin .eql t20 (B 120))),(o 22 (.pick t17 t21 F))])
 (.cond t22 (.region [(m 23 0),(o 24 (.sliceStr t23 (some (I 2)) none)),(mi 4 16),(m 0 24)] true) .skip))
 (q (R [(mi 5 0),(mi 6 0)])
 (q (q (R [(m 25 0),(o 26 (.bin .eql t25 (sc [])))])
 (.cond t26 (R [(mi 6 8)]) .skip))
 (q (q (R [(m 27 0),(o 28 (.lenStr t27)),(mi 29 0)])
 (.block 0 (.loop (q (R [(o 30 (.bin .lss t29 t28))])
 (q (.cond t30 .skip (.exit 0))
 (q (.block 1 (q (R [(m 31 29),(m 7 31)])
 (q (R [(m 32 0),(m 33 7),(o 34 (.idxStr t32 t33)),(o 35 (.call 171 [t34])),(m 8 35)])
 (q (q (R [(m 36 8),(m 37 4),(o 38 (.bin .geq t36 t37))])
 (.cond t38 (q (R [(mi 2 0),(mi 3 8)])
 .ret) .skip))
 (R [(m 39 5),(m 40 4),(o 41 (.bin .mul t39 t40)),(m 42 8),(o 43 (.bin .add t41 t42)),(o 44 (.minmax false [t43,(I 1099511627777)])),(m 5 44)])))))
 (R [(o 45 (.bin .add t29 (I 1))),(m 29 45)])))))))
 (q (q (R [(m 46 5),(o 47 (.bin .gtr t46 (I 1099511627776)))])
 (.cond t47 (q (R [(mi 2 0),(mi 3 6)])
 .ret) .skip))
 (q (R [(m 48 5),(m 49 6),(m 2 48),(m 3 49)])
 .ret))))))))⟩
def ir171 : IFunc := ⟨23,[.tmp 2],(q (R [(mi 2 0)])
 (q (.block 0 (q (R [(m 4 0),(o 5 (.call 81 [t4])),(m 3 5)])
 (.cond t3 (q (R [(m 6 0),(o 7 (.bin .sub t6 (B 48))),(o 8 (.conv (.intInt .i64) t7)),(m 2 8)])
 .ret) (q (R [(m 10 0),(o 11 (.bin .or t10 (B 32))),(o 12 (.bin .geq t11 (B 97))),(m 13 12),(og 14 13 true (.move t0)),(og 15 13 true (.bin .or t14 (B 32))),(og 16 13 true (.bin .leq t15 (B 102))),(o 17 (.pick t13 t16 F)),(m 9 17)])
 (.cond t9 (q (R [(m 18 0),(o 19 (.bin .or t18 (B 32))),(o 20 (.bin .sub t19 (B 97))),(o 21 (.conv (.intInt .i64) t20)),(o 22 (.bin .add t21 (I 10))),(m 2 22)])
 .ret) .skip)))))
 (q (R [(mi 2 16)])
 .ret)))⟩
def ir81 : IFunc := ⟨9,[.tmp 2],(q (R [(o 2 (.move F))])
 (q (R [(m 3 0),(o 4 (.bin .geq t3 (B 48))),(m 5 4),(og 6 5 true (.move t0)),(og 7 5 true (.bin .leq t6 (B 57))),(o 8 (.pick t5 t7 F)),(m 2 8)])
 .ret))⟩
def ir86 : IFunc := ⟨58,[.tmp 4],(q (R [(o 4 (.move (sc [])))])
 (q (R [(m 6 0),(k 7 6),(f 8 1 7),(l 9 1 8),(m 5 9)])
 (q (.block 0 (.loop (q (q (R [(m 10 5),(m 11 0),(k 12 11),(f 13 0 12),(l 14 1 13),(o 15 (.lenStr t14)),(o 16 (.bin .lss t10 t15)),(m 17 16),(og 18 17 true (.move t0)),(og 19 17 true (.nilCheck t18)),(og 20 17 true (.fieldAddr 0 t19)),(og 21 17 true (.load false 1 t20)),(og 22 17 true (.move t5)),(og 23 17 true (.idxStr t21 t22)),(og 24 17 true (.call 80 [t23])),(og 25 17 true (.move t24)),(og 26 25 false (.move t0)),(og 27 25 false (.nilCheck t26)),(og 28 25 false (.fieldAddr 0 t27)),(og 29 25 false (.load false 1 t28)),(og 30 25 false (.move t5)),(og 31 25 false (.idxStr t29 t30)),(og 32 25 false (.call 81 [t31])),(og 33 17 true (.pick t25 T t32)),(og 34 17 true (.move t33)),(og 35 34 false (.move t1)),(og 36 34 false (.move t0)),(og 37 34 false (.nilCheck t36)),(og 38 34 false (.fieldAddr 0 t37)),(og 39 34 false (.load false 1 t38)),(og 40 34 false (.move t5)),(og 41 34 false (.idxStr t39 t40)),(og 42 34 false (.call 84 [t35,t41])),(og 43 34 false (.bin .geq t42 (I 0))),(og 44 17 true (.pick t34 T t43)),(o 45 (.pick t17 t44 F))])
 (.cond t45 .skip (.exit 0)))
 (.block 1 (R [(m 46 5),(o 47 (.bin .add t46 (I 1))),(m 5 47)])))))
 (q (.region [(m 48 0),(k 49 48),(f 50 0 49),(l 51 1 50),(m 52 0),(k 53 52),(f 54 1 53),(l 55 1 54),(m 56 5),(o 57 (.sliceStr t51 (some t55) (some t56))),(m 4 57)] true)
 .ret))))⟩
def ir84 : IFunc := ⟨8,[.tmp 4],(q (R [(mi 4 0)])
 (q (R [(m 5 0),(m 6 1),(o 7 (.call 130 [t5,t6])),(m 4 7)])
 .ret))⟩
def ir130 : IFunc := ⟨8,[.tmp 4],(q (R [(mi 4 0)])
 (q (R [(m 5 0),(m 6 1),(o 7 (.call 170 [t5,t6])),(m 4 7)])
 .ret))⟩
def ir80 : IFunc := ⟨15,[.tmp 2],(q (R [(o 2 (.move F))])
 (q (R [(m 3 0),(o 4 (.bin .or t3 (B 32))),(o 5 (.bin .geq t4 (B 97))),(m 6 5),(og 7 6 true (.move t0)),(og 8 6 true (.bin .or t7 (B 32))),(og 9 6 true (.bin .leq t8 (B 122))),(o 10 (.pick t6 t9 F)),(m 11 10),(og 12 11 false (.move t0)),(og 13 11 false (.bin .eql t12 (B 95))),(o 14 (.pick t11 T t13)),(m 2 14)])
 .ret))⟩
end Go.V
