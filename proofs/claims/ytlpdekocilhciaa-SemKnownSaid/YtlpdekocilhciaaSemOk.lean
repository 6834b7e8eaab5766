/- The functions that 'SemKnown' reaches are what SemIr says, by the kernel. -/
import Derived.Test.YtlpdekocilhciaaSemIr
import Derived.Test.YtlpdekocilhciaaProg
import Derived.KernelRfl
namespace Go.V.Sem
open Go Go.V Go.Proofs
set_option maxRecDepth 1000000
noncomputable def prog : Prog := { toProgram := Try.prog, G := [] }
theorem ok3 : EntryOk prog 3 (.code ir3) := ⟨Try.f3, Try.func3, by kernel_rfl, by kernel_rfl⟩
theorem ok12 : EntryOk prog 12 (.code ir12) := ⟨Try.f12, Try.func12, by kernel_rfl, by kernel_rfl⟩
theorem ok13 : EntryOk prog 13 (.code ir13) := ⟨Try.f13, Try.func13, by kernel_rfl, by kernel_rfl⟩
theorem ok15 : EntryOk prog 15 (.code ir15) := ⟨Try.f15, Try.func15, by kernel_rfl, by kernel_rfl⟩
theorem ok53 : EntryOk prog 53 (.code ir53) := ⟨Try.f53, Try.func53, by kernel_rfl, by kernel_rfl⟩
theorem ok54 : EntryOk prog 54 (.code ir54) := ⟨Try.f54, Try.func54, by kernel_rfl, by kernel_rfl⟩
theorem ok75 : EntryOk prog 75 (.code ir75) := ⟨Try.f75, Try.func75, by kernel_rfl, by kernel_rfl⟩
theorem ok76 : EntryOk prog 76 (.code ir76) := ⟨Try.f76, Try.func76, by kernel_rfl, by kernel_rfl⟩
theorem ok90 : EntryOk prog 90 (.code ir90) := ⟨Try.f90, Try.func90, by kernel_rfl, by kernel_rfl⟩
theorem ok116 : EntryOk prog 116 (.code ir116) := ⟨Try.f116, Try.func116, by kernel_rfl, by kernel_rfl⟩
theorem ok117 : EntryOk prog 117 (.code ir117) := ⟨Try.f117, Try.func117, by kernel_rfl, by kernel_rfl⟩
theorem ok118 : EntryOk prog 118 (.code ir118) := ⟨Try.f118, Try.func118, by kernel_rfl, by kernel_rfl⟩
theorem ok119 : EntryOk prog 119 (.code ir119) := ⟨Try.f119, Try.func119, by kernel_rfl, by kernel_rfl⟩
theorem ok120 : EntryOk prog 120 (.code ir120) := ⟨Try.f120, Try.func120, by kernel_rfl, by kernel_rfl⟩
theorem ok121 : EntryOk prog 121 (.code ir121) := ⟨Try.f121, Try.func121, by kernel_rfl, by kernel_rfl⟩
theorem ok122 : EntryOk prog 122 (.code ir122) := ⟨Try.f122, Try.func122, by kernel_rfl, by kernel_rfl⟩
theorem ok123 : EntryOk prog 123 (.code ir123) := ⟨Try.f123, Try.func123, by kernel_rfl, by kernel_rfl⟩
theorem ok124 : EntryOk prog 124 (.code ir124) := ⟨Try.f124, Try.func124, by kernel_rfl, by kernel_rfl⟩
theorem ok125 : EntryOk prog 125 (.code ir125) := ⟨Try.f125, Try.func125, by kernel_rfl, by kernel_rfl⟩
theorem ok126 : EntryOk prog 126 (.code ir126) := ⟨Try.f126, Try.func126, by kernel_rfl, by kernel_rfl⟩
theorem ok127 : EntryOk prog 127 (.code ir127) := ⟨Try.f127, Try.func127, by kernel_rfl, by kernel_rfl⟩
theorem ok128 : EntryOk prog 128 (.code ir128) := ⟨Try.f128, Try.func128, by kernel_rfl, by kernel_rfl⟩
theorem ok129 : EntryOk prog 129 (.code ir129) := ⟨Try.f129, Try.func129, by kernel_rfl, by kernel_rfl⟩
theorem ok130 : EntryOk prog 130 (.code ir130) := ⟨Try.f130, Try.func130, by kernel_rfl, by kernel_rfl⟩
theorem ok131 : EntryOk prog 131 (.code ir131) := ⟨Try.f131, Try.func131, by kernel_rfl, by kernel_rfl⟩
theorem ok132 : EntryOk prog 132 (.code ir132) := ⟨Try.f132, Try.func132, by kernel_rfl, by kernel_rfl⟩
theorem ok153 : EntryOk prog 153 (.code ir153) := ⟨Try.f153, Try.func153, by kernel_rfl, by kernel_rfl⟩
theorem ok152 : EntryOk prog 152 (.code ir152) := ⟨Try.f152, Try.func152, by kernel_rfl, by kernel_rfl⟩
theorem ok151 : EntryOk prog 151 (.code ir151) := ⟨Try.f151, Try.func151, by kernel_rfl, by kernel_rfl⟩
theorem ok160 : EntryOk prog 160 (.code ir160) := ⟨Try.f160, Try.func160, by kernel_rfl, by kernel_rfl⟩
theorem ok162 : EntryOk prog 162 (.code ir162) := ⟨Try.f162, Try.func162, by kernel_rfl, by kernel_rfl⟩
theorem ok163 : EntryOk prog 163 (.code ir163) := ⟨Try.f163, Try.func163, by kernel_rfl, by kernel_rfl⟩
theorem ok167 : EntryOk prog 167 (.code ir167) := ⟨Try.f167, Try.func167, by kernel_rfl, by kernel_rfl⟩
theorem ok172 : EntryOk prog 172 (.code ir172) := ⟨Try.f172, Try.func172, by kernel_rfl, by kernel_rfl⟩
theorem ok177 : EntryOk prog 177 (.code ir177) := ⟨Try.f177, Try.func177, by kernel_rfl, by kernel_rfl⟩
theorem ok173 : EntryOk prog 173 (.code ir173) := ⟨Try.f173, Try.func173, by kernel_rfl, by kernel_rfl⟩
theorem ok178 : EntryOk prog 178 (.code ir178) := ⟨Try.f178, Try.func178, by kernel_rfl, by kernel_rfl⟩
theorem ok183 : EntryOk prog 183 (.code ir183) := ⟨Try.f183, Try.func183, by kernel_rfl, by kernel_rfl⟩
theorem ok179 : EntryOk prog 179 (.code ir179) := ⟨Try.f179, Try.func179, by kernel_rfl, by kernel_rfl⟩
theorem ok165 : EntryOk prog 165 (.code ir165) := ⟨Try.f165, Try.func165, by kernel_rfl, by kernel_rfl⟩
theorem ok171 : EntryOk prog 171 (.code ir171) := ⟨Try.f171, Try.func171, by kernel_rfl, by kernel_rfl⟩
theorem ok174 : EntryOk prog 174 (.code ir174) := ⟨Try.f174, Try.func174, by kernel_rfl, by kernel_rfl⟩
theorem ok175 : EntryOk prog 175 (.code ir175) := ⟨Try.f175, Try.func175, by kernel_rfl, by kernel_rfl⟩
theorem ok176 : EntryOk prog 176 (.code ir176) := ⟨Try.f176, Try.func176, by kernel_rfl, by kernel_rfl⟩
theorem ok164 : EntryOk prog 164 (.code ir164) := ⟨Try.f164, Try.func164, by kernel_rfl, by kernel_rfl⟩
theorem ok169 : EntryOk prog 169 (.code ir169) := ⟨Try.f169, Try.func169, by kernel_rfl, by kernel_rfl⟩
theorem ok133 : EntryOk prog 133 (.code ir133) := ⟨Try.f133, Try.func133, by kernel_rfl, by kernel_rfl⟩
theorem ok77 : EntryOk prog 77 (.code ir77) := ⟨Try.f77, Try.func77, by kernel_rfl, by kernel_rfl⟩
theorem ok91 : EntryOk prog 91 (.code ir91) := ⟨Try.f91, Try.func91, by kernel_rfl, by kernel_rfl⟩
theorem ok74 : EntryOk prog 74 (.code ir74) := ⟨Try.f74, Try.func74, by kernel_rfl, by kernel_rfl⟩
theorem ok89 : EntryOk prog 89 (.code ir89) := ⟨Try.f89, Try.func89, by kernel_rfl, by kernel_rfl⟩
theorem ok55 : EntryOk prog 55 (.code ir55) := ⟨Try.f55, Try.func55, by kernel_rfl, by kernel_rfl⟩
theorem ok78 : EntryOk prog 78 (.code ir78) := ⟨Try.f78, Try.func78, by kernel_rfl, by kernel_rfl⟩
theorem ok92 : EntryOk prog 92 (.code ir92) := ⟨Try.f92, Try.func92, by kernel_rfl, by kernel_rfl⟩
theorem ok79 : EntryOk prog 79 (.code ir79) := ⟨Try.f79, Try.func79, by kernel_rfl, by kernel_rfl⟩
theorem ok14 : EntryOk prog 14 (.code ir14) := ⟨Try.f14, Try.func14, by kernel_rfl, by kernel_rfl⟩
theorem ok52 : EntryOk prog 52 (.code ir52) := ⟨Try.f52, Try.func52, by kernel_rfl, by kernel_rfl⟩
theorem ok93 : EntryOk prog 93 (.code ir93) := ⟨Try.f93, Try.func93, by kernel_rfl, by kernel_rfl⟩
theorem ok56 : EntryOk prog 56 (.code ir56) := ⟨Try.f56, Try.func56, by kernel_rfl, by kernel_rfl⟩
theorem ok16 : EntryOk prog 16 (.code ir16) := ⟨Try.f16, Try.func16, by kernel_rfl, by kernel_rfl⟩
theorem ok57 : EntryOk prog 57 (.code ir57) := ⟨Try.f57, Try.func57, by kernel_rfl, by kernel_rfl⟩
theorem ok17 : EntryOk prog 17 (.code ir17) := ⟨Try.f17, Try.func17, by kernel_rfl, by kernel_rfl⟩
theorem fact166 : ExtFact prog.toProgram 166 Try.f166 (Extern.MathFloor.toIntegral "math.archFloor" .down) := ⟨Try.func166, by kernel_rfl, by kernel_rfl, by kernel_rfl, by kernel_rfl⟩
theorem ok166 : EntryOk prog 166 (.ext .floor) := ext_hook fact166 ext_floor
theorem fact181 : ExtFact prog.toProgram 181 Try.f181 (Extern.MathFloatBits.float64bits) := ⟨Try.func181, by kernel_rfl, by kernel_rfl, by kernel_rfl, by kernel_rfl⟩
theorem ok181 : EntryOk prog 181 (.ext .f64bits) := ext_hook fact181 ext_f64bits
theorem fact180 : ExtFact prog.toProgram 180 Try.f180 (Extern.MathFloatBits.float64frombits) := ⟨Try.func180, by kernel_rfl, by kernel_rfl, by kernel_rfl, by kernel_rfl⟩
theorem ok180 : EntryOk prog 180 (.ext .f64frombits) := ext_hook fact180 ext_f64frombits
theorem fact182 : ExtFact prog.toProgram 182 Try.f182 (Extern.MathFloor.toIntegral "math.archTrunc" .zero) := ⟨Try.func182, by kernel_rfl, by kernel_rfl, by kernel_rfl, by kernel_rfl⟩
theorem ok182 : EntryOk prog 182 (.ext .trunc) := ext_hook fact182 ext_trunc
theorem fact170 : ExtFact prog.toProgram 170 Try.f170 (Extern.MathDim.pick "math.archMin" true .lt) := ⟨Try.func170, by kernel_rfl, by kernel_rfl, by kernel_rfl, by kernel_rfl⟩
theorem ok170 : EntryOk prog 170 (.ext .fmin) := ext_hook fact170 ext_fmin
theorem fact168 : ExtFact prog.toProgram 168 Try.f168 (Extern.MathDim.pick "math.archMax" false .gt) := ⟨Try.func168, by kernel_rfl, by kernel_rfl, by kernel_rfl, by kernel_rfl⟩
theorem ok168 : EntryOk prog 168 (.ext .fmax) := ext_hook fact168 ext_fmax
theorem all : AllOk prog list := .cons ok3 (.cons ok12 (.cons ok13 (.cons ok15 (.cons ok53 (.cons ok54 (.cons ok75 (.cons ok76 (.cons ok90 (.cons ok116 (.cons ok117 (.cons ok118 (.cons ok119 (.cons ok120 (.cons ok121 (.cons ok122 (.cons ok123 (.cons ok124 (.cons ok125 (.cons ok126 (.cons ok127 (.cons ok128 (.cons ok129 (.cons ok130 (.cons ok131 (.cons ok132 (.cons ok153 (.cons ok152 (.cons ok151 (.cons ok160 (.cons ok162 (.cons ok163 (.cons ok167 (.cons ok172 (.cons ok177 (.cons ok173 (.cons ok178 (.cons ok183 (.cons ok179 (.cons ok165 (.cons ok171 (.cons ok174 (.cons ok175 (.cons ok176 (.cons ok164 (.cons ok169 (.cons ok133 (.cons ok77 (.cons ok91 (.cons ok74 (.cons ok89 (.cons ok55 (.cons ok78 (.cons ok92 (.cons ok79 (.cons ok14 (.cons ok52 (.cons ok93 (.cons ok56 (.cons ok16 (.cons ok57 (.cons ok17 (.cons ok166 (.cons ok181 (.cons ok180 (.cons ok182 (.cons ok170 (.cons ok168 (.nil))))))))))))))))))))))))))))))))))))))))))))))))))))))))))))))))))))
def tab : Tab := fun f => lookT f list
theorem mixed : prog.follows .mixedOrders = true := by kernel_rfl
end Go.V.Sem
