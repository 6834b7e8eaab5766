/- The functions of the dump are what the texts in the small language say: by the kernel. The listed variables lie in the state's beginning. -/
import Derived.Test.YtpccibieeikllaaGreatDoorTraceMemo
import Derived.Test.YtpccibieeikllaaGreatDoorRows
import Derived.MakeChecks
import Derived.Stop.LaidErr
import Derived.KernelRfl
set_option linter.unusedVariables false
set_option linter.unusedSimpArgs false
set_option linter.unusedSectionVars false
namespace Go.V
open Go
open Go.V Go.Proofs Go.RowKit Go.ChangeShapes Go.WideShapes Go.ChangeAt
set_option maxRecDepth 1000000
noncomputable def prog : Prog := { toProgram := Tryz.prog, G := [0, 2, 3, 4, 5, 6, 7, 8] }
noncomputable def prog0 : Prog := { toProgram := Tryz.prog, G := [] }
theorem ok4 : EntryOk prog 4 (.code ir4) := ⟨Tryz.f4, Tryz.func4, by kernel_rfl, by kernel_rfl⟩
theorem ok14 : EntryOk prog 14 (.code ir14) := ⟨Tryz.f14, Tryz.func14, by kernel_rfl, by kernel_rfl⟩
theorem ok10 : EntryOk prog 10 (.code ir10) := ⟨Tryz.f10, Tryz.func10, by kernel_rfl, by kernel_rfl⟩
theorem ok13 : EntryOk prog 13 (.code ir13) := ⟨Tryz.f13, Tryz.func13, by kernel_rfl, by kernel_rfl⟩
theorem ok28 : EntryOk prog 28 (.code ir28) := ⟨Tryz.f28, Tryz.func28, by kernel_rfl, by kernel_rfl⟩
theorem ok40 : EntryOk prog 40 (.code ir40) := ⟨Tryz.f40, Tryz.func40, by kernel_rfl, by kernel_rfl⟩
theorem ok66 : EntryOk prog 66 (.code ir66) := ⟨Tryz.f66, Tryz.func66, by kernel_rfl, by kernel_rfl⟩
theorem ok97 : EntryOk prog 97 (.code ir97) := ⟨Tryz.f97, Tryz.func97, by kernel_rfl, by kernel_rfl⟩
theorem ok142 : EntryOk prog 142 (.code ir142) := ⟨Tryz.f142, Tryz.func142, by kernel_rfl, by kernel_rfl⟩
theorem ok177 : EntryOk prog 177 (.code ir177) := ⟨Tryz.f177, Tryz.func177, by kernel_rfl, by kernel_rfl⟩
theorem ok176 : EntryOk prog 176 (.code ir176) := ⟨Tryz.f176, Tryz.func176, by kernel_rfl, by kernel_rfl⟩
theorem ok141 : EntryOk prog 141 (.code ir141) := ⟨Tryz.f141, Tryz.func141, by kernel_rfl, by kernel_rfl⟩
theorem ok96 : EntryOk prog 96 (.code ir96) := ⟨Tryz.f96, Tryz.func96, by kernel_rfl, by kernel_rfl⟩
theorem ok95 : EntryOk prog 95 (.code ir95) := ⟨Tryz.f95, Tryz.func95, by kernel_rfl, by kernel_rfl⟩
theorem ok140 : EntryOk prog 140 (.code ir140) := ⟨Tryz.f140, Tryz.func140, by kernel_rfl, by kernel_rfl⟩
theorem ok138 : EntryOk prog 138 (.code ir138) := ⟨Tryz.f138, Tryz.func138, by kernel_rfl, by kernel_rfl⟩
theorem ok139 : EntryOk prog 139 (.code ir139) := ⟨Tryz.f139, Tryz.func139, by kernel_rfl, by kernel_rfl⟩
theorem ok94 : EntryOk prog 94 (.code ir94) := ⟨Tryz.f94, Tryz.func94, by kernel_rfl, by kernel_rfl⟩
theorem ok29 : EntryOk prog 29 (.code ir29) := ⟨Tryz.f29, Tryz.func29, by kernel_rfl, by kernel_rfl⟩
theorem ok8 : EntryOk prog 8 (.code ir8) := ⟨Tryz.f8, Tryz.func8, by kernel_rfl, by kernel_rfl⟩
theorem ok26 : EntryOk prog 26 (.code ir26) := ⟨Tryz.f26, Tryz.func26, by kernel_rfl, by kernel_rfl⟩
theorem ok39 : EntryOk prog 39 (.code ir39) := ⟨Tryz.f39, Tryz.func39, by kernel_rfl, by kernel_rfl⟩
theorem ok322 : EntryOk prog 322 (.code ir322) := ⟨Tryz.f322, Tryz.func322, by kernel_rfl, by kernel_rfl⟩
theorem ok323 : EntryOk prog 323 (.code ir323) := ⟨Tryz.f323, Tryz.func323, by kernel_rfl, by kernel_rfl⟩
theorem ok36 : EntryOk prog 36 (.code ir36) := ⟨Tryz.f36, Tryz.func36, by kernel_rfl, by kernel_rfl⟩
theorem ok77 : EntryOk prog 77 (.code ir77) := ⟨Tryz.f77, Tryz.func77, by kernel_rfl, by kernel_rfl⟩
theorem ok321 : EntryOk prog 321 (.code ir321) := ⟨Tryz.f321, Tryz.func321, by kernel_rfl, by kernel_rfl⟩
theorem ok320 : EntryOk prog 320 (.code ir320) := ⟨Tryz.f320, Tryz.func320, by kernel_rfl, by kernel_rfl⟩
theorem ok319 : EntryOk prog 319 (.code ir319) := ⟨Tryz.f319, Tryz.func319, by kernel_rfl, by kernel_rfl⟩
theorem ok318 : EntryOk prog 318 (.code ir318) := ⟨Tryz.f318, Tryz.func318, by kernel_rfl, by kernel_rfl⟩
theorem ok65 : EntryOk prog 65 (.code ir65) := ⟨Tryz.f65, Tryz.func65, by kernel_rfl, by kernel_rfl⟩
theorem ok93 : EntryOk prog 93 (.code ir93) := ⟨Tryz.f93, Tryz.func93, by kernel_rfl, by kernel_rfl⟩
theorem ok136 : EntryOk prog 136 (.code ir136) := ⟨Tryz.f136, Tryz.func136, by kernel_rfl, by kernel_rfl⟩
theorem ok92 : EntryOk prog 92 (.code ir92) := ⟨Tryz.f92, Tryz.func92, by kernel_rfl, by kernel_rfl⟩
theorem ok137 : EntryOk prog 137 (.code ir137) := ⟨Tryz.f137, Tryz.func137, by kernel_rfl, by kernel_rfl⟩
theorem ok175 : EntryOk prog 175 (.code ir175) := ⟨Tryz.f175, Tryz.func175, by kernel_rfl, by kernel_rfl⟩
theorem ok220 : EntryOk prog 220 (.code ir220) := ⟨Tryz.f220, Tryz.func220, by kernel_rfl, by kernel_rfl⟩
theorem ok258 : EntryOk prog 258 (.code ir258) := ⟨Tryz.f258, Tryz.func258, by kernel_rfl, by kernel_rfl⟩
theorem ok272 : EntryOk prog 272 (.code ir272) := ⟨Tryz.f272, Tryz.func272, by kernel_rfl, by kernel_rfl⟩
theorem ok283 : EntryOk prog 283 (.code ir283) := ⟨Tryz.f283, Tryz.func283, by kernel_rfl, by kernel_rfl⟩
theorem ok293 : EntryOk prog 293 (.code ir293) := ⟨Tryz.f293, Tryz.func293, by kernel_rfl, by kernel_rfl⟩
theorem ok292 : EntryOk prog 292 (.code ir292) := ⟨Tryz.f292, Tryz.func292, by kernel_rfl, by kernel_rfl⟩
theorem ok270 : EntryOk prog 270 (.code ir270) := ⟨Tryz.f270, Tryz.func270, by kernel_rfl, by kernel_rfl⟩
theorem ok291 : EntryOk prog 291 (.code ir291) := ⟨Tryz.f291, Tryz.func291, by kernel_rfl, by kernel_rfl⟩
theorem ok289 : EntryOk prog 289 (.code ir289) := ⟨Tryz.f289, Tryz.func289, by kernel_rfl, by kernel_rfl⟩
theorem ok295 : EntryOk prog 295 (.code ir295) := ⟨Tryz.f295, Tryz.func295, by kernel_rfl, by kernel_rfl⟩
theorem ok273 : EntryOk prog 273 (.code ir273) := ⟨Tryz.f273, Tryz.func273, by kernel_rfl, by kernel_rfl⟩
theorem ok285 : EntryOk prog 285 (.code ir285) := ⟨Tryz.f285, Tryz.func285, by kernel_rfl, by kernel_rfl⟩
theorem ok271 : EntryOk prog 271 (.code ir271) := ⟨Tryz.f271, Tryz.func271, by kernel_rfl, by kernel_rfl⟩
theorem ok281 : EntryOk prog 281 (.code ir281) := ⟨Tryz.f281, Tryz.func281, by kernel_rfl, by kernel_rfl⟩
theorem ok290 : EntryOk prog 290 (.code ir290) := ⟨Tryz.f290, Tryz.func290, by kernel_rfl, by kernel_rfl⟩
theorem ok297 : EntryOk prog 297 (.code ir297) := ⟨Tryz.f297, Tryz.func297, by kernel_rfl, by kernel_rfl⟩
theorem ok296 : EntryOk prog 296 (.code ir296) := ⟨Tryz.f296, Tryz.func296, by kernel_rfl, by kernel_rfl⟩
theorem ok301 : EntryOk prog 301 (.code ir301) := ⟨Tryz.f301, Tryz.func301, by kernel_rfl, by kernel_rfl⟩
theorem ok221 : EntryOk prog 221 (.code ir221) := ⟨Tryz.f221, Tryz.func221, by kernel_rfl, by kernel_rfl⟩
theorem ok222 : EntryOk prog 222 (.code ir222) := ⟨Tryz.f222, Tryz.func222, by kernel_rfl, by kernel_rfl⟩
theorem ok174 : EntryOk prog 174 (.code ir174) := ⟨Tryz.f174, Tryz.func174, by kernel_rfl, by kernel_rfl⟩
theorem ok131 : EntryOk prog 131 (.code ir131) := ⟨Tryz.f131, Tryz.func131, by kernel_rfl, by kernel_rfl⟩
theorem ok90 : EntryOk prog 90 (.code ir90) := ⟨Tryz.f90, Tryz.func90, by kernel_rfl, by kernel_rfl⟩
theorem ok135 : EntryOk prog 135 (.code ir135) := ⟨Tryz.f135, Tryz.func135, by kernel_rfl, by kernel_rfl⟩
theorem ok134 : EntryOk prog 134 (.code ir134) := ⟨Tryz.f134, Tryz.func134, by kernel_rfl, by kernel_rfl⟩
theorem ok173 : EntryOk prog 173 (.code ir173) := ⟨Tryz.f173, Tryz.func173, by kernel_rfl, by kernel_rfl⟩
theorem ok133 : EntryOk prog 133 (.code ir133) := ⟨Tryz.f133, Tryz.func133, by kernel_rfl, by kernel_rfl⟩
theorem ok172 : EntryOk prog 172 (.code ir172) := ⟨Tryz.f172, Tryz.func172, by kernel_rfl, by kernel_rfl⟩
theorem ok171 : EntryOk prog 171 (.code ir171) := ⟨Tryz.f171, Tryz.func171, by kernel_rfl, by kernel_rfl⟩
theorem ok219 : EntryOk prog 219 (.code ir219) := ⟨Tryz.f219, Tryz.func219, by kernel_rfl, by kernel_rfl⟩
theorem ok132 : EntryOk prog 132 (.code ir132) := ⟨Tryz.f132, Tryz.func132, by kernel_rfl, by kernel_rfl⟩
theorem ok59 : EntryOk prog 59 (.code ir59) := ⟨Tryz.f59, Tryz.func59, by kernel_rfl, by kernel_rfl⟩
theorem ok91 : EntryOk prog 91 (.code ir91) := ⟨Tryz.f91, Tryz.func91, by kernel_rfl, by kernel_rfl⟩
theorem ok37 : EntryOk prog 37 (.code ir37) := ⟨Tryz.f37, Tryz.func37, by kernel_rfl, by kernel_rfl⟩
theorem ok61 : EntryOk prog 61 (.code ir61) := ⟨Tryz.f61, Tryz.func61, by kernel_rfl, by kernel_rfl⟩
theorem ok81 : EntryOk prog 81 (.code ir81) := ⟨Tryz.f81, Tryz.func81, by kernel_rfl, by kernel_rfl⟩
theorem ok114 : EntryOk prog 114 (.code ir114) := ⟨Tryz.f114, Tryz.func114, by kernel_rfl, by kernel_rfl⟩
theorem ok113 : EntryOk prog 113 (.code ir113) := ⟨Tryz.f113, Tryz.func113, by kernel_rfl, by kernel_rfl⟩
theorem ok112 : EntryOk prog 112 (.code ir112) := ⟨Tryz.f112, Tryz.func112, by kernel_rfl, by kernel_rfl⟩
theorem ok159 : EntryOk prog 159 (.code ir159) := ⟨Tryz.f159, Tryz.func159, by kernel_rfl, by kernel_rfl⟩
theorem ok216 : EntryOk prog 216 (.code ir216) := ⟨Tryz.f216, Tryz.func216, by kernel_rfl, by kernel_rfl⟩
theorem ok248 : EntryOk prog 248 (.code ir248) := ⟨Tryz.f248, Tryz.func248, by kernel_rfl, by kernel_rfl⟩
theorem ok215 : EntryOk prog 215 (.code ir215) := ⟨Tryz.f215, Tryz.func215, by kernel_rfl, by kernel_rfl⟩
theorem ok160 : EntryOk prog 160 (.code ir160) := ⟨Tryz.f160, Tryz.func160, by kernel_rfl, by kernel_rfl⟩
theorem ok217 : EntryOk prog 217 (.code ir217) := ⟨Tryz.f217, Tryz.func217, by kernel_rfl, by kernel_rfl⟩
theorem ok158 : EntryOk prog 158 (.code ir158) := ⟨Tryz.f158, Tryz.func158, by kernel_rfl, by kernel_rfl⟩
theorem ok214 : EntryOk prog 214 (.code ir214) := ⟨Tryz.f214, Tryz.func214, by kernel_rfl, by kernel_rfl⟩
theorem ok247 : EntryOk prog 247 (.code ir247) := ⟨Tryz.f247, Tryz.func247, by kernel_rfl, by kernel_rfl⟩
theorem ok268 : EntryOk prog 268 (.code ir268) := ⟨Tryz.f268, Tryz.func268, by kernel_rfl, by kernel_rfl⟩
theorem ok278 : EntryOk prog 278 (.code ir278) := ⟨Tryz.f278, Tryz.func278, by kernel_rfl, by kernel_rfl⟩
theorem ok241 : EntryOk prog 241 (.code ir241) := ⟨Tryz.f241, Tryz.func241, by kernel_rfl, by kernel_rfl⟩
theorem ok198 : EntryOk prog 198 (.code ir198) := ⟨Tryz.f198, Tryz.func198, by kernel_rfl, by kernel_rfl⟩
theorem ok201 : EntryOk prog 201 (.code ir201) := ⟨Tryz.f201, Tryz.func201, by kernel_rfl, by kernel_rfl⟩
theorem ok267 : EntryOk prog 267 (.code ir267) := ⟨Tryz.f267, Tryz.func267, by kernel_rfl, by kernel_rfl⟩
theorem ok200 : EntryOk prog 200 (.code ir200) := ⟨Tryz.f200, Tryz.func200, by kernel_rfl, by kernel_rfl⟩
theorem ok203 : EntryOk prog 203 (.code ir203) := ⟨Tryz.f203, Tryz.func203, by kernel_rfl, by kernel_rfl⟩
theorem ok149 : EntryOk prog 149 (.code ir149) := ⟨Tryz.f149, Tryz.func149, by kernel_rfl, by kernel_rfl⟩
theorem ok240 : EntryOk prog 240 (.code ir240) := ⟨Tryz.f240, Tryz.func240, by kernel_rfl, by kernel_rfl⟩
theorem ok238 : EntryOk prog 238 (.code ir238) := ⟨Tryz.f238, Tryz.func238, by kernel_rfl, by kernel_rfl⟩
theorem ok242 : EntryOk prog 242 (.code ir242) := ⟨Tryz.f242, Tryz.func242, by kernel_rfl, by kernel_rfl⟩
theorem ok266 : EntryOk prog 266 (.code ir266) := ⟨Tryz.f266, Tryz.func266, by kernel_rfl, by kernel_rfl⟩
theorem ok277 : EntryOk prog 277 (.code ir277) := ⟨Tryz.f277, Tryz.func277, by kernel_rfl, by kernel_rfl⟩
theorem ok204 : EntryOk prog 204 (.code ir204) := ⟨Tryz.f204, Tryz.func204, by kernel_rfl, by kernel_rfl⟩
theorem ok288 : EntryOk prog 288 (.code ir288) := ⟨Tryz.f288, Tryz.func288, by kernel_rfl, by kernel_rfl⟩
theorem ok163 : EntryOk prog 163 (.code ir163) := ⟨Tryz.f163, Tryz.func163, by kernel_rfl, by kernel_rfl⟩
theorem ok294 : EntryOk prog 294 (.code ir294) := ⟨Tryz.f294, Tryz.func294, by kernel_rfl, by kernel_rfl⟩
theorem ok111 : EntryOk prog 111 (.code ir111) := ⟨Tryz.f111, Tryz.func111, by kernel_rfl, by kernel_rfl⟩
theorem ok153 : EntryOk prog 153 (.code ir153) := ⟨Tryz.f153, Tryz.func153, by kernel_rfl, by kernel_rfl⟩
theorem ok208 : EntryOk prog 208 (.code ir208) := ⟨Tryz.f208, Tryz.func208, by kernel_rfl, by kernel_rfl⟩
theorem ok152 : EntryOk prog 152 (.code ir152) := ⟨Tryz.f152, Tryz.func152, by kernel_rfl, by kernel_rfl⟩
theorem ok206 : EntryOk prog 206 (.code ir206) := ⟨Tryz.f206, Tryz.func206, by kernel_rfl, by kernel_rfl⟩
theorem ok207 : EntryOk prog 207 (.code ir207) := ⟨Tryz.f207, Tryz.func207, by kernel_rfl, by kernel_rfl⟩
theorem ok245 : EntryOk prog 245 (.code ir245) := ⟨Tryz.f245, Tryz.func245, by kernel_rfl, by kernel_rfl⟩
theorem ok156 : EntryOk prog 156 (.code ir156) := ⟨Tryz.f156, Tryz.func156, by kernel_rfl, by kernel_rfl⟩
theorem ok157 : EntryOk prog 157 (.code ir157) := ⟨Tryz.f157, Tryz.func157, by kernel_rfl, by kernel_rfl⟩
theorem ok212 : EntryOk prog 212 (.code ir212) := ⟨Tryz.f212, Tryz.func212, by kernel_rfl, by kernel_rfl⟩
theorem ok155 : EntryOk prog 155 (.code ir155) := ⟨Tryz.f155, Tryz.func155, by kernel_rfl, by kernel_rfl⟩
theorem ok209 : EntryOk prog 209 (.code ir209) := ⟨Tryz.f209, Tryz.func209, by kernel_rfl, by kernel_rfl⟩
theorem ok210 : EntryOk prog 210 (.code ir210) := ⟨Tryz.f210, Tryz.func210, by kernel_rfl, by kernel_rfl⟩
theorem ok246 : EntryOk prog 246 (.code ir246) := ⟨Tryz.f246, Tryz.func246, by kernel_rfl, by kernel_rfl⟩
theorem ok154 : EntryOk prog 154 (.code ir154) := ⟨Tryz.f154, Tryz.func154, by kernel_rfl, by kernel_rfl⟩
theorem ok80 : EntryOk prog 80 (.code ir80) := ⟨Tryz.f80, Tryz.func80, by kernel_rfl, by kernel_rfl⟩
theorem ok110 : EntryOk prog 110 (.code ir110) := ⟨Tryz.f110, Tryz.func110, by kernel_rfl, by kernel_rfl⟩
theorem ok151 : EntryOk prog 151 (.code ir151) := ⟨Tryz.f151, Tryz.func151, by kernel_rfl, by kernel_rfl⟩
theorem ok205 : EntryOk prog 205 (.code ir205) := ⟨Tryz.f205, Tryz.func205, by kernel_rfl, by kernel_rfl⟩
theorem ok244 : EntryOk prog 244 (.code ir244) := ⟨Tryz.f244, Tryz.func244, by kernel_rfl, by kernel_rfl⟩
theorem ok243 : EntryOk prog 243 (.code ir243) := ⟨Tryz.f243, Tryz.func243, by kernel_rfl, by kernel_rfl⟩
theorem ok202 : EntryOk prog 202 (.code ir202) := ⟨Tryz.f202, Tryz.func202, by kernel_rfl, by kernel_rfl⟩
theorem ok239 : EntryOk prog 239 (.code ir239) := ⟨Tryz.f239, Tryz.func239, by kernel_rfl, by kernel_rfl⟩
theorem ok108 : EntryOk prog 108 (.code ir108) := ⟨Tryz.f108, Tryz.func108, by kernel_rfl, by kernel_rfl⟩
theorem ok109 : EntryOk prog 109 (.code ir109) := ⟨Tryz.f109, Tryz.func109, by kernel_rfl, by kernel_rfl⟩
theorem ok150 : EntryOk prog 150 (.code ir150) := ⟨Tryz.f150, Tryz.func150, by kernel_rfl, by kernel_rfl⟩
theorem ok199 : EntryOk prog 199 (.code ir199) := ⟨Tryz.f199, Tryz.func199, by kernel_rfl, by kernel_rfl⟩
theorem ok79 : EntryOk prog 79 (.code ir79) := ⟨Tryz.f79, Tryz.func79, by kernel_rfl, by kernel_rfl⟩
theorem ok78 : EntryOk prog 78 (.code ir78) := ⟨Tryz.f78, Tryz.func78, by kernel_rfl, by kernel_rfl⟩
theorem ok60 : EntryOk prog 60 (.code ir60) := ⟨Tryz.f60, Tryz.func60, by kernel_rfl, by kernel_rfl⟩
theorem ok38 : EntryOk prog 38 (.code ir38) := ⟨Tryz.f38, Tryz.func38, by kernel_rfl, by kernel_rfl⟩
theorem ok64 : EntryOk prog 64 (.code ir64) := ⟨Tryz.f64, Tryz.func64, by kernel_rfl, by kernel_rfl⟩
theorem ok63 : EntryOk prog 63 (.code ir63) := ⟨Tryz.f63, Tryz.func63, by kernel_rfl, by kernel_rfl⟩
theorem ok89 : EntryOk prog 89 (.code ir89) := ⟨Tryz.f89, Tryz.func89, by kernel_rfl, by kernel_rfl⟩
theorem ok88 : EntryOk prog 88 (.code ir88) := ⟨Tryz.f88, Tryz.func88, by kernel_rfl, by kernel_rfl⟩
theorem ok129 : EntryOk prog 129 (.code ir129) := ⟨Tryz.f129, Tryz.func129, by kernel_rfl, by kernel_rfl⟩
theorem ok87 : EntryOk prog 87 (.code ir87) := ⟨Tryz.f87, Tryz.func87, by kernel_rfl, by kernel_rfl⟩
theorem ok130 : EntryOk prog 130 (.code ir130) := ⟨Tryz.f130, Tryz.func130, by kernel_rfl, by kernel_rfl⟩
theorem ok62 : EntryOk prog 62 (.code ir62) := ⟨Tryz.f62, Tryz.func62, by kernel_rfl, by kernel_rfl⟩
theorem ok86 : EntryOk prog 86 (.code ir86) := ⟨Tryz.f86, Tryz.func86, by kernel_rfl, by kernel_rfl⟩
theorem ok128 : EntryOk prog 128 (.code ir128) := ⟨Tryz.f128, Tryz.func128, by kernel_rfl, by kernel_rfl⟩
theorem ok167 : EntryOk prog 167 (.code ir167) := ⟨Tryz.f167, Tryz.func167, by kernel_rfl, by kernel_rfl⟩
theorem ok126 : EntryOk prog 126 (.code ir126) := ⟨Tryz.f126, Tryz.func126, by kernel_rfl, by kernel_rfl⟩
theorem ok165 : EntryOk prog 165 (.code ir165) := ⟨Tryz.f165, Tryz.func165, by kernel_rfl, by kernel_rfl⟩
theorem ok121 : EntryOk prog 121 (.code ir121) := ⟨Tryz.f121, Tryz.func121, by kernel_rfl, by kernel_rfl⟩
theorem ok168 : EntryOk prog 168 (.code ir168) := ⟨Tryz.f168, Tryz.func168, by kernel_rfl, by kernel_rfl⟩
theorem ok120 : EntryOk prog 120 (.code ir120) := ⟨Tryz.f120, Tryz.func120, by kernel_rfl, by kernel_rfl⟩
theorem ok127 : EntryOk prog 127 (.code ir127) := ⟨Tryz.f127, Tryz.func127, by kernel_rfl, by kernel_rfl⟩
theorem ok125 : EntryOk prog 125 (.code ir125) := ⟨Tryz.f125, Tryz.func125, by kernel_rfl, by kernel_rfl⟩
theorem ok124 : EntryOk prog 124 (.code ir124) := ⟨Tryz.f124, Tryz.func124, by kernel_rfl, by kernel_rfl⟩
theorem ok166 : EntryOk prog 166 (.code ir166) := ⟨Tryz.f166, Tryz.func166, by kernel_rfl, by kernel_rfl⟩
theorem ok85 : EntryOk prog 85 (.code ir85) := ⟨Tryz.f85, Tryz.func85, by kernel_rfl, by kernel_rfl⟩
theorem ok84 : EntryOk prog 84 (.code ir84) := ⟨Tryz.f84, Tryz.func84, by kernel_rfl, by kernel_rfl⟩
theorem ok83 : EntryOk prog 83 (.code ir83) := ⟨Tryz.f83, Tryz.func83, by kernel_rfl, by kernel_rfl⟩
theorem ok25 : EntryOk prog 25 (.code ir25) := ⟨Tryz.f25, Tryz.func25, by kernel_rfl, by kernel_rfl⟩
theorem ok24 : EntryOk prog 24 (.code ir24) := ⟨Tryz.f24, Tryz.func24, by kernel_rfl, by kernel_rfl⟩
theorem ok23 : EntryOk prog 23 (.code ir23) := ⟨Tryz.f23, Tryz.func23, by kernel_rfl, by kernel_rfl⟩
theorem ok9 : EntryOk prog 9 (.code ir9) := ⟨Tryz.f9, Tryz.func9, by kernel_rfl, by kernel_rfl⟩
theorem ok12 : EntryOk prog 12 (.code ir12) := ⟨Tryz.f12, Tryz.func12, by kernel_rfl, by kernel_rfl⟩
theorem ok11 : EntryOk prog 11 (.code ir11) := ⟨Tryz.f11, Tryz.func11, by kernel_rfl, by kernel_rfl⟩
theorem ok27 : EntryOk prog 27 (.code ir27) := ⟨Tryz.f27, Tryz.func27, by kernel_rfl, by kernel_rfl⟩
theorem ok0x218 : EntryOk prog0 218 (.code ir218) := ⟨Tryz.f218, Tryz.func218, by kernel_rfl, by kernel_rfl⟩
theorem ok0x249 : EntryOk prog0 249 (.code ir249) := ⟨Tryz.f249, Tryz.func249, by kernel_rfl, by kernel_rfl⟩
theorem ok0x250 : EntryOk prog0 250 (.code ir250) := ⟨Tryz.f250, Tryz.func250, by kernel_rfl, by kernel_rfl⟩
theorem ok0x251 : EntryOk prog0 251 (.code ir251) := ⟨Tryz.f251, Tryz.func251, by kernel_rfl, by kernel_rfl⟩
theorem ok0x252 : EntryOk prog0 252 (.code ir252) := ⟨Tryz.f252, Tryz.func252, by kernel_rfl, by kernel_rfl⟩
theorem ok0x253 : EntryOk prog0 253 (.code ir253) := ⟨Tryz.f253, Tryz.func253, by kernel_rfl, by kernel_rfl⟩
theorem ok0x254 : EntryOk prog0 254 (.code ir254) := ⟨Tryz.f254, Tryz.func254, by kernel_rfl, by kernel_rfl⟩
theorem ok0x255 : EntryOk prog0 255 (.code ir255) := ⟨Tryz.f255, Tryz.func255, by kernel_rfl, by kernel_rfl⟩
theorem ok0x256 : EntryOk prog0 256 (.code ir256) := ⟨Tryz.f256, Tryz.func256, by kernel_rfl, by kernel_rfl⟩
theorem ok0x257 : EntryOk prog0 257 (.code ir257) := ⟨Tryz.f257, Tryz.func257, by kernel_rfl, by kernel_rfl⟩
theorem ok0x217 : EntryOk prog0 217 (.code ir217) := ⟨Tryz.f217, Tryz.func217, by kernel_rfl, by kernel_rfl⟩
theorem ok0x162 : EntryOk prog0 162 (.code ir162) := ⟨Tryz.f162, Tryz.func162, by kernel_rfl, by kernel_rfl⟩
theorem ok0x269 : EntryOk prog0 269 (.code ir269) := ⟨Tryz.f269, Tryz.func269, by kernel_rfl, by kernel_rfl⟩
theorem ok0x279 : EntryOk prog0 279 (.code ir279) := ⟨Tryz.f279, Tryz.func279, by kernel_rfl, by kernel_rfl⟩
theorem ok0x161 : EntryOk prog0 161 (.code ir161) := ⟨Tryz.f161, Tryz.func161, by kernel_rfl, by kernel_rfl⟩
theorem ok0x115 : EntryOk prog0 115 (.code ir115) := ⟨Tryz.f115, Tryz.func115, by kernel_rfl, by kernel_rfl⟩
theorem ok0x164 : EntryOk prog0 164 (.code ir164) := ⟨Tryz.f164, Tryz.func164, by kernel_rfl, by kernel_rfl⟩
theorem ok0x163 : EntryOk prog0 163 (.code ir163) := ⟨Tryz.f163, Tryz.func163, by kernel_rfl, by kernel_rfl⟩
theorem ok0x116 : EntryOk prog0 116 (.code ir116) := ⟨Tryz.f116, Tryz.func116, by kernel_rfl, by kernel_rfl⟩
theorem ok0x117 : EntryOk prog0 117 (.code ir117) := ⟨Tryz.f117, Tryz.func117, by kernel_rfl, by kernel_rfl⟩
theorem ok0x119 : EntryOk prog0 119 (.code ir119) := ⟨Tryz.f119, Tryz.func119, by kernel_rfl, by kernel_rfl⟩
theorem ok0x118 : EntryOk prog0 118 (.code ir118) := ⟨Tryz.f118, Tryz.func118, by kernel_rfl, by kernel_rfl⟩
theorem ok0x123 : EntryOk prog0 123 (.code ir123) := ⟨Tryz.f123, Tryz.func123, by kernel_rfl, by kernel_rfl⟩
theorem ok0x82 : EntryOk prog0 82 (.code ir82) := ⟨Tryz.f82, Tryz.func82, by kernel_rfl, by kernel_rfl⟩
theorem ok0x213 : EntryOk prog0 213 (.code ir213) := ⟨Tryz.f213, Tryz.func213, by kernel_rfl, by kernel_rfl⟩
theorem ok0x122 : EntryOk prog0 122 (.code ir122) := ⟨Tryz.f122, Tryz.func122, by kernel_rfl, by kernel_rfl⟩
theorem ok0x211 : EntryOk prog0 211 (.code ir211) := ⟨Tryz.f211, Tryz.func211, by kernel_rfl, by kernel_rfl⟩
theorem allLaw : AllOk prog lawCode := .cons ok4 (.cons ok14 (.cons ok10 (.cons ok13 (.cons ok28 (.cons ok40 (.cons ok66 (.cons ok97 (.cons ok142 (.cons ok177 (.cons ok176 (.cons ok141 (.cons ok96 (.cons ok95 (.cons ok140 (.cons ok138 (.cons ok139 (.cons ok94 (.cons ok29 (.cons ok8 (.cons ok26 (.cons ok39 (.cons ok322 (.cons ok323 (.cons ok36 (.cons ok77 (.cons ok321 (.cons ok320 (.cons ok319 (.cons ok318 (.cons ok65 (.cons ok93 (.cons ok136 (.cons ok92 (.cons ok137 (.cons ok175 (.cons ok220 (.cons ok258 (.cons ok272 (.cons ok283 (.cons ok293 (.cons ok292 (.cons ok270 (.cons ok291 (.cons ok289 (.cons ok295 (.cons ok273 (.cons ok285 (.cons ok271 (.cons ok281 (.cons ok290 (.cons ok297 (.cons ok296 (.cons ok301 (.cons ok221 (.cons ok222 (.cons ok174 (.cons ok131 (.cons ok90 (.cons ok135 (.cons ok134 (.cons ok173 (.cons ok133 (.cons ok172 (.cons ok171 (.cons ok219 (.cons ok132 (.cons ok59 (.cons ok91 (.cons ok37 (.cons ok61 (.cons ok81 (.cons ok114 (.cons ok113 (.cons ok112 (.cons ok159 (.cons ok216 (.cons ok248 (.cons ok215 (.cons ok160 (.cons ok217 (.cons ok158 (.cons ok214 (.cons ok247 (.cons ok268 (.cons ok278 (.cons ok241 (.cons ok198 (.cons ok201 (.cons ok267 (.cons ok200 (.cons ok203 (.cons ok149 (.cons ok240 (.cons ok238 (.cons ok242 (.cons ok266 (.cons ok277 (.cons ok204 (.cons ok288 (.cons ok163 (.cons ok294 (.cons ok111 (.cons ok153 (.cons ok208 (.cons ok152 (.cons ok206 (.cons ok207 (.cons ok245 (.cons ok156 (.cons ok157 (.cons ok212 (.cons ok155 (.cons ok209 (.cons ok210 (.cons ok246 (.cons ok154 (.cons ok80 (.cons ok110 (.cons ok151 (.cons ok205 (.cons ok244 (.cons ok243 (.cons ok202 (.cons ok239 (.cons ok108 (.cons ok109 (.cons ok150 (.cons ok199 (.cons ok79 (.cons ok78 (.cons ok60 (.cons ok38 (.cons ok64 (.cons ok63 (.cons ok89 (.cons ok88 (.cons ok129 (.cons ok87 (.cons ok130 (.cons ok62 (.cons ok86 (.cons ok128 (.cons ok167 (.cons ok126 (.cons ok165 (.cons ok121 (.cons ok168 (.cons ok120 (.cons ok127 (.cons ok125 (.cons ok124 (.cons ok166 (.cons ok85 (.cons ok84 (.cons ok83 (.cons ok25 (.cons ok24 (.cons ok23 (.cons ok9 (.cons ok12 (.cons ok11 (.cons ok27 (.nil)))))))))))))))))))))))))))))))))))))))))))))))))))))))))))))))))))))))))))))))))))))))))))))))))))))))))))))))))))))))))))))))))))))))))))))))))))))))))))))))))))
theorem allExt : AllOk prog lawExt := .nil
theorem all0 : AllOk prog0 instCode := .cons ok0x218 (.cons ok0x249 (.cons ok0x250 (.cons ok0x251 (.cons ok0x252 (.cons ok0x253 (.cons ok0x254 (.cons ok0x255 (.cons ok0x256 (.cons ok0x257 (.cons ok0x217 (.cons ok0x162 (.cons ok0x269 (.cons ok0x279 (.cons ok0x161 (.cons ok0x115 (.cons ok0x164 (.cons ok0x163 (.cons ok0x116 (.cons ok0x117 (.cons ok0x119 (.cons ok0x118 (.cons ok0x123 (.cons ok0x82 (.cons ok0x213 (.cons ok0x122 (.cons ok0x211 (.nil)))))))))))))))))))))))))))
theorem mixed : prog.follows .mixedOrders = true := by kernel_rfl
theorem mixed0 : prog0.follows .mixedOrders = true := by kernel_rfl
theorem globs {h : List AV → St → Option (AV × St)} {f : Nat} (e : EntryOk2 prog0 f (.hook h)) : EntryOk2 prog f (.hook h) := by
  cases e with
  | old e => exact e.elim
  | hook a b =>
    exact .hook (fun args s r e1 e2 φ w c hg => a args s r e1 e2 φ w c (fun g hg' => by cases hg')) b
theorem lawHooks_ok : AllOk2 prog lawHooks := .cons (globs (h_of mixed0 rfl all0)) (.cons (globs (h_at mixed0 rfl all0)) (.cons (globs (h_right mixed0 rfl all0)) (.cons (globs (h_writes mixed0 rfl all0)) (.cons (globs (h_writesPred mixed0 rfl all0)) (.cons (globs (h_readsPred mixed0 rfl all0)) (.cons (globs (h_class mixed0 rfl all0)) (.cons (globs (h_has mixed0 rfl all0)) (.nil))))))))
theorem ok_l0 : AllOk2 prog tl0 := AllOk2.app allLaw (AllOk2.app allExt lawHooks_ok)
theorem gl_pre : ∀ g, g ∈ prog.G → memoPre[g]? = some g ∧ g ∈ prog.G := fun g hg => ⟨(by decide : ∀ g ∈ ([0, 2, 3, 4, 5, 6, 7, 8] : List Nat), memoPre[g]? = some g) g hg, hg⟩
theorem ok_l1 : AllOk2 prog tl1 := .cons (EntryOk2.memoA (P0 := prog) mixed rfl gl_pre (AllOk2.fine ok_l0) 100000 151 tbl151 (by rw [← tabT_eq tr0_ok]; exact all151)) ok_l0
theorem ok_l2 : AllOk2 prog tl2 := .cons (EntryOk2.memoA (P0 := prog) mixed rfl gl_pre (AllOk2.fine ok_l1) 100000 61 tbl61 (by rw [← tabT_eq tr1_ok]; exact all61)) ok_l1
theorem ok_l3 : AllOk2 prog tl3 := .cons (EntryOk2.memoA (P0 := prog) mixed rfl gl_pre (AllOk2.fine ok_l2) 100000 38 tbl38 (by rw [← tabT_eq tr2_ok]; exact all38)) ok_l2
theorem ok_l4 : AllOk2 prog tl4 := .cons (EntryOk2.memoA (P0 := prog) mixed rfl gl_pre (AllOk2.fine ok_l3) 100000 8 tbl8 (by rw [← tabT_eq tr3_ok]; exact all8)) ok_l3
theorem fine_law : TabFine prog (tabT tr4) := by rw [tabT_eq tr4_ok]; exact AllOk2.fine ok_l4
abbrev theLaid : List (String × DataW Unit) := YtpccibieeikllaaGreatDoor.Rows.traceKnownRow.laid
def gchk (ty : Ty) (d : DataW Unit) (g sz : Nat) (s : St) : Bool := match layD ty d s with
  | some (l, s1) => Nat.blt g s1.next && ((match s1.heap.get g with | none => true | some _ => false) && Nat.ble sz l.length)
  | none => false
theorem gst_step {P : Program} {W : World} {φ : Phi} {s : St} (h : RelSt φ s W) (hr : AllRo s) (hw : WFS s) {name : String} {g t : Nat} {ty : Ty} (hg : P.globalNamed name = some g) (ht : tyOf P 8 t = some ty) {cs : Array Value} (hv : W.var? P name = some cs) {held : Bool} {m : Nat} {d : DataW Unit} {ps : List MemPlace} (hd : DataW.trod (fun _ => ()) P W 0 (fun _ => true) held m t cs.toList = some (d, ps)) {sz : Nat} (hc : gchk ty d g sz s = true) :
    ∃ φ', Imp W φ s φ' (gst ty d g s) ∧ ∃ n top, φ' g 0 = some ⟨g, 0, 0, n, top⟩ ∧ sz ≤ n := by
  unfold gchk at hc
  cases hl : layD ty d s with
  | none => rw [hl] at hc; cases hc
  | some x =>
    obtain ⟨l, s1⟩ := x
    rw [hl] at hc
    simp only [Bool.and_eq_true, Nat.blt_eq, Nat.ble_eq] at hc
    obtain ⟨h1, h2, h3⟩ := hc
    have hf : s1.heap.get g = none := by
      cases hh : s1.heap.get g with
      | none => rfl
      | some _ => rw [hh] at h2; cases h2
    obtain ⟨φ', i, top, e⟩ := glob_lay h hr hw hg ht hv hd hl h1 hf
    refine ⟨φ', ?_, l.length, top, e, h3⟩
    unfold gst
    rw [hl]
    exact i
theorem next_up {φ : Phi} {s : St} {W : World} (h1 : RelSt φ s W) (h2 : AllRo s) (h3 : WFS s) {n : Nat} (hn : s.next ≤ n) : RelSt φ { s with next := n } W ∧ AllRo { s with next := n } ∧ WFS { s with next := n } :=
  ⟨⟨h1.obj, h1.dom, h1.inj, h1.incs⟩, h2, fun id hid => h3 id (Nat.le_trans hn hid)⟩
theorem ty0 : tyOf Tryz.prog 8 237 = some gt0 := by
  have c237 : Tryz.prog.cellsOf 237 = 20 := by kernel_rfl
  have c100 : Tryz.prog.cellsOf 100 = 1 := by kernel_rfl
  simp [tyOf, tyOf.go, gt0, tySize, tySizes, Tryz.underlying237, Tryz.underlying100, c237, c100]
theorem ty2 : tyOf Tryz.prog 8 253 = some gt2 := by
  have c253 : Tryz.prog.cellsOf 253 = 4 := by kernel_rfl
  have c252 : Tryz.prog.cellsOf 252 = 2 := by kernel_rfl
  have c3 : Tryz.prog.cellsOf 3 = 1 := by kernel_rfl
  simp [tyOf, tyOf.go, gt2, tySize, tySizes, Tryz.underlying253, Tryz.underlying252, Tryz.underlying3, c253, c252, c3]
theorem ty3 : tyOf Tryz.prog 8 252 = some gt3 := by
  have c252 : Tryz.prog.cellsOf 252 = 2 := by kernel_rfl
  have c3 : Tryz.prog.cellsOf 3 = 1 := by kernel_rfl
  simp [tyOf, tyOf.go, gt3, tySize, tySizes, Tryz.underlying252, Tryz.underlying3, c252, c3]
theorem ty5 : tyOf Tryz.prog 8 315 = some gt5 := by
  have c315 : Tryz.prog.cellsOf 315 = 32 := by kernel_rfl
  have c5 : Tryz.prog.cellsOf 5 = 1 := by kernel_rfl
  simp [tyOf, tyOf.go, gt5, tySize, tySizes, Tryz.underlying315, Tryz.underlying5, c315, c5]
theorem ty6 : tyOf Tryz.prog 8 316 = some gt6 := by
  have c316 : Tryz.prog.cellsOf 316 = 64 := by kernel_rfl
  have c5 : Tryz.prog.cellsOf 5 = 1 := by kernel_rfl
  simp [tyOf, tyOf.go, gt6, tySize, tySizes, Tryz.underlying316, Tryz.underlying5, c316, c5]
theorem ty8 : tyOf Tryz.prog 8 327 = some gt8 := by
  have c327 : Tryz.prog.cellsOf 327 = 1 := by kernel_rfl
  have c332 : Tryz.prog.cellsOf 332 = 10 := by kernel_rfl
  have c5 : Tryz.prog.cellsOf 5 = 1 := by kernel_rfl
  have c330 : Tryz.prog.cellsOf 330 = 9 := by kernel_rfl
  have c329 : Tryz.prog.cellsOf 329 = 3 := by kernel_rfl
  have c3 : Tryz.prog.cellsOf 3 = 1 := by kernel_rfl
  simp [tyOf, tyOf.go, gt8, tySize, tySizes, Tryz.underlying327, Tryz.underlying332, Tryz.underlying5, Tryz.underlying330, Tryz.underlying329, Tryz.underlying3, c327, c332, c5, c330, c329, c3]
theorem glob_state {W : World} (h : laidMetH Tryz.prog theLaid W) : ∃ φ, RelSt φ sG W ∧ AllRo sG ∧ WFS sG ∧ GlobOk prog φ := by
  rw [MakeChecks.laidMetH_plain _ _ _ (by kernel_rfl)] at h
  obtain ⟨ps, ⟨g3, t3, cs3, f3, p3, q3, hg3, ht3, hv3, hd3, ⟨g2, t2, cs2, f2, p2, q2, hg2, ht2, hv2, hd2, ⟨g4, t4, cs4, f4, p4, q4, hg4, ht4, hv4, hd4, ⟨g7, t7, cs7, f7, p7, q7, hg7, ht7, hv7, hd7, ⟨g5, t5, cs5, f5, p5, q5, hg5, ht5, hv5, hd5, ⟨g6, t6, cs6, f6, p6, q6, hg6, ht6, hv6, hd6, ⟨g0, t0, cs0, f0, p0, q0, hg0, ht0, hv0, hd0, ⟨g8, t8, cs8, f8, p8, q8, hg8, ht8, hv8, hd8, _, _⟩, _⟩, _⟩, _⟩, _⟩, _⟩, _⟩, _⟩, _⟩ := h
  obtain rfl := Option.some.inj ((show Tryz.prog.globalNamed "internal/strconv.uint64pow10" = some 0 by kernel_rfl).symm.trans hg0)
  obtain rfl := Option.some.inj ((show (Tryz.prog.globals[0]?).map (·.type) = some 237 by kernel_rfl).symm.trans ht0)
  obtain rfl := Option.some.inj ((show Tryz.prog.globalNamed "coxless/bits.ends" = some 2 by kernel_rfl).symm.trans hg2)
  obtain rfl := Option.some.inj ((show (Tryz.prog.globals[2]?).map (·.type) = some 253 by kernel_rfl).symm.trans ht2)
  obtain rfl := Option.some.inj ((show Tryz.prog.globalNamed "coxless/bits.codeAt" = some 3 by kernel_rfl).symm.trans hg3)
  obtain rfl := Option.some.inj ((show (Tryz.prog.globals[3]?).map (·.type) = some 252 by kernel_rfl).symm.trans ht3)
  obtain rfl := Option.some.inj ((show Tryz.prog.globalNamed "coxless/bits.parseAt" = some 4 by kernel_rfl).symm.trans hg4)
  obtain rfl := Option.some.inj ((show (Tryz.prog.globals[4]?).map (·.type) = some 252 by kernel_rfl).symm.trans ht4)
  obtain rfl := Option.some.inj ((show Tryz.prog.globalNamed "math/bits.deBruijn32tab" = some 5 by kernel_rfl).symm.trans hg5)
  obtain rfl := Option.some.inj ((show (Tryz.prog.globals[5]?).map (·.type) = some 315 by kernel_rfl).symm.trans ht5)
  obtain rfl := Option.some.inj ((show Tryz.prog.globalNamed "math/bits.deBruijn64tab" = some 6 by kernel_rfl).symm.trans hg6)
  obtain rfl := Option.some.inj ((show (Tryz.prog.globals[6]?).map (·.type) = some 316 by kernel_rfl).symm.trans ht6)
  obtain rfl := Option.some.inj ((show Tryz.prog.globalNamed "coxless/bits.upper" = some 7 by kernel_rfl).symm.trans hg7)
  obtain rfl := Option.some.inj ((show (Tryz.prog.globals[7]?).map (·.type) = some 252 by kernel_rfl).symm.trans ht7)
  obtain rfl := Option.some.inj ((show Tryz.prog.globalNamed "coxless/sub.rows" = some 8 by kernel_rfl).symm.trans hg8)
  obtain rfl := Option.some.inj ((show (Tryz.prog.globals[8]?).map (·.type) = some 327 by kernel_rfl).symm.trans ht8)
  obtain ⟨r1, r2, r3⟩ := next_up (n := 9) (rel0 W) allRo0 wfs0 (by decide)
  obtain ⟨φ0, i0, n0, top0, e0, l0⟩ := gst_step (d := gd0) (sz := 20) r1 r2 r3 hg0 (ty := gt0) ty0 hv0 hd0 (by kernel_rfl)
  obtain ⟨φ2, i2, n2, top2, e2, l2⟩ := gst_step (d := gd2) (sz := 4) i0.rel i0.ro i0.wfs hg2 (ty := gt2) ty2 hv2 hd2 (by kernel_rfl)
  obtain ⟨φ3, i3, n3, top3, e3, l3⟩ := gst_step (d := gd3) (sz := 2) i2.rel i2.ro i2.wfs hg3 (ty := gt3) ty3 hv3 hd3 (by kernel_rfl)
  obtain ⟨φ4, i4, n4, top4, e4, l4⟩ := gst_step (d := gd4) (sz := 2) i3.rel i3.ro i3.wfs hg4 (ty := gt4) ty3 hv4 hd4 (by kernel_rfl)
  obtain ⟨φ5, i5, n5, top5, e5, l5⟩ := gst_step (d := gd5) (sz := 32) i4.rel i4.ro i4.wfs hg5 (ty := gt5) ty5 hv5 hd5 (by kernel_rfl)
  obtain ⟨φ6, i6, n6, top6, e6, l6⟩ := gst_step (d := gd6) (sz := 64) i5.rel i5.ro i5.wfs hg6 (ty := gt6) ty6 hv6 hd6 (by kernel_rfl)
  obtain ⟨φ7, i7, n7, top7, e7, l7⟩ := gst_step (d := gd7) (sz := 2) i6.rel i6.ro i6.wfs hg7 (ty := gt7) ty3 hv7 hd7 (by kernel_rfl)
  obtain ⟨φ8, i8, n8, top8, e8, l8⟩ := gst_step (d := gd8) (sz := 1) i7.rel i7.ro i7.wfs hg8 (ty := gt8) ty8 hv8 hd8 (by kernel_rfl)
  obtain ⟨_, _, hh1⟩ := var_cells (P := Tryz.prog) (g := 0) (by kernel_rfl) hv0
  obtain ⟨φd1, d1⟩ := gdummy_step i8.rel i8.ro i8.wfs (d := 1) hh1 (by kernel_rfl) (by kernel_rfl)
  refine ⟨_, d1.rel, d1.ro, d1.wfs, ?_⟩
  intro g hg
  have hg : g = 0 ∨ g = 2 ∨ g = 3 ∨ g = 4 ∨ g = 5 ∨ g = 6 ∨ g = 7 ∨ g = 8 := by
    have : g ∈ [0, 2, 3, 4, 5, 6, 7, 8] := hg
    simpa using this
  rcases hg with rfl | rfl | rfl | rfl | rfl | rfl | rfl | rfl
  · refine ⟨_, d1.le _ _ _ (i8.le _ _ _ (i7.le _ _ _ (i6.le _ _ _ (i5.le _ _ _ (i4.le _ _ _ (i3.le _ _ _ (i2.le _ _ _ (e0)))))))), rfl, rfl, rfl, fun gl n h1 h2 => ?_⟩
    have hk : (prog.globals[0]?).bind (fun gl => szOf prog gl.type) = some 20 := by kernel_rfl
    rw [h1, Option.bind_some, h2] at hk
    cases hk
    exact l0
  · refine ⟨_, d1.le _ _ _ (i8.le _ _ _ (i7.le _ _ _ (i6.le _ _ _ (i5.le _ _ _ (i4.le _ _ _ (i3.le _ _ _ (e2))))))), rfl, rfl, rfl, fun gl n h1 h2 => ?_⟩
    have hk : (prog.globals[2]?).bind (fun gl => szOf prog gl.type) = some 4 := by kernel_rfl
    rw [h1, Option.bind_some, h2] at hk
    cases hk
    exact l2
  · refine ⟨_, d1.le _ _ _ (i8.le _ _ _ (i7.le _ _ _ (i6.le _ _ _ (i5.le _ _ _ (i4.le _ _ _ (e3)))))), rfl, rfl, rfl, fun gl n h1 h2 => ?_⟩
    have hk : (prog.globals[3]?).bind (fun gl => szOf prog gl.type) = some 2 := by kernel_rfl
    rw [h1, Option.bind_some, h2] at hk
    cases hk
    exact l3
  · refine ⟨_, d1.le _ _ _ (i8.le _ _ _ (i7.le _ _ _ (i6.le _ _ _ (i5.le _ _ _ (e4))))), rfl, rfl, rfl, fun gl n h1 h2 => ?_⟩
    have hk : (prog.globals[4]?).bind (fun gl => szOf prog gl.type) = some 2 := by kernel_rfl
    rw [h1, Option.bind_some, h2] at hk
    cases hk
    exact l4
  · refine ⟨_, d1.le _ _ _ (i8.le _ _ _ (i7.le _ _ _ (i6.le _ _ _ (e5)))), rfl, rfl, rfl, fun gl n h1 h2 => ?_⟩
    have hk : (prog.globals[5]?).bind (fun gl => szOf prog gl.type) = some 32 := by kernel_rfl
    rw [h1, Option.bind_some, h2] at hk
    cases hk
    exact l5
  · refine ⟨_, d1.le _ _ _ (i8.le _ _ _ (i7.le _ _ _ (e6))), rfl, rfl, rfl, fun gl n h1 h2 => ?_⟩
    have hk : (prog.globals[6]?).bind (fun gl => szOf prog gl.type) = some 64 := by kernel_rfl
    rw [h1, Option.bind_some, h2] at hk
    cases hk
    exact l6
  · refine ⟨_, d1.le _ _ _ (i8.le _ _ _ (e7)), rfl, rfl, rfl, fun gl n h1 h2 => ?_⟩
    have hk : (prog.globals[7]?).bind (fun gl => szOf prog gl.type) = some 2 := by kernel_rfl
    rw [h1, Option.bind_some, h2] at hk
    cases hk
    exact l7
  · refine ⟨_, d1.le _ _ _ (e8), rfl, rfl, rfl, fun gl n h1 h2 => ?_⟩
    have hk : (prog.globals[8]?).bind (fun gl => szOf prog gl.type) = some 1 := by kernel_rfl
    rw [h1, Option.bind_some, h2] at hk
    cases hk
    exact l8
theorem ran_of_yes {T : Tab} {n : Nat} {f : FuncId} {args : List AV} {s : St} (h : isYes (callF T (evalF T n) f args s) = true) : Ran T f args s fun v _ => v = .bool true := by
  rw [evalF_eq] at h
  cases hr : callF T (evalN T n) f args s with
  | fail => rw [hr] at h; cases h
  | panic v s => rw [hr] at h; cases h
  | val v s' =>
    rw [hr] at h
    refine ⟨n, v, s', hr, ?_⟩
    cases v with
    | bool b => cases b with
      | true => rfl
      | false => cases h
    | _ => cases h
end Go.V
