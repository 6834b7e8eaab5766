/- The functions of the dump are what the texts in the small language say: by the kernel. The listed variables lie in the state's beginning. -/
import Derived.Test.YtipcimefenpjhaaGreatDoorTkMemo
import Derived.Test.YtipcimefenpjhaaGreatDoorRows
import Derived.MakeChecks
import Derived.Stop.LaidErr
import Derived.KernelRfl
set_option linter.unusedVariables false
set_option linter.unusedSimpArgs false
set_option linter.unusedSectionVars false
namespace Go.V
open Go
open Go.V Go.Proofs Go.RowKit Go.ChangeShapes Go.WideShapes Go.ChangeAt
set_option maxRecDepth 1000000
noncomputable def prog : Prog := { toProgram := Tryz.prog, G := [0, 1, 2, 3, 4, 5, 7, 8] }
noncomputable def prog0 : Prog := { toProgram := Tryz.prog, G := [] }
theorem ok3 : EntryOk prog 3 (.code ir3) := ⟨Tryz.f3, Tryz.func3, by kernel_rfl, by kernel_rfl⟩
theorem ok6 : EntryOk prog 6 (.code ir6) := ⟨Tryz.f6, Tryz.func6, by kernel_rfl, by kernel_rfl⟩
theorem ok5 : EntryOk prog 5 (.code ir5) := ⟨Tryz.f5, Tryz.func5, by kernel_rfl, by kernel_rfl⟩
theorem ok11 : EntryOk prog 11 (.code ir11) := ⟨Tryz.f11, Tryz.func11, by kernel_rfl, by kernel_rfl⟩
theorem ok8 : EntryOk prog 8 (.code ir8) := ⟨Tryz.f8, Tryz.func8, by kernel_rfl, by kernel_rfl⟩
theorem ok13 : EntryOk prog 13 (.code ir13) := ⟨Tryz.f13, Tryz.func13, by kernel_rfl, by kernel_rfl⟩
theorem ok18 : EntryOk prog 18 (.code ir18) := ⟨Tryz.f18, Tryz.func18, by kernel_rfl, by kernel_rfl⟩
theorem ok26 : EntryOk prog 26 (.code ir26) := ⟨Tryz.f26, Tryz.func26, by kernel_rfl, by kernel_rfl⟩
theorem ok38 : EntryOk prog 38 (.code ir38) := ⟨Tryz.f38, Tryz.func38, by kernel_rfl, by kernel_rfl⟩
theorem ok57 : EntryOk prog 57 (.code ir57) := ⟨Tryz.f57, Tryz.func57, by kernel_rfl, by kernel_rfl⟩
theorem ok56 : EntryOk prog 56 (.code ir56) := ⟨Tryz.f56, Tryz.func56, by kernel_rfl, by kernel_rfl⟩
theorem ok37 : EntryOk prog 37 (.code ir37) := ⟨Tryz.f37, Tryz.func37, by kernel_rfl, by kernel_rfl⟩
theorem ok25 : EntryOk prog 25 (.code ir25) := ⟨Tryz.f25, Tryz.func25, by kernel_rfl, by kernel_rfl⟩
theorem ok24 : EntryOk prog 24 (.code ir24) := ⟨Tryz.f24, Tryz.func24, by kernel_rfl, by kernel_rfl⟩
theorem ok36 : EntryOk prog 36 (.code ir36) := ⟨Tryz.f36, Tryz.func36, by kernel_rfl, by kernel_rfl⟩
theorem ok34 : EntryOk prog 34 (.code ir34) := ⟨Tryz.f34, Tryz.func34, by kernel_rfl, by kernel_rfl⟩
theorem ok35 : EntryOk prog 35 (.code ir35) := ⟨Tryz.f35, Tryz.func35, by kernel_rfl, by kernel_rfl⟩
theorem ok23 : EntryOk prog 23 (.code ir23) := ⟨Tryz.f23, Tryz.func23, by kernel_rfl, by kernel_rfl⟩
theorem ok12 : EntryOk prog 12 (.code ir12) := ⟨Tryz.f12, Tryz.func12, by kernel_rfl, by kernel_rfl⟩
theorem ok9 : EntryOk prog 9 (.code ir9) := ⟨Tryz.f9, Tryz.func9, by kernel_rfl, by kernel_rfl⟩
theorem ok17 : EntryOk prog 17 (.code ir17) := ⟨Tryz.f17, Tryz.func17, by kernel_rfl, by kernel_rfl⟩
theorem ok22 : EntryOk prog 22 (.code ir22) := ⟨Tryz.f22, Tryz.func22, by kernel_rfl, by kernel_rfl⟩
theorem ok213 : EntryOk prog 213 (.code ir213) := ⟨Tryz.f213, Tryz.func213, by kernel_rfl, by kernel_rfl⟩
theorem ok214 : EntryOk prog 214 (.code ir214) := ⟨Tryz.f214, Tryz.func214, by kernel_rfl, by kernel_rfl⟩
theorem ok19 : EntryOk prog 19 (.code ir19) := ⟨Tryz.f19, Tryz.func19, by kernel_rfl, by kernel_rfl⟩
theorem ok39 : EntryOk prog 39 (.code ir39) := ⟨Tryz.f39, Tryz.func39, by kernel_rfl, by kernel_rfl⟩
theorem ok212 : EntryOk prog 212 (.code ir212) := ⟨Tryz.f212, Tryz.func212, by kernel_rfl, by kernel_rfl⟩
theorem ok211 : EntryOk prog 211 (.code ir211) := ⟨Tryz.f211, Tryz.func211, by kernel_rfl, by kernel_rfl⟩
theorem ok210 : EntryOk prog 210 (.code ir210) := ⟨Tryz.f210, Tryz.func210, by kernel_rfl, by kernel_rfl⟩
theorem ok209 : EntryOk prog 209 (.code ir209) := ⟨Tryz.f209, Tryz.func209, by kernel_rfl, by kernel_rfl⟩
theorem ok33 : EntryOk prog 33 (.code ir33) := ⟨Tryz.f33, Tryz.func33, by kernel_rfl, by kernel_rfl⟩
theorem ok55 : EntryOk prog 55 (.code ir55) := ⟨Tryz.f55, Tryz.func55, by kernel_rfl, by kernel_rfl⟩
theorem ok86 : EntryOk prog 86 (.code ir86) := ⟨Tryz.f86, Tryz.func86, by kernel_rfl, by kernel_rfl⟩
theorem ok54 : EntryOk prog 54 (.code ir54) := ⟨Tryz.f54, Tryz.func54, by kernel_rfl, by kernel_rfl⟩
theorem ok87 : EntryOk prog 87 (.code ir87) := ⟨Tryz.f87, Tryz.func87, by kernel_rfl, by kernel_rfl⟩
theorem ok114 : EntryOk prog 114 (.code ir114) := ⟨Tryz.f114, Tryz.func114, by kernel_rfl, by kernel_rfl⟩
theorem ok137 : EntryOk prog 137 (.code ir137) := ⟨Tryz.f137, Tryz.func137, by kernel_rfl, by kernel_rfl⟩
theorem ok160 : EntryOk prog 160 (.code ir160) := ⟨Tryz.f160, Tryz.func160, by kernel_rfl, by kernel_rfl⟩
theorem ok167 : EntryOk prog 167 (.code ir167) := ⟨Tryz.f167, Tryz.func167, by kernel_rfl, by kernel_rfl⟩
theorem ok175 : EntryOk prog 175 (.code ir175) := ⟨Tryz.f175, Tryz.func175, by kernel_rfl, by kernel_rfl⟩
theorem ok183 : EntryOk prog 183 (.code ir183) := ⟨Tryz.f183, Tryz.func183, by kernel_rfl, by kernel_rfl⟩
theorem ok182 : EntryOk prog 182 (.code ir182) := ⟨Tryz.f182, Tryz.func182, by kernel_rfl, by kernel_rfl⟩
theorem ok165 : EntryOk prog 165 (.code ir165) := ⟨Tryz.f165, Tryz.func165, by kernel_rfl, by kernel_rfl⟩
theorem ok181 : EntryOk prog 181 (.code ir181) := ⟨Tryz.f181, Tryz.func181, by kernel_rfl, by kernel_rfl⟩
theorem ok179 : EntryOk prog 179 (.code ir179) := ⟨Tryz.f179, Tryz.func179, by kernel_rfl, by kernel_rfl⟩
theorem ok185 : EntryOk prog 185 (.code ir185) := ⟨Tryz.f185, Tryz.func185, by kernel_rfl, by kernel_rfl⟩
theorem ok168 : EntryOk prog 168 (.code ir168) := ⟨Tryz.f168, Tryz.func168, by kernel_rfl, by kernel_rfl⟩
theorem ok177 : EntryOk prog 177 (.code ir177) := ⟨Tryz.f177, Tryz.func177, by kernel_rfl, by kernel_rfl⟩
theorem ok166 : EntryOk prog 166 (.code ir166) := ⟨Tryz.f166, Tryz.func166, by kernel_rfl, by kernel_rfl⟩
theorem ok173 : EntryOk prog 173 (.code ir173) := ⟨Tryz.f173, Tryz.func173, by kernel_rfl, by kernel_rfl⟩
theorem ok180 : EntryOk prog 180 (.code ir180) := ⟨Tryz.f180, Tryz.func180, by kernel_rfl, by kernel_rfl⟩
theorem ok187 : EntryOk prog 187 (.code ir187) := ⟨Tryz.f187, Tryz.func187, by kernel_rfl, by kernel_rfl⟩
theorem ok186 : EntryOk prog 186 (.code ir186) := ⟨Tryz.f186, Tryz.func186, by kernel_rfl, by kernel_rfl⟩
theorem ok191 : EntryOk prog 191 (.code ir191) := ⟨Tryz.f191, Tryz.func191, by kernel_rfl, by kernel_rfl⟩
theorem ok138 : EntryOk prog 138 (.code ir138) := ⟨Tryz.f138, Tryz.func138, by kernel_rfl, by kernel_rfl⟩
theorem ok139 : EntryOk prog 139 (.code ir139) := ⟨Tryz.f139, Tryz.func139, by kernel_rfl, by kernel_rfl⟩
theorem ok113 : EntryOk prog 113 (.code ir113) := ⟨Tryz.f113, Tryz.func113, by kernel_rfl, by kernel_rfl⟩
theorem ok81 : EntryOk prog 81 (.code ir81) := ⟨Tryz.f81, Tryz.func81, by kernel_rfl, by kernel_rfl⟩
theorem ok103 : EntryOk prog 103 (.code ir103) := ⟨Tryz.f103, Tryz.func103, by kernel_rfl, by kernel_rfl⟩
theorem ok100 : EntryOk prog 100 (.code ir100) := ⟨Tryz.f100, Tryz.func100, by kernel_rfl, by kernel_rfl⟩
theorem ok135 : EntryOk prog 135 (.code ir135) := ⟨Tryz.f135, Tryz.func135, by kernel_rfl, by kernel_rfl⟩
theorem ok151 : EntryOk prog 151 (.code ir151) := ⟨Tryz.f151, Tryz.func151, by kernel_rfl, by kernel_rfl⟩
theorem ok164 : EntryOk prog 164 (.code ir164) := ⟨Tryz.f164, Tryz.func164, by kernel_rfl, by kernel_rfl⟩
theorem ok171 : EntryOk prog 171 (.code ir171) := ⟨Tryz.f171, Tryz.func171, by kernel_rfl, by kernel_rfl⟩
theorem ok134 : EntryOk prog 134 (.code ir134) := ⟨Tryz.f134, Tryz.func134, by kernel_rfl, by kernel_rfl⟩
theorem ok154 : EntryOk prog 154 (.code ir154) := ⟨Tryz.f154, Tryz.func154, by kernel_rfl, by kernel_rfl⟩
theorem ok158 : EntryOk prog 158 (.code ir158) := ⟨Tryz.f158, Tryz.func158, by kernel_rfl, by kernel_rfl⟩
theorem ok159 : EntryOk prog 159 (.code ir159) := ⟨Tryz.f159, Tryz.func159, by kernel_rfl, by kernel_rfl⟩
theorem ok152 : EntryOk prog 152 (.code ir152) := ⟨Tryz.f152, Tryz.func152, by kernel_rfl, by kernel_rfl⟩
theorem ok156 : EntryOk prog 156 (.code ir156) := ⟨Tryz.f156, Tryz.func156, by kernel_rfl, by kernel_rfl⟩
theorem ok155 : EntryOk prog 155 (.code ir155) := ⟨Tryz.f155, Tryz.func155, by kernel_rfl, by kernel_rfl⟩
theorem ok153 : EntryOk prog 153 (.code ir153) := ⟨Tryz.f153, Tryz.func153, by kernel_rfl, by kernel_rfl⟩
theorem ok157 : EntryOk prog 157 (.code ir157) := ⟨Tryz.f157, Tryz.func157, by kernel_rfl, by kernel_rfl⟩
theorem ok52 : EntryOk prog 52 (.code ir52) := ⟨Tryz.f52, Tryz.func52, by kernel_rfl, by kernel_rfl⟩
theorem ok85 : EntryOk prog 85 (.code ir85) := ⟨Tryz.f85, Tryz.func85, by kernel_rfl, by kernel_rfl⟩
theorem ok84 : EntryOk prog 84 (.code ir84) := ⟨Tryz.f84, Tryz.func84, by kernel_rfl, by kernel_rfl⟩
theorem ok112 : EntryOk prog 112 (.code ir112) := ⟨Tryz.f112, Tryz.func112, by kernel_rfl, by kernel_rfl⟩
theorem ok83 : EntryOk prog 83 (.code ir83) := ⟨Tryz.f83, Tryz.func83, by kernel_rfl, by kernel_rfl⟩
theorem ok111 : EntryOk prog 111 (.code ir111) := ⟨Tryz.f111, Tryz.func111, by kernel_rfl, by kernel_rfl⟩
theorem ok65 : EntryOk prog 65 (.code ir65) := ⟨Tryz.f65, Tryz.func65, by kernel_rfl, by kernel_rfl⟩
theorem ok101 : EntryOk prog 101 (.code ir101) := ⟨Tryz.f101, Tryz.func101, by kernel_rfl, by kernel_rfl⟩
theorem ok110 : EntryOk prog 110 (.code ir110) := ⟨Tryz.f110, Tryz.func110, by kernel_rfl, by kernel_rfl⟩
theorem ok136 : EntryOk prog 136 (.code ir136) := ⟨Tryz.f136, Tryz.func136, by kernel_rfl, by kernel_rfl⟩
theorem ok82 : EntryOk prog 82 (.code ir82) := ⟨Tryz.f82, Tryz.func82, by kernel_rfl, by kernel_rfl⟩
theorem ok27 : EntryOk prog 27 (.code ir27) := ⟨Tryz.f27, Tryz.func27, by kernel_rfl, by kernel_rfl⟩
theorem ok53 : EntryOk prog 53 (.code ir53) := ⟨Tryz.f53, Tryz.func53, by kernel_rfl, by kernel_rfl⟩
theorem ok20 : EntryOk prog 20 (.code ir20) := ⟨Tryz.f20, Tryz.func20, by kernel_rfl, by kernel_rfl⟩
theorem ok29 : EntryOk prog 29 (.code ir29) := ⟨Tryz.f29, Tryz.func29, by kernel_rfl, by kernel_rfl⟩
theorem ok43 : EntryOk prog 43 (.code ir43) := ⟨Tryz.f43, Tryz.func43, by kernel_rfl, by kernel_rfl⟩
theorem ok64 : EntryOk prog 64 (.code ir64) := ⟨Tryz.f64, Tryz.func64, by kernel_rfl, by kernel_rfl⟩
theorem ok63 : EntryOk prog 63 (.code ir63) := ⟨Tryz.f63, Tryz.func63, by kernel_rfl, by kernel_rfl⟩
theorem ok62 : EntryOk prog 62 (.code ir62) := ⟨Tryz.f62, Tryz.func62, by kernel_rfl, by kernel_rfl⟩
theorem ok98 : EntryOk prog 98 (.code ir98) := ⟨Tryz.f98, Tryz.func98, by kernel_rfl, by kernel_rfl⟩
theorem ok133 : EntryOk prog 133 (.code ir133) := ⟨Tryz.f133, Tryz.func133, by kernel_rfl, by kernel_rfl⟩
theorem ok150 : EntryOk prog 150 (.code ir150) := ⟨Tryz.f150, Tryz.func150, by kernel_rfl, by kernel_rfl⟩
theorem ok132 : EntryOk prog 132 (.code ir132) := ⟨Tryz.f132, Tryz.func132, by kernel_rfl, by kernel_rfl⟩
theorem ok99 : EntryOk prog 99 (.code ir99) := ⟨Tryz.f99, Tryz.func99, by kernel_rfl, by kernel_rfl⟩
theorem ok44 : EntryOk prog 44 (.code ir44) := ⟨Tryz.f44, Tryz.func44, by kernel_rfl, by kernel_rfl⟩
theorem ok68 : EntryOk prog 68 (.code ir68) := ⟨Tryz.f68, Tryz.func68, by kernel_rfl, by kernel_rfl⟩
theorem ok69 : EntryOk prog 69 (.code ir69) := ⟨Tryz.f69, Tryz.func69, by kernel_rfl, by kernel_rfl⟩
theorem ok67 : EntryOk prog 67 (.code ir67) := ⟨Tryz.f67, Tryz.func67, by kernel_rfl, by kernel_rfl⟩
theorem ok102 : EntryOk prog 102 (.code ir102) := ⟨Tryz.f102, Tryz.func102, by kernel_rfl, by kernel_rfl⟩
theorem ok66 : EntryOk prog 66 (.code ir66) := ⟨Tryz.f66, Tryz.func66, by kernel_rfl, by kernel_rfl⟩
theorem ok73 : EntryOk prog 73 (.code ir73) := ⟨Tryz.f73, Tryz.func73, by kernel_rfl, by kernel_rfl⟩
theorem ok97 : EntryOk prog 97 (.code ir97) := ⟨Tryz.f97, Tryz.func97, by kernel_rfl, by kernel_rfl⟩
theorem ok131 : EntryOk prog 131 (.code ir131) := ⟨Tryz.f131, Tryz.func131, by kernel_rfl, by kernel_rfl⟩
theorem ok149 : EntryOk prog 149 (.code ir149) := ⟨Tryz.f149, Tryz.func149, by kernel_rfl, by kernel_rfl⟩
theorem ok163 : EntryOk prog 163 (.code ir163) := ⟨Tryz.f163, Tryz.func163, by kernel_rfl, by kernel_rfl⟩
theorem ok170 : EntryOk prog 170 (.code ir170) := ⟨Tryz.f170, Tryz.func170, by kernel_rfl, by kernel_rfl⟩
theorem ok143 : EntryOk prog 143 (.code ir143) := ⟨Tryz.f143, Tryz.func143, by kernel_rfl, by kernel_rfl⟩
theorem ok115 : EntryOk prog 115 (.code ir115) := ⟨Tryz.f115, Tryz.func115, by kernel_rfl, by kernel_rfl⟩
theorem ok118 : EntryOk prog 118 (.code ir118) := ⟨Tryz.f118, Tryz.func118, by kernel_rfl, by kernel_rfl⟩
theorem ok162 : EntryOk prog 162 (.code ir162) := ⟨Tryz.f162, Tryz.func162, by kernel_rfl, by kernel_rfl⟩
theorem ok117 : EntryOk prog 117 (.code ir117) := ⟨Tryz.f117, Tryz.func117, by kernel_rfl, by kernel_rfl⟩
theorem ok120 : EntryOk prog 120 (.code ir120) := ⟨Tryz.f120, Tryz.func120, by kernel_rfl, by kernel_rfl⟩
theorem ok88 : EntryOk prog 88 (.code ir88) := ⟨Tryz.f88, Tryz.func88, by kernel_rfl, by kernel_rfl⟩
theorem ok142 : EntryOk prog 142 (.code ir142) := ⟨Tryz.f142, Tryz.func142, by kernel_rfl, by kernel_rfl⟩
theorem ok140 : EntryOk prog 140 (.code ir140) := ⟨Tryz.f140, Tryz.func140, by kernel_rfl, by kernel_rfl⟩
theorem ok144 : EntryOk prog 144 (.code ir144) := ⟨Tryz.f144, Tryz.func144, by kernel_rfl, by kernel_rfl⟩
theorem ok161 : EntryOk prog 161 (.code ir161) := ⟨Tryz.f161, Tryz.func161, by kernel_rfl, by kernel_rfl⟩
theorem ok169 : EntryOk prog 169 (.code ir169) := ⟨Tryz.f169, Tryz.func169, by kernel_rfl, by kernel_rfl⟩
theorem ok121 : EntryOk prog 121 (.code ir121) := ⟨Tryz.f121, Tryz.func121, by kernel_rfl, by kernel_rfl⟩
theorem ok178 : EntryOk prog 178 (.code ir178) := ⟨Tryz.f178, Tryz.func178, by kernel_rfl, by kernel_rfl⟩
theorem ok184 : EntryOk prog 184 (.code ir184) := ⟨Tryz.f184, Tryz.func184, by kernel_rfl, by kernel_rfl⟩
theorem ok61 : EntryOk prog 61 (.code ir61) := ⟨Tryz.f61, Tryz.func61, by kernel_rfl, by kernel_rfl⟩
theorem ok92 : EntryOk prog 92 (.code ir92) := ⟨Tryz.f92, Tryz.func92, by kernel_rfl, by kernel_rfl⟩
theorem ok125 : EntryOk prog 125 (.code ir125) := ⟨Tryz.f125, Tryz.func125, by kernel_rfl, by kernel_rfl⟩
theorem ok91 : EntryOk prog 91 (.code ir91) := ⟨Tryz.f91, Tryz.func91, by kernel_rfl, by kernel_rfl⟩
theorem ok123 : EntryOk prog 123 (.code ir123) := ⟨Tryz.f123, Tryz.func123, by kernel_rfl, by kernel_rfl⟩
theorem ok124 : EntryOk prog 124 (.code ir124) := ⟨Tryz.f124, Tryz.func124, by kernel_rfl, by kernel_rfl⟩
theorem ok147 : EntryOk prog 147 (.code ir147) := ⟨Tryz.f147, Tryz.func147, by kernel_rfl, by kernel_rfl⟩
theorem ok95 : EntryOk prog 95 (.code ir95) := ⟨Tryz.f95, Tryz.func95, by kernel_rfl, by kernel_rfl⟩
theorem ok96 : EntryOk prog 96 (.code ir96) := ⟨Tryz.f96, Tryz.func96, by kernel_rfl, by kernel_rfl⟩
theorem ok130 : EntryOk prog 130 (.code ir130) := ⟨Tryz.f130, Tryz.func130, by kernel_rfl, by kernel_rfl⟩
theorem ok129 : EntryOk prog 129 (.code ir129) := ⟨Tryz.f129, Tryz.func129, by kernel_rfl, by kernel_rfl⟩
theorem ok72 : EntryOk prog 72 (.code ir72) := ⟨Tryz.f72, Tryz.func72, by kernel_rfl, by kernel_rfl⟩
theorem ok128 : EntryOk prog 128 (.code ir128) := ⟨Tryz.f128, Tryz.func128, by kernel_rfl, by kernel_rfl⟩
theorem ok94 : EntryOk prog 94 (.code ir94) := ⟨Tryz.f94, Tryz.func94, by kernel_rfl, by kernel_rfl⟩
theorem ok126 : EntryOk prog 126 (.code ir126) := ⟨Tryz.f126, Tryz.func126, by kernel_rfl, by kernel_rfl⟩
theorem ok127 : EntryOk prog 127 (.code ir127) := ⟨Tryz.f127, Tryz.func127, by kernel_rfl, by kernel_rfl⟩
theorem ok148 : EntryOk prog 148 (.code ir148) := ⟨Tryz.f148, Tryz.func148, by kernel_rfl, by kernel_rfl⟩
theorem ok93 : EntryOk prog 93 (.code ir93) := ⟨Tryz.f93, Tryz.func93, by kernel_rfl, by kernel_rfl⟩
theorem ok42 : EntryOk prog 42 (.code ir42) := ⟨Tryz.f42, Tryz.func42, by kernel_rfl, by kernel_rfl⟩
theorem ok60 : EntryOk prog 60 (.code ir60) := ⟨Tryz.f60, Tryz.func60, by kernel_rfl, by kernel_rfl⟩
theorem ok90 : EntryOk prog 90 (.code ir90) := ⟨Tryz.f90, Tryz.func90, by kernel_rfl, by kernel_rfl⟩
theorem ok122 : EntryOk prog 122 (.code ir122) := ⟨Tryz.f122, Tryz.func122, by kernel_rfl, by kernel_rfl⟩
theorem ok146 : EntryOk prog 146 (.code ir146) := ⟨Tryz.f146, Tryz.func146, by kernel_rfl, by kernel_rfl⟩
theorem ok145 : EntryOk prog 145 (.code ir145) := ⟨Tryz.f145, Tryz.func145, by kernel_rfl, by kernel_rfl⟩
theorem ok119 : EntryOk prog 119 (.code ir119) := ⟨Tryz.f119, Tryz.func119, by kernel_rfl, by kernel_rfl⟩
theorem ok141 : EntryOk prog 141 (.code ir141) := ⟨Tryz.f141, Tryz.func141, by kernel_rfl, by kernel_rfl⟩
theorem ok58 : EntryOk prog 58 (.code ir58) := ⟨Tryz.f58, Tryz.func58, by kernel_rfl, by kernel_rfl⟩
theorem ok59 : EntryOk prog 59 (.code ir59) := ⟨Tryz.f59, Tryz.func59, by kernel_rfl, by kernel_rfl⟩
theorem ok89 : EntryOk prog 89 (.code ir89) := ⟨Tryz.f89, Tryz.func89, by kernel_rfl, by kernel_rfl⟩
theorem ok116 : EntryOk prog 116 (.code ir116) := ⟨Tryz.f116, Tryz.func116, by kernel_rfl, by kernel_rfl⟩
theorem ok41 : EntryOk prog 41 (.code ir41) := ⟨Tryz.f41, Tryz.func41, by kernel_rfl, by kernel_rfl⟩
theorem ok40 : EntryOk prog 40 (.code ir40) := ⟨Tryz.f40, Tryz.func40, by kernel_rfl, by kernel_rfl⟩
theorem ok28 : EntryOk prog 28 (.code ir28) := ⟨Tryz.f28, Tryz.func28, by kernel_rfl, by kernel_rfl⟩
theorem ok21 : EntryOk prog 21 (.code ir21) := ⟨Tryz.f21, Tryz.func21, by kernel_rfl, by kernel_rfl⟩
theorem ok32 : EntryOk prog 32 (.code ir32) := ⟨Tryz.f32, Tryz.func32, by kernel_rfl, by kernel_rfl⟩
theorem ok31 : EntryOk prog 31 (.code ir31) := ⟨Tryz.f31, Tryz.func31, by kernel_rfl, by kernel_rfl⟩
theorem ok51 : EntryOk prog 51 (.code ir51) := ⟨Tryz.f51, Tryz.func51, by kernel_rfl, by kernel_rfl⟩
theorem ok50 : EntryOk prog 50 (.code ir50) := ⟨Tryz.f50, Tryz.func50, by kernel_rfl, by kernel_rfl⟩
theorem ok79 : EntryOk prog 79 (.code ir79) := ⟨Tryz.f79, Tryz.func79, by kernel_rfl, by kernel_rfl⟩
theorem ok49 : EntryOk prog 49 (.code ir49) := ⟨Tryz.f49, Tryz.func49, by kernel_rfl, by kernel_rfl⟩
theorem ok80 : EntryOk prog 80 (.code ir80) := ⟨Tryz.f80, Tryz.func80, by kernel_rfl, by kernel_rfl⟩
theorem ok30 : EntryOk prog 30 (.code ir30) := ⟨Tryz.f30, Tryz.func30, by kernel_rfl, by kernel_rfl⟩
theorem ok48 : EntryOk prog 48 (.code ir48) := ⟨Tryz.f48, Tryz.func48, by kernel_rfl, by kernel_rfl⟩
theorem ok78 : EntryOk prog 78 (.code ir78) := ⟨Tryz.f78, Tryz.func78, by kernel_rfl, by kernel_rfl⟩
theorem ok106 : EntryOk prog 106 (.code ir106) := ⟨Tryz.f106, Tryz.func106, by kernel_rfl, by kernel_rfl⟩
theorem ok76 : EntryOk prog 76 (.code ir76) := ⟨Tryz.f76, Tryz.func76, by kernel_rfl, by kernel_rfl⟩
theorem ok104 : EntryOk prog 104 (.code ir104) := ⟨Tryz.f104, Tryz.func104, by kernel_rfl, by kernel_rfl⟩
theorem ok71 : EntryOk prog 71 (.code ir71) := ⟨Tryz.f71, Tryz.func71, by kernel_rfl, by kernel_rfl⟩
theorem ok107 : EntryOk prog 107 (.code ir107) := ⟨Tryz.f107, Tryz.func107, by kernel_rfl, by kernel_rfl⟩
theorem ok70 : EntryOk prog 70 (.code ir70) := ⟨Tryz.f70, Tryz.func70, by kernel_rfl, by kernel_rfl⟩
theorem ok77 : EntryOk prog 77 (.code ir77) := ⟨Tryz.f77, Tryz.func77, by kernel_rfl, by kernel_rfl⟩
theorem ok75 : EntryOk prog 75 (.code ir75) := ⟨Tryz.f75, Tryz.func75, by kernel_rfl, by kernel_rfl⟩
theorem ok74 : EntryOk prog 74 (.code ir74) := ⟨Tryz.f74, Tryz.func74, by kernel_rfl, by kernel_rfl⟩
theorem ok105 : EntryOk prog 105 (.code ir105) := ⟨Tryz.f105, Tryz.func105, by kernel_rfl, by kernel_rfl⟩
theorem ok47 : EntryOk prog 47 (.code ir47) := ⟨Tryz.f47, Tryz.func47, by kernel_rfl, by kernel_rfl⟩
theorem ok46 : EntryOk prog 46 (.code ir46) := ⟨Tryz.f46, Tryz.func46, by kernel_rfl, by kernel_rfl⟩
theorem ok45 : EntryOk prog 45 (.code ir45) := ⟨Tryz.f45, Tryz.func45, by kernel_rfl, by kernel_rfl⟩
theorem ok16 : EntryOk prog 16 (.code ir16) := ⟨Tryz.f16, Tryz.func16, by kernel_rfl, by kernel_rfl⟩
theorem ok15 : EntryOk prog 15 (.code ir15) := ⟨Tryz.f15, Tryz.func15, by kernel_rfl, by kernel_rfl⟩
theorem ok14 : EntryOk prog 14 (.code ir14) := ⟨Tryz.f14, Tryz.func14, by kernel_rfl, by kernel_rfl⟩
theorem ok10 : EntryOk prog 10 (.code ir10) := ⟨Tryz.f10, Tryz.func10, by kernel_rfl, by kernel_rfl⟩
theorem ok4 : EntryOk prog 4 (.code ir4) := ⟨Tryz.f4, Tryz.func4, by kernel_rfl, by kernel_rfl⟩
theorem ok7 : EntryOk prog 7 (.code ir7) := ⟨Tryz.f7, Tryz.func7, by kernel_rfl, by kernel_rfl⟩
theorem oke189 : EntryOk prog 189 (.ext .f64bits) := ext_hook (fn := Tryz.f189) ⟨Tryz.func189, by kernel_rfl, by kernel_rfl, by kernel_rfl, by kernel_rfl⟩ ext_f64bits
theorem oke188 : EntryOk prog 188 (.ext .f64frombits) := ext_hook (fn := Tryz.f188) ⟨Tryz.func188, by kernel_rfl, by kernel_rfl, by kernel_rfl, by kernel_rfl⟩ ext_f64frombits
theorem oke174 : EntryOk prog 174 (.ext .fmax) := ext_hook (fn := Tryz.f174) ⟨Tryz.func174, by kernel_rfl, by kernel_rfl, by kernel_rfl, by kernel_rfl⟩ ext_fmax
theorem oke176 : EntryOk prog 176 (.ext .fmin) := ext_hook (fn := Tryz.f176) ⟨Tryz.func176, by kernel_rfl, by kernel_rfl, by kernel_rfl, by kernel_rfl⟩ ext_fmin
theorem oke190 : EntryOk prog 190 (.ext .trunc) := ext_hook (fn := Tryz.f190) ⟨Tryz.func190, by kernel_rfl, by kernel_rfl, by kernel_rfl, by kernel_rfl⟩ ext_trunc
theorem oke172 : EntryOk prog 172 (.ext .floor) := ext_hook (fn := Tryz.f172) ⟨Tryz.func172, by kernel_rfl, by kernel_rfl, by kernel_rfl, by kernel_rfl⟩ ext_floor
theorem allLaw : AllOk prog lawCode := .cons ok3 (.cons ok6 (.cons ok5 (.cons ok11 (.cons ok8 (.cons ok13 (.cons ok18 (.cons ok26 (.cons ok38 (.cons ok57 (.cons ok56 (.cons ok37 (.cons ok25 (.cons ok24 (.cons ok36 (.cons ok34 (.cons ok35 (.cons ok23 (.cons ok12 (.cons ok9 (.cons ok17 (.cons ok22 (.cons ok213 (.cons ok214 (.cons ok19 (.cons ok39 (.cons ok212 (.cons ok211 (.cons ok210 (.cons ok209 (.cons ok33 (.cons ok55 (.cons ok86 (.cons ok54 (.cons ok87 (.cons ok114 (.cons ok137 (.cons ok160 (.cons ok167 (.cons ok175 (.cons ok183 (.cons ok182 (.cons ok165 (.cons ok181 (.cons ok179 (.cons ok185 (.cons ok168 (.cons ok177 (.cons ok166 (.cons ok173 (.cons ok180 (.cons ok187 (.cons ok186 (.cons ok191 (.cons ok138 (.cons ok139 (.cons ok113 (.cons ok81 (.cons ok103 (.cons ok100 (.cons ok135 (.cons ok151 (.cons ok164 (.cons ok171 (.cons ok134 (.cons ok154 (.cons ok158 (.cons ok159 (.cons ok152 (.cons ok156 (.cons ok155 (.cons ok153 (.cons ok157 (.cons ok52 (.cons ok85 (.cons ok84 (.cons ok112 (.cons ok83 (.cons ok111 (.cons ok65 (.cons ok101 (.cons ok110 (.cons ok136 (.cons ok82 (.cons ok27 (.cons ok53 (.cons ok20 (.cons ok29 (.cons ok43 (.cons ok64 (.cons ok63 (.cons ok62 (.cons ok98 (.cons ok133 (.cons ok150 (.cons ok132 (.cons ok99 (.cons ok44 (.cons ok68 (.cons ok69 (.cons ok67 (.cons ok102 (.cons ok66 (.cons ok73 (.cons ok97 (.cons ok131 (.cons ok149 (.cons ok163 (.cons ok170 (.cons ok143 (.cons ok115 (.cons ok118 (.cons ok162 (.cons ok117 (.cons ok120 (.cons ok88 (.cons ok142 (.cons ok140 (.cons ok144 (.cons ok161 (.cons ok169 (.cons ok121 (.cons ok178 (.cons ok184 (.cons ok61 (.cons ok92 (.cons ok125 (.cons ok91 (.cons ok123 (.cons ok124 (.cons ok147 (.cons ok95 (.cons ok96 (.cons ok130 (.cons ok129 (.cons ok72 (.cons ok128 (.cons ok94 (.cons ok126 (.cons ok127 (.cons ok148 (.cons ok93 (.cons ok42 (.cons ok60 (.cons ok90 (.cons ok122 (.cons ok146 (.cons ok145 (.cons ok119 (.cons ok141 (.cons ok58 (.cons ok59 (.cons ok89 (.cons ok116 (.cons ok41 (.cons ok40 (.cons ok28 (.cons ok21 (.cons ok32 (.cons ok31 (.cons ok51 (.cons ok50 (.cons ok79 (.cons ok49 (.cons ok80 (.cons ok30 (.cons ok48 (.cons ok78 (.cons ok106 (.cons ok76 (.cons ok104 (.cons ok71 (.cons ok107 (.cons ok70 (.cons ok77 (.cons ok75 (.cons ok74 (.cons ok105 (.cons ok47 (.cons ok46 (.cons ok45 (.cons ok16 (.cons ok15 (.cons ok14 (.cons ok10 (.cons ok4 (.cons ok7 (.nil)))))))))))))))))))))))))))))))))))))))))))))))))))))))))))))))))))))))))))))))))))))))))))))))))))))))))))))))))))))))))))))))))))))))))))))))))))))))))))))))))))))))))))))))))))))))))))
theorem allExt : AllOk prog lawExt := .cons oke189 (.cons oke188 (.cons oke174 (.cons oke176 (.cons oke190 (.cons oke172 (.nil))))))
theorem all0 : AllOk prog0 instCode := .nil
theorem mixed : prog.follows .mixedOrders = true := by kernel_rfl
theorem mixed0 : prog0.follows .mixedOrders = true := by kernel_rfl
theorem globs {h : List AV → St → Option (AV × St)} {f : Nat} (e : EntryOk2 prog0 f (.hook h)) : EntryOk2 prog f (.hook h) := by
  cases e with
  | old e => exact e.elim
  | hook a b =>
    exact .hook (fun args s r e1 e2 φ w c hg => a args s r e1 e2 φ w c (fun g hg' => by cases hg')) b
theorem lawHooks_ok : AllOk2 prog lawHooks := .nil
theorem h2_ok : AllOk2 prog lawH2 := .nil
theorem ok_l0 : AllOk2 prog tl0 := AllOk2.app allLaw (AllOk2.app allExt (AllOk2.app2 h2_ok lawHooks_ok))
theorem gl_pre : ∀ g, g ∈ prog.G → memoPre[g]? = some g ∧ g ∈ prog.G := fun g hg => ⟨(by decide : ∀ g ∈ ([0, 1, 2, 3, 4, 5, 7, 8] : List Nat), memoPre[g]? = some g) g hg, hg⟩
theorem ok_l1 : AllOk2 prog tl1 := .cons (EntryOk2.memoA (P0 := prog) mixed rfl gl_pre (AllOk2.fine ok_l0) 100000 65 tbl65 (by rw [← tabT_eq tr0_ok]; exact all65)) ok_l0
theorem ok_l2 : AllOk2 prog tl2 := .cons (EntryOk2.memoA (P0 := prog) mixed rfl gl_pre (AllOk2.fine ok_l1) 100000 103 tbl103 (by rw [← tabT_eq tr1_ok]; exact all103)) ok_l1
theorem ok_l3 : AllOk2 prog tl3 := .cons (EntryOk2.memoA (P0 := prog) mixed rfl gl_pre (AllOk2.fine ok_l2) 100000 43 tbl43 (by rw [← tabT_eq tr2_ok]; exact all43)) ok_l2
theorem ok_l4 : AllOk2 prog tl4 := .cons (EntryOk2.memoA (P0 := prog) mixed rfl gl_pre (AllOk2.fine ok_l3) 100000 29 tbl29 (by rw [← tabT_eq tr3_ok]; exact all29)) ok_l3
theorem ok_l5 : AllOk2 prog tl5 := .cons (EntryOk2.memoA (P0 := prog) mixed rfl gl_pre (AllOk2.fine ok_l4) 100000 22 tbl22 (by rw [← tabT_eq tr4_ok]; exact all22)) ok_l4
theorem ok_l6 : AllOk2 prog tl6 := .cons (EntryOk2.memoA (P0 := prog) mixed rfl gl_pre (AllOk2.fine ok_l5) 100000 6 tbl6 (by rw [← tabT_eq tr5_ok]; exact all6)) ok_l5
theorem ok_l7 : AllOk2 prog tl7 := .cons (EntryOk2.memoA (P0 := prog) mixed rfl gl_pre (AllOk2.fine ok_l6) 100000 8 tbl8 (by rw [← tabT_eq tr6_ok]; exact all8)) ok_l6
theorem fine_law : TabFine prog (tabT tr7) := by rw [tabT_eq tr7_ok]; exact AllOk2.fine ok_l7
abbrev theLaid : List (String × DataW Unit) := YtipcimefenpjhaaGreatDoor.Rows.traceSaysRow.laid
def gchk (ty : Ty) (d : DataW Unit) (g sz : Nat) (s : St) : Bool := match layD ty d s with
  | some (l, s1) => Nat.blt g s1.next && ((match s1.heap.get g with | none => true | some _ => false) && Nat.ble sz l.length)
  | none => false
theorem gst_step {P : Program} {W : World} {φ : Phi} {s : St} (h : RelSt φ s W) (hr : AllRo s) (hw : WFS s) {name : String} {g t : Nat} {ty : Ty} (hg : P.globalNamed name = some g) (ht : tyOf P 8 t = some ty) {cs : Array Value} (hv : W.var? P name = some cs) {held : Bool} {m : Nat} {d : DataW Unit} {ps : List MemPlace} (hd : DataW.trod (fun _ => ()) P W 0 (fun _ => true) held m t cs.toList = some (d, ps)) {sz : Nat} (hc : gchk ty d g sz s = true) :
    ∃ φ', Imp W φ s φ' (gst ty d g s) ∧ ∃ n top, φ' g 0 = some ⟨g, 0, 0, n, top⟩ ∧ sz ≤ n := by
  unfold gchk at hc
  cases hl : layD ty d s with
  | none => rw [hl] at hc; cases hc
  | some x =>
    obtain ⟨l, s1⟩ := x
    rw [hl] at hc
    simp only [Bool.and_eq_true, Nat.blt_eq, Nat.ble_eq] at hc
    obtain ⟨h1, h2, h3⟩ := hc
    have hf : s1.heap.get g = none := by
      cases hh : s1.heap.get g with
      | none => rfl
      | some _ => rw [hh] at h2; cases h2
    obtain ⟨φ', i, top, e⟩ := glob_lay h hr hw hg ht hv hd hl h1 hf
    refine ⟨φ', ?_, l.length, top, e, h3⟩
    unfold gst
    rw [hl]
    exact i
theorem next_up {φ : Phi} {s : St} {W : World} (h1 : RelSt φ s W) (h2 : AllRo s) (h3 : WFS s) {n : Nat} (hn : s.next ≤ n) : RelSt φ { s with next := n } W ∧ AllRo { s with next := n } ∧ WFS { s with next := n } :=
  ⟨RelSt.at (H := s.heap) (b := s.next) h1, h2, fun id hid => h3 id (Nat.le_trans hn hid)⟩
theorem ty0 : tyOf Tryz.prog 8 103 = some gt0 := by
  have c103 : Tryz.prog.cellsOf 103 = 20 := by kernel_rfl
  have c63 : Tryz.prog.cellsOf 63 = 1 := by kernel_rfl
  simp [tyOf, tyOf.go, gt0, tySize, tySizes, Tryz.underlying103, Tryz.underlying63, c103, c63]
theorem ty1 : tyOf Tryz.prog 8 168 = some gt1 := by
  have c168 : Tryz.prog.cellsOf 168 = 32 := by kernel_rfl
  have c5 : Tryz.prog.cellsOf 5 = 1 := by kernel_rfl
  simp [tyOf, tyOf.go, gt1, tySize, tySizes, Tryz.underlying168, Tryz.underlying5, c168, c5]
theorem ty2 : tyOf Tryz.prog 8 169 = some gt2 := by
  have c169 : Tryz.prog.cellsOf 169 = 64 := by kernel_rfl
  have c5 : Tryz.prog.cellsOf 5 = 1 := by kernel_rfl
  simp [tyOf, tyOf.go, gt2, tySize, tySizes, Tryz.underlying169, Tryz.underlying5, c169, c5]
theorem ty3 : tyOf Tryz.prog 8 172 = some gt3 := by
  have c172 : Tryz.prog.cellsOf 172 = 4 := by kernel_rfl
  have c171 : Tryz.prog.cellsOf 171 = 2 := by kernel_rfl
  have c3 : Tryz.prog.cellsOf 3 = 1 := by kernel_rfl
  simp [tyOf, tyOf.go, gt3, tySize, tySizes, Tryz.underlying172, Tryz.underlying171, Tryz.underlying3, c172, c171, c3]
theorem ty4 : tyOf Tryz.prog 8 171 = some gt4 := by
  have c171 : Tryz.prog.cellsOf 171 = 2 := by kernel_rfl
  have c3 : Tryz.prog.cellsOf 3 = 1 := by kernel_rfl
  simp [tyOf, tyOf.go, gt4, tySize, tySizes, Tryz.underlying171, Tryz.underlying3, c171, c3]
theorem ty8 : tyOf Tryz.prog 8 230 = some gt8 := by
  have c230 : Tryz.prog.cellsOf 230 = 1 := by kernel_rfl
  have c235 : Tryz.prog.cellsOf 235 = 10 := by kernel_rfl
  have c5 : Tryz.prog.cellsOf 5 = 1 := by kernel_rfl
  have c233 : Tryz.prog.cellsOf 233 = 9 := by kernel_rfl
  have c232 : Tryz.prog.cellsOf 232 = 3 := by kernel_rfl
  have c3 : Tryz.prog.cellsOf 3 = 1 := by kernel_rfl
  simp [tyOf, tyOf.go, gt8, tySize, tySizes, Tryz.underlying230, Tryz.underlying235, Tryz.underlying5, Tryz.underlying233, Tryz.underlying232, Tryz.underlying3, c230, c235, c5, c233, c232, c3]
theorem glob_state {W : World} (h : laidMetH Tryz.prog theLaid W) : ∃ φ, RelSt φ sG W ∧ AllRo sG ∧ WFS sG ∧ GlobOk prog φ := by
  rw [MakeChecks.laidMetH_plain _ _ _ (by kernel_rfl)] at h
  obtain ⟨ps, ⟨g4, t4, cs4, f4, p4, q4, hg4, ht4, hv4, hd4, ⟨g3, t3, cs3, f3, p3, q3, hg3, ht3, hv3, hd3, ⟨g5, t5, cs5, f5, p5, q5, hg5, ht5, hv5, hd5, ⟨g7, t7, cs7, f7, p7, q7, hg7, ht7, hv7, hd7, ⟨g1, t1, cs1, f1, p1, q1, hg1, ht1, hv1, hd1, ⟨g2, t2, cs2, f2, p2, q2, hg2, ht2, hv2, hd2, ⟨g0, t0, cs0, f0, p0, q0, hg0, ht0, hv0, hd0, ⟨g8, t8, cs8, f8, p8, q8, hg8, ht8, hv8, hd8, _, _⟩, _⟩, _⟩, _⟩, _⟩, _⟩, _⟩, _⟩, _⟩ := h
  obtain rfl := Option.some.inj ((show Tryz.prog.globalNamed "internal/strconv.uint64pow10" = some 0 by kernel_rfl).symm.trans hg0)
  obtain rfl := Option.some.inj ((show (Tryz.prog.globals[0]?).map (·.type) = some 103 by kernel_rfl).symm.trans ht0)
  obtain rfl := Option.some.inj ((show Tryz.prog.globalNamed "math/bits.deBruijn32tab" = some 1 by kernel_rfl).symm.trans hg1)
  obtain rfl := Option.some.inj ((show (Tryz.prog.globals[1]?).map (·.type) = some 168 by kernel_rfl).symm.trans ht1)
  obtain rfl := Option.some.inj ((show Tryz.prog.globalNamed "math/bits.deBruijn64tab" = some 2 by kernel_rfl).symm.trans hg2)
  obtain rfl := Option.some.inj ((show (Tryz.prog.globals[2]?).map (·.type) = some 169 by kernel_rfl).symm.trans ht2)
  obtain rfl := Option.some.inj ((show Tryz.prog.globalNamed "coxless/bits.ends" = some 3 by kernel_rfl).symm.trans hg3)
  obtain rfl := Option.some.inj ((show (Tryz.prog.globals[3]?).map (·.type) = some 172 by kernel_rfl).symm.trans ht3)
  obtain rfl := Option.some.inj ((show Tryz.prog.globalNamed "coxless/bits.codeAt" = some 4 by kernel_rfl).symm.trans hg4)
  obtain rfl := Option.some.inj ((show (Tryz.prog.globals[4]?).map (·.type) = some 171 by kernel_rfl).symm.trans ht4)
  obtain rfl := Option.some.inj ((show Tryz.prog.globalNamed "coxless/bits.parseAt" = some 5 by kernel_rfl).symm.trans hg5)
  obtain rfl := Option.some.inj ((show (Tryz.prog.globals[5]?).map (·.type) = some 171 by kernel_rfl).symm.trans ht5)
  obtain rfl := Option.some.inj ((show Tryz.prog.globalNamed "coxless/bits.upper" = some 7 by kernel_rfl).symm.trans hg7)
  obtain rfl := Option.some.inj ((show (Tryz.prog.globals[7]?).map (·.type) = some 171 by kernel_rfl).symm.trans ht7)
  obtain rfl := Option.some.inj ((show Tryz.prog.globalNamed "coxless/sub.rows" = some 8 by kernel_rfl).symm.trans hg8)
  obtain rfl := Option.some.inj ((show (Tryz.prog.globals[8]?).map (·.type) = some 230 by kernel_rfl).symm.trans ht8)
  obtain ⟨r1, r2, r3⟩ := next_up (n := 9) (rel0 W) allRo0 wfs0 (by decide)
  obtain ⟨φ0, i0, n0, top0, e0, l0⟩ := gst_step (d := gd0) (sz := 20) r1 r2 r3 hg0 (ty := gt0) ty0 hv0 hd0 (by kernel_rfl)
  obtain ⟨φ1, i1, n1, top1, e1, l1⟩ := gst_step (d := gd1) (sz := 32) i0.rel i0.ro i0.wfs hg1 (ty := gt1) ty1 hv1 hd1 (by kernel_rfl)
  obtain ⟨φ2, i2, n2, top2, e2, l2⟩ := gst_step (d := gd2) (sz := 64) i1.rel i1.ro i1.wfs hg2 (ty := gt2) ty2 hv2 hd2 (by kernel_rfl)
  obtain ⟨φ3, i3, n3, top3, e3, l3⟩ := gst_step (d := gd3) (sz := 4) i2.rel i2.ro i2.wfs hg3 (ty := gt3) ty3 hv3 hd3 (by kernel_rfl)
  obtain ⟨φ4, i4, n4, top4, e4, l4⟩ := gst_step (d := gd4) (sz := 2) i3.rel i3.ro i3.wfs hg4 (ty := gt4) ty4 hv4 hd4 (by kernel_rfl)
  obtain ⟨φ5, i5, n5, top5, e5, l5⟩ := gst_step (d := gd5) (sz := 2) i4.rel i4.ro i4.wfs hg5 (ty := gt5) ty4 hv5 hd5 (by kernel_rfl)
  obtain ⟨φ7, i7, n7, top7, e7, l7⟩ := gst_step (d := gd7) (sz := 2) i5.rel i5.ro i5.wfs hg7 (ty := gt7) ty4 hv7 hd7 (by kernel_rfl)
  obtain ⟨φ8, i8, n8, top8, e8, l8⟩ := gst_step (d := gd8) (sz := 1) i7.rel i7.ro i7.wfs hg8 (ty := gt8) ty8 hv8 hd8 (by kernel_rfl)
  obtain ⟨_, _, hh6⟩ := var_cells (P := Tryz.prog) (g := 0) (by kernel_rfl) hv0
  obtain ⟨φd6, d6⟩ := gdummy_step i8.rel i8.ro i8.wfs (d := 6) hh6 (by kernel_rfl) (by kernel_rfl)
  refine ⟨_, d6.rel, d6.ro, d6.wfs, ?_⟩
  intro g hg
  have hg : g = 0 ∨ g = 1 ∨ g = 2 ∨ g = 3 ∨ g = 4 ∨ g = 5 ∨ g = 7 ∨ g = 8 := by
    have : g ∈ [0, 1, 2, 3, 4, 5, 7, 8] := hg
    simpa using this
  rcases hg with rfl | rfl | rfl | rfl | rfl | rfl | rfl | rfl
  · refine ⟨_, d6.le _ _ _ (i8.le _ _ _ (i7.le _ _ _ (i5.le _ _ _ (i4.le _ _ _ (i3.le _ _ _ (i2.le _ _ _ (i1.le _ _ _ (e0)))))))), rfl, rfl, rfl, fun gl n h1 h2 => ?_⟩
    have hk : (prog.globals[0]?).bind (fun gl => szOf prog gl.type) = some 20 := by kernel_rfl
    rw [h1, Option.bind_some, h2] at hk
    cases hk
    exact l0
  · refine ⟨_, d6.le _ _ _ (i8.le _ _ _ (i7.le _ _ _ (i5.le _ _ _ (i4.le _ _ _ (i3.le _ _ _ (i2.le _ _ _ (e1))))))), rfl, rfl, rfl, fun gl n h1 h2 => ?_⟩
    have hk : (prog.globals[1]?).bind (fun gl => szOf prog gl.type) = some 32 := by kernel_rfl
    rw [h1, Option.bind_some, h2] at hk
    cases hk
    exact l1
  · refine ⟨_, d6.le _ _ _ (i8.le _ _ _ (i7.le _ _ _ (i5.le _ _ _ (i4.le _ _ _ (i3.le _ _ _ (e2)))))), rfl, rfl, rfl, fun gl n h1 h2 => ?_⟩
    have hk : (prog.globals[2]?).bind (fun gl => szOf prog gl.type) = some 64 := by kernel_rfl
    rw [h1, Option.bind_some, h2] at hk
    cases hk
    exact l2
  · refine ⟨_, d6.le _ _ _ (i8.le _ _ _ (i7.le _ _ _ (i5.le _ _ _ (i4.le _ _ _ (e3))))), rfl, rfl, rfl, fun gl n h1 h2 => ?_⟩
    have hk : (prog.globals[3]?).bind (fun gl => szOf prog gl.type) = some 4 := by kernel_rfl
    rw [h1, Option.bind_some, h2] at hk
    cases hk
    exact l3
  · refine ⟨_, d6.le _ _ _ (i8.le _ _ _ (i7.le _ _ _ (i5.le _ _ _ (e4)))), rfl, rfl, rfl, fun gl n h1 h2 => ?_⟩
    have hk : (prog.globals[4]?).bind (fun gl => szOf prog gl.type) = some 2 := by kernel_rfl
    rw [h1, Option.bind_some, h2] at hk
    cases hk
    exact l4
  · refine ⟨_, d6.le _ _ _ (i8.le _ _ _ (i7.le _ _ _ (e5))), rfl, rfl, rfl, fun gl n h1 h2 => ?_⟩
    have hk : (prog.globals[5]?).bind (fun gl => szOf prog gl.type) = some 2 := by kernel_rfl
    rw [h1, Option.bind_some, h2] at hk
    cases hk
    exact l5
  · refine ⟨_, d6.le _ _ _ (i8.le _ _ _ (e7)), rfl, rfl, rfl, fun gl n h1 h2 => ?_⟩
    have hk : (prog.globals[7]?).bind (fun gl => szOf prog gl.type) = some 2 := by kernel_rfl
    rw [h1, Option.bind_some, h2] at hk
    cases hk
    exact l7
  · refine ⟨_, d6.le _ _ _ (e8), rfl, rfl, rfl, fun gl n h1 h2 => ?_⟩
    have hk : (prog.globals[8]?).bind (fun gl => szOf prog gl.type) = some 1 := by kernel_rfl
    rw [h1, Option.bind_some, h2] at hk
    cases hk
    exact l8
theorem ran_of_yes {T : Tab} {n : Nat} {f : FuncId} {args : List AV} {s : St} (h : isYes (callF T (evalF T n) f args s) = true) : Ran T f args s fun v _ => v = .bool true := by
  rw [evalF_eq] at h
  cases hr : callF T (evalN T n) f args s with
  | fail => rw [hr] at h; cases h
  | panic v s => rw [hr] at h; cases h
  | val v s' =>
    rw [hr] at h
    refine ⟨n, v, s', hr, ?_⟩
    cases v with
    | bool b => cases b with
      | true => rfl
      | false => cases h
    | _ => cases h
end Go.V
