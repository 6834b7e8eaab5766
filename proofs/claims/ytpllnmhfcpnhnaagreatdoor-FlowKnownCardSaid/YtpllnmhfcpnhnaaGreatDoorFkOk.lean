/- The functions of the dump are what the texts in the small language say: by the kernel. The listed variables lie in the state's beginning. -/
import Derived.Test.YtpllnmhfcpnhnaaGreatDoorFkMemo
import Derived.Test.YtpllnmhfcpnhnaaGreatDoorRows
import Derived.MakeChecks
import Derived.Stop.LaidErr
import Derived.KernelRfl
set_option linter.unusedVariables false
set_option linter.unusedSimpArgs false
set_option linter.unusedSectionVars false
namespace Go.V
open Go
open Go.V Go.Proofs Go.RowKit Go.ChangeShapes Go.WideShapes Go.ChangeAt
set_option maxRecDepth 1000000
noncomputable def prog : Prog := { toProgram := Tryz.prog, G := [0, 1, 2, 3, 4, 8, 9, 10, 6, 7] }
noncomputable def prog0 : Prog := { toProgram := Tryz.prog, G := [] }
theorem ok4 : EntryOk prog 4 (.code ir4) := ⟨Tryz.f4, Tryz.func4, by kernel_rfl, by kernel_rfl⟩
theorem ok13 : EntryOk prog 13 (.code ir13) := ⟨Tryz.f13, Tryz.func13, by kernel_rfl, by kernel_rfl⟩
theorem ok10 : EntryOk prog 10 (.code ir10) := ⟨Tryz.f10, Tryz.func10, by kernel_rfl, by kernel_rfl⟩
theorem ok12 : EntryOk prog 12 (.code ir12) := ⟨Tryz.f12, Tryz.func12, by kernel_rfl, by kernel_rfl⟩
theorem ok24 : EntryOk prog 24 (.code ir24) := ⟨Tryz.f24, Tryz.func24, by kernel_rfl, by kernel_rfl⟩
theorem ok44 : EntryOk prog 44 (.code ir44) := ⟨Tryz.f44, Tryz.func44, by kernel_rfl, by kernel_rfl⟩
theorem ok43 : EntryOk prog 43 (.code ir43) := ⟨Tryz.f43, Tryz.func43, by kernel_rfl, by kernel_rfl⟩
theorem ok78 : EntryOk prog 78 (.code ir78) := ⟨Tryz.f78, Tryz.func78, by kernel_rfl, by kernel_rfl⟩
theorem ok126 : EntryOk prog 126 (.code ir126) := ⟨Tryz.f126, Tryz.func126, by kernel_rfl, by kernel_rfl⟩
theorem ok124 : EntryOk prog 124 (.code ir124) := ⟨Tryz.f124, Tryz.func124, by kernel_rfl, by kernel_rfl⟩
theorem ok169 : EntryOk prog 169 (.code ir169) := ⟨Tryz.f169, Tryz.func169, by kernel_rfl, by kernel_rfl⟩
theorem ok125 : EntryOk prog 125 (.code ir125) := ⟨Tryz.f125, Tryz.func125, by kernel_rfl, by kernel_rfl⟩
theorem ok123 : EntryOk prog 123 (.code ir123) := ⟨Tryz.f123, Tryz.func123, by kernel_rfl, by kernel_rfl⟩
theorem ok122 : EntryOk prog 122 (.code ir122) := ⟨Tryz.f122, Tryz.func122, by kernel_rfl, by kernel_rfl⟩
theorem ok121 : EntryOk prog 121 (.code ir121) := ⟨Tryz.f121, Tryz.func121, by kernel_rfl, by kernel_rfl⟩
theorem ok168 : EntryOk prog 168 (.code ir168) := ⟨Tryz.f168, Tryz.func168, by kernel_rfl, by kernel_rfl⟩
theorem ok209 : EntryOk prog 209 (.code ir209) := ⟨Tryz.f209, Tryz.func209, by kernel_rfl, by kernel_rfl⟩
theorem ok167 : EntryOk prog 167 (.code ir167) := ⟨Tryz.f167, Tryz.func167, by kernel_rfl, by kernel_rfl⟩
theorem ok120 : EntryOk prog 120 (.code ir120) := ⟨Tryz.f120, Tryz.func120, by kernel_rfl, by kernel_rfl⟩
theorem ok166 : EntryOk prog 166 (.code ir166) := ⟨Tryz.f166, Tryz.func166, by kernel_rfl, by kernel_rfl⟩
theorem ok165 : EntryOk prog 165 (.code ir165) := ⟨Tryz.f165, Tryz.func165, by kernel_rfl, by kernel_rfl⟩
theorem ok79 : EntryOk prog 79 (.code ir79) := ⟨Tryz.f79, Tryz.func79, by kernel_rfl, by kernel_rfl⟩
theorem ok128 : EntryOk prog 128 (.code ir128) := ⟨Tryz.f128, Tryz.func128, by kernel_rfl, by kernel_rfl⟩
theorem ok127 : EntryOk prog 127 (.code ir127) := ⟨Tryz.f127, Tryz.func127, by kernel_rfl, by kernel_rfl⟩
theorem ok119 : EntryOk prog 119 (.code ir119) := ⟨Tryz.f119, Tryz.func119, by kernel_rfl, by kernel_rfl⟩
theorem ok164 : EntryOk prog 164 (.code ir164) := ⟨Tryz.f164, Tryz.func164, by kernel_rfl, by kernel_rfl⟩
theorem ok118 : EntryOk prog 118 (.code ir118) := ⟨Tryz.f118, Tryz.func118, by kernel_rfl, by kernel_rfl⟩
theorem ok45 : EntryOk prog 45 (.code ir45) := ⟨Tryz.f45, Tryz.func45, by kernel_rfl, by kernel_rfl⟩
theorem ok11 : EntryOk prog 11 (.code ir11) := ⟨Tryz.f11, Tryz.func11, by kernel_rfl, by kernel_rfl⟩
theorem ok8 : EntryOk prog 8 (.code ir8) := ⟨Tryz.f8, Tryz.func8, by kernel_rfl, by kernel_rfl⟩
theorem ok9 : EntryOk prog 9 (.code ir9) := ⟨Tryz.f9, Tryz.func9, by kernel_rfl, by kernel_rfl⟩
theorem ok23 : EntryOk prog 23 (.code ir23) := ⟨Tryz.f23, Tryz.func23, by kernel_rfl, by kernel_rfl⟩
theorem ok22 : EntryOk prog 22 (.code ir22) := ⟨Tryz.f22, Tryz.func22, by kernel_rfl, by kernel_rfl⟩
theorem ok21 : EntryOk prog 21 (.code ir21) := ⟨Tryz.f21, Tryz.func21, by kernel_rfl, by kernel_rfl⟩
theorem ok42 : EntryOk prog 42 (.code ir42) := ⟨Tryz.f42, Tryz.func42, by kernel_rfl, by kernel_rfl⟩
theorem ok77 : EntryOk prog 77 (.code ir77) := ⟨Tryz.f77, Tryz.func77, by kernel_rfl, by kernel_rfl⟩
theorem ok106 : EntryOk prog 106 (.code ir106) := ⟨Tryz.f106, Tryz.func106, by kernel_rfl, by kernel_rfl⟩
theorem ok105 : EntryOk prog 105 (.code ir105) := ⟨Tryz.f105, Tryz.func105, by kernel_rfl, by kernel_rfl⟩
theorem ok107 : EntryOk prog 107 (.code ir107) := ⟨Tryz.f107, Tryz.func107, by kernel_rfl, by kernel_rfl⟩
theorem ok144 : EntryOk prog 144 (.code ir144) := ⟨Tryz.f144, Tryz.func144, by kernel_rfl, by kernel_rfl⟩
theorem ok182 : EntryOk prog 182 (.code ir182) := ⟨Tryz.f182, Tryz.func182, by kernel_rfl, by kernel_rfl⟩
theorem ok219 : EntryOk prog 219 (.code ir219) := ⟨Tryz.f219, Tryz.func219, by kernel_rfl, by kernel_rfl⟩
theorem ok271 : EntryOk prog 271 (.code ir271) := ⟨Tryz.f271, Tryz.func271, by kernel_rfl, by kernel_rfl⟩
theorem ok218 : EntryOk prog 218 (.code ir218) := ⟨Tryz.f218, Tryz.func218, by kernel_rfl, by kernel_rfl⟩
theorem ok183 : EntryOk prog 183 (.code ir183) := ⟨Tryz.f183, Tryz.func183, by kernel_rfl, by kernel_rfl⟩
theorem ok220 : EntryOk prog 220 (.code ir220) := ⟨Tryz.f220, Tryz.func220, by kernel_rfl, by kernel_rfl⟩
theorem ok104 : EntryOk prog 104 (.code ir104) := ⟨Tryz.f104, Tryz.func104, by kernel_rfl, by kernel_rfl⟩
theorem ok142 : EntryOk prog 142 (.code ir142) := ⟨Tryz.f142, Tryz.func142, by kernel_rfl, by kernel_rfl⟩
theorem ok111 : EntryOk prog 111 (.code ir111) := ⟨Tryz.f111, Tryz.func111, by kernel_rfl, by kernel_rfl⟩
theorem ok154 : EntryOk prog 154 (.code ir154) := ⟨Tryz.f154, Tryz.func154, by kernel_rfl, by kernel_rfl⟩
theorem ok155 : EntryOk prog 155 (.code ir155) := ⟨Tryz.f155, Tryz.func155, by kernel_rfl, by kernel_rfl⟩
theorem ok151 : EntryOk prog 151 (.code ir151) := ⟨Tryz.f151, Tryz.func151, by kernel_rfl, by kernel_rfl⟩
theorem ok198 : EntryOk prog 198 (.code ir198) := ⟨Tryz.f198, Tryz.func198, by kernel_rfl, by kernel_rfl⟩
theorem ok153 : EntryOk prog 153 (.code ir153) := ⟨Tryz.f153, Tryz.func153, by kernel_rfl, by kernel_rfl⟩
theorem ok152 : EntryOk prog 152 (.code ir152) := ⟨Tryz.f152, Tryz.func152, by kernel_rfl, by kernel_rfl⟩
theorem ok200 : EntryOk prog 200 (.code ir200) := ⟨Tryz.f200, Tryz.func200, by kernel_rfl, by kernel_rfl⟩
theorem ok239 : EntryOk prog 239 (.code ir239) := ⟨Tryz.f239, Tryz.func239, by kernel_rfl, by kernel_rfl⟩
theorem ok202 : EntryOk prog 202 (.code ir202) := ⟨Tryz.f202, Tryz.func202, by kernel_rfl, by kernel_rfl⟩
theorem ok234 : EntryOk prog 234 (.code ir234) := ⟨Tryz.f234, Tryz.func234, by kernel_rfl, by kernel_rfl⟩
theorem ok238 : EntryOk prog 238 (.code ir238) := ⟨Tryz.f238, Tryz.func238, by kernel_rfl, by kernel_rfl⟩
theorem ok181 : EntryOk prog 181 (.code ir181) := ⟨Tryz.f181, Tryz.func181, by kernel_rfl, by kernel_rfl⟩
theorem ok276 : EntryOk prog 276 (.code ir276) := ⟨Tryz.f276, Tryz.func276, by kernel_rfl, by kernel_rfl⟩
theorem ok199 : EntryOk prog 199 (.code ir199) := ⟨Tryz.f199, Tryz.func199, by kernel_rfl, by kernel_rfl⟩
theorem ok193 : EntryOk prog 193 (.code ir193) := ⟨Tryz.f193, Tryz.func193, by kernel_rfl, by kernel_rfl⟩
theorem ok237 : EntryOk prog 237 (.code ir237) := ⟨Tryz.f237, Tryz.func237, by kernel_rfl, by kernel_rfl⟩
theorem ok141 : EntryOk prog 141 (.code ir141) := ⟨Tryz.f141, Tryz.func141, by kernel_rfl, by kernel_rfl⟩
theorem ok275 : EntryOk prog 275 (.code ir275) := ⟨Tryz.f275, Tryz.func275, by kernel_rfl, by kernel_rfl⟩
theorem ok143 : EntryOk prog 143 (.code ir143) := ⟨Tryz.f143, Tryz.func143, by kernel_rfl, by kernel_rfl⟩
theorem ok185 : EntryOk prog 185 (.code ir185) := ⟨Tryz.f185, Tryz.func185, by kernel_rfl, by kernel_rfl⟩
theorem ok223 : EntryOk prog 223 (.code ir223) := ⟨Tryz.f223, Tryz.func223, by kernel_rfl, by kernel_rfl⟩
theorem ok184 : EntryOk prog 184 (.code ir184) := ⟨Tryz.f184, Tryz.func184, by kernel_rfl, by kernel_rfl⟩
theorem ok221 : EntryOk prog 221 (.code ir221) := ⟨Tryz.f221, Tryz.func221, by kernel_rfl, by kernel_rfl⟩
theorem ok222 : EntryOk prog 222 (.code ir222) := ⟨Tryz.f222, Tryz.func222, by kernel_rfl, by kernel_rfl⟩
theorem ok195 : EntryOk prog 195 (.code ir195) := ⟨Tryz.f195, Tryz.func195, by kernel_rfl, by kernel_rfl⟩
theorem ok189 : EntryOk prog 189 (.code ir189) := ⟨Tryz.f189, Tryz.func189, by kernel_rfl, by kernel_rfl⟩
theorem ok190 : EntryOk prog 190 (.code ir190) := ⟨Tryz.f190, Tryz.func190, by kernel_rfl, by kernel_rfl⟩
theorem ok230 : EntryOk prog 230 (.code ir230) := ⟨Tryz.f230, Tryz.func230, by kernel_rfl, by kernel_rfl⟩
theorem ok188 : EntryOk prog 188 (.code ir188) := ⟨Tryz.f188, Tryz.func188, by kernel_rfl, by kernel_rfl⟩
theorem ok227 : EntryOk prog 227 (.code ir227) := ⟨Tryz.f227, Tryz.func227, by kernel_rfl, by kernel_rfl⟩
theorem ok228 : EntryOk prog 228 (.code ir228) := ⟨Tryz.f228, Tryz.func228, by kernel_rfl, by kernel_rfl⟩
theorem ok273 : EntryOk prog 273 (.code ir273) := ⟨Tryz.f273, Tryz.func273, by kernel_rfl, by kernel_rfl⟩
theorem ok186 : EntryOk prog 186 (.code ir186) := ⟨Tryz.f186, Tryz.func186, by kernel_rfl, by kernel_rfl⟩
theorem ok117 : EntryOk prog 117 (.code ir117) := ⟨Tryz.f117, Tryz.func117, by kernel_rfl, by kernel_rfl⟩
theorem ok163 : EntryOk prog 163 (.code ir163) := ⟨Tryz.f163, Tryz.func163, by kernel_rfl, by kernel_rfl⟩
theorem ok208 : EntryOk prog 208 (.code ir208) := ⟨Tryz.f208, Tryz.func208, by kernel_rfl, by kernel_rfl⟩
theorem ok240 : EntryOk prog 240 (.code ir240) := ⟨Tryz.f240, Tryz.func240, by kernel_rfl, by kernel_rfl⟩
theorem ok278 : EntryOk prog 278 (.code ir278) := ⟨Tryz.f278, Tryz.func278, by kernel_rfl, by kernel_rfl⟩
theorem ok277 : EntryOk prog 277 (.code ir277) := ⟨Tryz.f277, Tryz.func277, by kernel_rfl, by kernel_rfl⟩
theorem ok62 : EntryOk prog 62 (.code ir62) := ⟨Tryz.f62, Tryz.func62, by kernel_rfl, by kernel_rfl⟩
theorem ok101 : EntryOk prog 101 (.code ir101) := ⟨Tryz.f101, Tryz.func101, by kernel_rfl, by kernel_rfl⟩
theorem ok161 : EntryOk prog 161 (.code ir161) := ⟨Tryz.f161, Tryz.func161, by kernel_rfl, by kernel_rfl⟩
theorem ok162 : EntryOk prog 162 (.code ir162) := ⟨Tryz.f162, Tryz.func162, by kernel_rfl, by kernel_rfl⟩
theorem ok207 : EntryOk prog 207 (.code ir207) := ⟨Tryz.f207, Tryz.func207, by kernel_rfl, by kernel_rfl⟩
theorem ok156 : EntryOk prog 156 (.code ir156) := ⟨Tryz.f156, Tryz.func156, by kernel_rfl, by kernel_rfl⟩
theorem ok116 : EntryOk prog 116 (.code ir116) := ⟨Tryz.f116, Tryz.func116, by kernel_rfl, by kernel_rfl⟩
theorem ok115 : EntryOk prog 115 (.code ir115) := ⟨Tryz.f115, Tryz.func115, by kernel_rfl, by kernel_rfl⟩
theorem ok76 : EntryOk prog 76 (.code ir76) := ⟨Tryz.f76, Tryz.func76, by kernel_rfl, by kernel_rfl⟩
theorem ok75 : EntryOk prog 75 (.code ir75) := ⟨Tryz.f75, Tryz.func75, by kernel_rfl, by kernel_rfl⟩
theorem ok20 : EntryOk prog 20 (.code ir20) := ⟨Tryz.f20, Tryz.func20, by kernel_rfl, by kernel_rfl⟩
theorem ok5 : EntryOk prog 5 (.code ir5) := ⟨Tryz.f5, Tryz.func5, by kernel_rfl, by kernel_rfl⟩
theorem ok14 : EntryOk prog 14 (.code ir14) := ⟨Tryz.f14, Tryz.func14, by kernel_rfl, by kernel_rfl⟩
theorem ok17 : EntryOk prog 17 (.code ir17) := ⟨Tryz.f17, Tryz.func17, by kernel_rfl, by kernel_rfl⟩
theorem ok40 : EntryOk prog 40 (.code ir40) := ⟨Tryz.f40, Tryz.func40, by kernel_rfl, by kernel_rfl⟩
theorem ok74 : EntryOk prog 74 (.code ir74) := ⟨Tryz.f74, Tryz.func74, by kernel_rfl, by kernel_rfl⟩
theorem ok73 : EntryOk prog 73 (.code ir73) := ⟨Tryz.f73, Tryz.func73, by kernel_rfl, by kernel_rfl⟩
theorem ok41 : EntryOk prog 41 (.code ir41) := ⟨Tryz.f41, Tryz.func41, by kernel_rfl, by kernel_rfl⟩
theorem ok72 : EntryOk prog 72 (.code ir72) := ⟨Tryz.f72, Tryz.func72, by kernel_rfl, by kernel_rfl⟩
theorem ok113 : EntryOk prog 113 (.code ir113) := ⟨Tryz.f113, Tryz.func113, by kernel_rfl, by kernel_rfl⟩
theorem ok159 : EntryOk prog 159 (.code ir159) := ⟨Tryz.f159, Tryz.func159, by kernel_rfl, by kernel_rfl⟩
theorem ok206 : EntryOk prog 206 (.code ir206) := ⟨Tryz.f206, Tryz.func206, by kernel_rfl, by kernel_rfl⟩
theorem ok158 : EntryOk prog 158 (.code ir158) := ⟨Tryz.f158, Tryz.func158, by kernel_rfl, by kernel_rfl⟩
theorem ok205 : EntryOk prog 205 (.code ir205) := ⟨Tryz.f205, Tryz.func205, by kernel_rfl, by kernel_rfl⟩
theorem ok204 : EntryOk prog 204 (.code ir204) := ⟨Tryz.f204, Tryz.func204, by kernel_rfl, by kernel_rfl⟩
theorem ok157 : EntryOk prog 157 (.code ir157) := ⟨Tryz.f157, Tryz.func157, by kernel_rfl, by kernel_rfl⟩
theorem ok203 : EntryOk prog 203 (.code ir203) := ⟨Tryz.f203, Tryz.func203, by kernel_rfl, by kernel_rfl⟩
theorem ok114 : EntryOk prog 114 (.code ir114) := ⟨Tryz.f114, Tryz.func114, by kernel_rfl, by kernel_rfl⟩
theorem ok160 : EntryOk prog 160 (.code ir160) := ⟨Tryz.f160, Tryz.func160, by kernel_rfl, by kernel_rfl⟩
theorem ok39 : EntryOk prog 39 (.code ir39) := ⟨Tryz.f39, Tryz.func39, by kernel_rfl, by kernel_rfl⟩
theorem ok71 : EntryOk prog 71 (.code ir71) := ⟨Tryz.f71, Tryz.func71, by kernel_rfl, by kernel_rfl⟩
theorem ok70 : EntryOk prog 70 (.code ir70) := ⟨Tryz.f70, Tryz.func70, by kernel_rfl, by kernel_rfl⟩
theorem ok112 : EntryOk prog 112 (.code ir112) := ⟨Tryz.f112, Tryz.func112, by kernel_rfl, by kernel_rfl⟩
theorem ok110 : EntryOk prog 110 (.code ir110) := ⟨Tryz.f110, Tryz.func110, by kernel_rfl, by kernel_rfl⟩
theorem ok109 : EntryOk prog 109 (.code ir109) := ⟨Tryz.f109, Tryz.func109, by kernel_rfl, by kernel_rfl⟩
theorem ok108 : EntryOk prog 108 (.code ir108) := ⟨Tryz.f108, Tryz.func108, by kernel_rfl, by kernel_rfl⟩
theorem ok149 : EntryOk prog 149 (.code ir149) := ⟨Tryz.f149, Tryz.func149, by kernel_rfl, by kernel_rfl⟩
theorem ok150 : EntryOk prog 150 (.code ir150) := ⟨Tryz.f150, Tryz.func150, by kernel_rfl, by kernel_rfl⟩
theorem ok29 : EntryOk prog 29 (.code ir29) := ⟨Tryz.f29, Tryz.func29, by kernel_rfl, by kernel_rfl⟩
theorem ok197 : EntryOk prog 197 (.code ir197) := ⟨Tryz.f197, Tryz.func197, by kernel_rfl, by kernel_rfl⟩
theorem ok30 : EntryOk prog 30 (.code ir30) := ⟨Tryz.f30, Tryz.func30, by kernel_rfl, by kernel_rfl⟩
theorem ok51 : EntryOk prog 51 (.code ir51) := ⟨Tryz.f51, Tryz.func51, by kernel_rfl, by kernel_rfl⟩
theorem ok148 : EntryOk prog 148 (.code ir148) := ⟨Tryz.f148, Tryz.func148, by kernel_rfl, by kernel_rfl⟩
theorem ok196 : EntryOk prog 196 (.code ir196) := ⟨Tryz.f196, Tryz.func196, by kernel_rfl, by kernel_rfl⟩
theorem ok236 : EntryOk prog 236 (.code ir236) := ⟨Tryz.f236, Tryz.func236, by kernel_rfl, by kernel_rfl⟩
theorem ok274 : EntryOk prog 274 (.code ir274) := ⟨Tryz.f274, Tryz.func274, by kernel_rfl, by kernel_rfl⟩
theorem ok296 : EntryOk prog 296 (.code ir296) := ⟨Tryz.f296, Tryz.func296, by kernel_rfl, by kernel_rfl⟩
theorem ok235 : EntryOk prog 235 (.code ir235) := ⟨Tryz.f235, Tryz.func235, by kernel_rfl, by kernel_rfl⟩
theorem ok147 : EntryOk prog 147 (.code ir147) := ⟨Tryz.f147, Tryz.func147, by kernel_rfl, by kernel_rfl⟩
theorem ok145 : EntryOk prog 145 (.code ir145) := ⟨Tryz.f145, Tryz.func145, by kernel_rfl, by kernel_rfl⟩
theorem ok192 : EntryOk prog 192 (.code ir192) := ⟨Tryz.f192, Tryz.func192, by kernel_rfl, by kernel_rfl⟩
theorem ok233 : EntryOk prog 233 (.code ir233) := ⟨Tryz.f233, Tryz.func233, by kernel_rfl, by kernel_rfl⟩
theorem ok140 : EntryOk prog 140 (.code ir140) := ⟨Tryz.f140, Tryz.func140, by kernel_rfl, by kernel_rfl⟩
theorem ok191 : EntryOk prog 191 (.code ir191) := ⟨Tryz.f191, Tryz.func191, by kernel_rfl, by kernel_rfl⟩
theorem ok103 : EntryOk prog 103 (.code ir103) := ⟨Tryz.f103, Tryz.func103, by kernel_rfl, by kernel_rfl⟩
theorem ok38 : EntryOk prog 38 (.code ir38) := ⟨Tryz.f38, Tryz.func38, by kernel_rfl, by kernel_rfl⟩
theorem ok69 : EntryOk prog 69 (.code ir69) := ⟨Tryz.f69, Tryz.func69, by kernel_rfl, by kernel_rfl⟩
theorem ok33 : EntryOk prog 33 (.code ir33) := ⟨Tryz.f33, Tryz.func33, by kernel_rfl, by kernel_rfl⟩
theorem ok52 : EntryOk prog 52 (.code ir52) := ⟨Tryz.f52, Tryz.func52, by kernel_rfl, by kernel_rfl⟩
theorem ok16 : EntryOk prog 16 (.code ir16) := ⟨Tryz.f16, Tryz.func16, by kernel_rfl, by kernel_rfl⟩
theorem ok35 : EntryOk prog 35 (.code ir35) := ⟨Tryz.f35, Tryz.func35, by kernel_rfl, by kernel_rfl⟩
theorem ok60 : EntryOk prog 60 (.code ir60) := ⟨Tryz.f60, Tryz.func60, by kernel_rfl, by kernel_rfl⟩
theorem ok31 : EntryOk prog 31 (.code ir31) := ⟨Tryz.f31, Tryz.func31, by kernel_rfl, by kernel_rfl⟩
theorem ok59 : EntryOk prog 59 (.code ir59) := ⟨Tryz.f59, Tryz.func59, by kernel_rfl, by kernel_rfl⟩
theorem ok27 : EntryOk prog 27 (.code ir27) := ⟨Tryz.f27, Tryz.func27, by kernel_rfl, by kernel_rfl⟩
theorem ok50 : EntryOk prog 50 (.code ir50) := ⟨Tryz.f50, Tryz.func50, by kernel_rfl, by kernel_rfl⟩
theorem ok97 : EntryOk prog 97 (.code ir97) := ⟨Tryz.f97, Tryz.func97, by kernel_rfl, by kernel_rfl⟩
theorem ok138 : EntryOk prog 138 (.code ir138) := ⟨Tryz.f138, Tryz.func138, by kernel_rfl, by kernel_rfl⟩
theorem ok179 : EntryOk prog 179 (.code ir179) := ⟨Tryz.f179, Tryz.func179, by kernel_rfl, by kernel_rfl⟩
theorem ok96 : EntryOk prog 96 (.code ir96) := ⟨Tryz.f96, Tryz.func96, by kernel_rfl, by kernel_rfl⟩
theorem ok58 : EntryOk prog 58 (.code ir58) := ⟨Tryz.f58, Tryz.func58, by kernel_rfl, by kernel_rfl⟩
theorem ok37 : EntryOk prog 37 (.code ir37) := ⟨Tryz.f37, Tryz.func37, by kernel_rfl, by kernel_rfl⟩
theorem ok55 : EntryOk prog 55 (.code ir55) := ⟨Tryz.f55, Tryz.func55, by kernel_rfl, by kernel_rfl⟩
theorem ok68 : EntryOk prog 68 (.code ir68) := ⟨Tryz.f68, Tryz.func68, by kernel_rfl, by kernel_rfl⟩
theorem ok67 : EntryOk prog 67 (.code ir67) := ⟨Tryz.f67, Tryz.func67, by kernel_rfl, by kernel_rfl⟩
theorem ok53 : EntryOk prog 53 (.code ir53) := ⟨Tryz.f53, Tryz.func53, by kernel_rfl, by kernel_rfl⟩
theorem ok98 : EntryOk prog 98 (.code ir98) := ⟨Tryz.f98, Tryz.func98, by kernel_rfl, by kernel_rfl⟩
theorem ok66 : EntryOk prog 66 (.code ir66) := ⟨Tryz.f66, Tryz.func66, by kernel_rfl, by kernel_rfl⟩
theorem ok63 : EntryOk prog 63 (.code ir63) := ⟨Tryz.f63, Tryz.func63, by kernel_rfl, by kernel_rfl⟩
theorem ok102 : EntryOk prog 102 (.code ir102) := ⟨Tryz.f102, Tryz.func102, by kernel_rfl, by kernel_rfl⟩
theorem ok36 : EntryOk prog 36 (.code ir36) := ⟨Tryz.f36, Tryz.func36, by kernel_rfl, by kernel_rfl⟩
theorem ok65 : EntryOk prog 65 (.code ir65) := ⟨Tryz.f65, Tryz.func65, by kernel_rfl, by kernel_rfl⟩
theorem ok64 : EntryOk prog 64 (.code ir64) := ⟨Tryz.f64, Tryz.func64, by kernel_rfl, by kernel_rfl⟩
theorem ok61 : EntryOk prog 61 (.code ir61) := ⟨Tryz.f61, Tryz.func61, by kernel_rfl, by kernel_rfl⟩
theorem ok34 : EntryOk prog 34 (.code ir34) := ⟨Tryz.f34, Tryz.func34, by kernel_rfl, by kernel_rfl⟩
theorem ok57 : EntryOk prog 57 (.code ir57) := ⟨Tryz.f57, Tryz.func57, by kernel_rfl, by kernel_rfl⟩
theorem ok56 : EntryOk prog 56 (.code ir56) := ⟨Tryz.f56, Tryz.func56, by kernel_rfl, by kernel_rfl⟩
theorem ok99 : EntryOk prog 99 (.code ir99) := ⟨Tryz.f99, Tryz.func99, by kernel_rfl, by kernel_rfl⟩
theorem ok100 : EntryOk prog 100 (.code ir100) := ⟨Tryz.f100, Tryz.func100, by kernel_rfl, by kernel_rfl⟩
theorem ok54 : EntryOk prog 54 (.code ir54) := ⟨Tryz.f54, Tryz.func54, by kernel_rfl, by kernel_rfl⟩
theorem ok15 : EntryOk prog 15 (.code ir15) := ⟨Tryz.f15, Tryz.func15, by kernel_rfl, by kernel_rfl⟩
theorem ok32 : EntryOk prog 32 (.code ir32) := ⟨Tryz.f32, Tryz.func32, by kernel_rfl, by kernel_rfl⟩
theorem ok28 : EntryOk prog 28 (.code ir28) := ⟨Tryz.f28, Tryz.func28, by kernel_rfl, by kernel_rfl⟩
theorem ok49 : EntryOk prog 49 (.code ir49) := ⟨Tryz.f49, Tryz.func49, by kernel_rfl, by kernel_rfl⟩
theorem ok95 : EntryOk prog 95 (.code ir95) := ⟨Tryz.f95, Tryz.func95, by kernel_rfl, by kernel_rfl⟩
theorem ok48 : EntryOk prog 48 (.code ir48) := ⟨Tryz.f48, Tryz.func48, by kernel_rfl, by kernel_rfl⟩
theorem ok88 : EntryOk prog 88 (.code ir88) := ⟨Tryz.f88, Tryz.func88, by kernel_rfl, by kernel_rfl⟩
theorem ok94 : EntryOk prog 94 (.code ir94) := ⟨Tryz.f94, Tryz.func94, by kernel_rfl, by kernel_rfl⟩
theorem ok137 : EntryOk prog 137 (.code ir137) := ⟨Tryz.f137, Tryz.func137, by kernel_rfl, by kernel_rfl⟩
theorem ok133 : EntryOk prog 133 (.code ir133) := ⟨Tryz.f133, Tryz.func133, by kernel_rfl, by kernel_rfl⟩
theorem ok136 : EntryOk prog 136 (.code ir136) := ⟨Tryz.f136, Tryz.func136, by kernel_rfl, by kernel_rfl⟩
theorem ok216 : EntryOk prog 216 (.code ir216) := ⟨Tryz.f216, Tryz.func216, by kernel_rfl, by kernel_rfl⟩
theorem ok261 : EntryOk prog 261 (.code ir261) := ⟨Tryz.f261, Tryz.func261, by kernel_rfl, by kernel_rfl⟩
theorem ok258 : EntryOk prog 258 (.code ir258) := ⟨Tryz.f258, Tryz.func258, by kernel_rfl, by kernel_rfl⟩
theorem ok294 : EntryOk prog 294 (.code ir294) := ⟨Tryz.f294, Tryz.func294, by kernel_rfl, by kernel_rfl⟩
theorem ok254 : EntryOk prog 254 (.code ir254) := ⟨Tryz.f254, Tryz.func254, by kernel_rfl, by kernel_rfl⟩
theorem ok288 : EntryOk prog 288 (.code ir288) := ⟨Tryz.f288, Tryz.func288, by kernel_rfl, by kernel_rfl⟩
theorem ok248 : EntryOk prog 248 (.code ir248) := ⟨Tryz.f248, Tryz.func248, by kernel_rfl, by kernel_rfl⟩
theorem ok291 : EntryOk prog 291 (.code ir291) := ⟨Tryz.f291, Tryz.func291, by kernel_rfl, by kernel_rfl⟩
theorem ok176 : EntryOk prog 176 (.code ir176) := ⟨Tryz.f176, Tryz.func176, by kernel_rfl, by kernel_rfl⟩
theorem ok214 : EntryOk prog 214 (.code ir214) := ⟨Tryz.f214, Tryz.func214, by kernel_rfl, by kernel_rfl⟩
theorem ok246 : EntryOk prog 246 (.code ir246) := ⟨Tryz.f246, Tryz.func246, by kernel_rfl, by kernel_rfl⟩
theorem ok286 : EntryOk prog 286 (.code ir286) := ⟨Tryz.f286, Tryz.func286, by kernel_rfl, by kernel_rfl⟩
theorem ok285 : EntryOk prog 285 (.code ir285) := ⟨Tryz.f285, Tryz.func285, by kernel_rfl, by kernel_rfl⟩
theorem ok247 : EntryOk prog 247 (.code ir247) := ⟨Tryz.f247, Tryz.func247, by kernel_rfl, by kernel_rfl⟩
theorem ok287 : EntryOk prog 287 (.code ir287) := ⟨Tryz.f287, Tryz.func287, by kernel_rfl, by kernel_rfl⟩
theorem ok306 : EntryOk prog 306 (.code ir306) := ⟨Tryz.f306, Tryz.func306, by kernel_rfl, by kernel_rfl⟩
theorem ok305 : EntryOk prog 305 (.code ir305) := ⟨Tryz.f305, Tryz.func305, by kernel_rfl, by kernel_rfl⟩
theorem ok304 : EntryOk prog 304 (.code ir304) := ⟨Tryz.f304, Tryz.func304, by kernel_rfl, by kernel_rfl⟩
theorem ok253 : EntryOk prog 253 (.code ir253) := ⟨Tryz.f253, Tryz.func253, by kernel_rfl, by kernel_rfl⟩
theorem ok173 : EntryOk prog 173 (.code ir173) := ⟨Tryz.f173, Tryz.func173, by kernel_rfl, by kernel_rfl⟩
theorem ok213 : EntryOk prog 213 (.code ir213) := ⟨Tryz.f213, Tryz.func213, by kernel_rfl, by kernel_rfl⟩
theorem ok245 : EntryOk prog 245 (.code ir245) := ⟨Tryz.f245, Tryz.func245, by kernel_rfl, by kernel_rfl⟩
theorem ok284 : EntryOk prog 284 (.code ir284) := ⟨Tryz.f284, Tryz.func284, by kernel_rfl, by kernel_rfl⟩
theorem ok303 : EntryOk prog 303 (.code ir303) := ⟨Tryz.f303, Tryz.func303, by kernel_rfl, by kernel_rfl⟩
theorem ok314 : EntryOk prog 314 (.code ir314) := ⟨Tryz.f314, Tryz.func314, by kernel_rfl, by kernel_rfl⟩
theorem ok316 : EntryOk prog 316 (.code ir316) := ⟨Tryz.f316, Tryz.func316, by kernel_rfl, by kernel_rfl⟩
theorem ok315 : EntryOk prog 315 (.code ir315) := ⟨Tryz.f315, Tryz.func315, by kernel_rfl, by kernel_rfl⟩
theorem ok313 : EntryOk prog 313 (.code ir313) := ⟨Tryz.f313, Tryz.func313, by kernel_rfl, by kernel_rfl⟩
theorem ok302 : EntryOk prog 302 (.code ir302) := ⟨Tryz.f302, Tryz.func302, by kernel_rfl, by kernel_rfl⟩
theorem ok301 : EntryOk prog 301 (.code ir301) := ⟨Tryz.f301, Tryz.func301, by kernel_rfl, by kernel_rfl⟩
theorem ok312 : EntryOk prog 312 (.code ir312) := ⟨Tryz.f312, Tryz.func312, by kernel_rfl, by kernel_rfl⟩
theorem ok311 : EntryOk prog 311 (.code ir311) := ⟨Tryz.f311, Tryz.func311, by kernel_rfl, by kernel_rfl⟩
theorem ok300 : EntryOk prog 300 (.code ir300) := ⟨Tryz.f300, Tryz.func300, by kernel_rfl, by kernel_rfl⟩
theorem ok211 : EntryOk prog 211 (.code ir211) := ⟨Tryz.f211, Tryz.func211, by kernel_rfl, by kernel_rfl⟩
theorem ok242 : EntryOk prog 242 (.code ir242) := ⟨Tryz.f242, Tryz.func242, by kernel_rfl, by kernel_rfl⟩
theorem ok129 : EntryOk prog 129 (.code ir129) := ⟨Tryz.f129, Tryz.func129, by kernel_rfl, by kernel_rfl⟩
theorem ok249 : EntryOk prog 249 (.code ir249) := ⟨Tryz.f249, Tryz.func249, by kernel_rfl, by kernel_rfl⟩
theorem ok252 : EntryOk prog 252 (.code ir252) := ⟨Tryz.f252, Tryz.func252, by kernel_rfl, by kernel_rfl⟩
theorem ok293 : EntryOk prog 293 (.code ir293) := ⟨Tryz.f293, Tryz.func293, by kernel_rfl, by kernel_rfl⟩
theorem ok256 : EntryOk prog 256 (.code ir256) := ⟨Tryz.f256, Tryz.func256, by kernel_rfl, by kernel_rfl⟩
theorem ok260 : EntryOk prog 260 (.code ir260) := ⟨Tryz.f260, Tryz.func260, by kernel_rfl, by kernel_rfl⟩
theorem ok289 : EntryOk prog 289 (.code ir289) := ⟨Tryz.f289, Tryz.func289, by kernel_rfl, by kernel_rfl⟩
theorem ok307 : EntryOk prog 307 (.code ir307) := ⟨Tryz.f307, Tryz.func307, by kernel_rfl, by kernel_rfl⟩
theorem ok241 : EntryOk prog 241 (.code ir241) := ⟨Tryz.f241, Tryz.func241, by kernel_rfl, by kernel_rfl⟩
theorem ok290 : EntryOk prog 290 (.code ir290) := ⟨Tryz.f290, Tryz.func290, by kernel_rfl, by kernel_rfl⟩
theorem ok259 : EntryOk prog 259 (.code ir259) := ⟨Tryz.f259, Tryz.func259, by kernel_rfl, by kernel_rfl⟩
theorem ok292 : EntryOk prog 292 (.code ir292) := ⟨Tryz.f292, Tryz.func292, by kernel_rfl, by kernel_rfl⟩
theorem ok257 : EntryOk prog 257 (.code ir257) := ⟨Tryz.f257, Tryz.func257, by kernel_rfl, by kernel_rfl⟩
theorem ok175 : EntryOk prog 175 (.code ir175) := ⟨Tryz.f175, Tryz.func175, by kernel_rfl, by kernel_rfl⟩
theorem ok255 : EntryOk prog 255 (.code ir255) := ⟨Tryz.f255, Tryz.func255, by kernel_rfl, by kernel_rfl⟩
theorem ok174 : EntryOk prog 174 (.code ir174) := ⟨Tryz.f174, Tryz.func174, by kernel_rfl, by kernel_rfl⟩
theorem ok251 : EntryOk prog 251 (.code ir251) := ⟨Tryz.f251, Tryz.func251, by kernel_rfl, by kernel_rfl⟩
theorem ok250 : EntryOk prog 250 (.code ir250) := ⟨Tryz.f250, Tryz.func250, by kernel_rfl, by kernel_rfl⟩
theorem ok135 : EntryOk prog 135 (.code ir135) := ⟨Tryz.f135, Tryz.func135, by kernel_rfl, by kernel_rfl⟩
theorem ok91 : EntryOk prog 91 (.code ir91) := ⟨Tryz.f91, Tryz.func91, by kernel_rfl, by kernel_rfl⟩
theorem ok177 : EntryOk prog 177 (.code ir177) := ⟨Tryz.f177, Tryz.func177, by kernel_rfl, by kernel_rfl⟩
theorem ok90 : EntryOk prog 90 (.code ir90) := ⟨Tryz.f90, Tryz.func90, by kernel_rfl, by kernel_rfl⟩
theorem ok93 : EntryOk prog 93 (.code ir93) := ⟨Tryz.f93, Tryz.func93, by kernel_rfl, by kernel_rfl⟩
theorem ok134 : EntryOk prog 134 (.code ir134) := ⟨Tryz.f134, Tryz.func134, by kernel_rfl, by kernel_rfl⟩
theorem ok89 : EntryOk prog 89 (.code ir89) := ⟨Tryz.f89, Tryz.func89, by kernel_rfl, by kernel_rfl⟩
theorem ok82 : EntryOk prog 82 (.code ir82) := ⟨Tryz.f82, Tryz.func82, by kernel_rfl, by kernel_rfl⟩
theorem ok132 : EntryOk prog 132 (.code ir132) := ⟨Tryz.f132, Tryz.func132, by kernel_rfl, by kernel_rfl⟩
theorem ok172 : EntryOk prog 172 (.code ir172) := ⟨Tryz.f172, Tryz.func172, by kernel_rfl, by kernel_rfl⟩
theorem ok210 : EntryOk prog 210 (.code ir210) := ⟨Tryz.f210, Tryz.func210, by kernel_rfl, by kernel_rfl⟩
theorem ok92 : EntryOk prog 92 (.code ir92) := ⟨Tryz.f92, Tryz.func92, by kernel_rfl, by kernel_rfl⟩
theorem ok25 : EntryOk prog 25 (.code ir25) := ⟨Tryz.f25, Tryz.func25, by kernel_rfl, by kernel_rfl⟩
theorem ok46 : EntryOk prog 46 (.code ir46) := ⟨Tryz.f46, Tryz.func46, by kernel_rfl, by kernel_rfl⟩
theorem ok83 : EntryOk prog 83 (.code ir83) := ⟨Tryz.f83, Tryz.func83, by kernel_rfl, by kernel_rfl⟩
theorem ok87 : EntryOk prog 87 (.code ir87) := ⟨Tryz.f87, Tryz.func87, by kernel_rfl, by kernel_rfl⟩
theorem ok85 : EntryOk prog 85 (.code ir85) := ⟨Tryz.f85, Tryz.func85, by kernel_rfl, by kernel_rfl⟩
theorem ok131 : EntryOk prog 131 (.code ir131) := ⟨Tryz.f131, Tryz.func131, by kernel_rfl, by kernel_rfl⟩
theorem ok171 : EntryOk prog 171 (.code ir171) := ⟨Tryz.f171, Tryz.func171, by kernel_rfl, by kernel_rfl⟩
theorem ok81 : EntryOk prog 81 (.code ir81) := ⟨Tryz.f81, Tryz.func81, by kernel_rfl, by kernel_rfl⟩
theorem ok86 : EntryOk prog 86 (.code ir86) := ⟨Tryz.f86, Tryz.func86, by kernel_rfl, by kernel_rfl⟩
theorem ok84 : EntryOk prog 84 (.code ir84) := ⟨Tryz.f84, Tryz.func84, by kernel_rfl, by kernel_rfl⟩
theorem ok130 : EntryOk prog 130 (.code ir130) := ⟨Tryz.f130, Tryz.func130, by kernel_rfl, by kernel_rfl⟩
theorem ok80 : EntryOk prog 80 (.code ir80) := ⟨Tryz.f80, Tryz.func80, by kernel_rfl, by kernel_rfl⟩
theorem ok0x217 : EntryOk prog0 217 (.code ir217) := ⟨Tryz.f217, Tryz.func217, by kernel_rfl, by kernel_rfl⟩
theorem ok0x262 : EntryOk prog0 262 (.code ir262) := ⟨Tryz.f262, Tryz.func262, by kernel_rfl, by kernel_rfl⟩
theorem ok0x263 : EntryOk prog0 263 (.code ir263) := ⟨Tryz.f263, Tryz.func263, by kernel_rfl, by kernel_rfl⟩
theorem ok0x264 : EntryOk prog0 264 (.code ir264) := ⟨Tryz.f264, Tryz.func264, by kernel_rfl, by kernel_rfl⟩
theorem ok0x265 : EntryOk prog0 265 (.code ir265) := ⟨Tryz.f265, Tryz.func265, by kernel_rfl, by kernel_rfl⟩
theorem ok0x266 : EntryOk prog0 266 (.code ir266) := ⟨Tryz.f266, Tryz.func266, by kernel_rfl, by kernel_rfl⟩
theorem ok0x267 : EntryOk prog0 267 (.code ir267) := ⟨Tryz.f267, Tryz.func267, by kernel_rfl, by kernel_rfl⟩
theorem ok0x268 : EntryOk prog0 268 (.code ir268) := ⟨Tryz.f268, Tryz.func268, by kernel_rfl, by kernel_rfl⟩
theorem ok0x269 : EntryOk prog0 269 (.code ir269) := ⟨Tryz.f269, Tryz.func269, by kernel_rfl, by kernel_rfl⟩
theorem ok0x270 : EntryOk prog0 270 (.code ir270) := ⟨Tryz.f270, Tryz.func270, by kernel_rfl, by kernel_rfl⟩
theorem ok0x220 : EntryOk prog0 220 (.code ir220) := ⟨Tryz.f220, Tryz.func220, by kernel_rfl, by kernel_rfl⟩
theorem ok0x194 : EntryOk prog0 194 (.code ir194) := ⟨Tryz.f194, Tryz.func194, by kernel_rfl, by kernel_rfl⟩
theorem ok0x295 : EntryOk prog0 295 (.code ir295) := ⟨Tryz.f295, Tryz.func295, by kernel_rfl, by kernel_rfl⟩
theorem ok0x308 : EntryOk prog0 308 (.code ir308) := ⟨Tryz.f308, Tryz.func308, by kernel_rfl, by kernel_rfl⟩
theorem ok0x180 : EntryOk prog0 180 (.code ir180) := ⟨Tryz.f180, Tryz.func180, by kernel_rfl, by kernel_rfl⟩
theorem ok0x146 : EntryOk prog0 146 (.code ir146) := ⟨Tryz.f146, Tryz.func146, by kernel_rfl, by kernel_rfl⟩
theorem ok0x139 : EntryOk prog0 139 (.code ir139) := ⟨Tryz.f139, Tryz.func139, by kernel_rfl, by kernel_rfl⟩
theorem ok0x141 : EntryOk prog0 141 (.code ir141) := ⟨Tryz.f141, Tryz.func141, by kernel_rfl, by kernel_rfl⟩
theorem ok0x224 : EntryOk prog0 224 (.code ir224) := ⟨Tryz.f224, Tryz.func224, by kernel_rfl, by kernel_rfl⟩
theorem ok0x225 : EntryOk prog0 225 (.code ir225) := ⟨Tryz.f225, Tryz.func225, by kernel_rfl, by kernel_rfl⟩
theorem ok0x272 : EntryOk prog0 272 (.code ir272) := ⟨Tryz.f272, Tryz.func272, by kernel_rfl, by kernel_rfl⟩
theorem ok0x226 : EntryOk prog0 226 (.code ir226) := ⟨Tryz.f226, Tryz.func226, by kernel_rfl, by kernel_rfl⟩
theorem ok0x201 : EntryOk prog0 201 (.code ir201) := ⟨Tryz.f201, Tryz.func201, by kernel_rfl, by kernel_rfl⟩
theorem ok0x187 : EntryOk prog0 187 (.code ir187) := ⟨Tryz.f187, Tryz.func187, by kernel_rfl, by kernel_rfl⟩
theorem ok0x232 : EntryOk prog0 232 (.code ir232) := ⟨Tryz.f232, Tryz.func232, by kernel_rfl, by kernel_rfl⟩
theorem ok0x231 : EntryOk prog0 231 (.code ir231) := ⟨Tryz.f231, Tryz.func231, by kernel_rfl, by kernel_rfl⟩
theorem ok0x229 : EntryOk prog0 229 (.code ir229) := ⟨Tryz.f229, Tryz.func229, by kernel_rfl, by kernel_rfl⟩
theorem oke170 : EntryOk prog 170 (.ext .indexByte) := ext_hook (fn := Tryz.f170) ⟨Tryz.func170, by kernel_rfl, by kernel_rfl, by kernel_rfl, by kernel_rfl⟩ ext_indexByte
theorem allLaw : AllOk prog lawCode := .cons ok4 (.cons ok13 (.cons ok10 (.cons ok12 (.cons ok24 (.cons ok44 (.cons ok43 (.cons ok78 (.cons ok126 (.cons ok124 (.cons ok169 (.cons ok125 (.cons ok123 (.cons ok122 (.cons ok121 (.cons ok168 (.cons ok209 (.cons ok167 (.cons ok120 (.cons ok166 (.cons ok165 (.cons ok79 (.cons ok128 (.cons ok127 (.cons ok119 (.cons ok164 (.cons ok118 (.cons ok45 (.cons ok11 (.cons ok8 (.cons ok9 (.cons ok23 (.cons ok22 (.cons ok21 (.cons ok42 (.cons ok77 (.cons ok106 (.cons ok105 (.cons ok107 (.cons ok144 (.cons ok182 (.cons ok219 (.cons ok271 (.cons ok218 (.cons ok183 (.cons ok220 (.cons ok104 (.cons ok142 (.cons ok111 (.cons ok154 (.cons ok155 (.cons ok151 (.cons ok198 (.cons ok153 (.cons ok152 (.cons ok200 (.cons ok239 (.cons ok202 (.cons ok234 (.cons ok238 (.cons ok181 (.cons ok276 (.cons ok199 (.cons ok193 (.cons ok237 (.cons ok141 (.cons ok275 (.cons ok143 (.cons ok185 (.cons ok223 (.cons ok184 (.cons ok221 (.cons ok222 (.cons ok195 (.cons ok189 (.cons ok190 (.cons ok230 (.cons ok188 (.cons ok227 (.cons ok228 (.cons ok273 (.cons ok186 (.cons ok117 (.cons ok163 (.cons ok208 (.cons ok240 (.cons ok278 (.cons ok277 (.cons ok62 (.cons ok101 (.cons ok161 (.cons ok162 (.cons ok207 (.cons ok156 (.cons ok116 (.cons ok115 (.cons ok76 (.cons ok75 (.cons ok20 (.cons ok5 (.cons ok14 (.cons ok17 (.cons ok40 (.cons ok74 (.cons ok73 (.cons ok41 (.cons ok72 (.cons ok113 (.cons ok159 (.cons ok206 (.cons ok158 (.cons ok205 (.cons ok204 (.cons ok157 (.cons ok203 (.cons ok114 (.cons ok160 (.cons ok39 (.cons ok71 (.cons ok70 (.cons ok112 (.cons ok110 (.cons ok109 (.cons ok108 (.cons ok149 (.cons ok150 (.cons ok29 (.cons ok197 (.cons ok30 (.cons ok51 (.cons ok148 (.cons ok196 (.cons ok236 (.cons ok274 (.cons ok296 (.cons ok235 (.cons ok147 (.cons ok145 (.cons ok192 (.cons ok233 (.cons ok140 (.cons ok191 (.cons ok103 (.cons ok38 (.cons ok69 (.cons ok33 (.cons ok52 (.cons ok16 (.cons ok35 (.cons ok60 (.cons ok31 (.cons ok59 (.cons ok27 (.cons ok50 (.cons ok97 (.cons ok138 (.cons ok179 (.cons ok96 (.cons ok58 (.cons ok37 (.cons ok55 (.cons ok68 (.cons ok67 (.cons ok53 (.cons ok98 (.cons ok66 (.cons ok63 (.cons ok102 (.cons ok36 (.cons ok65 (.cons ok64 (.cons ok61 (.cons ok34 (.cons ok57 (.cons ok56 (.cons ok99 (.cons ok100 (.cons ok54 (.cons ok15 (.cons ok32 (.cons ok28 (.cons ok49 (.cons ok95 (.cons ok48 (.cons ok88 (.cons ok94 (.cons ok137 (.cons ok133 (.cons ok136 (.cons ok216 (.cons ok261 (.cons ok258 (.cons ok294 (.cons ok254 (.cons ok288 (.cons ok248 (.cons ok291 (.cons ok176 (.cons ok214 (.cons ok246 (.cons ok286 (.cons ok285 (.cons ok247 (.cons ok287 (.cons ok306 (.cons ok305 (.cons ok304 (.cons ok253 (.cons ok173 (.cons ok213 (.cons ok245 (.cons ok284 (.cons ok303 (.cons ok314 (.cons ok316 (.cons ok315 (.cons ok313 (.cons ok302 (.cons ok301 (.cons ok312 (.cons ok311 (.cons ok300 (.cons ok211 (.cons ok242 (.cons ok129 (.cons ok249 (.cons ok252 (.cons ok293 (.cons ok256 (.cons ok260 (.cons ok289 (.cons ok307 (.cons ok241 (.cons ok290 (.cons ok259 (.cons ok292 (.cons ok257 (.cons ok175 (.cons ok255 (.cons ok174 (.cons ok251 (.cons ok250 (.cons ok135 (.cons ok91 (.cons ok177 (.cons ok90 (.cons ok93 (.cons ok134 (.cons ok89 (.cons ok82 (.cons ok132 (.cons ok172 (.cons ok210 (.cons ok92 (.cons ok25 (.cons ok46 (.cons ok83 (.cons ok87 (.cons ok85 (.cons ok131 (.cons ok171 (.cons ok81 (.cons ok86 (.cons ok84 (.cons ok130 (.cons ok80 (.nil))))))))))))))))))))))))))))))))))))))))))))))))))))))))))))))))))))))))))))))))))))))))))))))))))))))))))))))))))))))))))))))))))))))))))))))))))))))))))))))))))))))))))))))))))))))))))))))))))))))))))))))))))))))))))))))))))))))))))))))))))))))))))))))))))))))))))
theorem allExt : AllOk prog lawExt := .cons oke170 (.nil)
theorem all0 : AllOk prog0 instCode := .cons ok0x217 (.cons ok0x262 (.cons ok0x263 (.cons ok0x264 (.cons ok0x265 (.cons ok0x266 (.cons ok0x267 (.cons ok0x268 (.cons ok0x269 (.cons ok0x270 (.cons ok0x220 (.cons ok0x194 (.cons ok0x295 (.cons ok0x308 (.cons ok0x180 (.cons ok0x146 (.cons ok0x139 (.cons ok0x141 (.cons ok0x224 (.cons ok0x225 (.cons ok0x272 (.cons ok0x226 (.cons ok0x201 (.cons ok0x187 (.cons ok0x232 (.cons ok0x231 (.cons ok0x229 (.nil)))))))))))))))))))))))))))
theorem mixed : prog.follows .mixedOrders = true := by kernel_rfl
theorem mixed0 : prog0.follows .mixedOrders = true := by kernel_rfl
theorem globs {h : List AV → St → Option (AV × St)} {f : Nat} (e : EntryOk2 prog0 f (.hook h)) : EntryOk2 prog f (.hook h) := by
  cases e with
  | old e => exact e.elim
  | hook a b =>
    exact .hook (fun args s r e1 e2 φ w c hg => a args s r e1 e2 φ w c (fun g hg' => by cases hg')) b
theorem lawHooks_ok : AllOk2 prog lawHooks := .cons (globs (h_of mixed0 rfl all0)) (.cons (globs (h_at mixed0 rfl all0)) (.cons (globs (h_right mixed0 rfl all0)) (.cons (globs (h_writes mixed0 rfl all0)) (.cons (globs (h_writesPred mixed0 rfl all0)) (.cons (globs (h_readsPred mixed0 rfl all0)) (.cons (globs (h_class mixed0 rfl all0)) (.nil)))))))
def Tryz.layAtoi_ren : Go.Shelf.Ren := ⟨fun | 172 => 212 | 244 => 243 | 245 => 244 | 247 => 279 | 279 => 280 | 280 => 281 | 281 => 282 | 282 => 283 | 287 => 297 | 316 => 298 | 171 => 213 | 205 => 299 | 321 => 309 | 322 => 310 | 243 => 245 | 246 => 284 | 283 => 300 | 284 => 301 | 285 => 302 | 286 => 303 | 129 => 128 | 317 => 311 | 318 => 312 | 319 => 313 | 320 => 314 | 337 => 315 | 338 => 316 | n => n, fun | 9 => 9 | 3 => 3 | 75 => 340 | 76 => 341 | 4 => 4 | 5 => 5 | 167 => 395 | 37 => 23 | 0 => 0 | 85 => 396 | 2 => 2 | 168 => 398 | 53 => 237 | 175 => 406 | 46 => 180 | 210 => 409 | 127 => 418 | 145 => 421 | 143 => 419 | 21 => 21 | 171 => 411 | 173 => 413 | 212 => 424 | 51 => 22 | 20 => 20 | 213 => 425 | 232 => 426 | 233 => 427 | 80 => 376 | n => n, fun | 15 => 6 | 16 => 7 | 17 => 8 | 18 => 9 | 19 => 10 | n => n⟩
theorem Tryz.layAtoi : Go.Proofs.LaysC.n172 Tryz.prog Tryz.layAtoi_ren where
  mixed := by kernel_rfl
  f129 := Tryz.func128.trans (congrArg some (by kernel_rfl))
  f171 := Tryz.func213.trans (congrArg some (by kernel_rfl))
  f172 := Tryz.func212.trans (congrArg some (by kernel_rfl))
  f205 := Tryz.func299.trans (congrArg some (by kernel_rfl))
  f243 := Tryz.func245.trans (congrArg some (by kernel_rfl))
  f244 := Tryz.func243.trans (congrArg some (by kernel_rfl))
  f245 := Tryz.func244.trans (congrArg some (by kernel_rfl))
  f246 := Tryz.func284.trans (congrArg some (by kernel_rfl))
  f247 := Tryz.func279.trans (congrArg some (by kernel_rfl))
  f279 := Tryz.func280.trans (congrArg some (by kernel_rfl))
  f280 := Tryz.func281.trans (congrArg some (by kernel_rfl))
  f281 := Tryz.func282.trans (congrArg some (by kernel_rfl))
  f282 := Tryz.func283.trans (congrArg some (by kernel_rfl))
  f283 := Tryz.func300.trans (congrArg some (by kernel_rfl))
  f284 := Tryz.func301.trans (congrArg some (by kernel_rfl))
  f285 := Tryz.func302.trans (congrArg some (by kernel_rfl))
  f286 := Tryz.func303.trans (congrArg some (by kernel_rfl))
  f287 := Tryz.func297.trans (congrArg some (by kernel_rfl))
  f316 := Tryz.func298.trans (congrArg some (by kernel_rfl))
  f317 := Tryz.func311.trans (congrArg some (by kernel_rfl))
  f318 := Tryz.func312.trans (congrArg some (by kernel_rfl))
  f319 := Tryz.func313.trans (congrArg some (by kernel_rfl))
  f320 := Tryz.func314.trans (congrArg some (by kernel_rfl))
  f321 := Tryz.func309.trans (congrArg some (by kernel_rfl))
  f322 := Tryz.func310.trans (congrArg some (by kernel_rfl))
  f337 := Tryz.func315.trans (congrArg some (by kernel_rfl))
  f338 := Tryz.func316.trans (congrArg some (by kernel_rfl))
  t0 := Tryz.underlying0
  a0 := Tryz.isAgg0
  z0 := Tryz.sizeOf0
  v0 := Tryz.zeroValue0
  t2 := Tryz.underlying2
  a2 := Tryz.isAgg2
  z2 := Tryz.sizeOf2
  v2 := Tryz.zeroValue2
  t3 := Tryz.underlying3
  a3 := Tryz.isAgg3
  z3 := Tryz.sizeOf3
  v3 := Tryz.zeroValue3
  t4 := Tryz.underlying4
  a4 := Tryz.isAgg4
  z4 := Tryz.sizeOf4
  v4 := Tryz.zeroValue4
  t5 := Tryz.underlying5
  a5 := Tryz.isAgg5
  z5 := Tryz.sizeOf5
  v5 := Tryz.zeroValue5
  t9 := Tryz.underlying9
  a9 := Tryz.isAgg9
  z9 := Tryz.sizeOf9
  v9 := Tryz.zeroValue9
  t20 := Tryz.underlying20
  a20 := Tryz.isAgg20
  z20 := Tryz.sizeOf20
  v20 := Tryz.zeroValue20
  t21 := Tryz.underlying21
  a21 := Tryz.isAgg21
  z21 := Tryz.sizeOf21
  v21 := Tryz.zeroValue21
  t37 := Tryz.underlying23
  a37 := Tryz.isAgg23
  z37 := Tryz.sizeOf23
  v37 := Tryz.zeroValue23
  t46 := Tryz.underlying180
  a46 := Tryz.isAgg180
  z46 := Tryz.sizeOf180
  v46 := Tryz.zeroValue180
  t51 := Tryz.underlying22
  a51 := Tryz.isAgg22
  z51 := Tryz.sizeOf22
  v51 := Tryz.zeroValue22
  t53 := Tryz.underlying237
  a53 := Tryz.isAgg237
  z53 := Tryz.sizeOf237
  v53 := Tryz.zeroValue237
  t75 := Tryz.underlying340
  a75 := Tryz.isAgg340
  z75 := Tryz.sizeOf340
  v75 := Tryz.zeroValue340
  t76 := Tryz.underlying341
  a76 := Tryz.isAgg341
  z76 := Tryz.sizeOf341
  v76 := Tryz.zeroValue341
  t85 := Tryz.underlying396
  a85 := Tryz.isAgg396
  z85 := Tryz.sizeOf396
  v85 := Tryz.zeroValue396
  t127 := Tryz.underlying418
  a127 := Tryz.isAgg418
  z127 := Tryz.sizeOf418
  v127 := Tryz.zeroValue418
  t143 := Tryz.underlying419
  a143 := Tryz.isAgg419
  z143 := Tryz.sizeOf419
  v143 := Tryz.zeroValue419
  t145 := Tryz.underlying421
  a145 := Tryz.isAgg421
  z145 := Tryz.sizeOf421
  v145 := Tryz.zeroValue421
  t167 := Tryz.underlying395
  a167 := Tryz.isAgg395
  z167 := Tryz.sizeOf395
  v167 := Tryz.zeroValue395
  t168 := Tryz.underlying398
  a168 := Tryz.isAgg398
  z168 := Tryz.sizeOf398
  v168 := Tryz.zeroValue398
  t171 := Tryz.underlying411
  a171 := Tryz.isAgg411
  z171 := Tryz.sizeOf411
  v171 := Tryz.zeroValue411
  t173 := Tryz.underlying413
  a173 := Tryz.isAgg413
  z173 := Tryz.sizeOf413
  v173 := Tryz.zeroValue413
  t175 := Tryz.underlying406
  a175 := Tryz.isAgg406
  z175 := Tryz.sizeOf406
  v175 := Tryz.zeroValue406
  t210 := Tryz.underlying409
  a210 := Tryz.isAgg409
  z210 := Tryz.sizeOf409
  v210 := Tryz.zeroValue409
  t212 := Tryz.underlying424
  a212 := Tryz.isAgg424
  z212 := Tryz.sizeOf424
  v212 := Tryz.zeroValue424
  t213 := Tryz.underlying425
  a213 := Tryz.isAgg425
  z213 := Tryz.sizeOf425
  t232 := Tryz.underlying426
  a232 := Tryz.isAgg426
  z232 := Tryz.sizeOf426
  v232 := Tryz.zeroValue426
  t233 := Tryz.underlying427
  a233 := Tryz.isAgg427
  z233 := Tryz.sizeOf427
  v233 := Tryz.zeroValue427
  g15 := by kernel_rfl
  g16 := by kernel_rfl
  g17 := by kernel_rfl
  g18 := by kernel_rfl
  g19 := by kernel_rfl
  t80 := Tryz.underlying376
  a80 := Tryz.isAgg376
  z80 := Tryz.sizeOf376
  v80 := Tryz.zeroValue376
  i0 := by kernel_rfl
  i2 := by kernel_rfl
  i3 := by kernel_rfl
  i4 := by kernel_rfl
  i5 := by kernel_rfl
  i9 := by kernel_rfl
  i20 := by kernel_rfl
  i21 := by kernel_rfl
  i37 := by kernel_rfl
  i46 := by kernel_rfl
  i51 := by kernel_rfl
  i53 := by kernel_rfl
  i75 := by kernel_rfl
  i76 := by kernel_rfl
  i80 := by kernel_rfl
  i85 := by kernel_rfl
  i127 := by kernel_rfl
  i143 := by kernel_rfl
  i145 := by kernel_rfl
  i167 := by kernel_rfl
  i168 := by kernel_rfl
  i171 := by kernel_rfl
  i173 := by kernel_rfl
  i175 := by kernel_rfl
  i210 := by kernel_rfl
  i212 := by kernel_rfl
  i232 := by kernel_rfl
  i233 := by kernel_rfl
  m15 := by kernel_rfl
  m16 := by kernel_rfl
  m17 := by kernel_rfl
  m18 := by kernel_rfl
  m19 := by kernel_rfl
  c0 := by kernel_rfl
  c2 := by kernel_rfl
  c3 := by kernel_rfl
  c4 := by kernel_rfl
  c5 := by kernel_rfl
  c9 := by kernel_rfl
  c20 := by kernel_rfl
  c21 := by kernel_rfl
  c37 := by kernel_rfl
  c46 := by kernel_rfl
  c51 := by kernel_rfl
  c53 := by kernel_rfl
  c75 := by kernel_rfl
  c76 := by kernel_rfl
  c80 := by kernel_rfl
  c85 := by kernel_rfl
  c127 := by kernel_rfl
  c143 := by kernel_rfl
  c145 := by kernel_rfl
  c167 := by kernel_rfl
  c168 := by kernel_rfl
  c171 := by kernel_rfl
  c173 := by kernel_rfl
  c175 := by kernel_rfl
  c210 := by kernel_rfl
  c212 := by kernel_rfl
  c213 := by kernel_rfl
  c232 := by kernel_rfl
  c233 := by kernel_rfl
theorem enter212 : ∀ (args : Array Value) (w : World), (callFunc 212 args).run prog.toProgram w = .ok (.enter 212 args) w := fun args w => by
  have e1 : prog.toProgram.funcs[212]? = some Tryz.f212 := Tryz.func212
  have e2 : (Tryz.f212.name == "runtime.NumGoroutine") = false := by kernel_rfl
  have e3 : Tryz.f212.body.isSome = true := by kernel_rfl
  obtain ⟨c, e4⟩ := Option.isSome_iff_exists.1 e3
  simp only [beq_eq_false_iff_ne, ne_eq] at e2
  simp [callFunc, e1, e2, e4]
theorem ok2x212 : EntryOk2 prog 212 (.hook (atoiH 6 7 398)) := .hook (atoi_ok (P := prog) Tryz.layAtoi enter212 (by decide) (by kernel_rfl) (by decide) (by kernel_rfl)) (fun args s => atoi_tame _ _ _ args s)
theorem h2_ok : AllOk2 prog lawH2 := .cons ok2x212 (.nil)
theorem ok_l0 : AllOk2 prog tl0 := AllOk2.app allLaw (AllOk2.app allExt (AllOk2.app2 h2_ok lawHooks_ok))
theorem gl_pre : ∀ g, g ∈ prog.G → memoPre[g]? = some g ∧ g ∈ prog.G := fun g hg => ⟨(by decide : ∀ g ∈ ([0, 1, 2, 3, 4, 8, 9, 10, 6, 7] : List Nat), memoPre[g]? = some g) g hg, hg⟩
theorem ok_l1 : AllOk2 prog tl1 := .cons (EntryOk2.memoA (P0 := prog) mixed rfl gl_pre (AllOk2.fine ok_l0) 100000 173 tbl173 (by rw [← tabT_eq tr0_ok]; exact all173)) ok_l0
theorem ok_l2 : AllOk2 prog tl2 := .cons (EntryOk2.dfr (P := prog) (T := tabT tr1) (F := Tryz.f178) (G := Tryz.f215) mixed (by rw [tabT_eq tr1_ok]; exact AllOk2.fine ok_l1) 100000 (by kernel_rfl) Tryz.func178 (by kernel_rfl) Tryz.func215 (by kernel_rfl) (by kernel_rfl)) ok_l1
theorem ok_l3 : AllOk2 prog tl3 := .cons (EntryOk2.memoA (P0 := prog) mixed rfl gl_pre (AllOk2.fine ok_l2) 100000 178 tbl178 (by rw [← tabT_eq tr2_ok]; exact all178)) ok_l2
theorem ok_l4 : AllOk2 prog tl4 := .cons (EntryOk2.memoA (P0 := prog) mixed rfl gl_pre (AllOk2.fine ok_l3) 100000 25 tbl25 (by rw [← tabT_eq tr3_ok]; exact all25)) ok_l3
theorem ok_l5 : AllOk2 prog tl5 := .cons (EntryOk2.dfr (P := prog) (T := tabT tr4) (F := Tryz.f26) (G := Tryz.f47) mixed (by rw [tabT_eq tr4_ok]; exact AllOk2.fine ok_l4) 100000 (by kernel_rfl) Tryz.func26 (by kernel_rfl) Tryz.func47 (by kernel_rfl) (by kernel_rfl)) ok_l4
theorem ok_l6 : AllOk2 prog tl6 := .cons (EntryOk2.memoA (P0 := prog) mixed rfl gl_pre (AllOk2.fine ok_l5) 100000 15 tbl15 (by rw [← tabT_eq tr5_ok]; exact all15)) ok_l5
theorem ok_l7 : AllOk2 prog tl7 := .cons (EntryOk2.memoA (P0 := prog) mixed rfl gl_pre (AllOk2.fine ok_l6) 100000 145 tbl145 (by rw [← tabT_eq tr6_ok]; exact all145)) ok_l6
theorem ok_l8 : AllOk2 prog tl8 := .cons (EntryOk2.memoA (P0 := prog) mixed rfl gl_pre (AllOk2.fine ok_l7) 100000 106 tbl106 (by rw [← tabT_eq tr7_ok]; exact all106)) ok_l7
theorem ok_l9 : AllOk2 prog tl9 := .cons (EntryOk2.memoA (P0 := prog) mixed rfl gl_pre (AllOk2.fine ok_l8) 100000 70 tbl70 (by rw [← tabT_eq tr8_ok]; exact all70)) ok_l8
theorem ok_l10 : AllOk2 prog tl10 := .cons (EntryOk2.memoA (P0 := prog) mixed rfl gl_pre (AllOk2.fine ok_l9) 100000 16 tbl16 (by rw [← tabT_eq tr9_ok]; exact all16)) ok_l9
theorem ok_l11 : AllOk2 prog tl11 := .cons (EntryOk2.memoA (P0 := prog) mixed rfl gl_pre (AllOk2.fine ok_l10) 100000 5 tbl5 (by rw [← tabT_eq tr10_ok]; exact all5)) ok_l10
theorem ok_l12 : AllOk2 prog tl12 := .cons (EntryOk2.memoA (P0 := prog) mixed rfl gl_pre (AllOk2.fine ok_l11) 100000 23 tbl23 (by rw [← tabT_eq tr11_ok]; exact all23)) ok_l11
theorem ok_l13 : AllOk2 prog tl13 := .cons (EntryOk2.memoA (P0 := prog) mixed rfl gl_pre (AllOk2.fine ok_l12) 100000 9 tbl9 (by rw [← tabT_eq tr12_ok]; exact all9)) ok_l12
theorem fine_law : TabFine prog (tabT tr13) := by rw [tabT_eq tr13_ok]; exact AllOk2.fine ok_l13
abbrev theLaid : List (String × DataW Unit) := YtpllnmhfcpnhnaaGreatDoor.Rows.flowKnownRow.laid
def gchk (ty : Ty) (d : DataW Unit) (g sz : Nat) (s : St) : Bool := match layD ty d s with
  | some (l, s1) => Nat.blt g s1.next && ((match s1.heap.get g with | none => true | some _ => false) && Nat.ble sz l.length)
  | none => false
theorem gst_step {P : Program} {W : World} {φ : Phi} {s : St} (h : RelSt φ s W) (hr : AllRo s) (hw : WFS s) {name : String} {g t : Nat} {ty : Ty} (hg : P.globalNamed name = some g) (ht : tyOf P 8 t = some ty) {cs : Array Value} (hv : W.var? P name = some cs) {held : Bool} {m : Nat} {d : DataW Unit} {ps : List MemPlace} (hd : DataW.trod (fun _ => ()) P W 0 (fun _ => true) held m t cs.toList = some (d, ps)) {sz : Nat} (hc : gchk ty d g sz s = true) :
    ∃ φ', Imp W φ s φ' (gst ty d g s) ∧ ∃ n top, φ' g 0 = some ⟨g, 0, 0, n, top⟩ ∧ sz ≤ n := by
  unfold gchk at hc
  cases hl : layD ty d s with
  | none => rw [hl] at hc; cases hc
  | some x =>
    obtain ⟨l, s1⟩ := x
    rw [hl] at hc
    simp only [Bool.and_eq_true, Nat.blt_eq, Nat.ble_eq] at hc
    obtain ⟨h1, h2, h3⟩ := hc
    have hf : s1.heap.get g = none := by
      cases hh : s1.heap.get g with
      | none => rfl
      | some _ => rw [hh] at h2; cases h2
    obtain ⟨φ', i, top, e⟩ := glob_lay h hr hw hg ht hv hd hl h1 hf
    refine ⟨φ', ?_, l.length, top, e, h3⟩
    unfold gst
    rw [hl]
    exact i
theorem next_up {φ : Phi} {s : St} {W : World} (h1 : RelSt φ s W) (h2 : AllRo s) (h3 : WFS s) {n : Nat} (hn : s.next ≤ n) : RelSt φ { s with next := n } W ∧ AllRo { s with next := n } ∧ WFS { s with next := n } :=
  ⟨RelSt.at (H := s.heap) (b := s.next) h1, h2, fun id hid => h3 id (Nat.le_trans hn hid)⟩
theorem ty0 : tyOf Tryz.prog 8 262 = some gt0 := by
  have c262 : Tryz.prog.cellsOf 262 = 2 := by kernel_rfl
  have c3 : Tryz.prog.cellsOf 3 = 1 := by kernel_rfl
  simp [tyOf, tyOf.go, gt0, tySize, tySizes, Tryz.underlying262, Tryz.underlying3, c262, c3]
theorem ty1 : tyOf Tryz.prog 8 264 = some gt1 := by
  have c264 : Tryz.prog.cellsOf 264 = 4 := by kernel_rfl
  have c262 : Tryz.prog.cellsOf 262 = 2 := by kernel_rfl
  have c3 : Tryz.prog.cellsOf 3 = 1 := by kernel_rfl
  simp [tyOf, tyOf.go, gt1, tySize, tySizes, Tryz.underlying264, Tryz.underlying262, Tryz.underlying3, c264, c262, c3]
theorem ty3 : tyOf Tryz.prog 8 318 = some gt3 := by
  have c318 : Tryz.prog.cellsOf 318 = 1 := by kernel_rfl
  have c323 : Tryz.prog.cellsOf 323 = 10 := by kernel_rfl
  have c5 : Tryz.prog.cellsOf 5 = 1 := by kernel_rfl
  have c321 : Tryz.prog.cellsOf 321 = 9 := by kernel_rfl
  have c320 : Tryz.prog.cellsOf 320 = 3 := by kernel_rfl
  have c3 : Tryz.prog.cellsOf 3 = 1 := by kernel_rfl
  simp [tyOf, tyOf.go, gt3, tySize, tySizes, Tryz.underlying318, Tryz.underlying323, Tryz.underlying5, Tryz.underlying321, Tryz.underlying320, Tryz.underlying3, c318, c323, c5, c321, c320, c3]
theorem ty8 : tyOf Tryz.prog 8 424 = some gt8 := by
  have c424 : Tryz.prog.cellsOf 424 = 20 := by kernel_rfl
  have c237 : Tryz.prog.cellsOf 237 = 1 := by kernel_rfl
  simp [tyOf, tyOf.go, gt8, tySize, tySizes, Tryz.underlying424, Tryz.underlying237, c424, c237]
theorem ty9 : tyOf Tryz.prog 8 426 = some gt9 := by
  have c426 : Tryz.prog.cellsOf 426 = 32 := by kernel_rfl
  have c5 : Tryz.prog.cellsOf 5 = 1 := by kernel_rfl
  simp [tyOf, tyOf.go, gt9, tySize, tySizes, Tryz.underlying426, Tryz.underlying5, c426, c5]
theorem ty10 : tyOf Tryz.prog 8 427 = some gt10 := by
  have c427 : Tryz.prog.cellsOf 427 = 64 := by kernel_rfl
  have c5 : Tryz.prog.cellsOf 5 = 1 := by kernel_rfl
  simp [tyOf, tyOf.go, gt10, tySize, tySizes, Tryz.underlying427, Tryz.underlying5, c427, c5]
theorem starES : "*" ++ "errors.errorString" = "*errors.errorString" := by decide
theorem rowES (u : TypeId) (h : Tryz.prog.typeName? 3 u = some "*errors.errorString") : u = 419 :=
  typeName_ptr_named (nm := "errors.errorString") (by rw [starES]; kernel_rfl) (by kernel_rfl) (by decide) u (by rw [starES]; exact h)
theorem glob_state {W : World} (h : laidMetH Tryz.prog theLaid W) : ∃ φ, RelSt φ sG W ∧ AllRo sG ∧ WFS sG ∧ GlobOk prog φ := by
  rw [MakeChecks.laidMetH_plain _ _ _ (by kernel_rfl)] at h
  obtain ⟨a6, s6, hv6, hc6, hs6, _⟩ := laid_sentinel (h.tail.tail.tail.tail.tail.tail.tail.tail.tail) (g := 6) (ti := 340) (tp := 419) (te := 421) (ts := 9) (by kernel_rfl) (by kernel_rfl) Tryz.underlying340 rowES Tryz.underlying419 Tryz.underlying421 rfl rfl Tryz.underlying9 (by kernel_rfl) (by kernel_rfl)
  obtain ⟨a7, s7, hv7, hc7, hs7, _⟩ := laid_sentinel (h.tail.tail.tail.tail.tail.tail.tail.tail) (g := 7) (ti := 340) (tp := 419) (te := 421) (ts := 9) (by kernel_rfl) (by kernel_rfl) Tryz.underlying340 rowES Tryz.underlying419 Tryz.underlying421 rfl rfl Tryz.underlying9 (by kernel_rfl) (by kernel_rfl)
  obtain ⟨ps, ⟨g0, t0, cs0, f0, p0, q0, hg0, ht0, hv0, hd0, ⟨g1, t1, cs1, f1, p1, q1, hg1, ht1, hv1, hd1, ⟨g2, t2, cs2, f2, p2, q2, hg2, ht2, hv2, hd2, ⟨g4, t4, cs4, f4, p4, q4, hg4, ht4, hv4, hd4, ⟨g9, t9, cs9, f9, p9, q9, hg9, ht9, hv9, hd9, ⟨g10, t10, cs10, f10, p10, q10, hg10, ht10, hv10, hd10, ⟨g8, t8, cs8, f8, p8, q8, hg8, ht8, hv8, hd8, ⟨g3, t3, cs3, f3, p3, q3, hg3, ht3, hv3, hd3, _, _⟩, _⟩, _⟩, _⟩, _⟩, _⟩, _⟩, _⟩, _⟩ := h
  obtain rfl := Option.some.inj ((show Tryz.prog.globalNamed "coxless/bits.codeAt" = some 0 by kernel_rfl).symm.trans hg0)
  obtain rfl := Option.some.inj ((show (Tryz.prog.globals[0]?).map (·.type) = some 262 by kernel_rfl).symm.trans ht0)
  obtain rfl := Option.some.inj ((show Tryz.prog.globalNamed "coxless/bits.ends" = some 1 by kernel_rfl).symm.trans hg1)
  obtain rfl := Option.some.inj ((show (Tryz.prog.globals[1]?).map (·.type) = some 264 by kernel_rfl).symm.trans ht1)
  obtain rfl := Option.some.inj ((show Tryz.prog.globalNamed "coxless/bits.parseAt" = some 2 by kernel_rfl).symm.trans hg2)
  obtain rfl := Option.some.inj ((show (Tryz.prog.globals[2]?).map (·.type) = some 262 by kernel_rfl).symm.trans ht2)
  obtain rfl := Option.some.inj ((show Tryz.prog.globalNamed "coxless/sub.rows" = some 3 by kernel_rfl).symm.trans hg3)
  obtain rfl := Option.some.inj ((show (Tryz.prog.globals[3]?).map (·.type) = some 318 by kernel_rfl).symm.trans ht3)
  obtain rfl := Option.some.inj ((show Tryz.prog.globalNamed "coxless/bits.upper" = some 4 by kernel_rfl).symm.trans hg4)
  obtain rfl := Option.some.inj ((show (Tryz.prog.globals[4]?).map (·.type) = some 262 by kernel_rfl).symm.trans ht4)
  obtain rfl := Option.some.inj ((show Tryz.prog.globalNamed "internal/strconv.uint64pow10" = some 8 by kernel_rfl).symm.trans hg8)
  obtain rfl := Option.some.inj ((show (Tryz.prog.globals[8]?).map (·.type) = some 424 by kernel_rfl).symm.trans ht8)
  obtain rfl := Option.some.inj ((show Tryz.prog.globalNamed "math/bits.deBruijn32tab" = some 9 by kernel_rfl).symm.trans hg9)
  obtain rfl := Option.some.inj ((show (Tryz.prog.globals[9]?).map (·.type) = some 426 by kernel_rfl).symm.trans ht9)
  obtain rfl := Option.some.inj ((show Tryz.prog.globalNamed "math/bits.deBruijn64tab" = some 10 by kernel_rfl).symm.trans hg10)
  obtain rfl := Option.some.inj ((show (Tryz.prog.globals[10]?).map (·.type) = some 427 by kernel_rfl).symm.trans ht10)
  obtain ⟨r1, r2, r3⟩ := next_up (n := 11) (rel0 W) allRo0 wfs0 (by decide)
  obtain ⟨φ0, i0, n0, top0, e0, l0⟩ := gst_step (d := gd0) (sz := 2) r1 r2 r3 hg0 (ty := gt0) ty0 hv0 hd0 (by kernel_rfl)
  obtain ⟨φ1, i1, n1, top1, e1, l1⟩ := gst_step (d := gd1) (sz := 4) i0.rel i0.ro i0.wfs hg1 (ty := gt1) ty1 hv1 hd1 (by kernel_rfl)
  obtain ⟨φ2, i2, n2, top2, e2, l2⟩ := gst_step (d := gd2) (sz := 2) i1.rel i1.ro i1.wfs hg2 (ty := gt2) ty0 hv2 hd2 (by kernel_rfl)
  obtain ⟨φ3, i3, n3, top3, e3, l3⟩ := gst_step (d := gd3) (sz := 1) i2.rel i2.ro i2.wfs hg3 (ty := gt3) ty3 hv3 hd3 (by kernel_rfl)
  obtain ⟨φ4, i4, n4, top4, e4, l4⟩ := gst_step (d := gd4) (sz := 2) i3.rel i3.ro i3.wfs hg4 (ty := gt4) ty0 hv4 hd4 (by kernel_rfl)
  obtain ⟨φ8, i8, n8, top8, e8, l8⟩ := gst_step (d := gd8) (sz := 20) i4.rel i4.ro i4.wfs hg8 (ty := gt8) ty8 hv8 hd8 (by kernel_rfl)
  obtain ⟨φ9, i9, n9, top9, e9, l9⟩ := gst_step (d := gd9) (sz := 32) i8.rel i8.ro i8.wfs hg9 (ty := gt9) ty9 hv9 hd9 (by kernel_rfl)
  obtain ⟨φ10, i10, n10, top10, e10, l10⟩ := gst_step (d := gd10) (sz := 64) i9.rel i9.ro i9.wfs hg10 (ty := gt10) ty10 hv10 hd10 (by kernel_rfl)
  obtain ⟨φ6, i6, n6, top6, e6, l6⟩ := gsent_step i10.rel i10.ro i10.wfs (g := 6) (tp := 419) (text := [105, 110, 118, 97, 108, 105, 100, 32, 115, 121, 110, 116, 97, 120]) (by kernel_rfl) hv6 hc6 hs6 (by kernel_rfl) (by kernel_rfl)
  obtain ⟨φ7, i7, n7, top7, e7, l7⟩ := gsent_step i6.rel i6.ro i6.wfs (g := 7) (tp := 419) (text := [118, 97, 108, 117, 101, 32, 111, 117, 116, 32, 111, 102, 32, 114, 97, 110, 103, 101]) (by kernel_rfl) hv7 hc7 hs7 (by kernel_rfl) (by kernel_rfl)
  obtain ⟨_, _, hh5⟩ := var_cells (P := Tryz.prog) (g := 0) (by kernel_rfl) hv0
  obtain ⟨φd5, d5⟩ := gdummy_step i7.rel i7.ro i7.wfs (d := 5) hh5 (by kernel_rfl) (by kernel_rfl)
  refine ⟨_, d5.rel, d5.ro, d5.wfs, ?_⟩
  intro g hg
  have hg : g = 0 ∨ g = 1 ∨ g = 2 ∨ g = 3 ∨ g = 4 ∨ g = 8 ∨ g = 9 ∨ g = 10 ∨ g = 6 ∨ g = 7 := by
    have : g ∈ [0, 1, 2, 3, 4, 8, 9, 10, 6, 7] := hg
    simpa using this
  rcases hg with rfl | rfl | rfl | rfl | rfl | rfl | rfl | rfl | rfl | rfl
  · refine ⟨_, d5.le _ _ _ (i7.le _ _ _ (i6.le _ _ _ (i10.le _ _ _ (i9.le _ _ _ (i8.le _ _ _ (i4.le _ _ _ (i3.le _ _ _ (i2.le _ _ _ (i1.le _ _ _ (e0)))))))))), rfl, rfl, rfl, fun gl n h1 h2 => ?_⟩
    have hk : (prog.globals[0]?).bind (fun gl => szOf prog gl.type) = some 2 := by kernel_rfl
    rw [h1, Option.bind_some, h2] at hk
    cases hk
    exact l0
  · refine ⟨_, d5.le _ _ _ (i7.le _ _ _ (i6.le _ _ _ (i10.le _ _ _ (i9.le _ _ _ (i8.le _ _ _ (i4.le _ _ _ (i3.le _ _ _ (i2.le _ _ _ (e1))))))))), rfl, rfl, rfl, fun gl n h1 h2 => ?_⟩
    have hk : (prog.globals[1]?).bind (fun gl => szOf prog gl.type) = some 4 := by kernel_rfl
    rw [h1, Option.bind_some, h2] at hk
    cases hk
    exact l1
  · refine ⟨_, d5.le _ _ _ (i7.le _ _ _ (i6.le _ _ _ (i10.le _ _ _ (i9.le _ _ _ (i8.le _ _ _ (i4.le _ _ _ (i3.le _ _ _ (e2)))))))), rfl, rfl, rfl, fun gl n h1 h2 => ?_⟩
    have hk : (prog.globals[2]?).bind (fun gl => szOf prog gl.type) = some 2 := by kernel_rfl
    rw [h1, Option.bind_some, h2] at hk
    cases hk
    exact l2
  · refine ⟨_, d5.le _ _ _ (i7.le _ _ _ (i6.le _ _ _ (i10.le _ _ _ (i9.le _ _ _ (i8.le _ _ _ (i4.le _ _ _ (e3))))))), rfl, rfl, rfl, fun gl n h1 h2 => ?_⟩
    have hk : (prog.globals[3]?).bind (fun gl => szOf prog gl.type) = some 1 := by kernel_rfl
    rw [h1, Option.bind_some, h2] at hk
    cases hk
    exact l3
  · refine ⟨_, d5.le _ _ _ (i7.le _ _ _ (i6.le _ _ _ (i10.le _ _ _ (i9.le _ _ _ (i8.le _ _ _ (e4)))))), rfl, rfl, rfl, fun gl n h1 h2 => ?_⟩
    have hk : (prog.globals[4]?).bind (fun gl => szOf prog gl.type) = some 2 := by kernel_rfl
    rw [h1, Option.bind_some, h2] at hk
    cases hk
    exact l4
  · refine ⟨_, d5.le _ _ _ (i7.le _ _ _ (i6.le _ _ _ (i10.le _ _ _ (i9.le _ _ _ (e8))))), rfl, rfl, rfl, fun gl n h1 h2 => ?_⟩
    have hk : (prog.globals[8]?).bind (fun gl => szOf prog gl.type) = some 20 := by kernel_rfl
    rw [h1, Option.bind_some, h2] at hk
    cases hk
    exact l8
  · refine ⟨_, d5.le _ _ _ (i7.le _ _ _ (i6.le _ _ _ (i10.le _ _ _ (e9)))), rfl, rfl, rfl, fun gl n h1 h2 => ?_⟩
    have hk : (prog.globals[9]?).bind (fun gl => szOf prog gl.type) = some 32 := by kernel_rfl
    rw [h1, Option.bind_some, h2] at hk
    cases hk
    exact l9
  · refine ⟨_, d5.le _ _ _ (i7.le _ _ _ (i6.le _ _ _ (e10))), rfl, rfl, rfl, fun gl n h1 h2 => ?_⟩
    have hk : (prog.globals[10]?).bind (fun gl => szOf prog gl.type) = some 64 := by kernel_rfl
    rw [h1, Option.bind_some, h2] at hk
    cases hk
    exact l10
  · refine ⟨_, d5.le _ _ _ (i7.le _ _ _ (e6)), rfl, rfl, rfl, fun gl n h1 h2 => ?_⟩
    have hk : (prog.globals[6]?).bind (fun gl => szOf prog gl.type) = some 1 := by kernel_rfl
    rw [h1, Option.bind_some, h2] at hk
    cases hk
    exact l6
  · refine ⟨_, d5.le _ _ _ (e7), rfl, rfl, rfl, fun gl n h1 h2 => ?_⟩
    have hk : (prog.globals[7]?).bind (fun gl => szOf prog gl.type) = some 1 := by kernel_rfl
    rw [h1, Option.bind_some, h2] at hk
    cases hk
    exact l7
theorem ran_of_yes {T : Tab} {n : Nat} {f : FuncId} {args : List AV} {s : St} (h : isYes (callF T (evalF T n) f args s) = true) : Ran T f args s fun v _ => v = .bool true := by
  rw [evalF_eq] at h
  cases hr : callF T (evalN T n) f args s with
  | fail => rw [hr] at h; cases h
  | panic v s => rw [hr] at h; cases h
  | val v s' =>
    rw [hr] at h
    refine ⟨n, v, s', hr, ?_⟩
    cases v with
    | bool b => cases b with
      | true => rfl
      | false => cases h
    | _ => cases h
end Go.V
