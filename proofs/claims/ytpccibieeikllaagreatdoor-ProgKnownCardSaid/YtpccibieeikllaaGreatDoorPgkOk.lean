/- The functions of the dump are what the texts in the small language say: by the kernel. The listed variables lie in the state's beginning. -/
import Derived.Test.YtpccibieeikllaaGreatDoorPgkMemo
import Derived.Test.YtpccibieeikllaaGreatDoorRows
import Derived.MakeChecks
import Derived.Stop.LaidErr
import Derived.KernelRfl
set_option linter.unusedVariables false
set_option linter.unusedSimpArgs false
set_option linter.unusedSectionVars false
namespace Go.V
open Go
open Go.V Go.Proofs Go.RowKit Go.ChangeShapes Go.WideShapes Go.ChangeAt
set_option maxRecDepth 1000000
noncomputable def prog : Prog := { toProgram := Tryz.prog, G := [9, 10] }
noncomputable def prog0 : Prog := { toProgram := Tryz.prog, G := [] }
theorem ok3 : EntryOk prog 3 (.code ir3) := ⟨Tryz.f3, Tryz.func3, by kernel_rfl, by kernel_rfl⟩
theorem ok7 : EntryOk prog 7 (.code ir7) := ⟨Tryz.f7, Tryz.func7, by kernel_rfl, by kernel_rfl⟩
theorem ok6 : EntryOk prog 6 (.code ir6) := ⟨Tryz.f6, Tryz.func6, by kernel_rfl, by kernel_rfl⟩
theorem ok5 : EntryOk prog 5 (.code ir5) := ⟨Tryz.f5, Tryz.func5, by kernel_rfl, by kernel_rfl⟩
theorem ok22 : EntryOk prog 22 (.code ir22) := ⟨Tryz.f22, Tryz.func22, by kernel_rfl, by kernel_rfl⟩
theorem ok21 : EntryOk prog 21 (.code ir21) := ⟨Tryz.f21, Tryz.func21, by kernel_rfl, by kernel_rfl⟩
theorem ok18 : EntryOk prog 18 (.code ir18) := ⟨Tryz.f18, Tryz.func18, by kernel_rfl, by kernel_rfl⟩
theorem ok19 : EntryOk prog 19 (.code ir19) := ⟨Tryz.f19, Tryz.func19, by kernel_rfl, by kernel_rfl⟩
theorem ok20 : EntryOk prog 20 (.code ir20) := ⟨Tryz.f20, Tryz.func20, by kernel_rfl, by kernel_rfl⟩
theorem ok35 : EntryOk prog 35 (.code ir35) := ⟨Tryz.f35, Tryz.func35, by kernel_rfl, by kernel_rfl⟩
theorem ok17 : EntryOk prog 17 (.code ir17) := ⟨Tryz.f17, Tryz.func17, by kernel_rfl, by kernel_rfl⟩
theorem ok34 : EntryOk prog 34 (.code ir34) := ⟨Tryz.f34, Tryz.func34, by kernel_rfl, by kernel_rfl⟩
theorem ok58 : EntryOk prog 58 (.code ir58) := ⟨Tryz.f58, Tryz.func58, by kernel_rfl, by kernel_rfl⟩
theorem ok76 : EntryOk prog 76 (.code ir76) := ⟨Tryz.f76, Tryz.func76, by kernel_rfl, by kernel_rfl⟩
theorem ok107 : EntryOk prog 107 (.code ir107) := ⟨Tryz.f107, Tryz.func107, by kernel_rfl, by kernel_rfl⟩
theorem ok57 : EntryOk prog 57 (.code ir57) := ⟨Tryz.f57, Tryz.func57, by kernel_rfl, by kernel_rfl⟩
theorem ok33 : EntryOk prog 33 (.code ir33) := ⟨Tryz.f33, Tryz.func33, by kernel_rfl, by kernel_rfl⟩
theorem ok56 : EntryOk prog 56 (.code ir56) := ⟨Tryz.f56, Tryz.func56, by kernel_rfl, by kernel_rfl⟩
theorem ok32 : EntryOk prog 32 (.code ir32) := ⟨Tryz.f32, Tryz.func32, by kernel_rfl, by kernel_rfl⟩
theorem ok49 : EntryOk prog 49 (.code ir49) := ⟨Tryz.f49, Tryz.func49, by kernel_rfl, by kernel_rfl⟩
theorem ok55 : EntryOk prog 55 (.code ir55) := ⟨Tryz.f55, Tryz.func55, by kernel_rfl, by kernel_rfl⟩
theorem ok75 : EntryOk prog 75 (.code ir75) := ⟨Tryz.f75, Tryz.func75, by kernel_rfl, by kernel_rfl⟩
theorem ok71 : EntryOk prog 71 (.code ir71) := ⟨Tryz.f71, Tryz.func71, by kernel_rfl, by kernel_rfl⟩
theorem ok74 : EntryOk prog 74 (.code ir74) := ⟨Tryz.f74, Tryz.func74, by kernel_rfl, by kernel_rfl⟩
theorem ok148 : EntryOk prog 148 (.code ir148) := ⟨Tryz.f148, Tryz.func148, by kernel_rfl, by kernel_rfl⟩
theorem ok197 : EntryOk prog 197 (.code ir197) := ⟨Tryz.f197, Tryz.func197, by kernel_rfl, by kernel_rfl⟩
theorem ok194 : EntryOk prog 194 (.code ir194) := ⟨Tryz.f194, Tryz.func194, by kernel_rfl, by kernel_rfl⟩
theorem ok237 : EntryOk prog 237 (.code ir237) := ⟨Tryz.f237, Tryz.func237, by kernel_rfl, by kernel_rfl⟩
theorem ok190 : EntryOk prog 190 (.code ir190) := ⟨Tryz.f190, Tryz.func190, by kernel_rfl, by kernel_rfl⟩
theorem ok231 : EntryOk prog 231 (.code ir231) := ⟨Tryz.f231, Tryz.func231, by kernel_rfl, by kernel_rfl⟩
theorem ok184 : EntryOk prog 184 (.code ir184) := ⟨Tryz.f184, Tryz.func184, by kernel_rfl, by kernel_rfl⟩
theorem ok234 : EntryOk prog 234 (.code ir234) := ⟨Tryz.f234, Tryz.func234, by kernel_rfl, by kernel_rfl⟩
theorem ok104 : EntryOk prog 104 (.code ir104) := ⟨Tryz.f104, Tryz.func104, by kernel_rfl, by kernel_rfl⟩
theorem ok146 : EntryOk prog 146 (.code ir146) := ⟨Tryz.f146, Tryz.func146, by kernel_rfl, by kernel_rfl⟩
theorem ok182 : EntryOk prog 182 (.code ir182) := ⟨Tryz.f182, Tryz.func182, by kernel_rfl, by kernel_rfl⟩
theorem ok229 : EntryOk prog 229 (.code ir229) := ⟨Tryz.f229, Tryz.func229, by kernel_rfl, by kernel_rfl⟩
theorem ok228 : EntryOk prog 228 (.code ir228) := ⟨Tryz.f228, Tryz.func228, by kernel_rfl, by kernel_rfl⟩
theorem ok183 : EntryOk prog 183 (.code ir183) := ⟨Tryz.f183, Tryz.func183, by kernel_rfl, by kernel_rfl⟩
theorem ok230 : EntryOk prog 230 (.code ir230) := ⟨Tryz.f230, Tryz.func230, by kernel_rfl, by kernel_rfl⟩
theorem ok264 : EntryOk prog 264 (.code ir264) := ⟨Tryz.f264, Tryz.func264, by kernel_rfl, by kernel_rfl⟩
theorem ok263 : EntryOk prog 263 (.code ir263) := ⟨Tryz.f263, Tryz.func263, by kernel_rfl, by kernel_rfl⟩
theorem ok276 : EntryOk prog 276 (.code ir276) := ⟨Tryz.f276, Tryz.func276, by kernel_rfl, by kernel_rfl⟩
theorem ok287 : EntryOk prog 287 (.code ir287) := ⟨Tryz.f287, Tryz.func287, by kernel_rfl, by kernel_rfl⟩
theorem ok286 : EntryOk prog 286 (.code ir286) := ⟨Tryz.f286, Tryz.func286, by kernel_rfl, by kernel_rfl⟩
theorem ok262 : EntryOk prog 262 (.code ir262) := ⟨Tryz.f262, Tryz.func262, by kernel_rfl, by kernel_rfl⟩
theorem ok189 : EntryOk prog 189 (.code ir189) := ⟨Tryz.f189, Tryz.func189, by kernel_rfl, by kernel_rfl⟩
theorem ok101 : EntryOk prog 101 (.code ir101) := ⟨Tryz.f101, Tryz.func101, by kernel_rfl, by kernel_rfl⟩
theorem ok28 : EntryOk prog 28 (.code ir28) := ⟨Tryz.f28, Tryz.func28, by kernel_rfl, by kernel_rfl⟩
theorem ok40 : EntryOk prog 40 (.code ir40) := ⟨Tryz.f40, Tryz.func40, by kernel_rfl, by kernel_rfl⟩
theorem ok66 : EntryOk prog 66 (.code ir66) := ⟨Tryz.f66, Tryz.func66, by kernel_rfl, by kernel_rfl⟩
theorem ok97 : EntryOk prog 97 (.code ir97) := ⟨Tryz.f97, Tryz.func97, by kernel_rfl, by kernel_rfl⟩
theorem ok142 : EntryOk prog 142 (.code ir142) := ⟨Tryz.f142, Tryz.func142, by kernel_rfl, by kernel_rfl⟩
theorem ok177 : EntryOk prog 177 (.code ir177) := ⟨Tryz.f177, Tryz.func177, by kernel_rfl, by kernel_rfl⟩
theorem ok176 : EntryOk prog 176 (.code ir176) := ⟨Tryz.f176, Tryz.func176, by kernel_rfl, by kernel_rfl⟩
theorem ok141 : EntryOk prog 141 (.code ir141) := ⟨Tryz.f141, Tryz.func141, by kernel_rfl, by kernel_rfl⟩
theorem ok96 : EntryOk prog 96 (.code ir96) := ⟨Tryz.f96, Tryz.func96, by kernel_rfl, by kernel_rfl⟩
theorem ok95 : EntryOk prog 95 (.code ir95) := ⟨Tryz.f95, Tryz.func95, by kernel_rfl, by kernel_rfl⟩
theorem ok140 : EntryOk prog 140 (.code ir140) := ⟨Tryz.f140, Tryz.func140, by kernel_rfl, by kernel_rfl⟩
theorem ok138 : EntryOk prog 138 (.code ir138) := ⟨Tryz.f138, Tryz.func138, by kernel_rfl, by kernel_rfl⟩
theorem ok139 : EntryOk prog 139 (.code ir139) := ⟨Tryz.f139, Tryz.func139, by kernel_rfl, by kernel_rfl⟩
theorem ok94 : EntryOk prog 94 (.code ir94) := ⟨Tryz.f94, Tryz.func94, by kernel_rfl, by kernel_rfl⟩
theorem ok144 : EntryOk prog 144 (.code ir144) := ⟨Tryz.f144, Tryz.func144, by kernel_rfl, by kernel_rfl⟩
theorem ok179 : EntryOk prog 179 (.code ir179) := ⟨Tryz.f179, Tryz.func179, by kernel_rfl, by kernel_rfl⟩
theorem ok67 : EntryOk prog 67 (.code ir67) := ⟨Tryz.f67, Tryz.func67, by kernel_rfl, by kernel_rfl⟩
theorem ok185 : EntryOk prog 185 (.code ir185) := ⟨Tryz.f185, Tryz.func185, by kernel_rfl, by kernel_rfl⟩
theorem ok188 : EntryOk prog 188 (.code ir188) := ⟨Tryz.f188, Tryz.func188, by kernel_rfl, by kernel_rfl⟩
theorem ok236 : EntryOk prog 236 (.code ir236) := ⟨Tryz.f236, Tryz.func236, by kernel_rfl, by kernel_rfl⟩
theorem ok192 : EntryOk prog 192 (.code ir192) := ⟨Tryz.f192, Tryz.func192, by kernel_rfl, by kernel_rfl⟩
theorem ok196 : EntryOk prog 196 (.code ir196) := ⟨Tryz.f196, Tryz.func196, by kernel_rfl, by kernel_rfl⟩
theorem ok232 : EntryOk prog 232 (.code ir232) := ⟨Tryz.f232, Tryz.func232, by kernel_rfl, by kernel_rfl⟩
theorem ok265 : EntryOk prog 265 (.code ir265) := ⟨Tryz.f265, Tryz.func265, by kernel_rfl, by kernel_rfl⟩
theorem ok178 : EntryOk prog 178 (.code ir178) := ⟨Tryz.f178, Tryz.func178, by kernel_rfl, by kernel_rfl⟩
theorem ok233 : EntryOk prog 233 (.code ir233) := ⟨Tryz.f233, Tryz.func233, by kernel_rfl, by kernel_rfl⟩
theorem ok195 : EntryOk prog 195 (.code ir195) := ⟨Tryz.f195, Tryz.func195, by kernel_rfl, by kernel_rfl⟩
theorem ok235 : EntryOk prog 235 (.code ir235) := ⟨Tryz.f235, Tryz.func235, by kernel_rfl, by kernel_rfl⟩
theorem ok193 : EntryOk prog 193 (.code ir193) := ⟨Tryz.f193, Tryz.func193, by kernel_rfl, by kernel_rfl⟩
theorem ok103 : EntryOk prog 103 (.code ir103) := ⟨Tryz.f103, Tryz.func103, by kernel_rfl, by kernel_rfl⟩
theorem ok191 : EntryOk prog 191 (.code ir191) := ⟨Tryz.f191, Tryz.func191, by kernel_rfl, by kernel_rfl⟩
theorem ok102 : EntryOk prog 102 (.code ir102) := ⟨Tryz.f102, Tryz.func102, by kernel_rfl, by kernel_rfl⟩
theorem ok187 : EntryOk prog 187 (.code ir187) := ⟨Tryz.f187, Tryz.func187, by kernel_rfl, by kernel_rfl⟩
theorem ok186 : EntryOk prog 186 (.code ir186) := ⟨Tryz.f186, Tryz.func186, by kernel_rfl, by kernel_rfl⟩
theorem ok73 : EntryOk prog 73 (.code ir73) := ⟨Tryz.f73, Tryz.func73, by kernel_rfl, by kernel_rfl⟩
theorem ok52 : EntryOk prog 52 (.code ir52) := ⟨Tryz.f52, Tryz.func52, by kernel_rfl, by kernel_rfl⟩
theorem ok105 : EntryOk prog 105 (.code ir105) := ⟨Tryz.f105, Tryz.func105, by kernel_rfl, by kernel_rfl⟩
theorem ok51 : EntryOk prog 51 (.code ir51) := ⟨Tryz.f51, Tryz.func51, by kernel_rfl, by kernel_rfl⟩
theorem ok54 : EntryOk prog 54 (.code ir54) := ⟨Tryz.f54, Tryz.func54, by kernel_rfl, by kernel_rfl⟩
theorem ok72 : EntryOk prog 72 (.code ir72) := ⟨Tryz.f72, Tryz.func72, by kernel_rfl, by kernel_rfl⟩
theorem ok50 : EntryOk prog 50 (.code ir50) := ⟨Tryz.f50, Tryz.func50, by kernel_rfl, by kernel_rfl⟩
theorem ok43 : EntryOk prog 43 (.code ir43) := ⟨Tryz.f43, Tryz.func43, by kernel_rfl, by kernel_rfl⟩
theorem ok70 : EntryOk prog 70 (.code ir70) := ⟨Tryz.f70, Tryz.func70, by kernel_rfl, by kernel_rfl⟩
theorem ok100 : EntryOk prog 100 (.code ir100) := ⟨Tryz.f100, Tryz.func100, by kernel_rfl, by kernel_rfl⟩
theorem ok143 : EntryOk prog 143 (.code ir143) := ⟨Tryz.f143, Tryz.func143, by kernel_rfl, by kernel_rfl⟩
theorem ok53 : EntryOk prog 53 (.code ir53) := ⟨Tryz.f53, Tryz.func53, by kernel_rfl, by kernel_rfl⟩
theorem ok15 : EntryOk prog 15 (.code ir15) := ⟨Tryz.f15, Tryz.func15, by kernel_rfl, by kernel_rfl⟩
theorem ok30 : EntryOk prog 30 (.code ir30) := ⟨Tryz.f30, Tryz.func30, by kernel_rfl, by kernel_rfl⟩
theorem ok44 : EntryOk prog 44 (.code ir44) := ⟨Tryz.f44, Tryz.func44, by kernel_rfl, by kernel_rfl⟩
theorem ok48 : EntryOk prog 48 (.code ir48) := ⟨Tryz.f48, Tryz.func48, by kernel_rfl, by kernel_rfl⟩
theorem ok46 : EntryOk prog 46 (.code ir46) := ⟨Tryz.f46, Tryz.func46, by kernel_rfl, by kernel_rfl⟩
theorem ok69 : EntryOk prog 69 (.code ir69) := ⟨Tryz.f69, Tryz.func69, by kernel_rfl, by kernel_rfl⟩
theorem ok99 : EntryOk prog 99 (.code ir99) := ⟨Tryz.f99, Tryz.func99, by kernel_rfl, by kernel_rfl⟩
theorem ok42 : EntryOk prog 42 (.code ir42) := ⟨Tryz.f42, Tryz.func42, by kernel_rfl, by kernel_rfl⟩
theorem ok47 : EntryOk prog 47 (.code ir47) := ⟨Tryz.f47, Tryz.func47, by kernel_rfl, by kernel_rfl⟩
theorem ok45 : EntryOk prog 45 (.code ir45) := ⟨Tryz.f45, Tryz.func45, by kernel_rfl, by kernel_rfl⟩
theorem ok68 : EntryOk prog 68 (.code ir68) := ⟨Tryz.f68, Tryz.func68, by kernel_rfl, by kernel_rfl⟩
theorem ok41 : EntryOk prog 41 (.code ir41) := ⟨Tryz.f41, Tryz.func41, by kernel_rfl, by kernel_rfl⟩
theorem oke98 : EntryOk prog 98 (.ext .indexByte) := ext_hook (fn := Tryz.f98) ⟨Tryz.func98, by kernel_rfl, by kernel_rfl, by kernel_rfl, by kernel_rfl⟩ ext_indexByte
theorem allLaw : AllOk prog lawCode := .cons ok3 (.cons ok7 (.cons ok6 (.cons ok5 (.cons ok22 (.cons ok21 (.cons ok18 (.cons ok19 (.cons ok20 (.cons ok35 (.cons ok17 (.cons ok34 (.cons ok58 (.cons ok76 (.cons ok107 (.cons ok57 (.cons ok33 (.cons ok56 (.cons ok32 (.cons ok49 (.cons ok55 (.cons ok75 (.cons ok71 (.cons ok74 (.cons ok148 (.cons ok197 (.cons ok194 (.cons ok237 (.cons ok190 (.cons ok231 (.cons ok184 (.cons ok234 (.cons ok104 (.cons ok146 (.cons ok182 (.cons ok229 (.cons ok228 (.cons ok183 (.cons ok230 (.cons ok264 (.cons ok263 (.cons ok276 (.cons ok287 (.cons ok286 (.cons ok262 (.cons ok189 (.cons ok101 (.cons ok28 (.cons ok40 (.cons ok66 (.cons ok97 (.cons ok142 (.cons ok177 (.cons ok176 (.cons ok141 (.cons ok96 (.cons ok95 (.cons ok140 (.cons ok138 (.cons ok139 (.cons ok94 (.cons ok144 (.cons ok179 (.cons ok67 (.cons ok185 (.cons ok188 (.cons ok236 (.cons ok192 (.cons ok196 (.cons ok232 (.cons ok265 (.cons ok178 (.cons ok233 (.cons ok195 (.cons ok235 (.cons ok193 (.cons ok103 (.cons ok191 (.cons ok102 (.cons ok187 (.cons ok186 (.cons ok73 (.cons ok52 (.cons ok105 (.cons ok51 (.cons ok54 (.cons ok72 (.cons ok50 (.cons ok43 (.cons ok70 (.cons ok100 (.cons ok143 (.cons ok53 (.cons ok15 (.cons ok30 (.cons ok44 (.cons ok48 (.cons ok46 (.cons ok69 (.cons ok99 (.cons ok42 (.cons ok47 (.cons ok45 (.cons ok68 (.cons ok41 (.nil)))))))))))))))))))))))))))))))))))))))))))))))))))))))))))))))))))))))))))))))))))))))))))))))))))))))))
theorem allExt : AllOk prog lawExt := .cons oke98 (.nil)
theorem all0 : AllOk prog0 instCode := .nil
theorem mixed : prog.follows .mixedOrders = true := by kernel_rfl
theorem mixed0 : prog0.follows .mixedOrders = true := by kernel_rfl
theorem globs {h : List AV → St → Option (AV × St)} {f : Nat} (e : EntryOk2 prog0 f (.hook h)) : EntryOk2 prog f (.hook h) := by
  cases e with
  | old e => exact e.elim
  | hook a b =>
    exact .hook (fun args s r e1 e2 φ w c hg => a args s r e1 e2 φ w c (fun g hg' => by cases hg')) b
theorem lawHooks_ok : AllOk2 prog lawHooks := .nil
def Tryz.layAtoi_ren : Go.Shelf.Ren := ⟨fun | 172 => 145 | 244 => 180 | 245 => 181 | 247 => 223 | 279 => 224 | 280 => 225 | 281 => 226 | 282 => 227 | 287 => 259 | 316 => 260 | 171 => 28 | 205 => 261 | 321 => 274 | 322 => 275 | 243 => 40 | 246 => 66 | 283 => 94 | 284 => 95 | 285 => 96 | 286 => 97 | 129 => 139 | 317 => 138 | 318 => 140 | 319 => 141 | 320 => 142 | 337 => 176 | 338 => 177 | n => n, fun | 9 => 9 | 3 => 3 | 75 => 176 | 76 => 177 | 4 => 4 | 5 => 5 | 167 => 317 | 37 => 54 | 0 => 0 | 85 => 318 | 2 => 2 | 168 => 320 | 53 => 100 | 175 => 352 | 46 => 158 | 210 => 355 | 127 => 221 | 145 => 369 | 143 => 367 | 21 => 21 | 171 => 183 | 173 => 186 | 212 => 237 | 51 => 42 | 20 => 20 | 213 => 238 | 232 => 315 | 233 => 316 | 80 => 179 | n => n, fun | 15 => 9 | 16 => 10 | 17 => 0 | 18 => 5 | 19 => 6 | n => n⟩
theorem Tryz.layAtoi : Go.Proofs.LaysC.n172 Tryz.prog Tryz.layAtoi_ren where
  mixed := by kernel_rfl
  f129 := Tryz.func139.trans (congrArg some (by kernel_rfl))
  f171 := Tryz.func28.trans (congrArg some (by kernel_rfl))
  f172 := Tryz.func145.trans (congrArg some (by kernel_rfl))
  f205 := Tryz.func261.trans (congrArg some (by kernel_rfl))
  f243 := Tryz.func40.trans (congrArg some (by kernel_rfl))
  f244 := Tryz.func180.trans (congrArg some (by kernel_rfl))
  f245 := Tryz.func181.trans (congrArg some (by kernel_rfl))
  f246 := Tryz.func66.trans (congrArg some (by kernel_rfl))
  f247 := Tryz.func223.trans (congrArg some (by kernel_rfl))
  f279 := Tryz.func224.trans (congrArg some (by kernel_rfl))
  f280 := Tryz.func225.trans (congrArg some (by kernel_rfl))
  f281 := Tryz.func226.trans (congrArg some (by kernel_rfl))
  f282 := Tryz.func227.trans (congrArg some (by kernel_rfl))
  f283 := Tryz.func94.trans (congrArg some (by kernel_rfl))
  f284 := Tryz.func95.trans (congrArg some (by kernel_rfl))
  f285 := Tryz.func96.trans (congrArg some (by kernel_rfl))
  f286 := Tryz.func97.trans (congrArg some (by kernel_rfl))
  f287 := Tryz.func259.trans (congrArg some (by kernel_rfl))
  f316 := Tryz.func260.trans (congrArg some (by kernel_rfl))
  f317 := Tryz.func138.trans (congrArg some (by kernel_rfl))
  f318 := Tryz.func140.trans (congrArg some (by kernel_rfl))
  f319 := Tryz.func141.trans (congrArg some (by kernel_rfl))
  f320 := Tryz.func142.trans (congrArg some (by kernel_rfl))
  f321 := Tryz.func274.trans (congrArg some (by kernel_rfl))
  f322 := Tryz.func275.trans (congrArg some (by kernel_rfl))
  f337 := Tryz.func176.trans (congrArg some (by kernel_rfl))
  f338 := Tryz.func177.trans (congrArg some (by kernel_rfl))
  t0 := Tryz.underlying0
  a0 := Tryz.isAgg0
  z0 := Tryz.sizeOf0
  v0 := Tryz.zeroValue0
  t2 := Tryz.underlying2
  a2 := Tryz.isAgg2
  z2 := Tryz.sizeOf2
  v2 := Tryz.zeroValue2
  t3 := Tryz.underlying3
  a3 := Tryz.isAgg3
  z3 := Tryz.sizeOf3
  v3 := Tryz.zeroValue3
  t4 := Tryz.underlying4
  a4 := Tryz.isAgg4
  z4 := Tryz.sizeOf4
  v4 := Tryz.zeroValue4
  t5 := Tryz.underlying5
  a5 := Tryz.isAgg5
  z5 := Tryz.sizeOf5
  v5 := Tryz.zeroValue5
  t9 := Tryz.underlying9
  a9 := Tryz.isAgg9
  z9 := Tryz.sizeOf9
  v9 := Tryz.zeroValue9
  t20 := Tryz.underlying20
  a20 := Tryz.isAgg20
  z20 := Tryz.sizeOf20
  v20 := Tryz.zeroValue20
  t21 := Tryz.underlying21
  a21 := Tryz.isAgg21
  z21 := Tryz.sizeOf21
  v21 := Tryz.zeroValue21
  t37 := Tryz.underlying54
  a37 := Tryz.isAgg54
  z37 := Tryz.sizeOf54
  v37 := Tryz.zeroValue54
  t46 := Tryz.underlying158
  a46 := Tryz.isAgg158
  z46 := Tryz.sizeOf158
  v46 := Tryz.zeroValue158
  t51 := Tryz.underlying42
  a51 := Tryz.isAgg42
  z51 := Tryz.sizeOf42
  v51 := Tryz.zeroValue42
  t53 := Tryz.underlying100
  a53 := Tryz.isAgg100
  z53 := Tryz.sizeOf100
  v53 := Tryz.zeroValue100
  t75 := Tryz.underlying176
  a75 := Tryz.isAgg176
  z75 := Tryz.sizeOf176
  v75 := Tryz.zeroValue176
  t76 := Tryz.underlying177
  a76 := Tryz.isAgg177
  z76 := Tryz.sizeOf177
  v76 := Tryz.zeroValue177
  t85 := Tryz.underlying318
  a85 := Tryz.isAgg318
  z85 := Tryz.sizeOf318
  v85 := Tryz.zeroValue318
  t127 := Tryz.underlying221
  a127 := Tryz.isAgg221
  z127 := Tryz.sizeOf221
  v127 := Tryz.zeroValue221
  t143 := Tryz.underlying367
  a143 := Tryz.isAgg367
  z143 := Tryz.sizeOf367
  v143 := Tryz.zeroValue367
  t145 := Tryz.underlying369
  a145 := Tryz.isAgg369
  z145 := Tryz.sizeOf369
  v145 := Tryz.zeroValue369
  t167 := Tryz.underlying317
  a167 := Tryz.isAgg317
  z167 := Tryz.sizeOf317
  v167 := Tryz.zeroValue317
  t168 := Tryz.underlying320
  a168 := Tryz.isAgg320
  z168 := Tryz.sizeOf320
  v168 := Tryz.zeroValue320
  t171 := Tryz.underlying183
  a171 := Tryz.isAgg183
  z171 := Tryz.sizeOf183
  v171 := Tryz.zeroValue183
  t173 := Tryz.underlying186
  a173 := Tryz.isAgg186
  z173 := Tryz.sizeOf186
  v173 := Tryz.zeroValue186
  t175 := Tryz.underlying352
  a175 := Tryz.isAgg352
  z175 := Tryz.sizeOf352
  v175 := Tryz.zeroValue352
  t210 := Tryz.underlying355
  a210 := Tryz.isAgg355
  z210 := Tryz.sizeOf355
  v210 := Tryz.zeroValue355
  t212 := Tryz.underlying237
  a212 := Tryz.isAgg237
  z212 := Tryz.sizeOf237
  v212 := Tryz.zeroValue237
  t213 := Tryz.underlying238
  a213 := Tryz.isAgg238
  z213 := Tryz.sizeOf238
  t232 := Tryz.underlying315
  a232 := Tryz.isAgg315
  z232 := Tryz.sizeOf315
  v232 := Tryz.zeroValue315
  t233 := Tryz.underlying316
  a233 := Tryz.isAgg316
  z233 := Tryz.sizeOf316
  v233 := Tryz.zeroValue316
  g15 := by kernel_rfl
  g16 := by kernel_rfl
  g17 := by kernel_rfl
  g18 := by kernel_rfl
  g19 := by kernel_rfl
  t80 := Tryz.underlying179
  a80 := Tryz.isAgg179
  z80 := Tryz.sizeOf179
  v80 := Tryz.zeroValue179
  i0 := by kernel_rfl
  i2 := by kernel_rfl
  i3 := by kernel_rfl
  i4 := by kernel_rfl
  i5 := by kernel_rfl
  i9 := by kernel_rfl
  i20 := by kernel_rfl
  i21 := by kernel_rfl
  i37 := by kernel_rfl
  i46 := by kernel_rfl
  i51 := by kernel_rfl
  i53 := by kernel_rfl
  i75 := by kernel_rfl
  i76 := by kernel_rfl
  i80 := by kernel_rfl
  i85 := by kernel_rfl
  i127 := by kernel_rfl
  i143 := by kernel_rfl
  i145 := by kernel_rfl
  i167 := by kernel_rfl
  i168 := by kernel_rfl
  i171 := by kernel_rfl
  i173 := by kernel_rfl
  i175 := by kernel_rfl
  i210 := by kernel_rfl
  i212 := by kernel_rfl
  i232 := by kernel_rfl
  i233 := by kernel_rfl
  m15 := by kernel_rfl
  m16 := by kernel_rfl
  m17 := by kernel_rfl
  m18 := by kernel_rfl
  m19 := by kernel_rfl
  c0 := by kernel_rfl
  c2 := by kernel_rfl
  c3 := by kernel_rfl
  c4 := by kernel_rfl
  c5 := by kernel_rfl
  c9 := by kernel_rfl
  c20 := by kernel_rfl
  c21 := by kernel_rfl
  c37 := by kernel_rfl
  c46 := by kernel_rfl
  c51 := by kernel_rfl
  c53 := by kernel_rfl
  c75 := by kernel_rfl
  c76 := by kernel_rfl
  c80 := by kernel_rfl
  c85 := by kernel_rfl
  c127 := by kernel_rfl
  c143 := by kernel_rfl
  c145 := by kernel_rfl
  c167 := by kernel_rfl
  c168 := by kernel_rfl
  c171 := by kernel_rfl
  c173 := by kernel_rfl
  c175 := by kernel_rfl
  c210 := by kernel_rfl
  c212 := by kernel_rfl
  c213 := by kernel_rfl
  c232 := by kernel_rfl
  c233 := by kernel_rfl
theorem enterAtoi : ∀ (args : Array Value) (w : World), (callFunc 145 args).run prog.toProgram w = .ok (.enter 145 args) w := fun args w => by
  have e1 : prog.toProgram.funcs[145]? = some Tryz.f145 := Tryz.func145
  have e2 : (Tryz.f145.name == "runtime.NumGoroutine") = false := by kernel_rfl
  have e3 : Tryz.f145.body.isSome = true := by kernel_rfl
  obtain ⟨c, e4⟩ := Option.isSome_iff_exists.1 e3
  simp only [beq_eq_false_iff_ne, ne_eq] at e2
  simp [callFunc, e1, e2, e4]
theorem ok2x145 : EntryOk2 prog 145 (.hook (atoiH 9 10 320)) := .hook (atoi_ok (P := prog) Tryz.layAtoi enterAtoi (by decide) (by kernel_rfl) (by decide) (by kernel_rfl)) (fun args s => atoi_tame _ _ _ args s)
theorem h2_ok : AllOk2 prog lawH2 := .cons ok2x145 (.nil)
theorem ok_l0 : AllOk2 prog tl0 := AllOk2.app allLaw (AllOk2.app allExt (AllOk2.app2 h2_ok lawHooks_ok))
theorem gl_pre : ∀ g, g ∈ prog.G → memoPre[g]? = some g ∧ g ∈ prog.G := fun g hg => ⟨(by decide : ∀ g ∈ ([9, 10] : List Nat), memoPre[g]? = some g) g hg, hg⟩
theorem ok_l1 : AllOk2 prog tl1 := .cons (EntryOk2.memoA (P0 := prog) mixed rfl gl_pre (AllOk2.fine ok_l0) 100000 101 tbl101 (by rw [← tabT_eq tr0_ok]; exact all101)) ok_l0
theorem ok_l2 : AllOk2 prog tl2 := .cons (EntryOk2.dfr (P := prog) (T := tabT tr1) (F := Tryz.f106) (G := Tryz.f147) mixed (by rw [tabT_eq tr1_ok]; exact AllOk2.fine ok_l1) 100000 (by kernel_rfl) Tryz.func106 (by kernel_rfl) Tryz.func147 (by kernel_rfl) (by kernel_rfl)) ok_l1
theorem ok_l3 : AllOk2 prog tl3 := .cons (EntryOk2.memoA (P0 := prog) mixed rfl gl_pre (AllOk2.fine ok_l2) 100000 106 tbl106 (by rw [← tabT_eq tr2_ok]; exact all106)) ok_l2
theorem ok_l4 : AllOk2 prog tl4 := .cons (EntryOk2.memoA (P0 := prog) mixed rfl gl_pre (AllOk2.fine ok_l3) 100000 15 tbl15 (by rw [← tabT_eq tr3_ok]; exact all15)) ok_l3
theorem ok_l5 : AllOk2 prog tl5 := .cons (EntryOk2.dfr (P := prog) (T := tabT tr4) (F := Tryz.f16) (G := Tryz.f31) mixed (by rw [tabT_eq tr4_ok]; exact AllOk2.fine ok_l4) 100000 (by kernel_rfl) Tryz.func16 (by kernel_rfl) Tryz.func31 (by kernel_rfl) (by kernel_rfl)) ok_l4
theorem ok_l6 : AllOk2 prog tl6 := .cons (EntryOk2.memoA (P0 := prog) mixed rfl gl_pre (AllOk2.fine ok_l5) 100000 5 tbl5 (by rw [← tabT_eq tr5_ok]; exact all5)) ok_l5
theorem fine_law : TabFine prog (tabT tr6) := by rw [tabT_eq tr6_ok]; exact AllOk2.fine ok_l6
abbrev theLaid : List (String × DataW Unit) := YtpccibieeikllaaGreatDoor.Rows.progKnownRow.laid
def gchk (ty : Ty) (d : DataW Unit) (g sz : Nat) (s : St) : Bool := match layD ty d s with
  | some (l, s1) => Nat.blt g s1.next && ((match s1.heap.get g with | none => true | some _ => false) && Nat.ble sz l.length)
  | none => false
theorem gst_step {P : Program} {W : World} {φ : Phi} {s : St} (h : RelSt φ s W) (hr : AllRo s) (hw : WFS s) {name : String} {g t : Nat} {ty : Ty} (hg : P.globalNamed name = some g) (ht : tyOf P 8 t = some ty) {cs : Array Value} (hv : W.var? P name = some cs) {held : Bool} {m : Nat} {d : DataW Unit} {ps : List MemPlace} (hd : DataW.trod (fun _ => ()) P W 0 (fun _ => true) held m t cs.toList = some (d, ps)) {sz : Nat} (hc : gchk ty d g sz s = true) :
    ∃ φ', Imp W φ s φ' (gst ty d g s) ∧ ∃ n top, φ' g 0 = some ⟨g, 0, 0, n, top⟩ ∧ sz ≤ n := by
  unfold gchk at hc
  cases hl : layD ty d s with
  | none => rw [hl] at hc; cases hc
  | some x =>
    obtain ⟨l, s1⟩ := x
    rw [hl] at hc
    simp only [Bool.and_eq_true, Nat.blt_eq, Nat.ble_eq] at hc
    obtain ⟨h1, h2, h3⟩ := hc
    have hf : s1.heap.get g = none := by
      cases hh : s1.heap.get g with
      | none => rfl
      | some _ => rw [hh] at h2; cases h2
    obtain ⟨φ', i, top, e⟩ := glob_lay h hr hw hg ht hv hd hl h1 hf
    refine ⟨φ', ?_, l.length, top, e, h3⟩
    unfold gst
    rw [hl]
    exact i
theorem next_up {φ : Phi} {s : St} {W : World} (h1 : RelSt φ s W) (h2 : AllRo s) (h3 : WFS s) {n : Nat} (hn : s.next ≤ n) : RelSt φ { s with next := n } W ∧ AllRo { s with next := n } ∧ WFS { s with next := n } :=
  ⟨⟨h1.obj, h1.dom, h1.inj, h1.incs⟩, h2, fun id hid => h3 id (Nat.le_trans hn hid)⟩
theorem starES : "*" ++ "errors.errorString" = "*errors.errorString" := by decide
theorem rowES (u : TypeId) (h : Tryz.prog.typeName? 3 u = some "*errors.errorString") : u = 367 :=
  typeName_ptr_named (nm := "errors.errorString") (by rw [starES]; kernel_rfl) (by kernel_rfl) (by decide) u (by rw [starES]; exact h)
theorem glob_state {W : World} (h : laidMetH Tryz.prog theLaid W) : ∃ φ, RelSt φ sG W ∧ AllRo sG ∧ WFS sG ∧ GlobOk prog φ := by
  rw [MakeChecks.laidMetH_plain _ _ _ (by kernel_rfl)] at h
  obtain ⟨a9, s9, hv9, hc9, hs9, _⟩ := laid_sentinel (h.tail.tail.tail.tail) (g := 9) (ti := 176) (tp := 367) (te := 369) (ts := 9) (by kernel_rfl) (by kernel_rfl) Tryz.underlying176 rowES Tryz.underlying367 Tryz.underlying369 rfl rfl Tryz.underlying9 (by kernel_rfl) (by kernel_rfl)
  obtain ⟨a10, s10, hv10, hc10, hs10, _⟩ := laid_sentinel (h.tail.tail.tail) (g := 10) (ti := 176) (tp := 367) (te := 369) (ts := 9) (by kernel_rfl) (by kernel_rfl) Tryz.underlying176 rowES Tryz.underlying367 Tryz.underlying369 rfl rfl Tryz.underlying9 (by kernel_rfl) (by kernel_rfl)
  obtain ⟨r1, r2, r3⟩ := next_up (n := 11) (rel0 W) allRo0 wfs0 (by decide)
  obtain ⟨φ9, i9, n9, top9, e9, l9⟩ := gsent_step r1 r2 r3 (g := 9) (tp := 367) (text := [105, 110, 118, 97, 108, 105, 100, 32, 115, 121, 110, 116, 97, 120]) (by kernel_rfl) hv9 hc9 hs9 (by kernel_rfl) (by kernel_rfl)
  obtain ⟨φ10, i10, n10, top10, e10, l10⟩ := gsent_step i9.rel i9.ro i9.wfs (g := 10) (tp := 367) (text := [118, 97, 108, 117, 101, 32, 111, 117, 116, 32, 111, 102, 32, 114, 97, 110, 103, 101]) (by kernel_rfl) hv10 hc10 hs10 (by kernel_rfl) (by kernel_rfl)
  obtain ⟨_, _, hh0⟩ := var_cells (P := Tryz.prog) (g := 9) (by kernel_rfl) hv9
  obtain ⟨φd0, d0⟩ := gdummy_step i10.rel i10.ro i10.wfs (d := 0) hh0 (by kernel_rfl) (by kernel_rfl)
  obtain ⟨_, _, hh1⟩ := var_cells (P := Tryz.prog) (g := 9) (by kernel_rfl) hv9
  obtain ⟨φd1, d1⟩ := gdummy_step d0.rel d0.ro d0.wfs (d := 1) hh1 (by kernel_rfl) (by kernel_rfl)
  obtain ⟨_, _, hh2⟩ := var_cells (P := Tryz.prog) (g := 9) (by kernel_rfl) hv9
  obtain ⟨φd2, d2⟩ := gdummy_step d1.rel d1.ro d1.wfs (d := 2) hh2 (by kernel_rfl) (by kernel_rfl)
  obtain ⟨_, _, hh3⟩ := var_cells (P := Tryz.prog) (g := 9) (by kernel_rfl) hv9
  obtain ⟨φd3, d3⟩ := gdummy_step d2.rel d2.ro d2.wfs (d := 3) hh3 (by kernel_rfl) (by kernel_rfl)
  obtain ⟨_, _, hh4⟩ := var_cells (P := Tryz.prog) (g := 9) (by kernel_rfl) hv9
  obtain ⟨φd4, d4⟩ := gdummy_step d3.rel d3.ro d3.wfs (d := 4) hh4 (by kernel_rfl) (by kernel_rfl)
  obtain ⟨_, _, hh5⟩ := var_cells (P := Tryz.prog) (g := 9) (by kernel_rfl) hv9
  obtain ⟨φd5, d5⟩ := gdummy_step d4.rel d4.ro d4.wfs (d := 5) hh5 (by kernel_rfl) (by kernel_rfl)
  obtain ⟨_, _, hh6⟩ := var_cells (P := Tryz.prog) (g := 9) (by kernel_rfl) hv9
  obtain ⟨φd6, d6⟩ := gdummy_step d5.rel d5.ro d5.wfs (d := 6) hh6 (by kernel_rfl) (by kernel_rfl)
  obtain ⟨_, _, hh7⟩ := var_cells (P := Tryz.prog) (g := 9) (by kernel_rfl) hv9
  obtain ⟨φd7, d7⟩ := gdummy_step d6.rel d6.ro d6.wfs (d := 7) hh7 (by kernel_rfl) (by kernel_rfl)
  obtain ⟨_, _, hh8⟩ := var_cells (P := Tryz.prog) (g := 9) (by kernel_rfl) hv9
  obtain ⟨φd8, d8⟩ := gdummy_step d7.rel d7.ro d7.wfs (d := 8) hh8 (by kernel_rfl) (by kernel_rfl)
  refine ⟨_, d8.rel, d8.ro, d8.wfs, ?_⟩
  intro g hg
  have hg : g = 9 ∨ g = 10 := by
    have : g ∈ [9, 10] := hg
    simpa using this
  rcases hg with rfl | rfl
  · refine ⟨_, d8.le _ _ _ (d7.le _ _ _ (d6.le _ _ _ (d5.le _ _ _ (d4.le _ _ _ (d3.le _ _ _ (d2.le _ _ _ (d1.le _ _ _ (d0.le _ _ _ (i10.le _ _ _ (e9)))))))))), rfl, rfl, rfl, fun gl n h1 h2 => ?_⟩
    have hk : (prog.globals[9]?).bind (fun gl => szOf prog gl.type) = some 1 := by kernel_rfl
    rw [h1, Option.bind_some, h2] at hk
    cases hk
    exact l9
  · refine ⟨_, d8.le _ _ _ (d7.le _ _ _ (d6.le _ _ _ (d5.le _ _ _ (d4.le _ _ _ (d3.le _ _ _ (d2.le _ _ _ (d1.le _ _ _ (d0.le _ _ _ (e10))))))))), rfl, rfl, rfl, fun gl n h1 h2 => ?_⟩
    have hk : (prog.globals[10]?).bind (fun gl => szOf prog gl.type) = some 1 := by kernel_rfl
    rw [h1, Option.bind_some, h2] at hk
    cases hk
    exact l10
theorem ran_of_yes {T : Tab} {n : Nat} {f : FuncId} {args : List AV} {s : St} (h : isYes (callF T (evalF T n) f args s) = true) : Ran T f args s fun v _ => v = .bool true := by
  rw [evalF_eq] at h
  cases hr : callF T (evalN T n) f args s with
  | fail => rw [hr] at h; cases h
  | panic v s => rw [hr] at h; cases h
  | val v s' =>
    rw [hr] at h
    refine ⟨n, v, s', hr, ?_⟩
    cases v with
    | bool b => cases b with
      | true => rfl
      | false => cases h
    | _ => cases h
end Go.V
