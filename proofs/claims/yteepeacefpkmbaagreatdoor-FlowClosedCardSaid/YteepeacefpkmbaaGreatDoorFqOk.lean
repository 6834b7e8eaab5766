/- The functions of the dump are what the texts in the small language say: by the kernel. The listed variables lie in the state's beginning. -/
import Derived.Test.YteepeacefpkmbaaGreatDoorFqMemo
import Derived.Test.YteepeacefpkmbaaGreatDoorRows
import Derived.MakeChecks
import Derived.Stop.LaidErr
import Derived.KernelRfl
set_option linter.unusedVariables false
set_option linter.unusedSimpArgs false
set_option linter.unusedSectionVars false
namespace Go.V
open Go
open Go.V Go.Proofs Go.RowKit Go.ChangeShapes Go.WideShapes Go.ChangeAt
set_option maxRecDepth 1000000
noncomputable def prog0 : Prog := { toProgram := Tryz.prog, G := [] }
theorem ok5 : Okx 5 Tryz.f5 := okx Tryz.func5 (by kernel_rfl)
theorem ok60 : Okx 60 Tryz.f60 := okx Tryz.func60 (by kernel_rfl)
theorem ok13 : Okx 13 Tryz.f13 := okx Tryz.func13 (by kernel_rfl)
theorem ok19 : Okx 19 Tryz.f19 := okx Tryz.func19 (by kernel_rfl)
theorem ok30 : Okx 30 Tryz.f30 := okx Tryz.func30 (by kernel_rfl)
theorem ok29 : Okx 29 Tryz.f29 := okx Tryz.func29 (by kernel_rfl)
theorem ok28 : Okx 28 Tryz.f28 := okx Tryz.func28 (by kernel_rfl)
theorem ok50 : Okx 50 Tryz.f50 := okx Tryz.func50 (by kernel_rfl)
theorem ok93 : Okx 93 Tryz.f93 := okx Tryz.func93 (by kernel_rfl)
theorem ok126 : Okx 126 Tryz.f126 := okx Tryz.func126 (by kernel_rfl)
theorem ok125 : Okx 125 Tryz.f125 := okx Tryz.func125 (by kernel_rfl)
theorem ok127 : Okx 127 Tryz.f127 := okx Tryz.func127 (by kernel_rfl)
theorem ok154 : Okx 154 Tryz.f154 := okx Tryz.func154 (by kernel_rfl)
theorem ok186 : Okx 186 Tryz.f186 := okx Tryz.func186 (by kernel_rfl)
theorem ok222 : Okx 222 Tryz.f222 := okx Tryz.func222 (by kernel_rfl)
theorem ok274 : Okx 274 Tryz.f274 := okx Tryz.func274 (by kernel_rfl)
theorem ok221 : Okx 221 Tryz.f221 := okx Tryz.func221 (by kernel_rfl)
theorem ok187 : Okx 187 Tryz.f187 := okx Tryz.func187 (by kernel_rfl)
theorem ok191 : Okx 191 Tryz.f191 := okx Tryz.func191 (by kernel_rfl)
theorem ok229 : Okx 229 Tryz.f229 := okx Tryz.func229 (by kernel_rfl)
theorem ok275 : Okx 275 Tryz.f275 := okx Tryz.func275 (by kernel_rfl)
theorem ok149 : Okx 149 Tryz.f149 := okx Tryz.func149 (by kernel_rfl)
theorem ok184 : Okx 184 Tryz.f184 := okx Tryz.func184 (by kernel_rfl)
theorem ok220 : Okx 220 Tryz.f220 := okx Tryz.func220 (by kernel_rfl)
theorem ok265 : Okx 265 Tryz.f265 := okx Tryz.func265 (by kernel_rfl)
theorem ok298 : Okx 298 Tryz.f298 := okx Tryz.func298 (by kernel_rfl)
theorem ok311 : Okx 311 Tryz.f311 := okx Tryz.func311 (by kernel_rfl)
theorem ok223 : Okx 223 Tryz.f223 := okx Tryz.func223 (by kernel_rfl)
theorem ok268 : Okx 268 Tryz.f268 := okx Tryz.func268 (by kernel_rfl)
theorem ok272 : Okx 272 Tryz.f272 := okx Tryz.func272 (by kernel_rfl)
theorem ok273 : Okx 273 Tryz.f273 := okx Tryz.func273 (by kernel_rfl)
theorem ok266 : Okx 266 Tryz.f266 := okx Tryz.func266 (by kernel_rfl)
theorem ok270 : Okx 270 Tryz.f270 := okx Tryz.func270 (by kernel_rfl)
theorem ok269 : Okx 269 Tryz.f269 := okx Tryz.func269 (by kernel_rfl)
theorem ok267 : Okx 267 Tryz.f267 := okx Tryz.func267 (by kernel_rfl)
theorem ok271 : Okx 271 Tryz.f271 := okx Tryz.func271 (by kernel_rfl)
theorem ok228 : Okx 228 Tryz.f228 := okx Tryz.func228 (by kernel_rfl)
theorem ok151 : Okx 151 Tryz.f151 := okx Tryz.func151 (by kernel_rfl)
theorem ok227 : Okx 227 Tryz.f227 := okx Tryz.func227 (by kernel_rfl)
theorem ok156 : Okx 156 Tryz.f156 := okx Tryz.func156 (by kernel_rfl)
theorem ok198 : Okx 198 Tryz.f198 := okx Tryz.func198 (by kernel_rfl)
theorem ok205 : Okx 205 Tryz.f205 := okx Tryz.func205 (by kernel_rfl)
theorem ok124 : Okx 124 Tryz.f124 := okx Tryz.func124 (by kernel_rfl)
theorem ok152 : Okx 152 Tryz.f152 := okx Tryz.func152 (by kernel_rfl)
theorem ok131 : Okx 131 Tryz.f131 := okx Tryz.func131 (by kernel_rfl)
theorem ok164 : Okx 164 Tryz.f164 := okx Tryz.func164 (by kernel_rfl)
theorem ok165 : Okx 165 Tryz.f165 := okx Tryz.func165 (by kernel_rfl)
theorem ok161 : Okx 161 Tryz.f161 := okx Tryz.func161 (by kernel_rfl)
theorem ok202 : Okx 202 Tryz.f202 := okx Tryz.func202 (by kernel_rfl)
theorem ok163 : Okx 163 Tryz.f163 := okx Tryz.func163 (by kernel_rfl)
theorem ok162 : Okx 162 Tryz.f162 := okx Tryz.func162 (by kernel_rfl)
theorem ok204 : Okx 204 Tryz.f204 := okx Tryz.func204 (by kernel_rfl)
theorem ok242 : Okx 242 Tryz.f242 := okx Tryz.func242 (by kernel_rfl)
theorem ok206 : Okx 206 Tryz.f206 := okx Tryz.func206 (by kernel_rfl)
theorem ok237 : Okx 237 Tryz.f237 := okx Tryz.func237 (by kernel_rfl)
theorem ok241 : Okx 241 Tryz.f241 := okx Tryz.func241 (by kernel_rfl)
theorem ok185 : Okx 185 Tryz.f185 := okx Tryz.func185 (by kernel_rfl)
theorem ok279 : Okx 279 Tryz.f279 := okx Tryz.func279 (by kernel_rfl)
theorem ok203 : Okx 203 Tryz.f203 := okx Tryz.func203 (by kernel_rfl)
theorem ok197 : Okx 197 Tryz.f197 := okx Tryz.func197 (by kernel_rfl)
theorem ok240 : Okx 240 Tryz.f240 := okx Tryz.func240 (by kernel_rfl)
theorem ok278 : Okx 278 Tryz.f278 := okx Tryz.func278 (by kernel_rfl)
theorem ok153 : Okx 153 Tryz.f153 := okx Tryz.func153 (by kernel_rfl)
theorem ok189 : Okx 189 Tryz.f189 := okx Tryz.func189 (by kernel_rfl)
theorem ok226 : Okx 226 Tryz.f226 := okx Tryz.func226 (by kernel_rfl)
theorem ok188 : Okx 188 Tryz.f188 := okx Tryz.func188 (by kernel_rfl)
theorem ok224 : Okx 224 Tryz.f224 := okx Tryz.func224 (by kernel_rfl)
theorem ok225 : Okx 225 Tryz.f225 := okx Tryz.func225 (by kernel_rfl)
theorem ok199 : Okx 199 Tryz.f199 := okx Tryz.func199 (by kernel_rfl)
theorem ok193 : Okx 193 Tryz.f193 := okx Tryz.func193 (by kernel_rfl)
theorem ok194 : Okx 194 Tryz.f194 := okx Tryz.func194 (by kernel_rfl)
theorem ok235 : Okx 235 Tryz.f235 := okx Tryz.func235 (by kernel_rfl)
theorem ok233 : Okx 233 Tryz.f233 := okx Tryz.func233 (by kernel_rfl)
theorem ok234 : Okx 234 Tryz.f234 := okx Tryz.func234 (by kernel_rfl)
theorem ok232 : Okx 232 Tryz.f232 := okx Tryz.func232 (by kernel_rfl)
theorem ok192 : Okx 192 Tryz.f192 := okx Tryz.func192 (by kernel_rfl)
theorem ok230 : Okx 230 Tryz.f230 := okx Tryz.func230 (by kernel_rfl)
theorem ok231 : Okx 231 Tryz.f231 := okx Tryz.func231 (by kernel_rfl)
theorem ok276 : Okx 276 Tryz.f276 := okx Tryz.func276 (by kernel_rfl)
theorem ok190 : Okx 190 Tryz.f190 := okx Tryz.func190 (by kernel_rfl)
theorem ok137 : Okx 137 Tryz.f137 := okx Tryz.func137 (by kernel_rfl)
theorem ok173 : Okx 173 Tryz.f173 := okx Tryz.func173 (by kernel_rfl)
theorem ok212 : Okx 212 Tryz.f212 := okx Tryz.func212 (by kernel_rfl)
theorem ok243 : Okx 243 Tryz.f243 := okx Tryz.func243 (by kernel_rfl)
theorem ok281 : Okx 281 Tryz.f281 := okx Tryz.func281 (by kernel_rfl)
theorem ok280 : Okx 280 Tryz.f280 := okx Tryz.func280 (by kernel_rfl)
theorem ok78 : Okx 78 Tryz.f78 := okx Tryz.func78 (by kernel_rfl)
theorem ok121 : Okx 121 Tryz.f121 := okx Tryz.func121 (by kernel_rfl)
theorem ok171 : Okx 171 Tryz.f171 := okx Tryz.func171 (by kernel_rfl)
theorem ok172 : Okx 172 Tryz.f172 := okx Tryz.func172 (by kernel_rfl)
theorem ok211 : Okx 211 Tryz.f211 := okx Tryz.func211 (by kernel_rfl)
theorem ok166 : Okx 166 Tryz.f166 := okx Tryz.func166 (by kernel_rfl)
theorem ok136 : Okx 136 Tryz.f136 := okx Tryz.func136 (by kernel_rfl)
theorem ok135 : Okx 135 Tryz.f135 := okx Tryz.func135 (by kernel_rfl)
theorem ok92 : Okx 92 Tryz.f92 := okx Tryz.func92 (by kernel_rfl)
theorem ok91 : Okx 91 Tryz.f91 := okx Tryz.func91 (by kernel_rfl)
theorem ok27 : Okx 27 Tryz.f27 := okx Tryz.func27 (by kernel_rfl)
theorem ok18 : Okx 18 Tryz.f18 := okx Tryz.func18 (by kernel_rfl)
theorem ok23 : Okx 23 Tryz.f23 := okx Tryz.func23 (by kernel_rfl)
theorem ok26 : Okx 26 Tryz.f26 := okx Tryz.func26 (by kernel_rfl)
theorem ok48 : Okx 48 Tryz.f48 := okx Tryz.func48 (by kernel_rfl)
theorem ok90 : Okx 90 Tryz.f90 := okx Tryz.func90 (by kernel_rfl)
theorem ok89 : Okx 89 Tryz.f89 := okx Tryz.func89 (by kernel_rfl)
theorem ok49 : Okx 49 Tryz.f49 := okx Tryz.func49 (by kernel_rfl)
theorem ok88 : Okx 88 Tryz.f88 := okx Tryz.func88 (by kernel_rfl)
theorem ok133 : Okx 133 Tryz.f133 := okx Tryz.func133 (by kernel_rfl)
theorem ok169 : Okx 169 Tryz.f169 := okx Tryz.func169 (by kernel_rfl)
theorem ok210 : Okx 210 Tryz.f210 := okx Tryz.func210 (by kernel_rfl)
theorem ok168 : Okx 168 Tryz.f168 := okx Tryz.func168 (by kernel_rfl)
theorem ok209 : Okx 209 Tryz.f209 := okx Tryz.func209 (by kernel_rfl)
theorem ok208 : Okx 208 Tryz.f208 := okx Tryz.func208 (by kernel_rfl)
theorem ok167 : Okx 167 Tryz.f167 := okx Tryz.func167 (by kernel_rfl)
theorem ok207 : Okx 207 Tryz.f207 := okx Tryz.func207 (by kernel_rfl)
theorem ok134 : Okx 134 Tryz.f134 := okx Tryz.func134 (by kernel_rfl)
theorem ok170 : Okx 170 Tryz.f170 := okx Tryz.func170 (by kernel_rfl)
theorem ok47 : Okx 47 Tryz.f47 := okx Tryz.func47 (by kernel_rfl)
theorem ok87 : Okx 87 Tryz.f87 := okx Tryz.func87 (by kernel_rfl)
theorem ok86 : Okx 86 Tryz.f86 := okx Tryz.func86 (by kernel_rfl)
theorem ok132 : Okx 132 Tryz.f132 := okx Tryz.func132 (by kernel_rfl)
theorem ok130 : Okx 130 Tryz.f130 := okx Tryz.func130 (by kernel_rfl)
theorem ok129 : Okx 129 Tryz.f129 := okx Tryz.func129 (by kernel_rfl)
theorem ok128 : Okx 128 Tryz.f128 := okx Tryz.func128 (by kernel_rfl)
theorem ok159 : Okx 159 Tryz.f159 := okx Tryz.func159 (by kernel_rfl)
theorem ok160 : Okx 160 Tryz.f160 := okx Tryz.func160 (by kernel_rfl)
theorem ok37 : Okx 37 Tryz.f37 := okx Tryz.func37 (by kernel_rfl)
theorem ok201 : Okx 201 Tryz.f201 := okx Tryz.func201 (by kernel_rfl)
theorem ok38 : Okx 38 Tryz.f38 := okx Tryz.func38 (by kernel_rfl)
theorem ok67 : Okx 67 Tryz.f67 := okx Tryz.func67 (by kernel_rfl)
theorem ok158 : Okx 158 Tryz.f158 := okx Tryz.func158 (by kernel_rfl)
theorem ok200 : Okx 200 Tryz.f200 := okx Tryz.func200 (by kernel_rfl)
theorem ok239 : Okx 239 Tryz.f239 := okx Tryz.func239 (by kernel_rfl)
theorem ok277 : Okx 277 Tryz.f277 := okx Tryz.func277 (by kernel_rfl)
theorem ok299 : Okx 299 Tryz.f299 := okx Tryz.func299 (by kernel_rfl)
theorem ok238 : Okx 238 Tryz.f238 := okx Tryz.func238 (by kernel_rfl)
theorem ok157 : Okx 157 Tryz.f157 := okx Tryz.func157 (by kernel_rfl)
theorem ok155 : Okx 155 Tryz.f155 := okx Tryz.func155 (by kernel_rfl)
theorem ok196 : Okx 196 Tryz.f196 := okx Tryz.func196 (by kernel_rfl)
theorem ok236 : Okx 236 Tryz.f236 := okx Tryz.func236 (by kernel_rfl)
theorem ok150 : Okx 150 Tryz.f150 := okx Tryz.func150 (by kernel_rfl)
theorem ok195 : Okx 195 Tryz.f195 := okx Tryz.func195 (by kernel_rfl)
theorem ok123 : Okx 123 Tryz.f123 := okx Tryz.func123 (by kernel_rfl)
theorem ok46 : Okx 46 Tryz.f46 := okx Tryz.func46 (by kernel_rfl)
theorem ok85 : Okx 85 Tryz.f85 := okx Tryz.func85 (by kernel_rfl)
theorem ok41 : Okx 41 Tryz.f41 := okx Tryz.func41 (by kernel_rfl)
theorem ok68 : Okx 68 Tryz.f68 := okx Tryz.func68 (by kernel_rfl)
theorem ok25 : Okx 25 Tryz.f25 := okx Tryz.func25 (by kernel_rfl)
theorem ok43 : Okx 43 Tryz.f43 := okx Tryz.func43 (by kernel_rfl)
theorem ok76 : Okx 76 Tryz.f76 := okx Tryz.func76 (by kernel_rfl)
theorem ok39 : Okx 39 Tryz.f39 := okx Tryz.func39 (by kernel_rfl)
theorem ok75 : Okx 75 Tryz.f75 := okx Tryz.func75 (by kernel_rfl)
theorem ok35 : Okx 35 Tryz.f35 := okx Tryz.func35 (by kernel_rfl)
theorem ok66 : Okx 66 Tryz.f66 := okx Tryz.func66 (by kernel_rfl)
theorem ok117 : Okx 117 Tryz.f117 := okx Tryz.func117 (by kernel_rfl)
theorem ok148 : Okx 148 Tryz.f148 := okx Tryz.func148 (by kernel_rfl)
theorem ok183 : Okx 183 Tryz.f183 := okx Tryz.func183 (by kernel_rfl)
theorem ok116 : Okx 116 Tryz.f116 := okx Tryz.func116 (by kernel_rfl)
theorem ok74 : Okx 74 Tryz.f74 := okx Tryz.func74 (by kernel_rfl)
theorem ok45 : Okx 45 Tryz.f45 := okx Tryz.func45 (by kernel_rfl)
theorem ok71 : Okx 71 Tryz.f71 := okx Tryz.func71 (by kernel_rfl)
theorem ok84 : Okx 84 Tryz.f84 := okx Tryz.func84 (by kernel_rfl)
theorem ok83 : Okx 83 Tryz.f83 := okx Tryz.func83 (by kernel_rfl)
theorem ok69 : Okx 69 Tryz.f69 := okx Tryz.func69 (by kernel_rfl)
theorem ok118 : Okx 118 Tryz.f118 := okx Tryz.func118 (by kernel_rfl)
theorem ok82 : Okx 82 Tryz.f82 := okx Tryz.func82 (by kernel_rfl)
theorem ok79 : Okx 79 Tryz.f79 := okx Tryz.func79 (by kernel_rfl)
theorem ok122 : Okx 122 Tryz.f122 := okx Tryz.func122 (by kernel_rfl)
theorem ok44 : Okx 44 Tryz.f44 := okx Tryz.func44 (by kernel_rfl)
theorem ok81 : Okx 81 Tryz.f81 := okx Tryz.func81 (by kernel_rfl)
theorem ok80 : Okx 80 Tryz.f80 := okx Tryz.func80 (by kernel_rfl)
theorem ok77 : Okx 77 Tryz.f77 := okx Tryz.func77 (by kernel_rfl)
theorem ok42 : Okx 42 Tryz.f42 := okx Tryz.func42 (by kernel_rfl)
theorem ok73 : Okx 73 Tryz.f73 := okx Tryz.func73 (by kernel_rfl)
theorem ok72 : Okx 72 Tryz.f72 := okx Tryz.func72 (by kernel_rfl)
theorem ok119 : Okx 119 Tryz.f119 := okx Tryz.func119 (by kernel_rfl)
theorem ok120 : Okx 120 Tryz.f120 := okx Tryz.func120 (by kernel_rfl)
theorem ok70 : Okx 70 Tryz.f70 := okx Tryz.func70 (by kernel_rfl)
theorem ok24 : Okx 24 Tryz.f24 := okx Tryz.func24 (by kernel_rfl)
theorem ok40 : Okx 40 Tryz.f40 := okx Tryz.func40 (by kernel_rfl)
theorem ok36 : Okx 36 Tryz.f36 := okx Tryz.func36 (by kernel_rfl)
theorem ok65 : Okx 65 Tryz.f65 := okx Tryz.func65 (by kernel_rfl)
theorem ok115 : Okx 115 Tryz.f115 := okx Tryz.func115 (by kernel_rfl)
theorem ok64 : Okx 64 Tryz.f64 := okx Tryz.func64 (by kernel_rfl)
theorem ok108 : Okx 108 Tryz.f108 := okx Tryz.func108 (by kernel_rfl)
theorem ok114 : Okx 114 Tryz.f114 := okx Tryz.func114 (by kernel_rfl)
theorem ok147 : Okx 147 Tryz.f147 := okx Tryz.func147 (by kernel_rfl)
theorem ok143 : Okx 143 Tryz.f143 := okx Tryz.func143 (by kernel_rfl)
theorem ok146 : Okx 146 Tryz.f146 := okx Tryz.func146 (by kernel_rfl)
theorem ok219 : Okx 219 Tryz.f219 := okx Tryz.func219 (by kernel_rfl)
theorem ok264 : Okx 264 Tryz.f264 := okx Tryz.func264 (by kernel_rfl)
theorem ok261 : Okx 261 Tryz.f261 := okx Tryz.func261 (by kernel_rfl)
theorem ok297 : Okx 297 Tryz.f297 := okx Tryz.func297 (by kernel_rfl)
theorem ok257 : Okx 257 Tryz.f257 := okx Tryz.func257 (by kernel_rfl)
theorem ok291 : Okx 291 Tryz.f291 := okx Tryz.func291 (by kernel_rfl)
theorem ok251 : Okx 251 Tryz.f251 := okx Tryz.func251 (by kernel_rfl)
theorem ok294 : Okx 294 Tryz.f294 := okx Tryz.func294 (by kernel_rfl)
theorem ok180 : Okx 180 Tryz.f180 := okx Tryz.func180 (by kernel_rfl)
theorem ok217 : Okx 217 Tryz.f217 := okx Tryz.func217 (by kernel_rfl)
theorem ok249 : Okx 249 Tryz.f249 := okx Tryz.func249 (by kernel_rfl)
theorem ok289 : Okx 289 Tryz.f289 := okx Tryz.func289 (by kernel_rfl)
theorem ok288 : Okx 288 Tryz.f288 := okx Tryz.func288 (by kernel_rfl)
theorem ok250 : Okx 250 Tryz.f250 := okx Tryz.func250 (by kernel_rfl)
theorem ok290 : Okx 290 Tryz.f290 := okx Tryz.func290 (by kernel_rfl)
theorem ok309 : Okx 309 Tryz.f309 := okx Tryz.func309 (by kernel_rfl)
theorem ok308 : Okx 308 Tryz.f308 := okx Tryz.func308 (by kernel_rfl)
theorem ok307 : Okx 307 Tryz.f307 := okx Tryz.func307 (by kernel_rfl)
theorem ok256 : Okx 256 Tryz.f256 := okx Tryz.func256 (by kernel_rfl)
theorem ok177 : Okx 177 Tryz.f177 := okx Tryz.func177 (by kernel_rfl)
theorem ok216 : Okx 216 Tryz.f216 := okx Tryz.func216 (by kernel_rfl)
theorem ok248 : Okx 248 Tryz.f248 := okx Tryz.func248 (by kernel_rfl)
theorem ok287 : Okx 287 Tryz.f287 := okx Tryz.func287 (by kernel_rfl)
theorem ok306 : Okx 306 Tryz.f306 := okx Tryz.func306 (by kernel_rfl)
theorem ok317 : Okx 317 Tryz.f317 := okx Tryz.func317 (by kernel_rfl)
theorem ok319 : Okx 319 Tryz.f319 := okx Tryz.func319 (by kernel_rfl)
theorem ok318 : Okx 318 Tryz.f318 := okx Tryz.func318 (by kernel_rfl)
theorem ok316 : Okx 316 Tryz.f316 := okx Tryz.func316 (by kernel_rfl)
theorem ok305 : Okx 305 Tryz.f305 := okx Tryz.func305 (by kernel_rfl)
theorem ok304 : Okx 304 Tryz.f304 := okx Tryz.func304 (by kernel_rfl)
theorem ok315 : Okx 315 Tryz.f315 := okx Tryz.func315 (by kernel_rfl)
theorem ok314 : Okx 314 Tryz.f314 := okx Tryz.func314 (by kernel_rfl)
theorem ok303 : Okx 303 Tryz.f303 := okx Tryz.func303 (by kernel_rfl)
theorem ok214 : Okx 214 Tryz.f214 := okx Tryz.func214 (by kernel_rfl)
theorem ok245 : Okx 245 Tryz.f245 := okx Tryz.func245 (by kernel_rfl)
theorem ok139 : Okx 139 Tryz.f139 := okx Tryz.func139 (by kernel_rfl)
theorem ok252 : Okx 252 Tryz.f252 := okx Tryz.func252 (by kernel_rfl)
theorem ok255 : Okx 255 Tryz.f255 := okx Tryz.func255 (by kernel_rfl)
theorem ok296 : Okx 296 Tryz.f296 := okx Tryz.func296 (by kernel_rfl)
theorem ok259 : Okx 259 Tryz.f259 := okx Tryz.func259 (by kernel_rfl)
theorem ok263 : Okx 263 Tryz.f263 := okx Tryz.func263 (by kernel_rfl)
theorem ok292 : Okx 292 Tryz.f292 := okx Tryz.func292 (by kernel_rfl)
theorem ok310 : Okx 310 Tryz.f310 := okx Tryz.func310 (by kernel_rfl)
theorem ok244 : Okx 244 Tryz.f244 := okx Tryz.func244 (by kernel_rfl)
theorem ok293 : Okx 293 Tryz.f293 := okx Tryz.func293 (by kernel_rfl)
theorem ok262 : Okx 262 Tryz.f262 := okx Tryz.func262 (by kernel_rfl)
theorem ok295 : Okx 295 Tryz.f295 := okx Tryz.func295 (by kernel_rfl)
theorem ok260 : Okx 260 Tryz.f260 := okx Tryz.func260 (by kernel_rfl)
theorem ok179 : Okx 179 Tryz.f179 := okx Tryz.func179 (by kernel_rfl)
theorem ok258 : Okx 258 Tryz.f258 := okx Tryz.func258 (by kernel_rfl)
theorem ok178 : Okx 178 Tryz.f178 := okx Tryz.func178 (by kernel_rfl)
theorem ok254 : Okx 254 Tryz.f254 := okx Tryz.func254 (by kernel_rfl)
theorem ok253 : Okx 253 Tryz.f253 := okx Tryz.func253 (by kernel_rfl)
theorem ok145 : Okx 145 Tryz.f145 := okx Tryz.func145 (by kernel_rfl)
theorem ok111 : Okx 111 Tryz.f111 := okx Tryz.func111 (by kernel_rfl)
theorem ok181 : Okx 181 Tryz.f181 := okx Tryz.func181 (by kernel_rfl)
theorem ok110 : Okx 110 Tryz.f110 := okx Tryz.func110 (by kernel_rfl)
theorem ok113 : Okx 113 Tryz.f113 := okx Tryz.func113 (by kernel_rfl)
theorem ok144 : Okx 144 Tryz.f144 := okx Tryz.func144 (by kernel_rfl)
theorem ok109 : Okx 109 Tryz.f109 := okx Tryz.func109 (by kernel_rfl)
theorem ok102 : Okx 102 Tryz.f102 := okx Tryz.func102 (by kernel_rfl)
theorem ok142 : Okx 142 Tryz.f142 := okx Tryz.func142 (by kernel_rfl)
theorem ok176 : Okx 176 Tryz.f176 := okx Tryz.func176 (by kernel_rfl)
theorem ok213 : Okx 213 Tryz.f213 := okx Tryz.func213 (by kernel_rfl)
theorem ok112 : Okx 112 Tryz.f112 := okx Tryz.func112 (by kernel_rfl)
theorem ok33 : Okx 33 Tryz.f33 := okx Tryz.func33 (by kernel_rfl)
theorem ok62 : Okx 62 Tryz.f62 := okx Tryz.func62 (by kernel_rfl)
theorem ok103 : Okx 103 Tryz.f103 := okx Tryz.func103 (by kernel_rfl)
theorem ok107 : Okx 107 Tryz.f107 := okx Tryz.func107 (by kernel_rfl)
theorem ok105 : Okx 105 Tryz.f105 := okx Tryz.func105 (by kernel_rfl)
theorem ok141 : Okx 141 Tryz.f141 := okx Tryz.func141 (by kernel_rfl)
theorem ok175 : Okx 175 Tryz.f175 := okx Tryz.func175 (by kernel_rfl)
theorem ok101 : Okx 101 Tryz.f101 := okx Tryz.func101 (by kernel_rfl)
theorem ok106 : Okx 106 Tryz.f106 := okx Tryz.func106 (by kernel_rfl)
theorem ok104 : Okx 104 Tryz.f104 := okx Tryz.func104 (by kernel_rfl)
theorem ok140 : Okx 140 Tryz.f140 := okx Tryz.func140 (by kernel_rfl)
theorem ok100 : Okx 100 Tryz.f100 := okx Tryz.func100 (by kernel_rfl)
theorem ok6 : EntryOk prog 6 (.code ir6) := ⟨Tryz.f6, Tryz.func6, by kernel_rfl, by kernel_rfl⟩
theorem ok9 : EntryOk prog 9 (.code ir9) := ⟨Tryz.f9, Tryz.func9, by kernel_rfl, by kernel_rfl⟩
theorem ok14 : EntryOk prog 14 (.code ir14) := ⟨Tryz.f14, Tryz.func14, by kernel_rfl, by kernel_rfl⟩
theorem ok22 : EntryOk prog 22 (.code ir22) := ⟨Tryz.f22, Tryz.func22, by kernel_rfl, by kernel_rfl⟩
theorem ok21 : EntryOk prog 21 (.code ir21) := ⟨Tryz.f21, Tryz.func21, by kernel_rfl, by kernel_rfl⟩
theorem ok31 : EntryOk prog 31 (.code ir31) := ⟨Tryz.f31, Tryz.func31, by kernel_rfl, by kernel_rfl⟩
theorem ok59 : EntryOk prog 59 (.code ir59) := ⟨Tryz.f59, Tryz.func59, by kernel_rfl, by kernel_rfl⟩
theorem ok57 : EntryOk prog 57 (.code ir57) := ⟨Tryz.f57, Tryz.func57, by kernel_rfl, by kernel_rfl⟩
theorem ok99 : EntryOk prog 99 (.code ir99) := ⟨Tryz.f99, Tryz.func99, by kernel_rfl, by kernel_rfl⟩
theorem ok58 : EntryOk prog 58 (.code ir58) := ⟨Tryz.f58, Tryz.func58, by kernel_rfl, by kernel_rfl⟩
theorem ok56 : EntryOk prog 56 (.code ir56) := ⟨Tryz.f56, Tryz.func56, by kernel_rfl, by kernel_rfl⟩
theorem ok55 : EntryOk prog 55 (.code ir55) := ⟨Tryz.f55, Tryz.func55, by kernel_rfl, by kernel_rfl⟩
theorem ok54 : EntryOk prog 54 (.code ir54) := ⟨Tryz.f54, Tryz.func54, by kernel_rfl, by kernel_rfl⟩
theorem ok98 : EntryOk prog 98 (.code ir98) := ⟨Tryz.f98, Tryz.func98, by kernel_rfl, by kernel_rfl⟩
theorem ok138 : EntryOk prog 138 (.code ir138) := ⟨Tryz.f138, Tryz.func138, by kernel_rfl, by kernel_rfl⟩
theorem ok97 : EntryOk prog 97 (.code ir97) := ⟨Tryz.f97, Tryz.func97, by kernel_rfl, by kernel_rfl⟩
theorem ok53 : EntryOk prog 53 (.code ir53) := ⟨Tryz.f53, Tryz.func53, by kernel_rfl, by kernel_rfl⟩
theorem ok96 : EntryOk prog 96 (.code ir96) := ⟨Tryz.f96, Tryz.func96, by kernel_rfl, by kernel_rfl⟩
theorem ok95 : EntryOk prog 95 (.code ir95) := ⟨Tryz.f95, Tryz.func95, by kernel_rfl, by kernel_rfl⟩
theorem ok32 : EntryOk prog 32 (.code ir32) := ⟨Tryz.f32, Tryz.func32, by kernel_rfl, by kernel_rfl⟩
theorem ok61 : EntryOk prog 61 (.code ir61) := ⟨Tryz.f61, Tryz.func61, by kernel_rfl, by kernel_rfl⟩
theorem ok52 : EntryOk prog 52 (.code ir52) := ⟨Tryz.f52, Tryz.func52, by kernel_rfl, by kernel_rfl⟩
theorem ok94 : EntryOk prog 94 (.code ir94) := ⟨Tryz.f94, Tryz.func94, by kernel_rfl, by kernel_rfl⟩
theorem ok51 : EntryOk prog 51 (.code ir51) := ⟨Tryz.f51, Tryz.func51, by kernel_rfl, by kernel_rfl⟩
theorem ok20 : EntryOk prog 20 (.code ir20) := ⟨Tryz.f20, Tryz.func20, by kernel_rfl, by kernel_rfl⟩
theorem ok7 : EntryOk prog 7 (.code ir7) := ⟨Tryz.f7, Tryz.func7, by kernel_rfl, by kernel_rfl⟩
theorem oke174 : EntryOk prog 174 (.ext .indexByte) := ext_hook (fn := Tryz.f174) ⟨Tryz.func174, by kernel_rfl, by kernel_rfl, by kernel_rfl, by kernel_rfl⟩ ext_indexByte
theorem allLaw : AllOk prog lawCode := .cons ok5 (.cons ok6 (.cons ok9 (.cons ok14 (.cons ok22 (.cons ok21 (.cons ok31 (.cons ok59 (.cons ok57 (.cons ok99 (.cons ok58 (.cons ok56 (.cons ok55 (.cons ok54 (.cons ok98 (.cons ok138 (.cons ok97 (.cons ok53 (.cons ok96 (.cons ok95 (.cons ok32 (.cons ok61 (.cons ok60 (.cons ok52 (.cons ok94 (.cons ok51 (.cons ok20 (.cons ok7 (.cons ok13 (.cons ok19 (.cons ok30 (.cons ok29 (.cons ok28 (.cons ok50 (.cons ok93 (.cons ok126 (.cons ok125 (.cons ok127 (.cons ok154 (.cons ok186 (.cons ok222 (.cons ok274 (.cons ok221 (.cons ok187 (.cons ok191 (.cons ok229 (.cons ok275 (.cons ok149 (.cons ok184 (.cons ok220 (.cons ok265 (.cons ok298 (.cons ok311 (.cons ok223 (.cons ok268 (.cons ok272 (.cons ok273 (.cons ok266 (.cons ok270 (.cons ok269 (.cons ok267 (.cons ok271 (.cons ok228 (.cons ok151 (.cons ok227 (.cons ok156 (.cons ok198 (.cons ok205 (.cons ok124 (.cons ok152 (.cons ok131 (.cons ok164 (.cons ok165 (.cons ok161 (.cons ok202 (.cons ok163 (.cons ok162 (.cons ok204 (.cons ok242 (.cons ok206 (.cons ok237 (.cons ok241 (.cons ok185 (.cons ok279 (.cons ok203 (.cons ok197 (.cons ok240 (.cons ok278 (.cons ok153 (.cons ok189 (.cons ok226 (.cons ok188 (.cons ok224 (.cons ok225 (.cons ok199 (.cons ok193 (.cons ok194 (.cons ok235 (.cons ok233 (.cons ok234 (.cons ok232 (.cons ok192 (.cons ok230 (.cons ok231 (.cons ok276 (.cons ok190 (.cons ok137 (.cons ok173 (.cons ok212 (.cons ok243 (.cons ok281 (.cons ok280 (.cons ok78 (.cons ok121 (.cons ok171 (.cons ok172 (.cons ok211 (.cons ok166 (.cons ok136 (.cons ok135 (.cons ok92 (.cons ok91 (.cons ok27 (.cons ok18 (.cons ok23 (.cons ok26 (.cons ok48 (.cons ok90 (.cons ok89 (.cons ok49 (.cons ok88 (.cons ok133 (.cons ok169 (.cons ok210 (.cons ok168 (.cons ok209 (.cons ok208 (.cons ok167 (.cons ok207 (.cons ok134 (.cons ok170 (.cons ok47 (.cons ok87 (.cons ok86 (.cons ok132 (.cons ok130 (.cons ok129 (.cons ok128 (.cons ok159 (.cons ok160 (.cons ok37 (.cons ok201 (.cons ok38 (.cons ok67 (.cons ok158 (.cons ok200 (.cons ok239 (.cons ok277 (.cons ok299 (.cons ok238 (.cons ok157 (.cons ok155 (.cons ok196 (.cons ok236 (.cons ok150 (.cons ok195 (.cons ok123 (.cons ok46 (.cons ok85 (.cons ok41 (.cons ok68 (.cons ok25 (.cons ok43 (.cons ok76 (.cons ok39 (.cons ok75 (.cons ok35 (.cons ok66 (.cons ok117 (.cons ok148 (.cons ok183 (.cons ok116 (.cons ok74 (.cons ok45 (.cons ok71 (.cons ok84 (.cons ok83 (.cons ok69 (.cons ok118 (.cons ok82 (.cons ok79 (.cons ok122 (.cons ok44 (.cons ok81 (.cons ok80 (.cons ok77 (.cons ok42 (.cons ok73 (.cons ok72 (.cons ok119 (.cons ok120 (.cons ok70 (.cons ok24 (.cons ok40 (.cons ok36 (.cons ok65 (.cons ok115 (.cons ok64 (.cons ok108 (.cons ok114 (.cons ok147 (.cons ok143 (.cons ok146 (.cons ok219 (.cons ok264 (.cons ok261 (.cons ok297 (.cons ok257 (.cons ok291 (.cons ok251 (.cons ok294 (.cons ok180 (.cons ok217 (.cons ok249 (.cons ok289 (.cons ok288 (.cons ok250 (.cons ok290 (.cons ok309 (.cons ok308 (.cons ok307 (.cons ok256 (.cons ok177 (.cons ok216 (.cons ok248 (.cons ok287 (.cons ok306 (.cons ok317 (.cons ok319 (.cons ok318 (.cons ok316 (.cons ok305 (.cons ok304 (.cons ok315 (.cons ok314 (.cons ok303 (.cons ok214 (.cons ok245 (.cons ok139 (.cons ok252 (.cons ok255 (.cons ok296 (.cons ok259 (.cons ok263 (.cons ok292 (.cons ok310 (.cons ok244 (.cons ok293 (.cons ok262 (.cons ok295 (.cons ok260 (.cons ok179 (.cons ok258 (.cons ok178 (.cons ok254 (.cons ok253 (.cons ok145 (.cons ok111 (.cons ok181 (.cons ok110 (.cons ok113 (.cons ok144 (.cons ok109 (.cons ok102 (.cons ok142 (.cons ok176 (.cons ok213 (.cons ok112 (.cons ok33 (.cons ok62 (.cons ok103 (.cons ok107 (.cons ok105 (.cons ok141 (.cons ok175 (.cons ok101 (.cons ok106 (.cons ok104 (.cons ok140 (.cons ok100 (.nil))))))))))))))))))))))))))))))))))))))))))))))))))))))))))))))))))))))))))))))))))))))))))))))))))))))))))))))))))))))))))))))))))))))))))))))))))))))))))))))))))))))))))))))))))))))))))))))))))))))))))))))))))))))))))))))))))))))))))))))))))))))))))))))))))))))))))))))))))))))))))))))))))
theorem allExt : AllOk prog lawExt := .cons oke174 (.nil)
theorem all0 : AllOk prog0 instCode := .nil
theorem mixed : prog.follows .mixedOrders = true := by kernel_rfl
theorem mixed0 : prog0.follows .mixedOrders = true := by kernel_rfl
theorem globs {h : List AV → St → Option (AV × St)} {f : Nat} (e : EntryOk2 prog0 f (.hook h)) : EntryOk2 prog f (.hook h) := by
  cases e with
  | old e => exact e.elim
  | hook a b =>
    exact .hook (fun args s r e1 e2 φ w c hg => a args s r e1 e2 φ w c (fun g hg' => by cases hg')) b
theorem lawHooks_ok : AllOk2 prog lawHooks := .nil
def Tryz.layAtoi_ren : Go.Shelf.Ren := ⟨fun | 172 => 215 | 244 => 246 | 245 => 247 | 247 => 282 | 279 => 283 | 280 => 284 | 281 => 285 | 282 => 286 | 287 => 300 | 316 => 301 | 171 => 216 | 205 => 302 | 321 => 312 | 322 => 313 | 243 => 248 | 246 => 287 | 283 => 303 | 284 => 304 | 285 => 305 | 286 => 306 | 129 => 61 | 317 => 314 | 318 => 315 | 319 => 316 | 320 => 317 | 337 => 318 | 338 => 319 | n => n, fun | 9 => 9 | 3 => 3 | 75 => 345 | 76 => 346 | 4 => 4 | 5 => 5 | 167 => 400 | 37 => 41 | 0 => 0 | 85 => 401 | 2 => 2 | 168 => 403 | 53 => 142 | 175 => 411 | 46 => 87 | 210 => 414 | 127 => 423 | 145 => 426 | 143 => 424 | 21 => 21 | 171 => 416 | 173 => 418 | 212 => 429 | 51 => 23 | 20 => 20 | 213 => 430 | 232 => 431 | 233 => 432 | 80 => 381 | n => n, fun | 15 => 6 | 16 => 7 | 17 => 8 | 18 => 9 | 19 => 10 | n => n⟩
theorem Tryz.layAtoi : Go.Proofs.LaysC.n172 Tryz.prog Tryz.layAtoi_ren where
  mixed := by kernel_rfl
  f129 := Tryz.func61.trans (congrArg some (by kernel_rfl))
  f171 := Tryz.func216.trans (congrArg some (by kernel_rfl))
  f172 := Tryz.func215.trans (congrArg some (by kernel_rfl))
  f205 := Tryz.func302.trans (congrArg some (by kernel_rfl))
  f243 := Tryz.func248.trans (congrArg some (by kernel_rfl))
  f244 := Tryz.func246.trans (congrArg some (by kernel_rfl))
  f245 := Tryz.func247.trans (congrArg some (by kernel_rfl))
  f246 := Tryz.func287.trans (congrArg some (by kernel_rfl))
  f247 := Tryz.func282.trans (congrArg some (by kernel_rfl))
  f279 := Tryz.func283.trans (congrArg some (by kernel_rfl))
  f280 := Tryz.func284.trans (congrArg some (by kernel_rfl))
  f281 := Tryz.func285.trans (congrArg some (by kernel_rfl))
  f282 := Tryz.func286.trans (congrArg some (by kernel_rfl))
  f283 := Tryz.func303.trans (congrArg some (by kernel_rfl))
  f284 := Tryz.func304.trans (congrArg some (by kernel_rfl))
  f285 := Tryz.func305.trans (congrArg some (by kernel_rfl))
  f286 := Tryz.func306.trans (congrArg some (by kernel_rfl))
  f287 := Tryz.func300.trans (congrArg some (by kernel_rfl))
  f316 := Tryz.func301.trans (congrArg some (by kernel_rfl))
  f317 := Tryz.func314.trans (congrArg some (by kernel_rfl))
  f318 := Tryz.func315.trans (congrArg some (by kernel_rfl))
  f319 := Tryz.func316.trans (congrArg some (by kernel_rfl))
  f320 := Tryz.func317.trans (congrArg some (by kernel_rfl))
  f321 := Tryz.func312.trans (congrArg some (by kernel_rfl))
  f322 := Tryz.func313.trans (congrArg some (by kernel_rfl))
  f337 := Tryz.func318.trans (congrArg some (by kernel_rfl))
  f338 := Tryz.func319.trans (congrArg some (by kernel_rfl))
  t0 := Tryz.underlying0
  a0 := Tryz.isAgg0
  z0 := Tryz.sizeOf0
  v0 := Tryz.zeroValue0
  t2 := Tryz.underlying2
  a2 := Tryz.isAgg2
  z2 := Tryz.sizeOf2
  v2 := Tryz.zeroValue2
  t3 := Tryz.underlying3
  a3 := Tryz.isAgg3
  z3 := Tryz.sizeOf3
  v3 := Tryz.zeroValue3
  t4 := Tryz.underlying4
  a4 := Tryz.isAgg4
  z4 := Tryz.sizeOf4
  v4 := Tryz.zeroValue4
  t5 := Tryz.underlying5
  a5 := Tryz.isAgg5
  z5 := Tryz.sizeOf5
  v5 := Tryz.zeroValue5
  t9 := Tryz.underlying9
  a9 := Tryz.isAgg9
  z9 := Tryz.sizeOf9
  v9 := Tryz.zeroValue9
  t20 := Tryz.underlying20
  a20 := Tryz.isAgg20
  z20 := Tryz.sizeOf20
  v20 := Tryz.zeroValue20
  t21 := Tryz.underlying21
  a21 := Tryz.isAgg21
  z21 := Tryz.sizeOf21
  v21 := Tryz.zeroValue21
  t37 := Tryz.underlying41
  a37 := Tryz.isAgg41
  z37 := Tryz.sizeOf41
  v37 := Tryz.zeroValue41
  t46 := Tryz.underlying87
  a46 := Tryz.isAgg87
  z46 := Tryz.sizeOf87
  v46 := Tryz.zeroValue87
  t51 := Tryz.underlying23
  a51 := Tryz.isAgg23
  z51 := Tryz.sizeOf23
  v51 := Tryz.zeroValue23
  t53 := Tryz.underlying142
  a53 := Tryz.isAgg142
  z53 := Tryz.sizeOf142
  v53 := Tryz.zeroValue142
  t75 := Tryz.underlying345
  a75 := Tryz.isAgg345
  z75 := Tryz.sizeOf345
  v75 := Tryz.zeroValue345
  t76 := Tryz.underlying346
  a76 := Tryz.isAgg346
  z76 := Tryz.sizeOf346
  v76 := Tryz.zeroValue346
  t85 := Tryz.underlying401
  a85 := Tryz.isAgg401
  z85 := Tryz.sizeOf401
  v85 := Tryz.zeroValue401
  t127 := Tryz.underlying423
  a127 := Tryz.isAgg423
  z127 := Tryz.sizeOf423
  v127 := Tryz.zeroValue423
  t143 := Tryz.underlying424
  a143 := Tryz.isAgg424
  z143 := Tryz.sizeOf424
  v143 := Tryz.zeroValue424
  t145 := Tryz.underlying426
  a145 := Tryz.isAgg426
  z145 := Tryz.sizeOf426
  v145 := Tryz.zeroValue426
  t167 := Tryz.underlying400
  a167 := Tryz.isAgg400
  z167 := Tryz.sizeOf400
  v167 := Tryz.zeroValue400
  t168 := Tryz.underlying403
  a168 := Tryz.isAgg403
  z168 := Tryz.sizeOf403
  v168 := Tryz.zeroValue403
  t171 := Tryz.underlying416
  a171 := Tryz.isAgg416
  z171 := Tryz.sizeOf416
  v171 := Tryz.zeroValue416
  t173 := Tryz.underlying418
  a173 := Tryz.isAgg418
  z173 := Tryz.sizeOf418
  v173 := Tryz.zeroValue418
  t175 := Tryz.underlying411
  a175 := Tryz.isAgg411
  z175 := Tryz.sizeOf411
  v175 := Tryz.zeroValue411
  t210 := Tryz.underlying414
  a210 := Tryz.isAgg414
  z210 := Tryz.sizeOf414
  v210 := Tryz.zeroValue414
  t212 := Tryz.underlying429
  a212 := Tryz.isAgg429
  z212 := Tryz.sizeOf429
  v212 := Tryz.zeroValue429
  t213 := Tryz.underlying430
  a213 := Tryz.isAgg430
  z213 := Tryz.sizeOf430
  t232 := Tryz.underlying431
  a232 := Tryz.isAgg431
  z232 := Tryz.sizeOf431
  v232 := Tryz.zeroValue431
  t233 := Tryz.underlying432
  a233 := Tryz.isAgg432
  z233 := Tryz.sizeOf432
  v233 := Tryz.zeroValue432
  g15 := by kernel_rfl
  g16 := by kernel_rfl
  g17 := by kernel_rfl
  g18 := by kernel_rfl
  g19 := by kernel_rfl
  t80 := Tryz.underlying381
  a80 := Tryz.isAgg381
  z80 := Tryz.sizeOf381
  v80 := Tryz.zeroValue381
  i0 := by kernel_rfl
  i2 := by kernel_rfl
  i3 := by kernel_rfl
  i4 := by kernel_rfl
  i5 := by kernel_rfl
  i9 := by kernel_rfl
  i20 := by kernel_rfl
  i21 := by kernel_rfl
  i37 := by kernel_rfl
  i46 := by kernel_rfl
  i51 := by kernel_rfl
  i53 := by kernel_rfl
  i75 := by kernel_rfl
  i76 := by kernel_rfl
  i80 := by kernel_rfl
  i85 := by kernel_rfl
  i127 := by kernel_rfl
  i143 := by kernel_rfl
  i145 := by kernel_rfl
  i167 := by kernel_rfl
  i168 := by kernel_rfl
  i171 := by kernel_rfl
  i173 := by kernel_rfl
  i175 := by kernel_rfl
  i210 := by kernel_rfl
  i212 := by kernel_rfl
  i232 := by kernel_rfl
  i233 := by kernel_rfl
  m15 := by kernel_rfl
  m16 := by kernel_rfl
  m17 := by kernel_rfl
  m18 := by kernel_rfl
  m19 := by kernel_rfl
  c0 := by kernel_rfl
  c2 := by kernel_rfl
  c3 := by kernel_rfl
  c4 := by kernel_rfl
  c5 := by kernel_rfl
  c9 := by kernel_rfl
  c20 := by kernel_rfl
  c21 := by kernel_rfl
  c37 := by kernel_rfl
  c46 := by kernel_rfl
  c51 := by kernel_rfl
  c53 := by kernel_rfl
  c75 := by kernel_rfl
  c76 := by kernel_rfl
  c80 := by kernel_rfl
  c85 := by kernel_rfl
  c127 := by kernel_rfl
  c143 := by kernel_rfl
  c145 := by kernel_rfl
  c167 := by kernel_rfl
  c168 := by kernel_rfl
  c171 := by kernel_rfl
  c173 := by kernel_rfl
  c175 := by kernel_rfl
  c210 := by kernel_rfl
  c212 := by kernel_rfl
  c213 := by kernel_rfl
  c232 := by kernel_rfl
  c233 := by kernel_rfl
theorem enter215 : ∀ (args : Array Value) (w : World), (callFunc 215 args).run prog.toProgram w = .ok (.enter 215 args) w := fun args w => by
  have e1 : prog.toProgram.funcs[215]? = some Tryz.f215 := Tryz.func215
  have e2 : (Tryz.f215.name == "runtime.NumGoroutine") = false := by kernel_rfl
  have e3 : Tryz.f215.body.isSome = true := by kernel_rfl
  obtain ⟨c, e4⟩ := Option.isSome_iff_exists.1 e3
  simp only [beq_eq_false_iff_ne, ne_eq] at e2
  simp [callFunc, e1, e2, e4]
theorem ok2x215 : EntryOk2 prog 215 (.hook (atoiH 6 7 403)) := .hook (atoi_ok (P := prog) Tryz.layAtoi enter215 (by decide) (by kernel_rfl) (by decide) (by kernel_rfl)) (fun args s => atoi_tame _ _ _ args s)
theorem h2_ok : AllOk2 prog lawH2 := .cons ok2x215 (.nil)
theorem ok_l0 : AllOk2 prog tl0 := AllOk2.app allLaw (AllOk2.app allExt (AllOk2.app2 h2_ok lawHooks_ok))
theorem gl_pre : ∀ g, g ∈ prog.G → memoPre[g]? = some g ∧ g ∈ prog.G := fun g hg => ⟨(by decide : ∀ g ∈ ([0, 1, 2, 3, 4, 8, 9, 10, 6, 7] : List Nat), memoPre[g]? = some g) g hg, hg⟩
theorem ok_l1 : AllOk2 prog tl1 := .cons (EntryOk2.memoA (P0 := prog) mixed rfl gl_pre (AllOk2.fine ok_l0) 100000 177 tbl177 (by rw [← tabT_eq tr0_ok]; exact all177)) ok_l0
theorem ok_l2 : AllOk2 prog tl2 := .cons (EntryOk2.dfr (P := prog) (T := tabT tr1) (F := Tryz.f182) (G := Tryz.f218) mixed (by rw [tabT_eq tr1_ok]; exact AllOk2.fine ok_l1) 100000 (by kernel_rfl) Tryz.func182 (by kernel_rfl) Tryz.func218 (by kernel_rfl) (by kernel_rfl)) ok_l1
theorem ok_l3 : AllOk2 prog tl3 := .cons (EntryOk2.memoA (P0 := prog) mixed rfl gl_pre (AllOk2.fine ok_l2) 100000 182 tbl182 (by rw [← tabT_eq tr2_ok]; exact all182)) ok_l2
theorem ok_l4 : AllOk2 prog tl4 := .cons (EntryOk2.memoA (P0 := prog) mixed rfl gl_pre (AllOk2.fine ok_l3) 100000 33 tbl33 (by rw [← tabT_eq tr3_ok]; exact all33)) ok_l3
theorem ok_l5 : AllOk2 prog tl5 := .cons (EntryOk2.dfr (P := prog) (T := tabT tr4) (F := Tryz.f34) (G := Tryz.f63) mixed (by rw [tabT_eq tr4_ok]; exact AllOk2.fine ok_l4) 100000 (by kernel_rfl) Tryz.func34 (by kernel_rfl) Tryz.func63 (by kernel_rfl) (by kernel_rfl)) ok_l4
theorem ok_l6 : AllOk2 prog tl6 := .cons (EntryOk2.memoA (P0 := prog) mixed rfl gl_pre (AllOk2.fine ok_l5) 100000 24 tbl24 (by rw [← tabT_eq tr5_ok]; exact all24)) ok_l5
theorem ok_l7 : AllOk2 prog tl7 := .cons (EntryOk2.memoA (P0 := prog) mixed rfl gl_pre (AllOk2.fine ok_l6) 100000 220 tbl220 (by rw [← tabT_eq tr6_ok]; exact all220)) ok_l6
theorem ok_l8 : AllOk2 prog tl8 := .cons (EntryOk2.memoA (P0 := prog) mixed rfl gl_pre (AllOk2.fine ok_l7) 100000 156 tbl156 (by rw [← tabT_eq tr7_ok]; exact all156)) ok_l7
theorem ok_l9 : AllOk2 prog tl9 := .cons (EntryOk2.memoA (P0 := prog) mixed rfl gl_pre (AllOk2.fine ok_l8) 100000 126 tbl126 (by rw [← tabT_eq tr8_ok]; exact all126)) ok_l8
theorem ok_l10 : AllOk2 prog tl10 := .cons (EntryOk2.memoA (P0 := prog) mixed rfl gl_pre (AllOk2.fine ok_l9) 100000 82 tbl82 (by rw [← tabT_eq tr9_ok]; exact all82)) ok_l9
theorem ok_l11 : AllOk2 prog tl11 := .cons (EntryOk2.memoA (P0 := prog) mixed rfl gl_pre (AllOk2.fine ok_l10) 100000 25 tbl25 (by rw [← tabT_eq tr10_ok]; exact all25)) ok_l10
theorem ok_l12 : AllOk2 prog tl12 := .cons (EntryOk2.memoA (P0 := prog) mixed rfl gl_pre (AllOk2.fine ok_l11) 100000 18 tbl18 (by rw [← tabT_eq tr11_ok]; exact all18)) ok_l11
theorem ok_l13 : AllOk2 prog tl13 := .cons (EntryOk2.memoA (P0 := prog) mixed rfl gl_pre (AllOk2.fine ok_l12) 100000 93 tbl93 (by rw [← tabT_eq tr12_ok]; exact all93)) ok_l12
theorem ok_l14 : AllOk2 prog tl14 := .cons (EntryOk2.memoA (P0 := prog) mixed rfl gl_pre (AllOk2.fine ok_l13) 100000 19 tbl19 (by rw [← tabT_eq tr13_ok]; exact all19)) ok_l13
theorem ok_l15 : AllOk2 prog tl15 := .cons (EntryOk2.memoA (P0 := prog) mixed rfl gl_pre (AllOk2.fine ok_l14) 100000 13 tbl13 (by rw [← tabT_eq tr14_ok]; exact all13)) ok_l14
theorem ok_l16 : AllOk2 prog tl16 := .cons (EntryOk2.memoA (P0 := prog) mixed rfl gl_pre (AllOk2.fine ok_l15) 100000 5 tbl5 (by rw [← tabT_eq tr15_ok]; exact all5)) ok_l15
theorem fine_law : TabFine prog (tabT tr16) := by rw [tabT_eq tr16_ok]; exact AllOk2.fine ok_l16
abbrev theLaid : List (String × DataW Unit) := YteepeacefpkmbaaGreatDoor.Rows.flowClosedRow.laid
def gchk (ty : Ty) (d : DataW Unit) (g sz : Nat) (s : St) : Bool := match layD ty d s with
  | some (l, s1) => Nat.blt g s1.next && ((match s1.heap.get g with | none => true | some _ => false) && Nat.ble sz l.length)
  | none => false
theorem gst_step {P : Program} {W : World} {φ : Phi} {s : St} (h : RelSt φ s W) (hr : AllRo s) (hw : WFS s) {name : String} {g t : Nat} {ty : Ty} (hg : P.globalNamed name = some g) (ht : tyOf P 8 t = some ty) {cs : Array Value} (hv : W.var? P name = some cs) {held : Bool} {m : Nat} {d : DataW Unit} {ps : List MemPlace} (hd : DataW.trod (fun _ => ()) P W 0 (fun _ => true) held m t cs.toList = some (d, ps)) {sz : Nat} (hc : gchk ty d g sz s = true) :
    ∃ φ', Imp W φ s φ' (gst ty d g s) ∧ ∃ n top, φ' g 0 = some ⟨g, 0, 0, n, top⟩ ∧ sz ≤ n := by
  unfold gchk at hc
  cases hl : layD ty d s with
  | none => rw [hl] at hc; cases hc
  | some x =>
    obtain ⟨l, s1⟩ := x
    rw [hl] at hc
    simp only [Bool.and_eq_true, Nat.blt_eq, Nat.ble_eq] at hc
    obtain ⟨h1, h2, h3⟩ := hc
    have hf : s1.heap.get g = none := by
      cases hh : s1.heap.get g with
      | none => rfl
      | some _ => rw [hh] at h2; cases h2
    obtain ⟨φ', i, top, e⟩ := glob_lay h hr hw hg ht hv hd hl h1 hf
    refine ⟨φ', ?_, l.length, top, e, h3⟩
    unfold gst
    rw [hl]
    exact i
theorem next_up {φ : Phi} {s : St} {W : World} (h1 : RelSt φ s W) (h2 : AllRo s) (h3 : WFS s) {n : Nat} (hn : s.next ≤ n) : RelSt φ { s with next := n } W ∧ AllRo { s with next := n } ∧ WFS { s with next := n } :=
  ⟨RelSt.at (H := s.heap) (b := s.next) h1, h2, fun id hid => h3 id (Nat.le_trans hn hid)⟩
theorem ty0 : tyOf Tryz.prog 8 277 = some gt0 := by
  have c277 : Tryz.prog.cellsOf 277 = 2 := by kernel_rfl
  have c3 : Tryz.prog.cellsOf 3 = 1 := by kernel_rfl
  simp [tyOf, tyOf.go, gt0, tySize, tySizes, Tryz.underlying277, Tryz.underlying3, c277, c3]
theorem ty1 : tyOf Tryz.prog 8 279 = some gt1 := by
  have c279 : Tryz.prog.cellsOf 279 = 4 := by kernel_rfl
  have c277 : Tryz.prog.cellsOf 277 = 2 := by kernel_rfl
  have c3 : Tryz.prog.cellsOf 3 = 1 := by kernel_rfl
  simp [tyOf, tyOf.go, gt1, tySize, tySizes, Tryz.underlying279, Tryz.underlying277, Tryz.underlying3, c279, c277, c3]
theorem ty3 : tyOf Tryz.prog 8 326 = some gt3 := by
  have c326 : Tryz.prog.cellsOf 326 = 1 := by kernel_rfl
  have c331 : Tryz.prog.cellsOf 331 = 10 := by kernel_rfl
  have c5 : Tryz.prog.cellsOf 5 = 1 := by kernel_rfl
  have c329 : Tryz.prog.cellsOf 329 = 9 := by kernel_rfl
  have c328 : Tryz.prog.cellsOf 328 = 3 := by kernel_rfl
  have c3 : Tryz.prog.cellsOf 3 = 1 := by kernel_rfl
  simp [tyOf, tyOf.go, gt3, tySize, tySizes, Tryz.underlying326, Tryz.underlying331, Tryz.underlying5, Tryz.underlying329, Tryz.underlying328, Tryz.underlying3, c326, c331, c5, c329, c328, c3]
theorem ty8 : tyOf Tryz.prog 8 429 = some gt8 := by
  have c429 : Tryz.prog.cellsOf 429 = 20 := by kernel_rfl
  have c142 : Tryz.prog.cellsOf 142 = 1 := by kernel_rfl
  simp [tyOf, tyOf.go, gt8, tySize, tySizes, Tryz.underlying429, Tryz.underlying142, c429, c142]
theorem ty9 : tyOf Tryz.prog 8 431 = some gt9 := by
  have c431 : Tryz.prog.cellsOf 431 = 32 := by kernel_rfl
  have c5 : Tryz.prog.cellsOf 5 = 1 := by kernel_rfl
  simp [tyOf, tyOf.go, gt9, tySize, tySizes, Tryz.underlying431, Tryz.underlying5, c431, c5]
theorem ty10 : tyOf Tryz.prog 8 432 = some gt10 := by
  have c432 : Tryz.prog.cellsOf 432 = 64 := by kernel_rfl
  have c5 : Tryz.prog.cellsOf 5 = 1 := by kernel_rfl
  simp [tyOf, tyOf.go, gt10, tySize, tySizes, Tryz.underlying432, Tryz.underlying5, c432, c5]
theorem starES : "*" ++ "errors.errorString" = "*errors.errorString" := by decide
theorem rowES (u : TypeId) (h : Tryz.prog.typeName? 3 u = some "*errors.errorString") : u = 424 :=
  typeName_ptr_named (nm := "errors.errorString") (by rw [starES]; kernel_rfl) (by kernel_rfl) (by decide) u (by rw [starES]; exact h)
theorem glob_state {W : World} (h : laidMetH Tryz.prog theLaid W) : ∃ φ, RelSt φ sG W ∧ AllRo sG ∧ WFS sG ∧ GlobOk prog φ := by
  rw [MakeChecks.laidMetH_plain _ _ _ (by kernel_rfl)] at h
  obtain ⟨a6, s6, hv6, hc6, hs6, _⟩ := laid_sentinel (h.tail.tail.tail.tail.tail.tail.tail.tail.tail) (g := 6) (ti := 345) (tp := 424) (te := 426) (ts := 9) (by kernel_rfl) (by kernel_rfl) Tryz.underlying345 rowES Tryz.underlying424 Tryz.underlying426 rfl rfl Tryz.underlying9 (by kernel_rfl) (by kernel_rfl)
  obtain ⟨a7, s7, hv7, hc7, hs7, _⟩ := laid_sentinel (h.tail.tail.tail.tail.tail.tail.tail.tail) (g := 7) (ti := 345) (tp := 424) (te := 426) (ts := 9) (by kernel_rfl) (by kernel_rfl) Tryz.underlying345 rowES Tryz.underlying424 Tryz.underlying426 rfl rfl Tryz.underlying9 (by kernel_rfl) (by kernel_rfl)
  obtain ⟨ps, ⟨g0, t0, cs0, f0, p0, q0, hg0, ht0, hv0, hd0, ⟨g1, t1, cs1, f1, p1, q1, hg1, ht1, hv1, hd1, ⟨g2, t2, cs2, f2, p2, q2, hg2, ht2, hv2, hd2, ⟨g4, t4, cs4, f4, p4, q4, hg4, ht4, hv4, hd4, ⟨g9, t9, cs9, f9, p9, q9, hg9, ht9, hv9, hd9, ⟨g10, t10, cs10, f10, p10, q10, hg10, ht10, hv10, hd10, ⟨g8, t8, cs8, f8, p8, q8, hg8, ht8, hv8, hd8, ⟨g3, t3, cs3, f3, p3, q3, hg3, ht3, hv3, hd3, _, _⟩, _⟩, _⟩, _⟩, _⟩, _⟩, _⟩, _⟩, _⟩ := h
  obtain rfl := Option.some.inj ((show Tryz.prog.globalNamed "coxless/bits.codeAt" = some 0 by kernel_rfl).symm.trans hg0)
  obtain rfl := Option.some.inj ((show (Tryz.prog.globals[0]?).map (·.type) = some 277 by kernel_rfl).symm.trans ht0)
  obtain rfl := Option.some.inj ((show Tryz.prog.globalNamed "coxless/bits.ends" = some 1 by kernel_rfl).symm.trans hg1)
  obtain rfl := Option.some.inj ((show (Tryz.prog.globals[1]?).map (·.type) = some 279 by kernel_rfl).symm.trans ht1)
  obtain rfl := Option.some.inj ((show Tryz.prog.globalNamed "coxless/bits.parseAt" = some 2 by kernel_rfl).symm.trans hg2)
  obtain rfl := Option.some.inj ((show (Tryz.prog.globals[2]?).map (·.type) = some 277 by kernel_rfl).symm.trans ht2)
  obtain rfl := Option.some.inj ((show Tryz.prog.globalNamed "coxless/sub.rows" = some 3 by kernel_rfl).symm.trans hg3)
  obtain rfl := Option.some.inj ((show (Tryz.prog.globals[3]?).map (·.type) = some 326 by kernel_rfl).symm.trans ht3)
  obtain rfl := Option.some.inj ((show Tryz.prog.globalNamed "coxless/bits.upper" = some 4 by kernel_rfl).symm.trans hg4)
  obtain rfl := Option.some.inj ((show (Tryz.prog.globals[4]?).map (·.type) = some 277 by kernel_rfl).symm.trans ht4)
  obtain rfl := Option.some.inj ((show Tryz.prog.globalNamed "internal/strconv.uint64pow10" = some 8 by kernel_rfl).symm.trans hg8)
  obtain rfl := Option.some.inj ((show (Tryz.prog.globals[8]?).map (·.type) = some 429 by kernel_rfl).symm.trans ht8)
  obtain rfl := Option.some.inj ((show Tryz.prog.globalNamed "math/bits.deBruijn32tab" = some 9 by kernel_rfl).symm.trans hg9)
  obtain rfl := Option.some.inj ((show (Tryz.prog.globals[9]?).map (·.type) = some 431 by kernel_rfl).symm.trans ht9)
  obtain rfl := Option.some.inj ((show Tryz.prog.globalNamed "math/bits.deBruijn64tab" = some 10 by kernel_rfl).symm.trans hg10)
  obtain rfl := Option.some.inj ((show (Tryz.prog.globals[10]?).map (·.type) = some 432 by kernel_rfl).symm.trans ht10)
  obtain ⟨r1, r2, r3⟩ := next_up (n := 11) (rel0 W) allRo0 wfs0 (by decide)
  obtain ⟨φ0, i0, n0, top0, e0, l0⟩ := gst_step (d := gd0) (sz := 2) r1 r2 r3 hg0 (ty := gt0) ty0 hv0 hd0 (by kernel_rfl)
  obtain ⟨φ1, i1, n1, top1, e1, l1⟩ := gst_step (d := gd1) (sz := 4) i0.rel i0.ro i0.wfs hg1 (ty := gt1) ty1 hv1 hd1 (by kernel_rfl)
  obtain ⟨φ2, i2, n2, top2, e2, l2⟩ := gst_step (d := gd2) (sz := 2) i1.rel i1.ro i1.wfs hg2 (ty := gt2) ty0 hv2 hd2 (by kernel_rfl)
  obtain ⟨φ3, i3, n3, top3, e3, l3⟩ := gst_step (d := gd3) (sz := 1) i2.rel i2.ro i2.wfs hg3 (ty := gt3) ty3 hv3 hd3 (by kernel_rfl)
  obtain ⟨φ4, i4, n4, top4, e4, l4⟩ := gst_step (d := gd4) (sz := 2) i3.rel i3.ro i3.wfs hg4 (ty := gt4) ty0 hv4 hd4 (by kernel_rfl)
  obtain ⟨φ8, i8, n8, top8, e8, l8⟩ := gst_step (d := gd8) (sz := 20) i4.rel i4.ro i4.wfs hg8 (ty := gt8) ty8 hv8 hd8 (by kernel_rfl)
  obtain ⟨φ9, i9, n9, top9, e9, l9⟩ := gst_step (d := gd9) (sz := 32) i8.rel i8.ro i8.wfs hg9 (ty := gt9) ty9 hv9 hd9 (by kernel_rfl)
  obtain ⟨φ10, i10, n10, top10, e10, l10⟩ := gst_step (d := gd10) (sz := 64) i9.rel i9.ro i9.wfs hg10 (ty := gt10) ty10 hv10 hd10 (by kernel_rfl)
  obtain ⟨φ6, i6, n6, top6, e6, l6⟩ := gsent_step i10.rel i10.ro i10.wfs (g := 6) (tp := 424) (text := [105, 110, 118, 97, 108, 105, 100, 32, 115, 121, 110, 116, 97, 120]) (by kernel_rfl) hv6 hc6 hs6 (by kernel_rfl) (by kernel_rfl)
  obtain ⟨φ7, i7, n7, top7, e7, l7⟩ := gsent_step i6.rel i6.ro i6.wfs (g := 7) (tp := 424) (text := [118, 97, 108, 117, 101, 32, 111, 117, 116, 32, 111, 102, 32, 114, 97, 110, 103, 101]) (by kernel_rfl) hv7 hc7 hs7 (by kernel_rfl) (by kernel_rfl)
  obtain ⟨_, _, hh5⟩ := var_cells (P := Tryz.prog) (g := 0) (by kernel_rfl) hv0
  obtain ⟨φd5, d5⟩ := gdummy_step i7.rel i7.ro i7.wfs (d := 5) hh5 (by kernel_rfl) (by kernel_rfl)
  refine ⟨_, d5.rel, d5.ro, d5.wfs, ?_⟩
  intro g hg
  have hg : g = 0 ∨ g = 1 ∨ g = 2 ∨ g = 3 ∨ g = 4 ∨ g = 8 ∨ g = 9 ∨ g = 10 ∨ g = 6 ∨ g = 7 := by
    have : g ∈ [0, 1, 2, 3, 4, 8, 9, 10, 6, 7] := hg
    simpa using this
  rcases hg with rfl | rfl | rfl | rfl | rfl | rfl | rfl | rfl | rfl | rfl
  · refine ⟨_, d5.le _ _ _ (i7.le _ _ _ (i6.le _ _ _ (i10.le _ _ _ (i9.le _ _ _ (i8.le _ _ _ (i4.le _ _ _ (i3.le _ _ _ (i2.le _ _ _ (i1.le _ _ _ (e0)))))))))), rfl, rfl, rfl, fun gl n h1 h2 => ?_⟩
    have hk : (prog.globals[0]?).bind (fun gl => szOf prog gl.type) = some 2 := by kernel_rfl
    rw [h1, Option.bind_some, h2] at hk
    cases hk
    exact l0
  · refine ⟨_, d5.le _ _ _ (i7.le _ _ _ (i6.le _ _ _ (i10.le _ _ _ (i9.le _ _ _ (i8.le _ _ _ (i4.le _ _ _ (i3.le _ _ _ (i2.le _ _ _ (e1))))))))), rfl, rfl, rfl, fun gl n h1 h2 => ?_⟩
    have hk : (prog.globals[1]?).bind (fun gl => szOf prog gl.type) = some 4 := by kernel_rfl
    rw [h1, Option.bind_some, h2] at hk
    cases hk
    exact l1
  · refine ⟨_, d5.le _ _ _ (i7.le _ _ _ (i6.le _ _ _ (i10.le _ _ _ (i9.le _ _ _ (i8.le _ _ _ (i4.le _ _ _ (i3.le _ _ _ (e2)))))))), rfl, rfl, rfl, fun gl n h1 h2 => ?_⟩
    have hk : (prog.globals[2]?).bind (fun gl => szOf prog gl.type) = some 2 := by kernel_rfl
    rw [h1, Option.bind_some, h2] at hk
    cases hk
    exact l2
  · refine ⟨_, d5.le _ _ _ (i7.le _ _ _ (i6.le _ _ _ (i10.le _ _ _ (i9.le _ _ _ (i8.le _ _ _ (i4.le _ _ _ (e3))))))), rfl, rfl, rfl, fun gl n h1 h2 => ?_⟩
    have hk : (prog.globals[3]?).bind (fun gl => szOf prog gl.type) = some 1 := by kernel_rfl
    rw [h1, Option.bind_some, h2] at hk
    cases hk
    exact l3
  · refine ⟨_, d5.le _ _ _ (i7.le _ _ _ (i6.le _ _ _ (i10.le _ _ _ (i9.le _ _ _ (i8.le _ _ _ (e4)))))), rfl, rfl, rfl, fun gl n h1 h2 => ?_⟩
    have hk : (prog.globals[4]?).bind (fun gl => szOf prog gl.type) = some 2 := by kernel_rfl
    rw [h1, Option.bind_some, h2] at hk
    cases hk
    exact l4
  · refine ⟨_, d5.le _ _ _ (i7.le _ _ _ (i6.le _ _ _ (i10.le _ _ _ (i9.le _ _ _ (e8))))), rfl, rfl, rfl, fun gl n h1 h2 => ?_⟩
    have hk : (prog.globals[8]?).bind (fun gl => szOf prog gl.type) = some 20 := by kernel_rfl
    rw [h1, Option.bind_some, h2] at hk
    cases hk
    exact l8
  · refine ⟨_, d5.le _ _ _ (i7.le _ _ _ (i6.le _ _ _ (i10.le _ _ _ (e9)))), rfl, rfl, rfl, fun gl n h1 h2 => ?_⟩
    have hk : (prog.globals[9]?).bind (fun gl => szOf prog gl.type) = some 32 := by kernel_rfl
    rw [h1, Option.bind_some, h2] at hk
    cases hk
    exact l9
  · refine ⟨_, d5.le _ _ _ (i7.le _ _ _ (i6.le _ _ _ (e10))), rfl, rfl, rfl, fun gl n h1 h2 => ?_⟩
    have hk : (prog.globals[10]?).bind (fun gl => szOf prog gl.type) = some 64 := by kernel_rfl
    rw [h1, Option.bind_some, h2] at hk
    cases hk
    exact l10
  · refine ⟨_, d5.le _ _ _ (i7.le _ _ _ (e6)), rfl, rfl, rfl, fun gl n h1 h2 => ?_⟩
    have hk : (prog.globals[6]?).bind (fun gl => szOf prog gl.type) = some 1 := by kernel_rfl
    rw [h1, Option.bind_some, h2] at hk
    cases hk
    exact l6
  · refine ⟨_, d5.le _ _ _ (e7), rfl, rfl, rfl, fun gl n h1 h2 => ?_⟩
    have hk : (prog.globals[7]?).bind (fun gl => szOf prog gl.type) = some 1 := by kernel_rfl
    rw [h1, Option.bind_some, h2] at hk
    cases hk
    exact l7
theorem ran_of_yes {T : Tab} {n : Nat} {f : FuncId} {args : List AV} {s : St} (h : isYes (callF T (evalF T n) f args s) = true) : Ran T f args s fun v _ => v = .bool true := by
  rw [evalF_eq] at h
  cases hr : callF T (evalN T n) f args s with
  | fail => rw [hr] at h; cases h
  | panic v s => rw [hr] at h; cases h
  | val v s' =>
    rw [hr] at h
    refine ⟨n, v, s', hr, ?_⟩
    cases v with
    | bool b => cases b with
      | true => rfl
      | false => cases h
    | _ => cases h
end Go.V
