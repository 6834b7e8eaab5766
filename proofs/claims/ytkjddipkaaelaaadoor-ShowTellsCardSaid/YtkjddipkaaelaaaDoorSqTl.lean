/- ShowTells: the hooks, each out of its contract. -/
import Derived.Test.YtkjddipkaaelaaaDoorSqOk
import Derived.Test.YtkjddipkaaelaaaDoorV67
import Derived.Test.YtkjddipkaaelaaaDoorSG
import Derived.KernelRfl
set_option linter.unusedVariables false
set_option linter.unusedSimpArgs false
set_option linter.unusedSectionVars false
/- ShowTells: the hooks, each out of its contract. -/
namespace Go.V
open Go Go.Proofs
set_option maxRecDepth 1000000
def Tryd.layItoa_ren : Go.Shelf.Ren := ⟨fun | 171 => 70 | 243 => 80 | 246 => 50 | 283 => 66 | 284 => 67 | 285 => 68 | 286 => 69 | 129 => 76 | 317 => 75 | 318 => 77 | 319 => 78 | 320 => 79 | 337 => 82 | 338 => 83 | n => n, fun | 3 => 3 | 9 => 9 | 2 => 2 | 4 => 4 | 171 => 96 | 0 => 0 | 53 => 97 | 37 => 70 | 5 => 5 | 173 => 100 | 212 => 110 | 51 => 32 | 20 => 20 | 213 => 111 | 46 => 113 | 232 => 117 | 233 => 118 | n => n, fun | 17 => 0 | 18 => 2 | 19 => 3 | n => n⟩
theorem Tryd.layItoa : Go.Proofs.LaysM.n171 Tryd.prog Tryd.layItoa_ren where
  mixed := by kernel_rfl
  f129 := Tryd.func76.trans (congrArg some (by kernel_rfl))
  f171 := Tryd.func70.trans (congrArg some (by kernel_rfl))
  f243 := Tryd.func80.trans (congrArg some (by kernel_rfl))
  f246 := Tryd.func50.trans (congrArg some (by kernel_rfl))
  f283 := Tryd.func66.trans (congrArg some (by kernel_rfl))
  f284 := Tryd.func67.trans (congrArg some (by kernel_rfl))
  f285 := Tryd.func68.trans (congrArg some (by kernel_rfl))
  f286 := Tryd.func69.trans (congrArg some (by kernel_rfl))
  f317 := Tryd.func75.trans (congrArg some (by kernel_rfl))
  f318 := Tryd.func77.trans (congrArg some (by kernel_rfl))
  f319 := Tryd.func78.trans (congrArg some (by kernel_rfl))
  f320 := Tryd.func79.trans (congrArg some (by kernel_rfl))
  f337 := Tryd.func82.trans (congrArg some (by kernel_rfl))
  f338 := Tryd.func83.trans (congrArg some (by kernel_rfl))
  t0 := Tryd.underlying0
  a0 := Tryd.isAgg0
  z0 := Tryd.sizeOf0
  v0 := Tryd.zeroValue0
  t2 := Tryd.underlying2
  a2 := Tryd.isAgg2
  z2 := Tryd.sizeOf2
  v2 := Tryd.zeroValue2
  t3 := Tryd.underlying3
  a3 := Tryd.isAgg3
  z3 := Tryd.sizeOf3
  v3 := Tryd.zeroValue3
  t4 := Tryd.underlying4
  a4 := Tryd.isAgg4
  z4 := Tryd.sizeOf4
  v4 := Tryd.zeroValue4
  t5 := Tryd.underlying5
  a5 := Tryd.isAgg5
  z5 := Tryd.sizeOf5
  v5 := Tryd.zeroValue5
  t9 := Tryd.underlying9
  a9 := Tryd.isAgg9
  z9 := Tryd.sizeOf9
  v9 := Tryd.zeroValue9
  t20 := Tryd.underlying20
  a20 := Tryd.isAgg20
  z20 := Tryd.sizeOf20
  v20 := Tryd.zeroValue20
  t37 := Tryd.underlying70
  a37 := Tryd.isAgg70
  z37 := Tryd.sizeOf70
  v37 := Tryd.zeroValue70
  t46 := Tryd.underlying113
  a46 := Tryd.isAgg113
  z46 := Tryd.sizeOf113
  v46 := Tryd.zeroValue113
  t51 := Tryd.underlying32
  a51 := Tryd.isAgg32
  z51 := Tryd.sizeOf32
  v51 := Tryd.zeroValue32
  t53 := Tryd.underlying97
  a53 := Tryd.isAgg97
  z53 := Tryd.sizeOf97
  v53 := Tryd.zeroValue97
  t171 := Tryd.underlying96
  a171 := Tryd.isAgg96
  z171 := Tryd.sizeOf96
  v171 := Tryd.zeroValue96
  t173 := Tryd.underlying100
  a173 := Tryd.isAgg100
  z173 := Tryd.sizeOf100
  v173 := Tryd.zeroValue100
  t212 := Tryd.underlying110
  a212 := Tryd.isAgg110
  z212 := Tryd.sizeOf110
  v212 := Tryd.zeroValue110
  t213 := Tryd.underlying111
  a213 := Tryd.isAgg111
  z213 := Tryd.sizeOf111
  t232 := Tryd.underlying117
  a232 := Tryd.isAgg117
  z232 := Tryd.sizeOf117
  v232 := Tryd.zeroValue117
  t233 := Tryd.underlying118
  a233 := Tryd.isAgg118
  z233 := Tryd.sizeOf118
  v233 := Tryd.zeroValue118
  g17 := by kernel_rfl
  g18 := by kernel_rfl
  g19 := by kernel_rfl
  i0 := by kernel_rfl
  i2 := by kernel_rfl
  i3 := by kernel_rfl
  i4 := by kernel_rfl
  i5 := by kernel_rfl
  i9 := by kernel_rfl
  i20 := by kernel_rfl
  i37 := by kernel_rfl
  i46 := by kernel_rfl
  i51 := by kernel_rfl
  i53 := by kernel_rfl
  i171 := by kernel_rfl
  i173 := by kernel_rfl
  i212 := by kernel_rfl
  i232 := by kernel_rfl
  i233 := by kernel_rfl
  m17 := by kernel_rfl
  m18 := by kernel_rfl
  m19 := by kernel_rfl
def Tryd.layFmt_ren : Go.Shelf.Ren := ⟨fun | 173 => 30 | 246 => 50 | 283 => 66 | 284 => 67 | 285 => 68 | 286 => 69 | 129 => 76 | 317 => 75 | 318 => 77 | 319 => 78 | 320 => 79 | 337 => 82 | 338 => 83 | n => n, fun | 2 => 2 | 3 => 3 | 9 => 9 | 4 => 4 | 171 => 96 | 0 => 0 | 53 => 97 | 37 => 70 | 5 => 5 | 173 => 100 | 212 => 110 | 51 => 32 | 20 => 20 | 213 => 111 | 46 => 113 | 232 => 117 | 233 => 118 | n => n, fun | 17 => 0 | 18 => 2 | 19 => 3 | n => n⟩
theorem Tryd.layFmt : Go.Proofs.LaysM.n173 Tryd.prog Tryd.layFmt_ren where
  mixed := by kernel_rfl
  f129 := Tryd.func76.trans (congrArg some (by kernel_rfl))
  f173 := Tryd.func30.trans (congrArg some (by kernel_rfl))
  f246 := Tryd.func50.trans (congrArg some (by kernel_rfl))
  f283 := Tryd.func66.trans (congrArg some (by kernel_rfl))
  f284 := Tryd.func67.trans (congrArg some (by kernel_rfl))
  f285 := Tryd.func68.trans (congrArg some (by kernel_rfl))
  f286 := Tryd.func69.trans (congrArg some (by kernel_rfl))
  f317 := Tryd.func75.trans (congrArg some (by kernel_rfl))
  f318 := Tryd.func77.trans (congrArg some (by kernel_rfl))
  f319 := Tryd.func78.trans (congrArg some (by kernel_rfl))
  f320 := Tryd.func79.trans (congrArg some (by kernel_rfl))
  f337 := Tryd.func82.trans (congrArg some (by kernel_rfl))
  f338 := Tryd.func83.trans (congrArg some (by kernel_rfl))
  t0 := Tryd.underlying0
  a0 := Tryd.isAgg0
  z0 := Tryd.sizeOf0
  v0 := Tryd.zeroValue0
  t2 := Tryd.underlying2
  a2 := Tryd.isAgg2
  z2 := Tryd.sizeOf2
  v2 := Tryd.zeroValue2
  t3 := Tryd.underlying3
  a3 := Tryd.isAgg3
  z3 := Tryd.sizeOf3
  v3 := Tryd.zeroValue3
  t4 := Tryd.underlying4
  a4 := Tryd.isAgg4
  z4 := Tryd.sizeOf4
  v4 := Tryd.zeroValue4
  t5 := Tryd.underlying5
  a5 := Tryd.isAgg5
  z5 := Tryd.sizeOf5
  v5 := Tryd.zeroValue5
  t9 := Tryd.underlying9
  a9 := Tryd.isAgg9
  z9 := Tryd.sizeOf9
  v9 := Tryd.zeroValue9
  t20 := Tryd.underlying20
  a20 := Tryd.isAgg20
  z20 := Tryd.sizeOf20
  v20 := Tryd.zeroValue20
  t37 := Tryd.underlying70
  a37 := Tryd.isAgg70
  z37 := Tryd.sizeOf70
  v37 := Tryd.zeroValue70
  t46 := Tryd.underlying113
  a46 := Tryd.isAgg113
  z46 := Tryd.sizeOf113
  v46 := Tryd.zeroValue113
  t51 := Tryd.underlying32
  a51 := Tryd.isAgg32
  z51 := Tryd.sizeOf32
  v51 := Tryd.zeroValue32
  t53 := Tryd.underlying97
  a53 := Tryd.isAgg97
  z53 := Tryd.sizeOf97
  v53 := Tryd.zeroValue97
  t171 := Tryd.underlying96
  a171 := Tryd.isAgg96
  z171 := Tryd.sizeOf96
  v171 := Tryd.zeroValue96
  t173 := Tryd.underlying100
  a173 := Tryd.isAgg100
  z173 := Tryd.sizeOf100
  v173 := Tryd.zeroValue100
  t212 := Tryd.underlying110
  a212 := Tryd.isAgg110
  z212 := Tryd.sizeOf110
  v212 := Tryd.zeroValue110
  t213 := Tryd.underlying111
  a213 := Tryd.isAgg111
  z213 := Tryd.sizeOf111
  t232 := Tryd.underlying117
  a232 := Tryd.isAgg117
  z232 := Tryd.sizeOf117
  v232 := Tryd.zeroValue117
  t233 := Tryd.underlying118
  a233 := Tryd.isAgg118
  z233 := Tryd.sizeOf118
  v233 := Tryd.zeroValue118
  g17 := by kernel_rfl
  g18 := by kernel_rfl
  g19 := by kernel_rfl
  i0 := by kernel_rfl
  i2 := by kernel_rfl
  i3 := by kernel_rfl
  i4 := by kernel_rfl
  i5 := by kernel_rfl
  i9 := by kernel_rfl
  i20 := by kernel_rfl
  i37 := by kernel_rfl
  i46 := by kernel_rfl
  i51 := by kernel_rfl
  i53 := by kernel_rfl
  i171 := by kernel_rfl
  i173 := by kernel_rfl
  i212 := by kernel_rfl
  i232 := by kernel_rfl
  i233 := by kernel_rfl
  m17 := by kernel_rfl
  m18 := by kernel_rfl
  m19 := by kernel_rfl
def Tryd.layJoin_ren : Go.Shelf.Ren := ⟨fun | 156 => 24 | 165 => 45 | 166 => 46 | 169 => 47 | 240 => 55 | 241 => 56 | 276 => 71 | 277 => 72 | n => n, fun | 31 => 50 | 9 => 9 | 3 => 3 | 4 => 4 | 0 => 0 | 20 => 20 | 72 => 72 | 76 => 76 | 70 => 69 | 37 => 70 | 75 => 75 | 127 => 90 | 164 => 102 | 5 => 5 | 80 => 78 | n => n, fun | n => n⟩
theorem Tryd.layJoin : Go.Proofs.Lays.n156 Tryd.prog Tryd.layJoin_ren where
  mixed := by kernel_rfl
  f156 := Tryd.func24.trans (congrArg some (by kernel_rfl))
  f165 := Tryd.func45.trans (congrArg some (by kernel_rfl))
  f166 := Tryd.func46.trans (congrArg some (by kernel_rfl))
  f169 := Tryd.func47.trans (congrArg some (by kernel_rfl))
  f240 := Tryd.func55.trans (congrArg some (by kernel_rfl))
  f241 := Tryd.func56.trans (congrArg some (by kernel_rfl))
  f276 := Tryd.func71.trans (congrArg some (by kernel_rfl))
  f277 := Tryd.func72.trans (congrArg some (by kernel_rfl))
  t0 := Tryd.underlying0
  a0 := Tryd.isAgg0
  z0 := Tryd.sizeOf0
  v0 := Tryd.zeroValue0
  t3 := Tryd.underlying3
  a3 := Tryd.isAgg3
  z3 := Tryd.sizeOf3
  v3 := Tryd.zeroValue3
  t4 := Tryd.underlying4
  a4 := Tryd.isAgg4
  z4 := Tryd.sizeOf4
  v4 := Tryd.zeroValue4
  t9 := Tryd.underlying9
  a9 := Tryd.isAgg9
  z9 := Tryd.sizeOf9
  v9 := Tryd.zeroValue9
  t20 := Tryd.underlying20
  a20 := Tryd.isAgg20
  z20 := Tryd.sizeOf20
  v20 := Tryd.zeroValue20
  t31 := Tryd.underlying50
  a31 := Tryd.isAgg50
  z31 := Tryd.sizeOf50
  v31 := Tryd.zeroValue50
  t37 := Tryd.underlying70
  a37 := Tryd.isAgg70
  z37 := Tryd.sizeOf70
  v37 := Tryd.zeroValue70
  t70 := Tryd.underlying69
  a70 := Tryd.isAgg69
  z70 := Tryd.sizeOf69
  v70 := Tryd.zeroValue69
  t72 := Tryd.underlying72
  a72 := Tryd.isAgg72
  z72 := Tryd.sizeOf72
  v72 := Tryd.zeroValue72
  t75 := Tryd.underlying75
  a75 := Tryd.isAgg75
  z75 := Tryd.sizeOf75
  v75 := Tryd.zeroValue75
  t76 := Tryd.underlying76
  a76 := Tryd.isAgg76
  z76 := Tryd.sizeOf76
  v76 := Tryd.zeroValue76
  t127 := Tryd.underlying90
  a127 := Tryd.isAgg90
  z127 := Tryd.sizeOf90
  v127 := Tryd.zeroValue90
  t164 := Tryd.underlying102
  a164 := Tryd.isAgg102
  z164 := Tryd.sizeOf102
  v164 := Tryd.zeroValue102
theorem ok40 : EntryOk prog 40 (.code ir40) := ⟨Tryd.f40, Tryd.func40, by kernel_rfl, by kernel_rfl⟩
theorem ok43 : EntryOk prog 43 (.code ir43) := ⟨Tryd.f43, Tryd.func43, by kernel_rfl, by kernel_rfl⟩
theorem ok41 : EntryOk prog 41 (.code ir41) := ⟨Tryd.f41, Tryd.func41, by kernel_rfl, by kernel_rfl⟩
theorem ok20 : EntryOk prog 20 (.code ir20) := ⟨Tryd.f20, Tryd.func20, by kernel_rfl, by kernel_rfl⟩
theorem ok21 : EntryOk prog 21 (.code ir21) := ⟨Tryd.f21, Tryd.func21, by kernel_rfl, by kernel_rfl⟩
theorem ok44 : EntryOk prog 44 (.code ir44) := ⟨Tryd.f44, Tryd.func44, by kernel_rfl, by kernel_rfl⟩
theorem ok23 : EntryOk prog 23 (.code ir23) := ⟨Tryd.f23, Tryd.func23, by kernel_rfl, by kernel_rfl⟩
theorem ok10 : EntryOk prog 10 (.code ir10) := ⟨Tryd.f10, Tryd.func10, by kernel_rfl, by kernel_rfl⟩
theorem ok25 : EntryOk prog 25 (.code ir25) := ⟨Tryd.f25, Tryd.func25, by kernel_rfl, by kernel_rfl⟩
theorem ok9 : EntryOk prog 9 (.code ir9) := ⟨Tryd.f9, Tryd.func9, by kernel_rfl, by kernel_rfl⟩
theorem ok11 : EntryOk prog 11 (.code ir11) := ⟨Tryd.f11, Tryd.func11, by kernel_rfl, by kernel_rfl⟩
theorem ok8 : EntryOk prog 8 (.code ir8) := ⟨Tryd.f8, Tryd.func8, by kernel_rfl, by kernel_rfl⟩
theorem ok4 : EntryOk prog 4 (.code ir4) := ⟨Tryd.f4, Tryd.func4, by kernel_rfl, by kernel_rfl⟩
theorem e_right : EntryOk2 prog 5 (.hook (pureH (inF rightR))) := globs (h_right mixed0 rfl all0)
theorem e_target : EntryOk2 prog 16 (.hook (pureH (inF targetR))) := globs (h_target mixed0 rfl all0)
theorem e_writesPred : EntryOk2 prog 32 (.hook (pureH (inF writesPredR))) := globs (h_writesPred mixed0 rfl all0)
theorem e_class : EntryOk2 prog 33 (.hook (pureH classG)) := globs (h_class mixed0 rfl all0)
def wCode : List (Nat × FnImp) := [(53, .code ir53)]
theorem words_ev : compAuto (callF (tabL wCode) (evalF (tabL wCode) 100) 53 [] s0) (.map 0) [.map (wEs wordsL 0) 23] = true := by kernel_rfl
theorem e_words : EntryOk2 prog 53 (.hook (litH wordsG)) := globs (by
  refine EntryOk2.lit mixed0 rfl (show TabFine prog0 (tabL wCode) from AllOk2.fine (.cons (.old (show EntryOk prog0 53 (.code ir53) from ⟨Tryd.f53, Tryd.func53, by kernel_rfl, by kernel_rfl⟩)) (.nil))) 100 _ _ fun args v l h => ?_
  unfold wordsG at h
  split at h
  · cases h; exact ⟨rfl, _, words_ev⟩
  · cases h)
theorem e_pat : EntryOk2 prog 22 (.hook (litH patG)) := globs (EntryOk2.lit mixed0 rfl (show TabFine prog0 (tabL patCode) from AllOk2.fine (.cons (.old (show EntryOk prog0 22 (.code ir22) from ⟨Tryd.f22, Tryd.func22, by kernel_rfl, by kernel_rfl⟩)) (.nil))) 100000 _ _ patG_rows)
theorem e_rkind0 : EntryOk2 prog0 39 (.hook (litH (byteG kindR))) := EntryOk2.lit mixed0 rfl (show TabFine prog0 (tabL refCode1) from AllOk2.fine (.cons (.old (show EntryOk prog0 39 (.code ir39) from ⟨Tryd.f39, Tryd.func39, by kernel_rfl, by kernel_rfl⟩)) (.cons (.old (show EntryOk prog0 42 (.code ir42) from ⟨Tryd.f42, Tryd.func42, by kernel_rfl, by kernel_rfl⟩)) (.nil)))) 100 _ _ (byte_rows kind_ev)
theorem e_rscale0 : EntryOk2 prog0 42 (.hook (litH (byteG scaleR))) := EntryOk2.lit mixed0 rfl (show TabFine prog0 (tabL refCode1) from AllOk2.fine (.cons (.old (show EntryOk prog0 39 (.code ir39) from ⟨Tryd.f39, Tryd.func39, by kernel_rfl, by kernel_rfl⟩)) (.cons (.old (show EntryOk prog0 42 (.code ir42) from ⟨Tryd.f42, Tryd.func42, by kernel_rfl, by kernel_rfl⟩)) (.nil)))) 100 _ _ (byte_rows scale_ev)
theorem e_rcond : EntryOk2 prog 40 (.hook (pureH (inF condRR))) := EntryOk2.pure mixed (AllOk2.fine (.cons (.old ok40) (.nil))) _ _ (inF_ok (fun _ => rfl) fun s hs i _ => condR_ran rfl s hs i)
theorem e_rtarget : EntryOk2 prog 43 (.hook (pureH targetRG)) := EntryOk2.pure mixed (AllOk2.fine (.cons (.old ok43) (.nil))) _ _ (targetRG_ok rfl)
theorem e_rwithin : EntryOk2 prog 41 (.hook (pureH withinRG)) := EntryOk2.pure mixed (AllOk2.fine (.cons (.old ok41) (.nil))) _ _ (withinRG_ok rfl)
theorem e_rright : EntryOk2 prog 20 (.hook (pureH (inF refRR))) := EntryOk2.pure mixed (AllOk2.fine (.cons (.old ok20) (.cons (globs e_rkind0) (.cons (globs e_rscale0) (.cons e_rcond (.cons e_rtarget (.cons e_rwithin (.nil)))))))) _ _ (inF_ok (fun _ => rfl) fun s hs i hi => refRight_ran rfl rfl rfl rfl rfl rfl s hs i hi)
theorem e_digits : EntryOk2 prog 21 (.hook (pureH digitsG)) := EntryOk2.pure mixed (AllOk2.fine (.cons (.old ok21) (.nil))) _ _ (digitsG_ok rfl)
theorem e_signed : EntryOk2 prog 44 (.hook (pureH signedG)) := EntryOk2.pure mixed (AllOk2.fine (.cons (.old ok44) (.cons e_digits (.nil)))) _ _ (signedG_ok rfl rfl)
theorem e_put : EntryOk2 prog 23 (.hook (pureH putG)) := EntryOk2.pure mixed (AllOk2.fine (.cons (.old ok23) (.cons e_digits (.cons e_signed (.nil))))) _ _ (putG_ok rfl rfl rfl)
theorem enter70 : ∀ (args : Array Value) (w : World), (callFunc 70 args).run prog.toProgram w = .ok (.enter 70 args) w := fun args w => by
  have e1 : prog.toProgram.funcs[70]? = some Tryd.f70 := Tryd.func70
  have e2 : (Tryd.f70.name == "runtime.NumGoroutine") = false := by kernel_rfl
  have e3 : Tryd.f70.body.isSome = true := by kernel_rfl
  obtain ⟨c, e4⟩ := Option.isSome_iff_exists.1 e3
  simp only [beq_eq_false_iff_ne, ne_eq] at e2
  simp [callFunc, e1, e2, e4]
theorem enter30 : ∀ (args : Array Value) (w : World), (callFunc 30 args).run prog.toProgram w = .ok (.enter 30 args) w := fun args w => by
  have e1 : prog.toProgram.funcs[30]? = some Tryd.f30 := Tryd.func30
  have e2 : (Tryd.f30.name == "runtime.NumGoroutine") = false := by kernel_rfl
  have e3 : Tryd.f30.body.isSome = true := by kernel_rfl
  obtain ⟨c, e4⟩ := Option.isSome_iff_exists.1 e3
  simp only [beq_eq_false_iff_ne, ne_eq] at e2
  simp [callFunc, e1, e2, e4]
theorem enter24 : ∀ (args : Array Value) (w : World), (callFunc 24 args).run prog.toProgram w = .ok (.enter 24 args) w := fun args w => by
  have e1 : prog.toProgram.funcs[24]? = some Tryd.f24 := Tryd.func24
  have e2 : (Tryd.f24.name == "runtime.NumGoroutine") = false := by kernel_rfl
  have e3 : Tryd.f24.body.isSome = true := by kernel_rfl
  obtain ⟨c, e4⟩ := Option.isSome_iff_exists.1 e3
  simp only [beq_eq_false_iff_ne, ne_eq] at e2
  simp [callFunc, e1, e2, e4]
theorem e_itoa : EntryOk2 prog 70 (.hook (itoaH 0)) := by exact .hook (itoa_ok (P := prog) Tryd.layItoa enter70 (g := 0) (by decide) (by kernel_rfl)) (fun args s => itoa_tame 0 args s)
theorem e_fmt10 : EntryOk2 prog 30 (.hook (fmtH 0)) := by exact .hook (fmt_ok (P := prog) Tryd.layFmt enter30 (g := 0) (by decide) (by kernel_rfl)) (fun args s => fmt_tame 0 args s)
theorem Tryd.layJoinExtra : Go.Proofs.Builder.Extra Tryd.prog Tryd.layJoin_ren where
  sizeBuilder := by kernel_rfl
  liesBuilder := by kernel_rfl
  t5 := Tryd.underlying5
  a5 := Tryd.isAgg5
  z5 := Tryd.sizeOf5
  v5 := Tryd.zeroValue5
  infoByte := by kernel_rfl
  cellsByte := by kernel_rfl
  sizeByte := by kernel_rfl
  neB5 := by decide
theorem e_join : EntryOk2 prog 24 (.hook (joinH)) := by exact .hook (join_ok (P := prog) Tryd.layJoin Tryd.layJoinExtra enter24) join_tame
theorem e_hex : EntryOk2 prog 30 (.hook (gateH pTab hexT)) := EntryOk2.gate mixed (AllOk2.fine (.cons (.old ok30) (.cons (.old ok50) (.cons (.old ok69) (.cons (.old ok78) (.cons (.old ok79) (.cons (.old ok83) (.nil)))))))) _ pTab pTab_put _ (hexT_ok rfl rfl rfl rfl rfl rfl)
theorem e_fmt : EntryOk2 prog 30 (.hook (fmt2)) := fmt2_entry e_fmt10 e_hex
theorem e_number : EntryOk2 prog 51 (.hook (gateH pTab (i64T Lib.itoa))) := EntryOk2.gate mixed (AllOk2.fine (.cons (.old ok51) (.cons e_itoa (.nil)))) _ pTab pTab_put _ (i64T_ok fun s hp i hi => number_ran rfl rfl s hp i hi)
theorem e_reg : EntryOk2 prog 36 (.hook (gateH pTab (byteT regS))) := EntryOk2.gate mixed (AllOk2.fine (.cons (.old ok36) (.cons e_number (.nil)))) _ pTab pTab_put _ (byteT_ok fun s hp i hi => reg_ran rfl rfl s hp i hi)
theorem e_pred : EntryOk2 prog 31 (.hook (gateH pTab (byteT predS))) := EntryOk2.gate mixed (AllOk2.fine (.cons (.old ok31) (.cons e_number (.nil)))) _ pTab pTab_put _ (byteT_ok fun s hp i hi => pred_ran rfl rfl s hp i hi)
theorem e_count : EntryOk2 prog 52 (.hook (gateH pTab (u16T countS))) := EntryOk2.gate mixed (AllOk2.fine (.cons (.old ok52) (.cons e_number (.nil)))) _ pTab pTab_put _ (u16T_ok fun s hp i hi => count_ran rfl rfl s hp i hi)
theorem e_imm : EntryOk2 prog 54 (.hook (gateH pTab (inT immS))) := EntryOk2.gate mixed (AllOk2.fine (.cons (.old ok54) (.cons e_fmt (.nil)))) _ pTab pTab_put _ (inT_ok fun s hp i hi => imm_ran rfl rfl s hp i hi)
theorem e_cond : EntryOk2 prog 18 (.hook (gateH pTab (inT condS))) := EntryOk2.gate mixed (AllOk2.fine (.cons (.old ok18) (.cons e_pred (.nil)))) _ pTab pTab_put _ (inT_ok fun s hp i hi => condition_ran rfl rfl s hp i hi)
theorem e_place : EntryOk2 prog 37 (.hook (gateH pTab (inT placeS))) := EntryOk2.gate mixed (AllOk2.fine (.cons (.old ok37) (.cons e_reg (.cons e_imm (.cons e_words (.nil)))))) _ pTab pTab_put _ (inT_ok fun s hp i hi => place_ran rfl rfl rfl rfl s hp i hi)
theorem e_store : EntryOk2 prog 35 (.hook (gateH pTab (inT storeS))) := EntryOk2.gate mixed (AllOk2.fine (.cons (.old ok35) (.cons e_reg (.cons e_place (.nil))))) _ pTab pTab_put _ (inT_ok fun s hp i hi => store_ran rfl rfl rfl s hp i hi)
theorem e_sright : EntryOk2 prog 38 (.hook (gateH pTab (inT rightS))) := EntryOk2.gate mixed (AllOk2.fine (.cons (.old ok38) (.cons e_reg (.cons e_pred (.cons e_imm (.cons e_words (.nil))))))) _ pTab pTab_put _ (inT_ok fun s hp i hi => right_ran2 rfl rfl rfl rfl rfl s hp i hi)
theorem e_branch : EntryOk2 prog 34 (.hook (gateH pTab (in2T branchS))) := EntryOk2.gate mixed (AllOk2.fine (.cons (.old ok34) (.cons e_reg (.cons e_number (.cons e_count (.nil)))))) _ pTab pTab_put _ (in2T_ok fun s hp i hi tg ht => branch_ran rfl rfl rfl rfl s hp i hi tg ht)
theorem e_bare : EntryOk2 prog 19 (.hook (gateH pTab (in2T bareS))) := EntryOk2.gate mixed (AllOk2.fine (.cons (.old ok19) (.cons e_reg (.cons e_pred (.cons e_branch (.cons e_store (.cons e_place (.cons e_sright (.cons e_writesPred (.cons e_class (.nil))))))))))) _ pTab pTab_put _ (in2T_ok fun s hp i hi tg ht => bare_ran rfl rfl rfl rfl rfl rfl rfl rfl rfl s hp i hi tg ht)
noncomputable def t_tells : List (Nat × FnImp) := [(6, .hook (memoAH memoPre tbl6)), (5, .hook (pureH (inF rightR))), (16, .hook (pureH (inF targetR))), (18, .hook (gateH pTab (inT condS))), (19, .hook (gateH pTab (in2T bareS))), (30, .hook fmt2), (24, .hook joinH), (20, .hook (pureH (inF refRR))), (21, .hook (pureH digitsG)), (22, .hook (litH patG)), (23, .hook (pureH putG)), (7, .code ir7), (17, .code ir17), (10, .code ir10), (25, .code ir25), (9, .code ir9), (11, .code ir11), (8, .code ir8), (4, .code ir4)]
theorem ok_tells : AllOk2 prog t_tells := .cons (ok_l1.get (f := 6) rfl) (.cons e_right (.cons e_target (.cons e_cond (.cons e_bare (.cons e_fmt (.cons e_join (.cons e_rright (.cons e_digits (.cons e_pat (.cons e_put (.cons (.old ok7) (.cons (.old ok17) (.cons (.old ok10) (.cons (.old ok25) (.cons (.old ok9) (.cons (.old ok11) (.cons (.old ok8) (.cons (.old ok4) (.nil)))))))))))))))))))
theorem fine_tells : TabFine prog (tabL t_tells) := AllOk2.fine ok_tells
theorem shTab : ShTab (tabL t_tells) := ⟨rfl, rfl, rfl, rfl, rfl, rfl, rfl⟩
theorem pkTab : PkTab (tabL t_tells) := ⟨rfl, rfl, rfl, rfl, rfl, rfl, rfl, rfl, rfl, rfl⟩
theorem awake_yes : memoYes memoPre tbl6 sG.heap = true := by kernel_rfl
theorem sG_full : (List.range sG.next).all (fun i => (sG.heap.get i).isSome) = true := by kernel_rfl
theorem pTab_sG : pTab sG.heap = true := by kernel_rfl
end Go.V
