/- ShowTells: the hooks, each out of its contract. -/
import Derived.Test.YtkjddipkaaelaaaDoorTW5
import Derived.Test.YtkjddipkaaelaaaDoorSqOk
import Derived.Test.YtkjddipkaaelaaaDoorV67
import Derived.Test.YtkjddipkaaelaaaDoorSG
import Derived.KernelRfl
set_option linter.unusedVariables false
set_option linter.unusedSimpArgs false
set_option linter.unusedSectionVars false
/- ShowTells: the hooks, each out of its contract. -/
namespace Go.V
open Go Go.Proofs
set_option maxRecDepth 1000000
def Tryd.layItoa_ren : Go.Shelf.Ren := ⟨fun | 171 => 70 | 243 => 80 | 246 => 50 | 283 => 66 | 284 => 67 | 285 => 68 | 286 => 69 | 129 => 76 | 317 => 75 | 318 => 77 | 319 => 78 | 320 => 79 | 337 => 82 | 338 => 83 | n => n, fun | 3 => 3 | 9 => 9 | 2 => 2 | 4 => 4 | 171 => 96 | 0 => 0 | 53 => 97 | 37 => 70 | 5 => 5 | 173 => 100 | 212 => 110 | 51 => 32 | 20 => 20 | 213 => 111 | 46 => 113 | 232 => 117 | 233 => 118 | n => n, fun | 17 => 0 | 18 => 2 | 19 => 3 | n => n⟩
theorem Tryd.layItoa : Go.Proofs.LaysM.n171 Tryd.prog Tryd.layItoa_ren where
  mixed := by kernel_rfl
  f129 := Tryd.func76.trans (congrArg some (by kernel_rfl))
  f171 := Tryd.func70.trans (congrArg some (by kernel_rfl))
  f243 := Tryd.func80.trans (congrArg some (by kernel_rfl))
  f246 := Tryd.func50.trans (congrArg some (by kernel_rfl))
  f283 := Tryd.func66.trans (congrArg some (by kernel_rfl))
  f284 := Tryd.func67.trans (congrArg some (by kernel_rfl))
  f285 := Tryd.func68.trans (congrArg some (by kernel_rfl))
  f286 := Tryd.func69.trans (congrArg some (by kernel_rfl))
  f317 := Tryd.func75.trans (congrArg some (by kernel_rfl))
  f318 := Tryd.func77.trans (congrArg some (by kernel_rfl))
  f319 := Tryd.func78.trans (congrArg some (by kernel_rfl))
  f320 := Tryd.func79.trans (congrArg some (by kernel_rfl))
  f337 := Tryd.func82.trans (congrArg some (by kernel_rfl))
  f338 := Tryd.func83.trans (congrArg some (by kernel_rfl))
  t0 := Tryd.underlying0
  a0 := Tryd.isAgg0
  z0 := Tryd.sizeOf0
  v0 := Tryd.zeroValue0
  t2 := Tryd.underlying2
  a2 := Tryd.isAgg2
  z2 := Tryd.sizeOf2
  v2 := Tryd.zeroValue2
  t3 := Tryd.underlying3
  a3 := Tryd.isAgg3
  z3 := Tryd.sizeOf3
  v3 := Tryd.zeroValue3
  t4 := Tryd.underlying4
  a4 := Tryd.isAgg4
  z4 := Tryd.sizeOf4
  v4 := Tryd.zeroValue4
  t5 := Tryd.underlying5
  a5 := Tryd.isAgg5
  z5 := Tryd.sizeOf5
  v5 := Tryd.zeroValue5
  t9 := Tryd.underlying9
  a9 := Tryd.isAgg9
  z9 := Tryd.sizeOf9
  v9 := Tryd.zeroValue9
  t20 := Tryd.underlying20
  a20 := Tryd.isAgg20
  z20 := Tryd.sizeOf20
  v20 := Tryd.zeroValue20
  t37 := Tryd.underlying70
  a37 := Tryd.isAgg70
  z37 := Tryd.sizeOf70
  v37 := Tryd.zeroValue70
  t46 := Tryd.underlying113
  a46 := Tryd.isAgg113
  z46 := Tryd.sizeOf113
  v46 := Tryd.zeroValue113
  t51 := Tryd.underlying32
  a51 := Tryd.isAgg32
  z51 := Tryd.sizeOf32
  v51 := Tryd.zeroValue32
  t53 := Tryd.underlying97
  a53 := Tryd.isAgg97
  z53 := Tryd.sizeOf97
  v53 := Tryd.zeroValue97
  t171 := Tryd.underlying96
  a171 := Tryd.isAgg96
  z171 := Tryd.sizeOf96
  v171 := Tryd.zeroValue96
  t173 := Tryd.underlying100
  a173 := Tryd.isAgg100
  z173 := Tryd.sizeOf100
  v173 := Tryd.zeroValue100
  t212 := Tryd.underlying110
  a212 := Tryd.isAgg110
  z212 := Tryd.sizeOf110
  v212 := Tryd.zeroValue110
  t213 := Tryd.underlying111
  a213 := Tryd.isAgg111
  z213 := Tryd.sizeOf111
  t232 := Tryd.underlying117
  a232 := Tryd.isAgg117
  z232 := Tryd.sizeOf117
  v232 := Tryd.zeroValue117
  t233 := Tryd.underlying118
  a233 := Tryd.isAgg118
  z233 := Tryd.sizeOf118
  v233 := Tryd.zeroValue118
  g17 := by kernel_rfl
  g18 := by kernel_rfl
  g19 := by kernel_rfl
  i0 := by kernel_rfl
  i2 := by kernel_rfl
  i3 := by kernel_rfl
  i4 := by kernel_rfl
  i5 := by kernel_rfl
  i9 := by kernel_rfl
  i20 := by kernel_rfl
  i37 := by kernel_rfl
  i46 := by kernel_rfl
  i51 := by kernel_rfl
  i53 := by kernel_rfl
  i171 := by kernel_rfl
  i173 := by kernel_rfl
  i212 := by kernel_rfl
  i232 := by kernel_rfl
  i233 := by kernel_rfl
  m17 := by kernel_rfl
  m18 := by kernel_rfl
  m19 := by kernel_rfl
def Tryd.layFmt_ren : Go.Shelf.Ren := ⟨fun | 173 => 30 | 246 => 50 | 283 => 66 | 284 => 67 | 285 => 68 | 286 => 69 | 129 => 76 | 317 => 75 | 318 => 77 | 319 => 78 | 320 => 79 | 337 => 82 | 338 => 83 | n => n, fun | 2 => 2 | 3 => 3 | 9 => 9 | 4 => 4 | 171 => 96 | 0 => 0 | 53 => 97 | 37 => 70 | 5 => 5 | 173 => 100 | 212 => 110 | 51 => 32 | 20 => 20 | 213 => 111 | 46 => 113 | 232 => 117 | 233 => 118 | n => n, fun | 17 => 0 | 18 => 2 | 19 => 3 | n => n⟩
theorem Tryd.layFmt : Go.Proofs.LaysM.n173 Tryd.prog Tryd.layFmt_ren where
  mixed := by kernel_rfl
  f129 := Tryd.func76.trans (congrArg some (by kernel_rfl))
  f173 := Tryd.func30.trans (congrArg some (by kernel_rfl))
  f246 := Tryd.func50.trans (congrArg some (by kernel_rfl))
  f283 := Tryd.func66.trans (congrArg some (by kernel_rfl))
  f284 := Tryd.func67.trans (congrArg some (by kernel_rfl))
  f285 := Tryd.func68.trans (congrArg some (by kernel_rfl))
  f286 := Tryd.func69.trans (congrArg some (by kernel_rfl))
  f317 := Tryd.func75.trans (congrArg some (by kernel_rfl))
  f318 := Tryd.func77.trans (congrArg some (by kernel_rfl))
  f319 := Tryd.func78.trans (congrArg some (by kernel_rfl))
  f320 := Tryd.func79.trans (congrArg some (by kernel_rfl))
  f337 := Tryd.func82.trans (congrArg some (by kernel_rfl))
  f338 := Tryd.func83.trans (congrArg some (by kernel_rfl))
  t0 := Tryd.underlying0
  a0 := Tryd.isAgg0
  z0 := Tryd.sizeOf0
  v0 := Tryd.zeroValue0
  t2 := Tryd.underlying2
  a2 := Tryd.isAgg2
  z2 := Tryd.sizeOf2
  v2 := Tryd.zeroValue2
  t3 := Tryd.underlying3
  a3 := Tryd.isAgg3
  z3 := Tryd.sizeOf3
  v3 := Tryd.zeroValue3
  t4 := Tryd.underlying4
  a4 := Tryd.isAgg4
  z4 := Tryd.sizeOf4
  v4 := Tryd.zeroValue4
  t5 := Tryd.underlying5
  a5 := Tryd.isAgg5
  z5 := Tryd.sizeOf5
  v5 := Tryd.zeroValue5
  t9 := Tryd.underlying9
  a9 := Tryd.isAgg9
  z9 := Tryd.sizeOf9
  v9 := Tryd.zeroValue9
  t20 := Tryd.underlying20
  a20 := Tryd.isAgg20
  z20 := Tryd.sizeOf20
  v20 := Tryd.zeroValue20
  t37 := Tryd.underlying70
  a37 := Tryd.isAgg70
  z37 := Tryd.sizeOf70
  v37 := Tryd.zeroValue70
  t46 := Tryd.underlying113
  a46 := Tryd.isAgg113
  z46 := Tryd.sizeOf113
  v46 := Tryd.zeroValue113
  t51 := Tryd.underlying32
  a51 := Tryd.isAgg32
  z51 := Tryd.sizeOf32
  v51 := Tryd.zeroValue32
  t53 := Tryd.underlying97
  a53 := Tryd.isAgg97
  z53 := Tryd.sizeOf97
  v53 := Tryd.zeroValue97
  t171 := Tryd.underlying96
  a171 := Tryd.isAgg96
  z171 := Tryd.sizeOf96
  v171 := Tryd.zeroValue96
  t173 := Tryd.underlying100
  a173 := Tryd.isAgg100
  z173 := Tryd.sizeOf100
  v173 := Tryd.zeroValue100
  t212 := Tryd.underlying110
  a212 := Tryd.isAgg110
  z212 := Tryd.sizeOf110
  v212 := Tryd.zeroValue110
  t213 := Tryd.underlying111
  a213 := Tryd.isAgg111
  z213 := Tryd.sizeOf111
  t232 := Tryd.underlying117
  a232 := Tryd.isAgg117
  z232 := Tryd.sizeOf117
  v232 := Tryd.zeroValue117
  t233 := Tryd.underlying118
  a233 := Tryd.isAgg118
  z233 := Tryd.sizeOf118
  v233 := Tryd.zeroValue118
  g17 := by kernel_rfl
  g18 := by kernel_rfl
  g19 := by kernel_rfl
  i0 := by kernel_rfl
  i2 := by kernel_rfl
  i3 := by kernel_rfl
  i4 := by kernel_rfl
  i5 := by kernel_rfl
  i9 := by kernel_rfl
  i20 := by kernel_rfl
  i37 := by kernel_rfl
  i46 := by kernel_rfl
  i51 := by kernel_rfl
  i53 := by kernel_rfl
  i171 := by kernel_rfl
  i173 := by kernel_rfl
  i212 := by kernel_rfl
  i232 := by kernel_rfl
  i233 := by kernel_rfl
  m17 := by kernel_rfl
  m18 := by kernel_rfl
  m19 := by kernel_rfl
theorem ok3 : EntryOk prog 3 (.code ir3) := ⟨Tryd.f3, Tryd.func3, by kernel_rfl, by kernel_rfl⟩
theorem e_right : EntryOk2 prog 5 (.hook (pureH (inF rightR))) := globs (h_right mixed0 rfl all0)
theorem e_target : EntryOk2 prog 16 (.hook (pureH (inF targetR))) := globs (h_target mixed0 rfl all0)
theorem e_writesPred : EntryOk2 prog 32 (.hook (pureH (inF writesPredR))) := globs (h_writesPred mixed0 rfl all0)
theorem e_class : EntryOk2 prog 33 (.hook (pureH classG)) := globs (h_class mixed0 rfl all0)
def wCode : List (Nat × FnImp) := [(53, .code ir53)]
theorem words_ev : compAuto (callF (tabL wCode) (evalF (tabL wCode) 100) 53 [] s0) (.map 0) [.map (wEs wordsL 0) 23] = true := by kernel_rfl
theorem e_words : EntryOk2 prog 53 (.hook (litH wordsG)) := globs (by
  refine EntryOk2.lit mixed0 rfl (show TabFine prog0 (tabL wCode) from AllOk2.fine (.cons (.old (show EntryOk prog0 53 (.code ir53) from ⟨Tryd.f53, Tryd.func53, by kernel_rfl, by kernel_rfl⟩)) (.nil))) 100 _ _ fun args v l h => ?_
  unfold wordsG at h
  split at h
  · cases h; exact ⟨rfl, _, words_ev⟩
  · cases h)
theorem enter70 : ∀ (args : Array Value) (w : World), (callFunc 70 args).run prog.toProgram w = .ok (.enter 70 args) w := fun args w => by
  have e1 : prog.toProgram.funcs[70]? = some Tryd.f70 := Tryd.func70
  have e2 : (Tryd.f70.name == "runtime.NumGoroutine") = false := by kernel_rfl
  have e3 : Tryd.f70.body.isSome = true := by kernel_rfl
  obtain ⟨c, e4⟩ := Option.isSome_iff_exists.1 e3
  simp only [beq_eq_false_iff_ne, ne_eq] at e2
  simp [callFunc, e1, e2, e4]
theorem enter30 : ∀ (args : Array Value) (w : World), (callFunc 30 args).run prog.toProgram w = .ok (.enter 30 args) w := fun args w => by
  have e1 : prog.toProgram.funcs[30]? = some Tryd.f30 := Tryd.func30
  have e2 : (Tryd.f30.name == "runtime.NumGoroutine") = false := by kernel_rfl
  have e3 : Tryd.f30.body.isSome = true := by kernel_rfl
  obtain ⟨c, e4⟩ := Option.isSome_iff_exists.1 e3
  simp only [beq_eq_false_iff_ne, ne_eq] at e2
  simp [callFunc, e1, e2, e4]
theorem e_itoa : EntryOk2 prog 70 (.hook (itoaH 0)) := by exact .hook (itoa_ok (P := prog) Tryd.layItoa enter70 (g := 0) (by decide) (by kernel_rfl)) (fun args s => itoa_tame 0 args s)
theorem e_fmt10 : EntryOk2 prog 30 (.hook (fmtH 0)) := by exact .hook (fmt_ok (P := prog) Tryd.layFmt enter30 (g := 0) (by decide) (by kernel_rfl)) (fun args s => fmt_tame 0 args s)
theorem e_hex : EntryOk2 prog 30 (.hook (gateH pTab hexT)) := EntryOk2.gate mixed (AllOk2.fine (.cons (.old ok30) (.cons (.old ok50) (.cons (.old ok69) (.cons (.old ok78) (.cons (.old ok79) (.cons (.old ok83) (.nil)))))))) _ pTab pTab_put _ (hexT_ok rfl rfl rfl rfl rfl rfl)
theorem e_fmt : EntryOk2 prog 30 (.hook (fmt2)) := fmt2_entry e_fmt10 e_hex
theorem e_number : EntryOk2 prog 51 (.hook (gateH pTab (i64T Lib.itoa))) := EntryOk2.gate mixed (AllOk2.fine (.cons (.old ok51) (.cons e_itoa (.nil)))) _ pTab pTab_put _ (i64T_ok fun s hp i hi => number_ran rfl rfl s hp i hi)
theorem e_reg : EntryOk2 prog 36 (.hook (gateH pTab (byteT regS))) := EntryOk2.gate mixed (AllOk2.fine (.cons (.old ok36) (.cons e_number (.nil)))) _ pTab pTab_put _ (byteT_ok fun s hp i hi => reg_ran rfl rfl s hp i hi)
theorem e_pred : EntryOk2 prog 31 (.hook (gateH pTab (byteT predS))) := EntryOk2.gate mixed (AllOk2.fine (.cons (.old ok31) (.cons e_number (.nil)))) _ pTab pTab_put _ (byteT_ok fun s hp i hi => pred_ran rfl rfl s hp i hi)
theorem e_count : EntryOk2 prog 52 (.hook (gateH pTab (u16T countS))) := EntryOk2.gate mixed (AllOk2.fine (.cons (.old ok52) (.cons e_number (.nil)))) _ pTab pTab_put _ (u16T_ok fun s hp i hi => count_ran rfl rfl s hp i hi)
theorem e_imm : EntryOk2 prog 54 (.hook (gateH pTab (inT immS))) := EntryOk2.gate mixed (AllOk2.fine (.cons (.old ok54) (.cons e_fmt (.nil)))) _ pTab pTab_put _ (inT_ok fun s hp i hi => imm_ran rfl rfl s hp i hi)
theorem e_cond : EntryOk2 prog 18 (.hook (gateH pTab (inT condS))) := EntryOk2.gate mixed (AllOk2.fine (.cons (.old ok18) (.cons e_pred (.nil)))) _ pTab pTab_put _ (inT_ok fun s hp i hi => condition_ran rfl rfl s hp i hi)
theorem e_place : EntryOk2 prog 37 (.hook (gateH pTab (inT placeS))) := EntryOk2.gate mixed (AllOk2.fine (.cons (.old ok37) (.cons e_reg (.cons e_imm (.cons e_words (.nil)))))) _ pTab pTab_put _ (inT_ok fun s hp i hi => place_ran rfl rfl rfl rfl s hp i hi)
theorem e_store : EntryOk2 prog 35 (.hook (gateH pTab (inT storeS))) := EntryOk2.gate mixed (AllOk2.fine (.cons (.old ok35) (.cons e_reg (.cons e_place (.nil))))) _ pTab pTab_put _ (inT_ok fun s hp i hi => store_ran rfl rfl rfl s hp i hi)
theorem e_sright : EntryOk2 prog 38 (.hook (gateH pTab (inT rightS))) := EntryOk2.gate mixed (AllOk2.fine (.cons (.old ok38) (.cons e_reg (.cons e_pred (.cons e_imm (.cons e_words (.nil))))))) _ pTab pTab_put _ (inT_ok fun s hp i hi => right_ran2 rfl rfl rfl rfl rfl s hp i hi)
theorem e_branch : EntryOk2 prog 34 (.hook (gateH pTab (in2T branchS))) := EntryOk2.gate mixed (AllOk2.fine (.cons (.old ok34) (.cons e_reg (.cons e_number (.cons e_count (.nil)))))) _ pTab pTab_put _ (in2T_ok fun s hp i hi tg ht => branch_ran rfl rfl rfl rfl s hp i hi tg ht)
theorem e_bare : EntryOk2 prog 19 (.hook (gateH pTab (in2T bareS))) := EntryOk2.gate mixed (AllOk2.fine (.cons (.old ok19) (.cons e_reg (.cons e_pred (.cons e_branch (.cons e_store (.cons e_place (.cons e_sright (.cons e_writesPred (.cons e_class (.nil))))))))))) _ pTab pTab_put _ (in2T_ok fun s hp i hi tg ht => bare_ran rfl rfl rfl rfl rfl rfl rfl rfl rfl s hp i hi tg ht)
noncomputable def t_tells : List (Nat × FnImp) := [(6, .hook (memoAH memoPre tbl6)), (5, .hook (pureH (inF rightR))), (16, .hook (pureH (inF targetR))), (18, .hook (gateH pTab (inT condS))), (19, .hook (gateH pTab (in2T bareS))), (30, .hook fmt2), (7, .code ir7), (17, .code ir17), (3, .code ir3)]
theorem ok_tells : AllOk2 prog t_tells := .cons (ok_l1.get (f := 6) rfl) (.cons e_right (.cons e_target (.cons e_cond (.cons e_bare (.cons e_fmt (.cons (.old ok7) (.cons (.old ok17) (.cons (.old ok3) (.nil)))))))))
theorem fine_tells : TabFine prog (tabL t_tells) := AllOk2.fine ok_tells
theorem shTab : ShTab (tabL t_tells) := ⟨rfl, rfl, rfl, rfl, rfl, rfl, rfl⟩
theorem awake_yes : memoYes memoPre tbl6 sG.heap = true := by kernel_rfl
theorem pTab_sG : pTab sG.heap = true := by kernel_rfl
end Go.V
