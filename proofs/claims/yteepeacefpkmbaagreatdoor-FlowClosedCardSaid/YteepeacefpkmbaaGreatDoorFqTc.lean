/- The law over its own table. -/
import Derived.Test.YteepeacefpkmbaaGreatDoorFqOk
import Derived.Test.YteepeacefpkmbaaGreatDoorFL9
import Derived.Test.YteepeacefpkmbaaGreatDoorFLArg
import Derived.Test.YteepeacefpkmbaaGreatDoorV67
set_option linter.unusedVariables false
set_option linter.unusedSimpArgs false
set_option linter.unusedSectionVars false
/- The law over its own table. -/
namespace Go.V
open Go Go.Proofs
set_option maxRecDepth 1000000
theorem ok4 : EntryOk prog 4 (.code ir4) := ⟨Tryz.f4, Tryz.func4, by kernel_rfl, by kernel_rfl⟩
theorem ok12 : EntryOk prog 12 (.code ir12) := ⟨Tryz.f12, Tryz.func12, by kernel_rfl, by kernel_rfl⟩
theorem ok11 : EntryOk prog 11 (.code ir11) := ⟨Tryz.f11, Tryz.func11, by kernel_rfl, by kernel_rfl⟩
def t_ls : List (Nat × FnImp) := [(57, .code ir57), (99, .code ir99)]
def flCode : List (Nat × FnImp) := [(4, .code ir4), (12, .code ir12), (11, .code ir11), (21, .code ir21), (22, .code ir22), (20, .code ir20), (14, .code ir14), (7, .code ir7), (9, .code ir9), (51, .code ir51), (94, .code ir94), (52, .code ir52), (32, .code ir32), (61, .code ir61), (95, .code ir95), (96, .code ir96), (53, .code ir53), (138, .code ir138), (98, .code ir98), (97, .code ir97), (54, .code ir54), (55, .code ir55), (56, .code ir56), (58, .code ir58), (59, .code ir59), (31, .code ir31)]
def t_flow : List (Nat × FnImp) := (5, .hook (memoAH memoPre tbl5)) :: (57, .hook (pureH lessUG)) :: flCode
theorem fine_ls : TabFine prog (tabL t_ls) := AllOk2.fine (.cons (.old ok57) (.cons (.old ok99) .nil))
theorem flCode_ok : AllOk2 prog flCode := .cons (.old ok4) (.cons (.old ok12) (.cons (.old ok11) (.cons (.old ok21) (.cons (.old ok22) (.cons (.old ok20) (.cons (.old ok14) (.cons (.old ok7) (.cons (.old ok9) (.cons (.old ok51) (.cons (.old ok94) (.cons (.old ok52) (.cons (.old ok32) (.cons (.old ok61) (.cons (.old ok95) (.cons (.old ok96) (.cons (.old ok53) (.cons (.old ok138) (.cons (.old ok98) (.cons (.old ok97) (.cons (.old ok54) (.cons (.old ok55) (.cons (.old ok56) (.cons (.old ok58) (.cons (.old ok59) (.cons (.old ok31) (.nil))))))))))))))))))))))))))
theorem ok_flow : AllOk2 prog t_flow := .cons (ok_l16.get (f := 5) rfl) (.cons (EntryOk2.pure mixed fine_ls 57 lessUG (lessUG_ok rfl rfl)) flCode_ok)
theorem fine_flow : TabFine prog (tabL t_flow) := AllOk2.fine ok_flow
theorem toldTab : ToldTab (tabL t_flow) := ⟨⟨rfl, rfl, rfl, rfl, rfl, rfl, rfl, rfl, rfl, rfl, rfl, rfl, rfl, rfl, rfl, rfl, rfl⟩, rfl, rfl, rfl, rfl, rfl, rfl, rfl⟩
theorem awake_yes : memoYes memoPre tbl5 sG.heap = true := by kernel_rfl
theorem sG_full : (List.range sG.next).all (fun i => (sG.heap.get i).isSome) = true := by kernel_rfl
theorem flow_all {s : St} (hG : WFS sG) (hE : Ext sG s) {x : AV} {L : List ND} (hx : NdR s x L) (k : Nat) : Ran (tabL t_flow) 4 [x, .int .u32 (k : Int)] s fun v _ => v = .bool true :=
  flowClosed_ran rfl toldTab rfl rfl hE.1 (fun s' h => (memoYes_ran rfl hG (hE.trans h) awake_yes).mono fun _ _ e => e.1) hx k
end Go.V
