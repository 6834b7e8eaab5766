/- InstOne over its table. -/
import Derived.Test.YtlpdekocilhciaaTower
set_option linter.unusedVariables false
set_option linter.unusedSimpArgs false
set_option linter.unusedSectionVars false
/- InstOne over its table. -/
namespace Go.V
open Go
set_option linter.unusedSimpArgs false
set_option linter.unusedVariables false
noncomputable def t_one : List (Nat × FnImp) := [(11, .code ir11), (38, .code ir38), (68, .code ir68), (87, .code ir87), (105, .code ir105), (69, .code ir69), (111, .hook (pureH lessG)), (88, .hook (litH lenG)), (34, .hook (pureH (inF rightR))), (67, .hook (pureH hasG)), (39, .hook (pureH (inF writesR))), (37, .hook (pureH (inF writesPredR))), (40, .hook (pureH (inF targetR))), (36, .hook (pureH atG)), (35, .hook (litH yesG))]
theorem fine_one {P : Prog} (hm : P.follows .mixedOrders = true) (hG : P.G = []) (ok : AllOk P instCode) (e : EntryOk P 11 (.code ir11)) : TabFine P (tabL t_one) :=
  AllOk2.fine (.cons (.old e) (.cons (e_code ok rfl) (.cons (e_code ok rfl) (.cons (e_code ok rfl) (.cons (e_code ok rfl) (.cons (e_code ok rfl) (.cons (h_less hm hG ok) (.cons (h_len hm hG ok) (.cons (h_right hm hG ok) (.cons (h_has hm hG ok) (.cons (h_writes hm hG ok) (.cons (h_writesPred hm hG ok) (.cons (h_target hm hG ok) (.cons (h_at hm hG ok) (.cons (h_awake hm hG ok) (.nil))))))))))))))))
theorem one_ran (s : St) (hs : WFS s) (i : In) (hi : okI i = true) : Ran (tabL t_one) 11 [.agg i.cells] s fun v _ => v = .bool true :=
  instOne_ran rfl rfl rfl rfl rfl rfl rfl s hs i hi fun s hs => reads_ran rfl rfl rfl rfl rfl rfl rfl rfl rfl s hs i hi
end Go.V
