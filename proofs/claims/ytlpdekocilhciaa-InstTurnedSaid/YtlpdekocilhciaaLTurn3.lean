/- InstTurned over its table. -/
import Derived.Test.YtlpdekocilhciaaTower
import Derived.Test.YtlpdekocilhciaaLTurn2
set_option linter.unusedVariables false
set_option linter.unusedSimpArgs false
set_option linter.unusedSectionVars false
/- InstTurned over its table. -/
namespace Go.V
open Go
set_option linter.unusedSimpArgs false
set_option linter.unusedVariables false
noncomputable def t_turned : List (Nat × FnImp) := [(8, .code ir8), (34, .hook (pureH (inF rightR))), (36, .hook (pureH atG)), (35, .hook (litH yesG))]
theorem fine_turned {P : Prog} (hm : P.follows .mixedOrders = true) (hG : P.G = []) (ok : AllOk P instCode) (e : EntryOk P 8 (.code ir8)) : TabFine P (tabL t_turned) :=
  AllOk2.fine (.cons (.old e) (.cons (h_right hm hG ok) (.cons (h_at hm hG ok) (.cons (h_awake hm hG ok) (.nil)))))

end Go.V
