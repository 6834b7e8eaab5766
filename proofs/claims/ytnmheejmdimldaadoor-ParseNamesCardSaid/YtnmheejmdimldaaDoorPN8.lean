/- The law at each name: by the kernel. -/
import Derived.Test.YtnmheejmdimldaaDoorPN7
import Derived.Test.YtnmheejmdimldaaDoorPnMemo
set_option linter.unusedVariables false
set_option linter.unusedSimpArgs false
set_option linter.unusedSectionVars false
/- The law at each name: by the kernel. -/
namespace Go.V
open Go
set_option linter.unusedSimpArgs false
set_option linter.unusedVariables false
noncomputable def t_names : List (Nat × FnImp) := (5, .hook (memoAH memoPre tbl5)) :: ((18, .hook (litH itoaL)) :: ((8, .hook (litH (mapG rightsL))) :: ((9, .hook (litH (mapG comparesL))) :: t_law)))
def isYes1 : Res → Bool
  | .val (.bool b) _ => b
  | _ => false
theorem yes1 : (namesN.take 50).all (fun a => isYes1 (callF (tabL t_names) (evalF (tabL t_names) 1000) 3 [.str a] sG)) = true := by kernel_rfl
theorem yes2 : (namesN.drop 50).all (fun a => isYes1 (callF (tabL t_names) (evalF (tabL t_names) 1000) 3 [.str a] sG)) = true := by kernel_rfl
theorem awake_yes : memoYes memoPre tbl5 sG.heap = true := by kernel_rfl
end Go.V
