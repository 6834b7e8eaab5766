/- ShowKnown over its table. -/
import Derived.Test.YtlpdekocilhciaaDoorShowTab
import Derived.KernelRfl
set_option linter.unusedVariables false
set_option linter.unusedSimpArgs false
set_option linter.unusedSectionVars false
/- ShowKnown over its table. -/
namespace Go.V
open Go
set_option linter.unusedSimpArgs false
set_option linter.unusedVariables false
theorem showKnown_ev : isYes (callF (tabL t_show) (evalF (tabL t_show) 3000) 4 [] sG) = true := by kernel_rfl
end Go.V
