/- LCpuKnown -/
import Derived.Test.YtdhhbompcfmpeaaGreatDoorCpuTab
import Derived.KernelRfl
set_option linter.unusedVariables false
set_option linter.unusedSimpArgs false
set_option linter.unusedSectionVars false
namespace Go.V
open Go
set_option linter.unusedSimpArgs false
set_option linter.unusedVariables false
theorem sG_ok : (match sG.heap.get 3 with | some _ => true | none => false) = true := by kernel_rfl
theorem cpuKnown_ev : isYes (callF (tabL t_cpu) (evalF (tabL t_cpu) 5000) 4 [] sG) = true := by kernel_rfl
end Go.V
