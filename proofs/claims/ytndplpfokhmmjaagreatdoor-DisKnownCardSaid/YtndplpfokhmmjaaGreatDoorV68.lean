/- internal/abi.NoEscape hands on what it is handed. -/
import Derived.Test.YtndplpfokhmmjaaGreatDoorV64
set_option linter.unusedVariables false
set_option linter.unusedSimpArgs false
set_option linter.unusedSectionVars false
/- internal/abi.NoEscape hands on what it is handed. -/
namespace Go.V
open Go

theorem ext_noEscape {P : Prog} : ExtRun P .noEscape Extern.AbiNoEscape.same := by
  refine pure_run fun args s r hr hne => ?_
  unfold extV at hr
  split at hr <;> first | cases ‹ExtK.noEscape = _› | skip
  · rename_i x
    subst hr
    refine ⟨x, rfl, fun φ cargs ha => ?_⟩
    cases ha
    rename_i c l h1 h2
    cases h2
    exact ⟨c, fun w => rfl, h1⟩
  · exact absurd hr.symm hne
end Go.V
