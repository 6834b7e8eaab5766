/- A string that came in. -/
import Derived.Test.YtoaakfgdebkkaaaGreatDoorV65
set_option linter.unusedVariables false
set_option linter.unusedSimpArgs false
set_option linter.unusedSectionVars false
/- A string that came in. -/
namespace Go.V
open Go
section
variable {P : Program}
end
end Go.V
