/- internal/bytealg.IndexByteString. -/
import Derived.Test.YtoaakfgdebkkaaaGreatDoorV63
set_option linter.unusedVariables false
set_option linter.unusedSimpArgs false
set_option linter.unusedSectionVars false
/- internal/bytealg.IndexByteString. -/
namespace Go.V
open Go Go.RowKit


end Go.V
