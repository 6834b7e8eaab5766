/- Names: numbers below a bound. -/
import Derived.Test.YtnmheejmdimldaaDoorPnTab
import Derived.Test.YtnmheejmdimldaaDoorV67
set_option linter.unusedVariables false
set_option linter.unusedSimpArgs false
set_option linter.unusedSectionVars false
/- Names: numbers below a bound. -/
namespace Go.V
open Go
set_option linter.unusedSimpArgs false
set_option linter.unusedVariables false
end Go.V
