/- maps.clone is the library's. -/
import Derived.Test.YtlpdekocilhciaaMemOk
import Derived.Test.YtlpdekocilhciaaVE
set_option linter.unusedVariables false
set_option linter.unusedSimpArgs false
set_option linter.unusedSectionVars false
namespace Go.V
open Go Go.V Go.Proofs
set_option maxRecDepth 1000000
theorem fcl1 : prog.toProgram.funcs[83]? = some Try.f83 := Try.func83
theorem fcl2 : (Try.f83.name == "runtime.NumGoroutine") = false := by kernel_rfl
theorem fcl3 : Try.f83.body.isNone = true := by kernel_rfl
theorem fcl4 : Extern.findNext Try.f83 = none := by kernel_rfl
theorem fcl5 : Extern.find Try.f83 = some Extern.MapsClone.clone := by kernel_rfl
theorem okClone : EntryOk prog 83 (.ext .mapsClone) := ext_hook ⟨fcl1, fcl2, fcl3, fcl4, fcl5⟩ ext_mapsClone
end Go.V
