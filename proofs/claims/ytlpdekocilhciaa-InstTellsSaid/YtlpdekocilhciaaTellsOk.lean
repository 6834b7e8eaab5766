/- The document's functions are what the texts in the small language say: by the kernel. -/
import Derived.Test.YtlpdekocilhciaaLTells7
import Derived.Test.YtlpdekocilhciaaInstOk
set_option linter.unusedVariables false
set_option linter.unusedSimpArgs false
set_option linter.unusedSectionVars false
namespace Go.V
open Go Go.V Go.Proofs
set_option maxRecDepth 1000000
theorem ok46 : EntryOk prog 46 (.code ir46) := ⟨Try.f46, Try.func46, by kernel_rfl, by kernel_rfl⟩
theorem ok45 : EntryOk prog 45 (.code ir45) := ⟨Try.f45, Try.func45, by kernel_rfl, by kernel_rfl⟩
theorem ok72 : EntryOk prog 72 (.code ir72) := ⟨Try.f72, Try.func72, by kernel_rfl, by kernel_rfl⟩
theorem ok70 : EntryOk prog 70 (.code ir70) := ⟨Try.f70, Try.func70, by kernel_rfl, by kernel_rfl⟩
theorem ok73 : EntryOk prog 73 (.code ir73) := ⟨Try.f73, Try.func73, by kernel_rfl, by kernel_rfl⟩
theorem ok71 : EntryOk prog 71 (.code ir71) := ⟨Try.f71, Try.func71, by kernel_rfl, by kernel_rfl⟩
theorem ok44 : EntryOk prog 44 (.code ir44) := ⟨Try.f44, Try.func44, by kernel_rfl, by kernel_rfl⟩
theorem ok47 : EntryOk prog 47 (.code ir47) := ⟨Try.f47, Try.func47, by kernel_rfl, by kernel_rfl⟩
theorem ok48 : EntryOk prog 48 (.code ir48) := ⟨Try.f48, Try.func48, by kernel_rfl, by kernel_rfl⟩
theorem ok49 : EntryOk prog 49 (.code ir49) := ⟨Try.f49, Try.func49, by kernel_rfl, by kernel_rfl⟩
theorem ok50 : EntryOk prog 50 (.code ir50) := ⟨Try.f50, Try.func50, by kernel_rfl, by kernel_rfl⟩
theorem ok51 : EntryOk prog 51 (.code ir51) := ⟨Try.f51, Try.func51, by kernel_rfl, by kernel_rfl⟩
theorem tells_all : AllOk prog tellsCode := .cons ok46 (.cons ok45 (.cons ok72 (.cons ok70 (.cons ok73 (.cons ok71 (.cons ok44 (.cons ok47 (.cons ok48 (.cons ok49 (.cons ok50 (.cons ok51 (.nil))))))))))))
end Go.V
