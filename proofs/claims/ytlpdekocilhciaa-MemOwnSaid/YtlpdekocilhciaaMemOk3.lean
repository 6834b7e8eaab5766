/- The rest of mem's functions: the dump's are what the texts say. -/
import Derived.Test.YtlpdekocilhciaaMemOk2
import Derived.Test.YtlpdekocilhciaaMemN
set_option linter.unusedVariables false
set_option linter.unusedSimpArgs false
set_option linter.unusedSectionVars false
namespace Go.V
open Go Go.V Go.Proofs
set_option maxRecDepth 1000000
theorem okm27 : EntryOk prog 27 (.code ir27) := ⟨Try.f27, Try.func27, by kernel_rfl, by kernel_rfl⟩
theorem okm22 : EntryOk prog 22 (.code ir22) := ⟨Try.f22, Try.func22, by kernel_rfl, by kernel_rfl⟩
theorem okm20 : EntryOk prog 20 (.code ir20) := ⟨Try.f20, Try.func20, by kernel_rfl, by kernel_rfl⟩
theorem okm24 : EntryOk prog 24 (.code ir24) := ⟨Try.f24, Try.func24, by kernel_rfl, by kernel_rfl⟩
theorem okm23 : EntryOk prog 23 (.code ir23) := ⟨Try.f23, Try.func23, by kernel_rfl, by kernel_rfl⟩
theorem okm18 : EntryOk prog 18 (.code ir18) := ⟨Try.f18, Try.func18, by kernel_rfl, by kernel_rfl⟩
theorem okm33 : EntryOk prog 33 (.code ir33) := ⟨Try.f33, Try.func33, by kernel_rfl, by kernel_rfl⟩
theorem all2 : AllOk prog mem2Code := .cons okm27 (.cons okm22 (.cons okm20 (.cons okm24 (.cons okm23 (.cons okm18 (.cons okm33 (.nil)))))))
theorem tyActs : tyOf Try.prog 8 48 = some (.slice actTy) := by
  have c52 : Try.prog.cellsOf 52 = 5 := by kernel_rfl
  have c5 : Try.prog.cellsOf 5 = 1 := by kernel_rfl
  have c22 : Try.prog.cellsOf 22 = 1 := by kernel_rfl
  have c3 : Try.prog.cellsOf 3 = 1 := by kernel_rfl
  have c9 : Try.prog.cellsOf 9 = 1 := by kernel_rfl
  simp [tyOf, tyOf.go, actTy, tySize, tySizes, Try.underlying48, Try.underlying52, Try.underlying5, Try.underlying22, Try.underlying3, Try.underlying9, c52, c5, c22, c3, c9]
theorem memAll_ok : AllOk2 prog memAll := AllOk2.app all2 (memList_ok mixed all rfl okClone)
end Go.V
