/- The functions of the dump are what the texts in the small language say: by the kernel. -/
import Derived.Test.YtlpdekocilhciaaMemTab
import Derived.Test.YtlpdekocilhciaaProg
import Derived.KernelRfl
set_option linter.unusedVariables false
set_option linter.unusedSimpArgs false
set_option linter.unusedSectionVars false
namespace Go.V
open Go Go.V Go.Proofs
set_option maxRecDepth 1000000
noncomputable def prog : Prog := { toProgram := Try.prog, G := [] }
theorem ok134 : EntryOk prog 134 (.code ir134) := ⟨Try.f134, Try.func134, by kernel_rfl, by kernel_rfl⟩
theorem ok138 : EntryOk prog 138 (.code ir138) := ⟨Try.f138, Try.func138, by kernel_rfl, by kernel_rfl⟩
theorem ok154 : EntryOk prog 154 (.code ir154) := ⟨Try.f154, Try.func154, by kernel_rfl, by kernel_rfl⟩
theorem ok135 : EntryOk prog 135 (.code ir135) := ⟨Try.f135, Try.func135, by kernel_rfl, by kernel_rfl⟩
theorem ok161 : EntryOk prog 161 (.code ir161) := ⟨Try.f161, Try.func161, by kernel_rfl, by kernel_rfl⟩
theorem ok156 : EntryOk prog 156 (.code ir156) := ⟨Try.f156, Try.func156, by kernel_rfl, by kernel_rfl⟩
theorem ok155 : EntryOk prog 155 (.code ir155) := ⟨Try.f155, Try.func155, by kernel_rfl, by kernel_rfl⟩
theorem ok137 : EntryOk prog 137 (.code ir137) := ⟨Try.f137, Try.func137, by kernel_rfl, by kernel_rfl⟩
theorem ok141 : EntryOk prog 141 (.code ir141) := ⟨Try.f141, Try.func141, by kernel_rfl, by kernel_rfl⟩
theorem ok142 : EntryOk prog 142 (.code ir142) := ⟨Try.f142, Try.func142, by kernel_rfl, by kernel_rfl⟩
theorem ok139 : EntryOk prog 139 (.code ir139) := ⟨Try.f139, Try.func139, by kernel_rfl, by kernel_rfl⟩
theorem ok115 : EntryOk prog 115 (.code ir115) := ⟨Try.f115, Try.func115, by kernel_rfl, by kernel_rfl⟩
theorem ok88 : EntryOk prog 88 (.code ir88) := ⟨Try.f88, Try.func88, by kernel_rfl, by kernel_rfl⟩
theorem ok146 : EntryOk prog 146 (.code ir146) := ⟨Try.f146, Try.func146, by kernel_rfl, by kernel_rfl⟩
theorem ok147 : EntryOk prog 147 (.code ir147) := ⟨Try.f147, Try.func147, by kernel_rfl, by kernel_rfl⟩
theorem ok136 : EntryOk prog 136 (.code ir136) := ⟨Try.f136, Try.func136, by kernel_rfl, by kernel_rfl⟩
theorem ok95 : EntryOk prog 95 (.code ir95) := ⟨Try.f95, Try.func95, by kernel_rfl, by kernel_rfl⟩
theorem ok81 : EntryOk prog 81 (.code ir81) := ⟨Try.f81, Try.func81, by kernel_rfl, by kernel_rfl⟩
theorem ok140 : EntryOk prog 140 (.code ir140) := ⟨Try.f140, Try.func140, by kernel_rfl, by kernel_rfl⟩
theorem ok157 : EntryOk prog 157 (.code ir157) := ⟨Try.f157, Try.func157, by kernel_rfl, by kernel_rfl⟩
theorem ok12 : EntryOk prog 12 (.code ir12) := ⟨Try.f12, Try.func12, by kernel_rfl, by kernel_rfl⟩
theorem ok14 : EntryOk prog 14 (.code ir14) := ⟨Try.f14, Try.func14, by kernel_rfl, by kernel_rfl⟩
theorem ok16 : EntryOk prog 16 (.code ir16) := ⟨Try.f16, Try.func16, by kernel_rfl, by kernel_rfl⟩
theorem ok21 : EntryOk prog 21 (.code ir21) := ⟨Try.f21, Try.func21, by kernel_rfl, by kernel_rfl⟩
theorem ok25 : EntryOk prog 25 (.code ir25) := ⟨Try.f25, Try.func25, by kernel_rfl, by kernel_rfl⟩
theorem ok26 : EntryOk prog 26 (.code ir26) := ⟨Try.f26, Try.func26, by kernel_rfl, by kernel_rfl⟩
theorem ok52 : EntryOk prog 52 (.code ir52) := ⟨Try.f52, Try.func52, by kernel_rfl, by kernel_rfl⟩
theorem ok57 : EntryOk prog 57 (.code ir57) := ⟨Try.f57, Try.func57, by kernel_rfl, by kernel_rfl⟩
theorem ok30 : EntryOk prog 30 (.code ir30) := ⟨Try.f30, Try.func30, by kernel_rfl, by kernel_rfl⟩
theorem ok31 : EntryOk prog 31 (.code ir31) := ⟨Try.f31, Try.func31, by kernel_rfl, by kernel_rfl⟩
theorem ok32 : EntryOk prog 32 (.code ir32) := ⟨Try.f32, Try.func32, by kernel_rfl, by kernel_rfl⟩
theorem ok59 : EntryOk prog 59 (.code ir59) := ⟨Try.f59, Try.func59, by kernel_rfl, by kernel_rfl⟩
theorem ok60 : EntryOk prog 60 (.code ir60) := ⟨Try.f60, Try.func60, by kernel_rfl, by kernel_rfl⟩
theorem ok61 : EntryOk prog 61 (.code ir61) := ⟨Try.f61, Try.func61, by kernel_rfl, by kernel_rfl⟩
theorem ok62 : EntryOk prog 62 (.code ir62) := ⟨Try.f62, Try.func62, by kernel_rfl, by kernel_rfl⟩
theorem ok28 : EntryOk prog 28 (.code ir28) := ⟨Try.f28, Try.func28, by kernel_rfl, by kernel_rfl⟩
theorem ok29 : EntryOk prog 29 (.code ir29) := ⟨Try.f29, Try.func29, by kernel_rfl, by kernel_rfl⟩
theorem ok19 : EntryOk prog 19 (.code ir19) := ⟨Try.f19, Try.func19, by kernel_rfl, by kernel_rfl⟩
theorem all : AllOk prog memCode := .cons ok140 (.cons ok157 (.cons ok134 (.cons ok154 (.cons ok135 (.cons ok88 (.cons ok115 (.cons ok146 (.cons ok147 (.cons ok136 (.cons ok161 (.cons ok156 (.cons ok155 (.cons ok137 (.cons ok138 (.cons ok139 (.cons ok141 (.cons ok142 (.cons ok95 (.cons ok81 (.cons ok12 (.cons ok14 (.cons ok16 (.cons ok21 (.cons ok25 (.cons ok26 (.cons ok52 (.cons ok57 (.cons ok30 (.cons ok31 (.cons ok32 (.cons ok59 (.cons ok60 (.cons ok61 (.cons ok62 (.cons ok28 (.cons ok29 (.cons ok19 (.nil))))))))))))))))))))))))))))))))))))))
theorem mixed : prog.follows .mixedOrders = true := by kernel_rfl
end Go.V
