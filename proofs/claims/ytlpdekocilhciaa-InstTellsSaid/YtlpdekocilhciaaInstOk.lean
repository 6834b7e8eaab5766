/- The functions of the dump are what the texts in the small language say: by the kernel. -/
import Derived.Test.YtlpdekocilhciaaTower
import Derived.Test.YtlpdekocilhciaaProg
import Derived.KernelRfl
set_option linter.unusedVariables false
set_option linter.unusedSimpArgs false
set_option linter.unusedSectionVars false
namespace Go.V
open Go Go.V Go.Proofs
set_option maxRecDepth 1000000
noncomputable def prog : Prog := { toProgram := Try.prog, G := [] }
theorem ok86 : EntryOk prog 86 (.code ir86) := ⟨Try.f86, Try.func86, by kernel_rfl, by kernel_rfl⟩
theorem ok66 : EntryOk prog 66 (.code ir66) := ⟨Try.f66, Try.func66, by kernel_rfl, by kernel_rfl⟩
theorem ok63 : EntryOk prog 63 (.code ir63) := ⟨Try.f63, Try.func63, by kernel_rfl, by kernel_rfl⟩
theorem ok36 : EntryOk prog 36 (.code ir36) := ⟨Try.f36, Try.func36, by kernel_rfl, by kernel_rfl⟩
theorem ok96 : EntryOk prog 96 (.code ir96) := ⟨Try.f96, Try.func96, by kernel_rfl, by kernel_rfl⟩
theorem ok97 : EntryOk prog 97 (.code ir97) := ⟨Try.f97, Try.func97, by kernel_rfl, by kernel_rfl⟩
theorem ok98 : EntryOk prog 98 (.code ir98) := ⟨Try.f98, Try.func98, by kernel_rfl, by kernel_rfl⟩
theorem ok99 : EntryOk prog 99 (.code ir99) := ⟨Try.f99, Try.func99, by kernel_rfl, by kernel_rfl⟩
theorem ok100 : EntryOk prog 100 (.code ir100) := ⟨Try.f100, Try.func100, by kernel_rfl, by kernel_rfl⟩
theorem ok101 : EntryOk prog 101 (.code ir101) := ⟨Try.f101, Try.func101, by kernel_rfl, by kernel_rfl⟩
theorem ok102 : EntryOk prog 102 (.code ir102) := ⟨Try.f102, Try.func102, by kernel_rfl, by kernel_rfl⟩
theorem ok103 : EntryOk prog 103 (.code ir103) := ⟨Try.f103, Try.func103, by kernel_rfl, by kernel_rfl⟩
theorem ok104 : EntryOk prog 104 (.code ir104) := ⟨Try.f104, Try.func104, by kernel_rfl, by kernel_rfl⟩
theorem ok143 : EntryOk prog 143 (.code ir143) := ⟨Try.f143, Try.func143, by kernel_rfl, by kernel_rfl⟩
theorem ok84 : EntryOk prog 84 (.code ir84) := ⟨Try.f84, Try.func84, by kernel_rfl, by kernel_rfl⟩
theorem ok144 : EntryOk prog 144 (.code ir144) := ⟨Try.f144, Try.func144, by kernel_rfl, by kernel_rfl⟩
theorem ok158 : EntryOk prog 158 (.code ir158) := ⟨Try.f158, Try.func158, by kernel_rfl, by kernel_rfl⟩
theorem ok85 : EntryOk prog 85 (.code ir85) := ⟨Try.f85, Try.func85, by kernel_rfl, by kernel_rfl⟩
theorem ok64 : EntryOk prog 64 (.code ir64) := ⟨Try.f64, Try.func64, by kernel_rfl, by kernel_rfl⟩
theorem ok65 : EntryOk prog 65 (.code ir65) := ⟨Try.f65, Try.func65, by kernel_rfl, by kernel_rfl⟩
theorem ok67 : EntryOk prog 67 (.code ir67) := ⟨Try.f67, Try.func67, by kernel_rfl, by kernel_rfl⟩
theorem ok43 : EntryOk prog 43 (.code ir43) := ⟨Try.f43, Try.func43, by kernel_rfl, by kernel_rfl⟩
theorem ok42 : EntryOk prog 42 (.code ir42) := ⟨Try.f42, Try.func42, by kernel_rfl, by kernel_rfl⟩
theorem ok34 : EntryOk prog 34 (.code ir34) := ⟨Try.f34, Try.func34, by kernel_rfl, by kernel_rfl⟩
theorem ok39 : EntryOk prog 39 (.code ir39) := ⟨Try.f39, Try.func39, by kernel_rfl, by kernel_rfl⟩
theorem ok37 : EntryOk prog 37 (.code ir37) := ⟨Try.f37, Try.func37, by kernel_rfl, by kernel_rfl⟩
theorem ok41 : EntryOk prog 41 (.code ir41) := ⟨Try.f41, Try.func41, by kernel_rfl, by kernel_rfl⟩
theorem ok40 : EntryOk prog 40 (.code ir40) := ⟨Try.f40, Try.func40, by kernel_rfl, by kernel_rfl⟩
theorem ok38 : EntryOk prog 38 (.code ir38) := ⟨Try.f38, Try.func38, by kernel_rfl, by kernel_rfl⟩
theorem ok111 : EntryOk prog 111 (.code ir111) := ⟨Try.f111, Try.func111, by kernel_rfl, by kernel_rfl⟩
theorem ok150 : EntryOk prog 150 (.code ir150) := ⟨Try.f150, Try.func150, by kernel_rfl, by kernel_rfl⟩
theorem ok105 : EntryOk prog 105 (.code ir105) := ⟨Try.f105, Try.func105, by kernel_rfl, by kernel_rfl⟩
theorem ok87 : EntryOk prog 87 (.code ir87) := ⟨Try.f87, Try.func87, by kernel_rfl, by kernel_rfl⟩
theorem ok68 : EntryOk prog 68 (.code ir68) := ⟨Try.f68, Try.func68, by kernel_rfl, by kernel_rfl⟩
theorem ok69 : EntryOk prog 69 (.code ir69) := ⟨Try.f69, Try.func69, by kernel_rfl, by kernel_rfl⟩
theorem ok88 : EntryOk prog 88 (.code ir88) := ⟨Try.f88, Try.func88, by kernel_rfl, by kernel_rfl⟩
theorem ok115 : EntryOk prog 115 (.code ir115) := ⟨Try.f115, Try.func115, by kernel_rfl, by kernel_rfl⟩
theorem ok35 : EntryOk prog 35 (.code ir35) := ⟨Try.f35, Try.func35, by kernel_rfl, by kernel_rfl⟩
theorem all : AllOk prog instCode := .cons ok86 (.cons ok96 (.cons ok97 (.cons ok98 (.cons ok99 (.cons ok100 (.cons ok101 (.cons ok102 (.cons ok103 (.cons ok104 (.cons ok143 (.cons ok84 (.cons ok144 (.cons ok158 (.cons ok66 (.cons ok63 (.cons ok36 (.cons ok85 (.cons ok64 (.cons ok65 (.cons ok67 (.cons ok43 (.cons ok42 (.cons ok34 (.cons ok39 (.cons ok37 (.cons ok41 (.cons ok40 (.cons ok38 (.cons ok111 (.cons ok150 (.cons ok105 (.cons ok87 (.cons ok68 (.cons ok69 (.cons ok88 (.cons ok115 (.cons ok35 (.nil))))))))))))))))))))))))))))))))))))))
theorem mixed : prog.follows .mixedOrders = true := by kernel_rfl
end Go.V
