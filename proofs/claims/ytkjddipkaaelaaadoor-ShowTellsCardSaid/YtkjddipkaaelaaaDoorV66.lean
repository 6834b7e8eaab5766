/- A string that came in. -/
import Derived.Test.YtkjddipkaaelaaaDoorV65
set_option linter.unusedVariables false
set_option linter.unusedSimpArgs false
set_option linter.unusedSectionVars false
/- A string that came in. -/
namespace Go.V
open Go
section
variable {P : Program}
theorem cell_str {W : World} {r : Reach} {base : Nat} {u : TypeId} {v : Value} (hu : P.underlying u = some .string) (h : Cell.okWide P W r base u v) : ∃ s, v = .string s := by
  unfold Cell.okWide at h
  rw [hu] at h
  have h : Cell.ok P W r base u v := by
    cases v <;> exact h
  unfold Cell.ok at h
  rw [hu] at h
  cases v <;> first | exact h.elim | skip
  exact ⟨_, rfl⟩
theorem value_str {W : World} {r : Reach} {base : Nat} {u : TypeId} {v : Value} (hu : P.underlying u = some .string) (h : Value.okWide P W r base u v) : ∃ s : ByteArray, v = .string s := by
  unfold Value.okWide at h
  rw [hu] at h
  exact cell_str hu h
end
end Go.V
