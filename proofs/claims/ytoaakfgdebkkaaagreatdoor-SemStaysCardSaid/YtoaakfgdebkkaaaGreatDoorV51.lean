/- GLOBALS: variables that are listed lie in the abstract state under their own numbers. -/
import Derived.Test.YtoaakfgdebkkaaaGreatDoorVE
set_option linter.unusedVariables false
set_option linter.unusedSimpArgs false
set_option linter.unusedSectionVars false
/- GLOBALS: variables that are listed lie in the abstract state under their own numbers. -/
namespace Go.V
open Go Go.RowKit Go.ChangeShapes Go.WideShapes Go.ChangeAt
theorem upd_at (φ : Phi) (i k : Nat) (x : Inc) : (φ.upd i k x) i k = some x := by simp [Phi.upd]


/-- One listed variable's cells. -/
theorem var_cells {P : Program} {W : World} {name : String} {g : Nat} (hg : P.globalNamed name = some g) {cs : Array Value} (hv : W.var? P name = some cs) : ∃ el fz, W.heap[g]? = some (.cells cs el fz) := by
 unfold World.var? at hv
 rw [hg] at hv
 simp only [Option.bind_some] at hv
 split at hv
 · rename_i c a b hh
   cases hv
   exact ⟨_, _, hh⟩
 · cases hv
end Go.V
