/- Itoa, the maps: told beforehand. -/
import Derived.Test.YtnmheejmdimldaaDoorPN5
import Derived.KernelRfl
set_option linter.unusedVariables false
set_option linter.unusedSimpArgs false
set_option linter.unusedSectionVars false
/- Itoa, the maps: told beforehand. -/
namespace Go.V
open Go
set_option linter.unusedSimpArgs false
set_option linter.unusedVariables false
noncomputable def itoaCode : List (Nat × FnImp) := [(27, .code ir27), (50, .code ir50), (69, .code ir69), (18, .code ir18), (8, .code ir8), (9, .code ir9)]
def below (p : Nat → Bool) : Nat → Bool
  | 0 => true
  | n + 1 => p n && below p n
theorem below_get {p : Nat → Bool} : ∀ {n : Nat}, below p n = true → ∀ i, i < n → p i = true
  | 0, _, i, hi => by omega
  | n + 1, h, i, hi => by
    simp only [below, Bool.and_eq_true] at h
    rcases Nat.lt_succ_iff_lt_or_eq.1 hi with h1 | rfl
    · exact below_get h.2 i h1
    · exact h.1
theorem itoa_ev : below (fun n => compAuto (callF (tabL itoaCode) (evalF (tabL itoaCode) 1000) 18 [.int .i64 (.ofNat n)] s0) (.str (digitsN n)) []) 32 = true := by kernel_rfl
theorem rights_ev : compAuto (callF (tabL itoaCode) (evalF (tabL itoaCode) 1000) 8 [] s0) (.map 0) [.map (entsW rightsL 0) rightsL.length] = true := by kernel_rfl
theorem compares_ev : compAuto (callF (tabL itoaCode) (evalF (tabL itoaCode) 1000) 9 [] s0) (.map 0) [.map (entsW comparesL 0) comparesL.length] = true := by kernel_rfl
end Go.V
