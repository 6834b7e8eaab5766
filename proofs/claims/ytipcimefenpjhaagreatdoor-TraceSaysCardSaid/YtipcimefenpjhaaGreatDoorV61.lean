/- Tables as trees; a number at which nothing lies. -/
import Derived.Test.YtipcimefenpjhaaGreatDoorV60
set_option linter.unusedVariables false
set_option linter.unusedSimpArgs false
set_option linter.unusedSectionVars false
/- Tables as trees; a number at which nothing lies. -/
namespace Go.V
open Go Go.RowKit

def treeOf : List (Nat × FnImp) → Tree FnImp
  | [] => .leaf
  | (f, i) :: l => (treeOf l).set f i
theorem treeOf_get (f : Nat) : ∀ l : List (Nat × FnImp), (treeOf l).get f = lookT f l
  | [] => rfl
  | (g, i) :: l => by
    simp only [treeOf, lookT, Tree.get_set, treeOf_get f l]
    by_cases h : f = g
    · subst h; simp
    · rw [if_neg h]
      have : Nat.beq g f = false := by
        cases hb : Nat.beq g f with
        | false => rfl
        | true => exact absurd (by simpa using hb : g = f).symm h
      rw [this]
noncomputable def tabT (t : Tree FnImp) : Tab := fun f => getF t f
theorem tabT_eq {l : List (Nat × FnImp)} {t : Tree FnImp} (h : treeOf l = t) : tabT t = tabL l := by
  funext f
  simp only [tabT, tabL, getF_eq, ← h, treeOf_get]

def gdummy (d : Nat) (s : St) : St := s.put d (.cells [] 0 0 true)
theorem gdummy_step {W : World} {φ : Phi} {s : St} (h : RelSt φ s W) (hr : AllRo s) (hw : WFS s) {g d : Nat} {arr : Array Value} {el : TypeId} {fz : Nat × Nat} (hh : W.heap[g]? = some (.cells arr el fz)) (hd : Nat.blt d s.next = true) (hf : (match s.heap.get d with | none => true | some _ => false) = true) :
    ∃ φ', Imp W φ s φ' (gdummy d s) := by
  have hf' : s.heap.get d = none := by
    cases hh : s.heap.get d with
    | none => rfl
    | some _ => rw [hh] at hf; cases hf
  refine ⟨_, imp_put h hr hw (by simpa using hd) hf' [] ⟨g, 0, 0, 0, arr.size⟩ (Array.getElem?_eq_some_iff.1 hh).1 fun φ' hle hX => ?_⟩
  refine ⟨Nat.le_refl _, fun k hk hk' => ?_⟩
  obtain rfl : k = 0 := by omega
  exact ⟨_, hX, arr, el, fz, hh, rfl, (fun h => by cases h), Nat.le_refl _, Nat.le_refl _, fun _ => rfl, Nat.zero_le _, fun j v _ hj hv' => absurd hj (Nat.not_lt_zero _)⟩
end Go.V
