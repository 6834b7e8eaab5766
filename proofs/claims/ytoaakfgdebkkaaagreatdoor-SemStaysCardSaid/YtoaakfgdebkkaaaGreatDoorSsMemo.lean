/- Calls told beforehand, each run by the kernel in a state that holds what its arguments reach; then the law. -/
import Derived.Test.YtoaakfgdebkkaaaGreatDoorSL
import Derived.KernelRfl
set_option linter.unusedVariables false
set_option linter.unusedSimpArgs false
set_option linter.unusedSectionVars false
/- Calls told beforehand, each run by the kernel in a state that holds what its arguments reach; then the law. -/
namespace Go.V
open Go Go.V.Z
set_option maxRecDepth 1000000
def memoPre : List Nat := [0, 1, 2, 3, 4]
def nones : Nat → List (Option AObj)
 | 0 => []
 | n + 1 => none :: nones n
def gob : List AObj := [(D [(S 5 0 0 90 9 9 true 10)]),(D [(i 0),(i 14),(i 16),(i 10)]),(D [(i 16),(i 16)]),(D [(i 14),(i 2)]),(D []),(D [(b 8),(i 1),(i 4),(i 0),(i 5),(i 7),(i 0),(i 0),(i 0),(i 0),(b 7),(i 4),(i 4),(i 0),(i 6),(i 7),(i 0),(i 0),(i 0),(i 0),(b 9),(i 1),(i 4),(i 0),(i 2),(i 4),(i 0),(i 0),(i 0),(i 0),(b 2),(i 4),(i 4),(i 0),(i 3),(i 4),(i 0),(i 0),(i 0),(i 0),(b 21),(i 1),(i 4),(i 0),(i 2),(i 4),(i 0),(i 5),(i 3),(i 2),(b 24),(i 2),(i 4),(i 0),(i 3),(i 4),(i 0),(i 5),(i 3),(i 2),(b 23),(i 1),(i 4),(i 0),(i 2),(i 4),(i 0),(i 5),(i 3),(i 0),(b 26),(i 2),(i 4),(i 0),(i 3),(i 4),(i 0),(i 5),(i 3),(i 0),(b 13),(i 2),(i 4),(i 0),(i 5),(i 7),(i 0),(i 0),(i 0),(i 0)])]
noncomputable def tl0 : List (Nat × FnImp) := t_law
noncomputable def tr0 : Tree FnImp := (.node none (.node none (.node none (.node (some (.code ir7)) (.node none .leaf (.node none .leaf (.node (some (.code ir111)) .leaf .leaf))) (.node (some (.code ir23)) .leaf (.node (some (.code ir55)) (.node (some (.code ir87)) .leaf .leaf) (.node (some (.code ir119)) (.node (some (.ext .floor)) .leaf .leaf) .leaf)))) (.node none (.node none .leaf (.node (some (.code ir51)) .leaf (.node (some (.code ir115)) .leaf .leaf))) (.node none (.node none .leaf (.node (some (.code ir107)) (.node (some (.code ir171)) .leaf .leaf) .leaf)) (.node none .leaf (.node (some (.code ir123)) (.node (some (.ext .fmin)) .leaf .leaf) .leaf))))) (.node none (.node (some (.code ir9)) (.node none .leaf (.node none .leaf (.node (some (.code ir113)) .leaf .leaf))) (.node (some (.code ir25)) .leaf (.node (some (.code ir57)) (.node (some (.code ir89)) .leaf .leaf) (.node (some (.code ir121)) (.node (some (.ext .fmax)) .leaf .leaf) .leaf)))) (.node none (.node none (.node none (.node none (.node (some (.code ir133)) .leaf .leaf) .leaf) .leaf) (.node (some (.code ir53)) (.node (some (.code ir85)) .leaf .leaf) (.node (some (.code ir117)) .leaf .leaf))) (.node none (.node none .leaf (.node (some (.code ir109)) (.node (some (.code ir173)) .leaf .leaf) .leaf)) .leaf)))) (.node none (.node none (.node none (.node none .leaf (.node none .leaf (.node (some (.code ir112)) .leaf .leaf))) (.node (some (.code ir24)) .leaf (.node (some (.code ir56)) (.node (some (.code ir88)) .leaf .leaf) (.node (some (.code ir120)) .leaf .leaf)))) (.node none (.node none (.node none (.node none (.node (some (.code ir132)) .leaf .leaf) .leaf) .leaf) (.node (some (.code ir52)) .leaf (.node (some (.code ir116)) .leaf .leaf))) (.node none (.node none .leaf (.node (some (.code ir108)) (.node (some (.code ir172)) .leaf .leaf) .leaf)) .leaf))) (.node none (.node none (.node (some (.code ir18)) .leaf (.node none .leaf (.node (some (.code ir114)) .leaf .leaf))) (.node none (.node none .leaf (.node (some (.code ir106)) .leaf .leaf)) (.node none (.node (some (.code ir90)) .leaf .leaf) (.node (some (.code ir122)) .leaf .leaf)))) (.node none (.node (some (.code ir22)) (.node none (.node none (.node (some (.code ir134)) .leaf .leaf) .leaf) .leaf) (.node (some (.code ir54)) (.node (some (.code ir86)) .leaf .leaf) (.node (some (.code ir118)) .leaf .leaf))) (.node none (.node none .leaf (.node (some (.code ir110)) (.node (some (.code ir174)) .leaf .leaf) .leaf)) (.node none (.node none (.node (some (.code ir158)) .leaf .leaf) .leaf) .leaf))))))
theorem tr0_ok : treeOf tl0 = tr0 := by kernel_rfl
def e7x0 : Ent := ⟨[],gob ++ [],y,nones 6,[]⟩
def tbl7 : List Ent := [e7x0]
theorem ce7x0 : chkE (tabT tr0) (evalF (tabT tr0) 100000) 7 e7x0 = true := by kernel_rfl
theorem all7 : ∀ E, E ∈ tbl7 → chkE (tabT tr0) (evalF (tabT tr0) 100000) 7 E = true := all_cons (p := fun E => chkE (tabT tr0) (evalF (tabT tr0) 100000) 7 E) ce7x0 (fun _ h => by cases h)
noncomputable def tl1 : List (Nat × FnImp) := (7, .hook (memoAH memoPre tbl7)) :: tl0
noncomputable def tr1 : Tree FnImp := tr0.set 7 (.hook (memoAH memoPre tbl7))
end Go.V
