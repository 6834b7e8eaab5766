/- Calls told beforehand, each run by the kernel in a state that holds what its arguments reach; then the law. -/
import Derived.Test.YtkjddipkaaelaaaDoorSqTab
import Derived.KernelRfl
set_option linter.unusedVariables false
set_option linter.unusedSimpArgs false
set_option linter.unusedSectionVars false
/- Calls told beforehand, each run by the kernel in a state that holds what its arguments reach; then the law. -/
namespace Go.V
open Go Go.V.Z
set_option maxRecDepth 1000000
def memoPre : List Nat := [0, 1, 2, 3]
def nones : Nat → List (Option AObj)
  | 0 => []
  | n + 1 => none :: nones n
def gob : List AObj := [(D [(.int .u64 1),(.int .u64 10),(.int .u64 100),(.int .u64 1000),(.int .u64 10000),(.int .u64 100000),(.int .u64 1000000),(.int .u64 10000000),(.int .u64 100000000),(.int .u64 1000000000),(.int .u64 10000000000),(.int .u64 100000000000),(.int .u64 1000000000000),(.int .u64 10000000000000),(.int .u64 100000000000000),(.int .u64 1000000000000000),(.int .u64 10000000000000000),(.int .u64 100000000000000000),(.int .u64 1000000000000000000),(.int .u64 10000000000000000000)]),(D []),(D [(b 0),(b 1),(b 28),(b 2),(b 29),(b 14),(b 24),(b 3),(b 30),(b 22),(b 20),(b 15),(b 25),(b 17),(b 4),(b 8),(b 31),(b 27),(b 13),(b 23),(b 21),(b 19),(b 16),(b 7),(b 26),(b 12),(b 18),(b 6),(b 11),(b 5),(b 10),(b 9)]),(D [(b 0),(b 1),(b 56),(b 2),(b 57),(b 49),(b 28),(b 3),(b 61),(b 58),(b 42),(b 50),(b 38),(b 29),(b 17),(b 4),(b 62),(b 47),(b 59),(b 36),(b 45),(b 43),(b 51),(b 22),(b 53),(b 39),(b 33),(b 30),(b 24),(b 18),(b 12),(b 5),(b 63),(b 55),(b 48),(b 27),(b 60),(b 41),(b 37),(b 16),(b 46),(b 35),(b 44),(b 21),(b 52),(b 32),(b 23),(b 11),(b 54),(b 26),(b 40),(b 15),(b 34),(b 20),(b 31),(b 10),(b 25),(b 14),(b 19),(b 9),(b 13),(b 8),(b 7),(b 6)])]
noncomputable def tl0 : List (Nat × FnImp) := t_law
noncomputable def tr0 : Tree FnImp := treeOf tl0
theorem tr0_ok : treeOf tl0 = tr0 := rfl
def e6x0 : Ent := ⟨[],gob ++ [],y,nones 4,[]⟩
def tbl6 : List Ent := [e6x0]
theorem ce6x0 : chkE (tabT tr0) (evalF (tabT tr0) 100000) 6 e6x0 = true := by kernel_rfl
theorem all6 : ∀ E, E ∈ tbl6 → chkE (tabT tr0) (evalF (tabT tr0) 100000) 6 E = true := all_cons (p := fun E => chkE (tabT tr0) (evalF (tabT tr0) 100000) 6 E) ce6x0 (fun _ h => by cases h)
noncomputable def tl1 : List (Nat × FnImp) := (6, .hook (memoAH memoPre tbl6)) :: tl0
noncomputable def tr1 : Tree FnImp := tr0.set 6 (.hook (memoAH memoPre tbl6))
end Go.V
