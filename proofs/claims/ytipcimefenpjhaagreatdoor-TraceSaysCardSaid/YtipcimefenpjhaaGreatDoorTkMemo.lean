/- Calls told beforehand, each run by the kernel in a state that holds what its arguments reach; then the law. -/
import Derived.Test.YtipcimefenpjhaaGreatDoorTkTab
import Derived.KernelRfl
set_option linter.unusedVariables false
set_option linter.unusedSimpArgs false
set_option linter.unusedSectionVars false
/- Calls told beforehand, each run by the kernel in a state that holds what its arguments reach; then the law. -/
namespace Go.V
open Go Go.V.Z
set_option maxRecDepth 1000000
def memoPre : List Nat := [0, 1, 2, 3, 4, 5, 6, 7, 8]
def nones : Nat → List (Option AObj)
  | 0 => []
  | n + 1 => none :: nones n
def g0 : AObj := (D [(S 9 0 0 90 9 9 true 10)])
def g1 : AObj := (D [(b 8),(i 1),(i 4),(i 0),(i 5),(i 7),(i 0),(i 0),(i 0),(i 0),(b 7),(i 4),(i 4),(i 0),(i 6),(i 7),(i 0),(i 0),(i 0),(i 0),(b 9),(i 1),(i 4),(i 0),(i 2),(i 4),(i 0),(i 0),(i 0),(i 0),(b 2),(i 4),(i 4),(i 0),(i 3),(i 4),(i 0),(i 0),(i 0),(i 0),(b 21),(i 1),(i 4),(i 0),(i 2),(i 4),(i 0),(i 5),(i 3),(i 2),(b 24),(i 2),(i 4),(i 0),(i 3),(i 4),(i 0),(i 5),(i 3),(i 2),(b 23),(i 1),(i 4),(i 0),(i 2),(i 4),(i 0),(i 5),(i 3),(i 0),(b 26),(i 2),(i 4),(i 0),(i 3),(i 4),(i 0),(i 5),(i 3),(i 0),(b 13),(i 2),(i 4),(i 0),(i 5),(i 7),(i 0),(i 0),(i 0),(i 0)])
def g2 : AObj := (D [(S 10 0 0 90 9 9 true 10)])
def g3 : AObj := (C [(b 1),(b 0),(b 0),(b 0),(b 0),(b 0),(b 0),z,z,(.int .u16 0),(i 0)])
def g4 : AObj := (C [(.map 11)])
def g5 : AObj := (.map [⟨(w 1),(b 192),0⟩,⟨(w 3),(b 4),1⟩] 2)
def gob : List AObj := [(D [(.int .u64 1),(.int .u64 10),(.int .u64 100),(.int .u64 1000),(.int .u64 10000),(.int .u64 100000),(.int .u64 1000000),(.int .u64 10000000),(.int .u64 100000000),(.int .u64 1000000000),(.int .u64 10000000000),(.int .u64 100000000000),(.int .u64 1000000000000),(.int .u64 10000000000000),(.int .u64 100000000000000),(.int .u64 1000000000000000),(.int .u64 10000000000000000),(.int .u64 100000000000000000),(.int .u64 1000000000000000000),(.int .u64 10000000000000000000)]),(D [(b 0),(b 1),(b 28),(b 2),(b 29),(b 14),(b 24),(b 3),(b 30),(b 22),(b 20),(b 15),(b 25),(b 17),(b 4),(b 8),(b 31),(b 27),(b 13),(b 23),(b 21),(b 19),(b 16),(b 7),(b 26),(b 12),(b 18),(b 6),(b 11),(b 5),(b 10),(b 9)]),(D [(b 0),(b 1),(b 56),(b 2),(b 57),(b 49),(b 28),(b 3),(b 61),(b 58),(b 42),(b 50),(b 38),(b 29),(b 17),(b 4),(b 62),(b 47),(b 59),(b 36),(b 45),(b 43),(b 51),(b 22),(b 53),(b 39),(b 33),(b 30),(b 24),(b 18),(b 12),(b 5),(b 63),(b 55),(b 48),(b 27),(b 60),(b 41),(b 37),(b 16),(b 46),(b 35),(b 44),(b 21),(b 52),(b 32),(b 23),(b 11),(b 54),(b 26),(b 40),(b 15),(b 34),(b 20),(b 31),(b 10),(b 25),(b 14),(b 19),(b 9),(b 13),(b 8),(b 7),(b 6)]),(D [(i 0),(i 14),(i 16),(i 10)]),(D [(i 26),(i 6)]),(D [(i 14),(i 2)]),(D []),(D [(i 16),(i 16)])]
noncomputable def tl0 : List (Nat × FnImp) := t_law
noncomputable def tr0 : Tree FnImp := (.node none (.node none (.node (some (.code ir3)) (.node (some (.code ir7)) (.node (some (.code ir15)) (.node (some (.code ir31)) (.node (some (.code ir63)) (.node (some (.code ir127)) .leaf .leaf) (.node (some (.code ir191)) .leaf .leaf)) (.node (some (.code ir95)) (.node (some (.code ir159)) .leaf .leaf) .leaf)) (.node (some (.code ir47)) (.node (some (.code ir79)) (.node (some (.code ir143)) .leaf .leaf) .leaf) (.node (some (.code ir111)) (.node (some (.code ir175)) .leaf .leaf) .leaf))) (.node (some (.code ir23)) (.node (some (.code ir39)) (.node (some (.code ir71)) (.node (some (.code ir135)) .leaf .leaf) .leaf) (.node (some (.code ir103)) (.node (some (.code ir167)) .leaf .leaf) .leaf)) (.node (some (.code ir55)) (.node (some (.code ir87)) (.node (some (.code ir151)) .leaf .leaf) .leaf) (.node (some (.code ir119)) (.node (some (.code ir183)) .leaf .leaf) .leaf)))) (.node (some (.code ir11)) (.node (some (.code ir19)) (.node (some (.code ir35)) (.node (some (.code ir67)) (.node (some (.code ir131)) .leaf .leaf) .leaf) (.node (some (.code ir99)) (.node (some (.code ir163)) .leaf .leaf) .leaf)) (.node (some (.code ir51)) (.node (some (.code ir83)) (.node (some (.code ir147)) .leaf .leaf) (.node (some (.code ir211)) .leaf .leaf)) (.node (some (.code ir115)) (.node (some (.code ir179)) .leaf .leaf) .leaf))) (.node (some (.code ir27)) (.node (some (.code ir43)) (.node (some (.code ir75)) (.node (some (.code ir139)) .leaf .leaf) .leaf) (.node (some (.code ir107)) (.node (some (.code ir171)) .leaf .leaf) .leaf)) (.node (some (.code ir59)) (.node (some (.code ir91)) (.node (some (.code ir155)) .leaf .leaf) .leaf) (.node (some (.code ir123)) (.node (some (.code ir187)) .leaf .leaf) .leaf))))) (.node (some (.code ir5)) (.node (some (.code ir9)) (.node (some (.code ir17)) (.node (some (.code ir33)) (.node (some (.code ir65)) (.node (some (.code ir129)) .leaf .leaf) .leaf) (.node (some (.code ir97)) (.node (some (.code ir161)) .leaf .leaf) .leaf)) (.node (some (.code ir49)) (.node (some (.code ir81)) (.node (some (.code ir145)) .leaf .leaf) (.node (some (.code ir209)) .leaf .leaf)) (.node (some (.code ir113)) (.node (some (.code ir177)) .leaf .leaf) .leaf))) (.node (some (.code ir25)) (.node (some (.code ir41)) (.node (some (.code ir73)) (.node (some (.code ir137)) .leaf .leaf) .leaf) (.node (some (.code ir105)) (.node (some (.code ir169)) .leaf .leaf) .leaf)) (.node (some (.code ir57)) (.node (some (.code ir89)) (.node (some (.code ir153)) .leaf .leaf) .leaf) (.node (some (.code ir121)) (.node (some (.code ir185)) .leaf .leaf) .leaf)))) (.node (some (.code ir13)) (.node (some (.code ir21)) (.node (some (.code ir37)) (.node (some (.code ir69)) (.node (some (.code ir133)) .leaf .leaf) .leaf) (.node (some (.code ir101)) (.node (some (.code ir165)) .leaf .leaf) .leaf)) (.node (some (.code ir53)) (.node (some (.code ir85)) (.node (some (.code ir149)) .leaf .leaf) (.node (some (.code ir213)) .leaf .leaf)) (.node (some (.code ir117)) (.node (some (.code ir181)) .leaf .leaf) .leaf))) (.node (some (.code ir29)) (.node (some (.code ir45)) (.node (some (.code ir77)) (.node (some (.code ir141)) .leaf .leaf) .leaf) (.node none (.node (some (.code ir173)) .leaf .leaf) .leaf)) (.node (some (.code ir61)) (.node (some (.code ir93)) (.node (some (.code ir157)) .leaf .leaf) .leaf) (.node (some (.code ir125)) (.node (some (.ext .f64bits)) .leaf .leaf) .leaf)))))) (.node none (.node (some (.code ir4)) (.node (some (.code ir8)) (.node (some (.code ir16)) (.node (some (.code ir32)) (.node (some (.code ir64)) (.node (some (.code ir128)) .leaf .leaf) .leaf) (.node (some (.code ir96)) (.node (some (.code ir160)) .leaf .leaf) .leaf)) (.node (some (.code ir48)) (.node (some (.code ir80)) (.node (some (.code ir144)) .leaf .leaf) .leaf) (.node (some (.code ir112)) (.node (some (.ext .fmin)) .leaf .leaf) .leaf))) (.node (some (.code ir24)) (.node (some (.code ir40)) (.node (some (.code ir72)) (.node (some (.code ir136)) .leaf .leaf) .leaf) (.node (some (.code ir104)) (.node (some (.code ir168)) .leaf .leaf) .leaf)) (.node (some (.code ir56)) (.node (some (.code ir88)) (.node (some (.code ir152)) .leaf .leaf) .leaf) (.node (some (.code ir120)) (.node (some (.code ir184)) .leaf .leaf) .leaf)))) (.node (some (.code ir12)) (.node (some (.code ir20)) (.node (some (.code ir36)) (.node (some (.code ir68)) (.node (some (.code ir132)) .leaf .leaf) .leaf) (.node (some (.code ir100)) (.node (some (.code ir164)) .leaf .leaf) .leaf)) (.node (some (.code ir52)) (.node (some (.code ir84)) (.node (some (.code ir148)) .leaf .leaf) (.node (some (.code ir212)) .leaf .leaf)) (.node (some (.code ir116)) (.node (some (.code ir180)) .leaf .leaf) .leaf))) (.node (some (.code ir28)) (.node (some (.code ir44)) (.node (some (.code ir76)) (.node (some (.code ir140)) .leaf .leaf) .leaf) (.node none (.node (some (.ext .floor)) .leaf .leaf) .leaf)) (.node (some (.code ir60)) (.node (some (.code ir92)) (.node (some (.code ir156)) .leaf .leaf) .leaf) (.node (some (.code ir124)) (.node (some (.ext .f64frombits)) .leaf .leaf) .leaf))))) (.node (some (.code ir6)) (.node (some (.code ir10)) (.node (some (.code ir18)) (.node (some (.code ir34)) (.node (some (.code ir66)) (.node (some (.code ir130)) .leaf .leaf) .leaf) (.node (some (.code ir98)) (.node (some (.code ir162)) .leaf .leaf) .leaf)) (.node (some (.code ir50)) (.node (some (.code ir82)) (.node (some (.code ir146)) .leaf .leaf) (.node (some (.code ir210)) .leaf .leaf)) (.node (some (.code ir114)) (.node (some (.code ir178)) .leaf .leaf) .leaf))) (.node (some (.code ir26)) (.node (some (.code ir42)) (.node (some (.code ir74)) (.node (some (.code ir138)) .leaf .leaf) .leaf) (.node (some (.code ir106)) (.node (some (.code ir170)) .leaf .leaf) .leaf)) (.node (some (.code ir58)) (.node (some (.code ir90)) (.node (some (.code ir154)) .leaf .leaf) .leaf) (.node (some (.code ir122)) (.node (some (.code ir186)) .leaf .leaf) .leaf)))) (.node (some (.code ir14)) (.node (some (.code ir22)) (.node (some (.code ir38)) (.node (some (.code ir70)) (.node (some (.code ir134)) .leaf .leaf) .leaf) (.node (some (.code ir102)) (.node (some (.code ir166)) .leaf .leaf) .leaf)) (.node (some (.code ir54)) (.node (some (.code ir86)) (.node (some (.code ir150)) .leaf .leaf) (.node (some (.code ir214)) .leaf .leaf)) (.node (some (.code ir118)) (.node (some (.code ir182)) .leaf .leaf) .leaf))) (.node (some (.code ir30)) (.node (some (.code ir46)) (.node (some (.code ir78)) (.node (some (.code ir142)) .leaf .leaf) .leaf) (.node (some (.code ir110)) (.node (some (.ext .fmax)) .leaf .leaf) .leaf)) (.node (some (.code ir62)) (.node (some (.code ir94)) (.node (some (.code ir158)) .leaf .leaf) .leaf) (.node (some (.code ir126)) (.node (some (.ext .trunc)) .leaf .leaf) .leaf)))))))
theorem tr0_ok : treeOf tl0 = tr0 := by kernel_rfl
def e65x0 : Ent := ⟨[(b 1)],gob ++ [g0,g1],(.tuple [(.agg [(b 1),(s [110,111,112]),(b 1),(b 15),.nilSlice]),y]),nones 10,[]⟩
def tbl65 : List Ent := [e65x0]
theorem ce65x0 : chkE (tabT tr0) (evalF (tabT tr0) 100000) 65 e65x0 = true := by kernel_rfl
theorem all65 : ∀ E, E ∈ tbl65 → chkE (tabT tr0) (evalF (tabT tr0) 100000) 65 E = true := all_cons (p := fun E => chkE (tabT tr0) (evalF (tabT tr0) 100000) 65 E) ce65x0 (fun _ h => by cases h)
noncomputable def tl1 : List (Nat × FnImp) := (65, .hook (memoAH memoPre tbl65)) :: tl0
noncomputable def tr1 : Tree FnImp := tr0.set 65 (.hook (memoAH memoPre tbl65))
theorem tr1_ok : treeOf tl1 = tr1 := by kernel_rfl
def e103x0 : Ent := ⟨[(b 1),(b 1)],gob ++ [g0,g1],(.tuple [(.agg [(b 0),(i 0),(i 0),z,z]),(i 0),z]),nones 10,[]⟩
def e103x1 : Ent := ⟨[(b 1),(b 10)],gob ++ [g0,g1],(.tuple [(.agg [(b 0),(i 0),(i 0),z,z]),(i 0),z]),nones 10,[]⟩
def e103x2 : Ent := ⟨[(b 1),(b 4)],gob ++ [g0,g1],(.tuple [(.agg [(b 0),(i 0),(i 0),z,z]),(i 0),z]),nones 10,[]⟩
def e103x3 : Ent := ⟨[(b 1),(b 9)],gob ++ [g0,g1],(.tuple [(.agg [(b 0),(i 0),(i 0),z,z]),(i 0),z]),nones 10,[]⟩
def tbl103 : List Ent := [e103x0, e103x1, e103x2, e103x3]
theorem ce103x0 : chkE (tabT tr1) (evalF (tabT tr1) 100000) 103 e103x0 = true := by kernel_rfl
theorem ce103x1 : chkE (tabT tr1) (evalF (tabT tr1) 100000) 103 e103x1 = true := by kernel_rfl
theorem ce103x2 : chkE (tabT tr1) (evalF (tabT tr1) 100000) 103 e103x2 = true := by kernel_rfl
theorem ce103x3 : chkE (tabT tr1) (evalF (tabT tr1) 100000) 103 e103x3 = true := by kernel_rfl
theorem all103 : ∀ E, E ∈ tbl103 → chkE (tabT tr1) (evalF (tabT tr1) 100000) 103 E = true := all_cons (p := fun E => chkE (tabT tr1) (evalF (tabT tr1) 100000) 103 E) ce103x0 (all_cons (p := fun E => chkE (tabT tr1) (evalF (tabT tr1) 100000) 103 E) ce103x1 (all_cons (p := fun E => chkE (tabT tr1) (evalF (tabT tr1) 100000) 103 E) ce103x2 (all_cons (p := fun E => chkE (tabT tr1) (evalF (tabT tr1) 100000) 103 E) ce103x3 (fun _ h => by cases h))))
noncomputable def tl2 : List (Nat × FnImp) := (103, .hook (memoAH memoPre tbl103)) :: tl1
noncomputable def tr2 : Tree FnImp := tr1.set 103 (.hook (memoAH memoPre tbl103))
theorem tr2_ok : treeOf tl2 = tr2 := by kernel_rfl
def e43x0 : Ent := ⟨[(.agg [(S 9 0 0 11 1 1 false 11),z,z,z,z])],gob ++ [g2,g3,g1],(i 0),nones 11,[]⟩
def tbl43 : List Ent := [e43x0]
theorem ce43x0 : chkE (tabT tr2) (evalF (tabT tr2) 100000) 43 e43x0 = true := by kernel_rfl
theorem all43 : ∀ E, E ∈ tbl43 → chkE (tabT tr2) (evalF (tabT tr2) 100000) 43 E = true := all_cons (p := fun E => chkE (tabT tr2) (evalF (tabT tr2) 100000) 43 E) ce43x0 (fun _ h => by cases h)
noncomputable def tl3 : List (Nat × FnImp) := (43, .hook (memoAH memoPre tbl43)) :: tl2
noncomputable def tr3 : Tree FnImp := tr2.set 43 (.hook (memoAH memoPre tbl43))
theorem tr3_ok : treeOf tl3 = tr3 := by kernel_rfl
def e29x0 : Ent := ⟨[(S 9 0 0 1 1 1 false 1),(w 0)],gob ++ [g2,(C [(w 67158016)]),g1],(.tuple [(.agg [(S 11 0 0 11 1 1 false 11),z,z,z,z]),(i 0)]),nones 11,[g3]⟩
def e29x1 : Ent := ⟨[(S 9 0 0 1 1 1 false 1),(w 4)],gob ++ [g2,(C [(w 0)]),g1],(.tuple [(.agg [.nilSlice,z,z,z,z]),(i 8)]),nones 11,[]⟩
def tbl29 : List Ent := [e29x0, e29x1]
theorem ce29x0 : chkE (tabT tr3) (evalF (tabT tr3) 100000) 29 e29x0 = true := by kernel_rfl
theorem ce29x1 : chkE (tabT tr3) (evalF (tabT tr3) 100000) 29 e29x1 = true := by kernel_rfl
theorem all29 : ∀ E, E ∈ tbl29 → chkE (tabT tr3) (evalF (tabT tr3) 100000) 29 E = true := all_cons (p := fun E => chkE (tabT tr3) (evalF (tabT tr3) 100000) 29 E) ce29x0 (all_cons (p := fun E => chkE (tabT tr3) (evalF (tabT tr3) 100000) 29 E) ce29x1 (fun _ h => by cases h))
noncomputable def tl4 : List (Nat × FnImp) := (29, .hook (memoAH memoPre tbl29)) :: tl3
noncomputable def tr4 : Tree FnImp := tr3.set 29 (.hook (memoAH memoPre tbl29))
theorem tr4_ok : treeOf tl4 = tr4 := by kernel_rfl
def e22x0 : Ent := ⟨[(.agg [(w 0),(w 0),(w 0),(w 0),(w 0),(w 0),(w 0),(w 0),(w 0),(w 0),(w 0),(w 0),(w 0),(w 0),(w 0),(w 0),(w 0),(w 0),(w 0),(w 0),(w 0),(w 0),(w 0),(w 0),(w 0),(w 0),(w 0),(w 0),(w 0),(w 0),(w 0),(w 0),z,z,z,z,(w 0),(w 0),(w 0),(w 0),(w 0),(b 0)]),(P 9 0 0 1)],gob ++ [g2,g4,g1,g5],(.agg [(w 0),(w 0),(w 0),(w 0),(w 0),(w 0),(w 0),(w 0),(w 0),(w 0),(w 0),(w 0),(w 0),(w 0),(w 0),(w 0),(w 0),(w 0),(w 0),(w 0),(w 0),(w 0),(w 0),(w 0),(w 0),(w 0),(w 0),(w 0),(w 0),(w 0),(w 0),(w 0),z,z,z,z,(w 0),(w 0),(w 0),(w 0),(w 4),(b 0)]),nones 12,[]⟩
def e22x1 : Ent := ⟨[(.agg [(w 0),(w 0),(w 0),(w 0),(w 0),(w 0),(w 0),(w 0),(w 0),(w 0),(w 0),(w 0),(w 0),(w 0),(w 0),(w 0),(w 0),(w 0),(w 0),(w 0),(w 0),(w 0),(w 0),(w 0),(w 0),(w 0),(w 0),(w 0),(w 0),(w 0),(w 0),(w 0),z,z,z,z,(w 0),(w 0),(w 0),(w 0),(w 4),(b 0)]),(P 9 0 0 1)],gob ++ [g2,g4,g1,g5],(.agg [(w 0),(w 0),(w 0),(w 0),(w 0),(w 0),(w 0),(w 0),(w 0),(w 0),(w 0),(w 0),(w 0),(w 0),(w 0),(w 0),(w 0),(w 0),(w 0),(w 0),(w 0),(w 0),(w 0),(w 0),(w 0),(w 0),(w 0),(w 0),(w 0),(w 0),(w 0),(w 0),z,z,z,z,(w 0),(w 0),(w 0),(w 0),(w 4),(b 2)]),nones 12,[]⟩
def tbl22 : List Ent := [e22x0, e22x1]
theorem ce22x0 : chkE (tabT tr4) (evalF (tabT tr4) 100000) 22 e22x0 = true := by kernel_rfl
theorem ce22x1 : chkE (tabT tr4) (evalF (tabT tr4) 100000) 22 e22x1 = true := by kernel_rfl
theorem all22 : ∀ E, E ∈ tbl22 → chkE (tabT tr4) (evalF (tabT tr4) 100000) 22 E = true := all_cons (p := fun E => chkE (tabT tr4) (evalF (tabT tr4) 100000) 22 E) ce22x0 (all_cons (p := fun E => chkE (tabT tr4) (evalF (tabT tr4) 100000) 22 E) ce22x1 (fun _ h => by cases h))
noncomputable def tl5 : List (Nat × FnImp) := (22, .hook (memoAH memoPre tbl22)) :: tl4
noncomputable def tr5 : Tree FnImp := tr4.set 22 (.hook (memoAH memoPre tbl22))
theorem tr5_ok : treeOf tl5 = tr5 := by kernel_rfl
def e6x0 : Ent := ⟨[],gob ++ [g0,g1],y,nones 10,[]⟩
def tbl6 : List Ent := [e6x0]
theorem ce6x0 : chkE (tabT tr5) (evalF (tabT tr5) 100000) 6 e6x0 = true := by kernel_rfl
theorem all6 : ∀ E, E ∈ tbl6 → chkE (tabT tr5) (evalF (tabT tr5) 100000) 6 E = true := all_cons (p := fun E => chkE (tabT tr5) (evalF (tabT tr5) 100000) 6 E) ce6x0 (fun _ h => by cases h)
noncomputable def tl6 : List (Nat × FnImp) := (6, .hook (memoAH memoPre tbl6)) :: tl5
noncomputable def tr6 : Tree FnImp := tr5.set 6 (.hook (memoAH memoPre tbl6))
theorem tr6_ok : treeOf tl6 = tr6 := by kernel_rfl
def e8x0 : Ent := ⟨[(i 0)],gob ++ [g0,g1],(s [48]),nones 10,[]⟩
def e8x1 : Ent := ⟨[(i 1)],gob ++ [g0,g1],(s [49]),nones 10,[]⟩
def e8x2 : Ent := ⟨[(i 2)],gob ++ [g0,g1],(s [50]),nones 10,[]⟩
def e8x3 : Ent := ⟨[(i 3)],gob ++ [g0,g1],(s [51]),nones 10,[]⟩
def e8x4 : Ent := ⟨[(i 4)],gob ++ [g0,g1],(s [52]),nones 10,[]⟩
def e8x5 : Ent := ⟨[(i 5)],gob ++ [g0,g1],(s [53]),nones 10,[]⟩
def e8x6 : Ent := ⟨[(i 6)],gob ++ [g0,g1],(s [54]),nones 10,[]⟩
def e8x7 : Ent := ⟨[(i 7)],gob ++ [g0,g1],(s [55]),nones 10,[]⟩
def e8x8 : Ent := ⟨[(i 8)],gob ++ [g0,g1],(s [56]),nones 10,[]⟩
def e8x9 : Ent := ⟨[(i 9)],gob ++ [g0,g1],(s [57]),nones 10,[]⟩
def e8x10 : Ent := ⟨[(i 10)],gob ++ [g0,g1],(s [49,48]),nones 10,[]⟩
def e8x11 : Ent := ⟨[(i 11)],gob ++ [g0,g1],(s [49,49]),nones 10,[]⟩
def e8x12 : Ent := ⟨[(i 12)],gob ++ [g0,g1],(s [49,50]),nones 10,[]⟩
def e8x13 : Ent := ⟨[(i 13)],gob ++ [g0,g1],(s [49,51]),nones 10,[]⟩
def e8x14 : Ent := ⟨[(i 14)],gob ++ [g0,g1],(s [49,52]),nones 10,[]⟩
def e8x15 : Ent := ⟨[(i 15)],gob ++ [g0,g1],(s [49,53]),nones 10,[]⟩
def e8x16 : Ent := ⟨[(i 16)],gob ++ [g0,g1],(s [49,54]),nones 10,[]⟩
def e8x17 : Ent := ⟨[(i 17)],gob ++ [g0,g1],(s [49,55]),nones 10,[]⟩
def e8x18 : Ent := ⟨[(i 18)],gob ++ [g0,g1],(s [49,56]),nones 10,[]⟩
def e8x19 : Ent := ⟨[(i 19)],gob ++ [g0,g1],(s [49,57]),nones 10,[]⟩
def e8x20 : Ent := ⟨[(i 20)],gob ++ [g0,g1],(s [50,48]),nones 10,[]⟩
def e8x21 : Ent := ⟨[(i 21)],gob ++ [g0,g1],(s [50,49]),nones 10,[]⟩
def e8x22 : Ent := ⟨[(i 22)],gob ++ [g0,g1],(s [50,50]),nones 10,[]⟩
def e8x23 : Ent := ⟨[(i 23)],gob ++ [g0,g1],(s [50,51]),nones 10,[]⟩
def e8x24 : Ent := ⟨[(i 24)],gob ++ [g0,g1],(s [50,52]),nones 10,[]⟩
def e8x25 : Ent := ⟨[(i 25)],gob ++ [g0,g1],(s [50,53]),nones 10,[]⟩
def e8x26 : Ent := ⟨[(i 26)],gob ++ [g0,g1],(s [50,54]),nones 10,[]⟩
def e8x27 : Ent := ⟨[(i 27)],gob ++ [g0,g1],(s [50,55]),nones 10,[]⟩
def e8x28 : Ent := ⟨[(i 28)],gob ++ [g0,g1],(s [50,56]),nones 10,[]⟩
def e8x29 : Ent := ⟨[(i 29)],gob ++ [g0,g1],(s [50,57]),nones 10,[]⟩
def e8x30 : Ent := ⟨[(i 30)],gob ++ [g0,g1],(s [51,48]),nones 10,[]⟩
def e8x31 : Ent := ⟨[(i 31)],gob ++ [g0,g1],(s [51,49]),nones 10,[]⟩
def e8x32 : Ent := ⟨[(i 32)],gob ++ [g0,g1],(s [51,50]),nones 10,[]⟩
def e8x33 : Ent := ⟨[(i 33)],gob ++ [g0,g1],(s [51,51]),nones 10,[]⟩
def e8x34 : Ent := ⟨[(i 34)],gob ++ [g0,g1],(s [51,52]),nones 10,[]⟩
def e8x35 : Ent := ⟨[(i 35)],gob ++ [g0,g1],(s [51,53]),nones 10,[]⟩
def e8x36 : Ent := ⟨[(i 36)],gob ++ [g0,g1],(s [51,54]),nones 10,[]⟩
def e8x37 : Ent := ⟨[(i 37)],gob ++ [g0,g1],(s [51,55]),nones 10,[]⟩
def e8x38 : Ent := ⟨[(i 38)],gob ++ [g0,g1],(s [51,56]),nones 10,[]⟩
def e8x39 : Ent := ⟨[(i 39)],gob ++ [g0,g1],(s [51,57]),nones 10,[]⟩
def e8x40 : Ent := ⟨[(i 40)],gob ++ [g0,g1],(s [52,48]),nones 10,[]⟩
def e8x41 : Ent := ⟨[(i 41)],gob ++ [g0,g1],(s [52,49]),nones 10,[]⟩
def e8x42 : Ent := ⟨[(i 42)],gob ++ [g0,g1],(s [52,50]),nones 10,[]⟩
def e8x43 : Ent := ⟨[(i 43)],gob ++ [g0,g1],(s [52,51]),nones 10,[]⟩
def e8x44 : Ent := ⟨[(i 44)],gob ++ [g0,g1],(s [52,52]),nones 10,[]⟩
def e8x45 : Ent := ⟨[(i 45)],gob ++ [g0,g1],(s [52,53]),nones 10,[]⟩
def e8x46 : Ent := ⟨[(i 46)],gob ++ [g0,g1],(s [52,54]),nones 10,[]⟩
def e8x47 : Ent := ⟨[(i 47)],gob ++ [g0,g1],(s [52,55]),nones 10,[]⟩
def e8x48 : Ent := ⟨[(i 48)],gob ++ [g0,g1],(s [52,56]),nones 10,[]⟩
def e8x49 : Ent := ⟨[(i 49)],gob ++ [g0,g1],(s [52,57]),nones 10,[]⟩
def e8x50 : Ent := ⟨[(i 50)],gob ++ [g0,g1],(s [53,48]),nones 10,[]⟩
def e8x51 : Ent := ⟨[(i 51)],gob ++ [g0,g1],(s [53,49]),nones 10,[]⟩
def e8x52 : Ent := ⟨[(i 52)],gob ++ [g0,g1],(s [53,50]),nones 10,[]⟩
def e8x53 : Ent := ⟨[(i 53)],gob ++ [g0,g1],(s [53,51]),nones 10,[]⟩
def e8x54 : Ent := ⟨[(i 54)],gob ++ [g0,g1],(s [53,52]),nones 10,[]⟩
def e8x55 : Ent := ⟨[(i 55)],gob ++ [g0,g1],(s [53,53]),nones 10,[]⟩
def e8x56 : Ent := ⟨[(i 56)],gob ++ [g0,g1],(s [53,54]),nones 10,[]⟩
def e8x57 : Ent := ⟨[(i 57)],gob ++ [g0,g1],(s [53,55]),nones 10,[]⟩
def e8x58 : Ent := ⟨[(i 58)],gob ++ [g0,g1],(s [53,56]),nones 10,[]⟩
def e8x59 : Ent := ⟨[(i 59)],gob ++ [g0,g1],(s [53,57]),nones 10,[]⟩
def e8x60 : Ent := ⟨[(i 60)],gob ++ [g0,g1],(s [54,48]),nones 10,[]⟩
def e8x61 : Ent := ⟨[(i 61)],gob ++ [g0,g1],(s [54,49]),nones 10,[]⟩
def e8x62 : Ent := ⟨[(i 62)],gob ++ [g0,g1],(s [54,50]),nones 10,[]⟩
def e8x63 : Ent := ⟨[(i 63)],gob ++ [g0,g1],(s [54,51]),nones 10,[]⟩
def e8x64 : Ent := ⟨[(i 64)],gob ++ [g0,g1],(s [54,52]),nones 10,[]⟩
def e8x65 : Ent := ⟨[(i 65)],gob ++ [g0,g1],(s [54,53]),nones 10,[]⟩
def e8x66 : Ent := ⟨[(i 66)],gob ++ [g0,g1],(s [54,54]),nones 10,[]⟩
def e8x67 : Ent := ⟨[(i 67)],gob ++ [g0,g1],(s [54,55]),nones 10,[]⟩
def e8x68 : Ent := ⟨[(i 68)],gob ++ [g0,g1],(s [54,56]),nones 10,[]⟩
def e8x69 : Ent := ⟨[(i 69)],gob ++ [g0,g1],(s [54,57]),nones 10,[]⟩
def e8x70 : Ent := ⟨[(i 70)],gob ++ [g0,g1],(s [55,48]),nones 10,[]⟩
def e8x71 : Ent := ⟨[(i 71)],gob ++ [g0,g1],(s [55,49]),nones 10,[]⟩
def e8x72 : Ent := ⟨[(i 72)],gob ++ [g0,g1],(s [55,50]),nones 10,[]⟩
def e8x73 : Ent := ⟨[(i 73)],gob ++ [g0,g1],(s [55,51]),nones 10,[]⟩
def e8x74 : Ent := ⟨[(i 74)],gob ++ [g0,g1],(s [55,52]),nones 10,[]⟩
def e8x75 : Ent := ⟨[(i 75)],gob ++ [g0,g1],(s [55,53]),nones 10,[]⟩
def e8x76 : Ent := ⟨[(i 76)],gob ++ [g0,g1],(s [55,54]),nones 10,[]⟩
def e8x77 : Ent := ⟨[(i 77)],gob ++ [g0,g1],(s [55,55]),nones 10,[]⟩
def e8x78 : Ent := ⟨[(i 78)],gob ++ [g0,g1],(s [55,56]),nones 10,[]⟩
def e8x79 : Ent := ⟨[(i 79)],gob ++ [g0,g1],(s [55,57]),nones 10,[]⟩
def e8x80 : Ent := ⟨[(i 80)],gob ++ [g0,g1],(s [56,48]),nones 10,[]⟩
def e8x81 : Ent := ⟨[(i 81)],gob ++ [g0,g1],(s [56,49]),nones 10,[]⟩
def e8x82 : Ent := ⟨[(i 82)],gob ++ [g0,g1],(s [56,50]),nones 10,[]⟩
def e8x83 : Ent := ⟨[(i 83)],gob ++ [g0,g1],(s [56,51]),nones 10,[]⟩
def e8x84 : Ent := ⟨[(i 84)],gob ++ [g0,g1],(s [56,52]),nones 10,[]⟩
def e8x85 : Ent := ⟨[(i 85)],gob ++ [g0,g1],(s [56,53]),nones 10,[]⟩
def e8x86 : Ent := ⟨[(i 86)],gob ++ [g0,g1],(s [56,54]),nones 10,[]⟩
def e8x87 : Ent := ⟨[(i 87)],gob ++ [g0,g1],(s [56,55]),nones 10,[]⟩
def e8x88 : Ent := ⟨[(i 88)],gob ++ [g0,g1],(s [56,56]),nones 10,[]⟩
def e8x89 : Ent := ⟨[(i 89)],gob ++ [g0,g1],(s [56,57]),nones 10,[]⟩
def e8x90 : Ent := ⟨[(i 90)],gob ++ [g0,g1],(s [57,48]),nones 10,[]⟩
def e8x91 : Ent := ⟨[(i 91)],gob ++ [g0,g1],(s [57,49]),nones 10,[]⟩
def e8x92 : Ent := ⟨[(i 92)],gob ++ [g0,g1],(s [57,50]),nones 10,[]⟩
def e8x93 : Ent := ⟨[(i 93)],gob ++ [g0,g1],(s [57,51]),nones 10,[]⟩
def e8x94 : Ent := ⟨[(i 94)],gob ++ [g0,g1],(s [57,52]),nones 10,[]⟩
def e8x95 : Ent := ⟨[(i 95)],gob ++ [g0,g1],(s [57,53]),nones 10,[]⟩
def e8x96 : Ent := ⟨[(i 96)],gob ++ [g0,g1],(s [57,54]),nones 10,[]⟩
def e8x97 : Ent := ⟨[(i 97)],gob ++ [g0,g1],(s [57,55]),nones 10,[]⟩
def e8x98 : Ent := ⟨[(i 98)],gob ++ [g0,g1],(s [57,56]),nones 10,[]⟩
def e8x99 : Ent := ⟨[(i 99)],gob ++ [g0,g1],(s [57,57]),nones 10,[]⟩
def e8x100 : Ent := ⟨[(i 100)],gob ++ [g0,g1],(s [49,48,48]),nones 10,[]⟩
def e8x101 : Ent := ⟨[(i 101)],gob ++ [g0,g1],(s [49,48,49]),nones 10,[]⟩
def e8x102 : Ent := ⟨[(i 102)],gob ++ [g0,g1],(s [49,48,50]),nones 10,[]⟩
def e8x103 : Ent := ⟨[(i 103)],gob ++ [g0,g1],(s [49,48,51]),nones 10,[]⟩
def e8x104 : Ent := ⟨[(i 104)],gob ++ [g0,g1],(s [49,48,52]),nones 10,[]⟩
def e8x105 : Ent := ⟨[(i 105)],gob ++ [g0,g1],(s [49,48,53]),nones 10,[]⟩
def e8x106 : Ent := ⟨[(i 106)],gob ++ [g0,g1],(s [49,48,54]),nones 10,[]⟩
def e8x107 : Ent := ⟨[(i 107)],gob ++ [g0,g1],(s [49,48,55]),nones 10,[]⟩
def e8x108 : Ent := ⟨[(i 108)],gob ++ [g0,g1],(s [49,48,56]),nones 10,[]⟩
def e8x109 : Ent := ⟨[(i 109)],gob ++ [g0,g1],(s [49,48,57]),nones 10,[]⟩
def e8x110 : Ent := ⟨[(i 110)],gob ++ [g0,g1],(s [49,49,48]),nones 10,[]⟩
def e8x111 : Ent := ⟨[(i 111)],gob ++ [g0,g1],(s [49,49,49]),nones 10,[]⟩
def e8x112 : Ent := ⟨[(i 112)],gob ++ [g0,g1],(s [49,49,50]),nones 10,[]⟩
def e8x113 : Ent := ⟨[(i 113)],gob ++ [g0,g1],(s [49,49,51]),nones 10,[]⟩
def e8x114 : Ent := ⟨[(i 114)],gob ++ [g0,g1],(s [49,49,52]),nones 10,[]⟩
def e8x115 : Ent := ⟨[(i 115)],gob ++ [g0,g1],(s [49,49,53]),nones 10,[]⟩
def e8x116 : Ent := ⟨[(i 116)],gob ++ [g0,g1],(s [49,49,54]),nones 10,[]⟩
def e8x117 : Ent := ⟨[(i 117)],gob ++ [g0,g1],(s [49,49,55]),nones 10,[]⟩
def e8x118 : Ent := ⟨[(i 118)],gob ++ [g0,g1],(s [49,49,56]),nones 10,[]⟩
def e8x119 : Ent := ⟨[(i 119)],gob ++ [g0,g1],(s [49,49,57]),nones 10,[]⟩
def e8x120 : Ent := ⟨[(i 120)],gob ++ [g0,g1],(s [49,50,48]),nones 10,[]⟩
def e8x121 : Ent := ⟨[(i 121)],gob ++ [g0,g1],(s [49,50,49]),nones 10,[]⟩
def e8x122 : Ent := ⟨[(i 122)],gob ++ [g0,g1],(s [49,50,50]),nones 10,[]⟩
def e8x123 : Ent := ⟨[(i 123)],gob ++ [g0,g1],(s [49,50,51]),nones 10,[]⟩
def e8x124 : Ent := ⟨[(i 124)],gob ++ [g0,g1],(s [49,50,52]),nones 10,[]⟩
def e8x125 : Ent := ⟨[(i 125)],gob ++ [g0,g1],(s [49,50,53]),nones 10,[]⟩
def e8x126 : Ent := ⟨[(i 126)],gob ++ [g0,g1],(s [49,50,54]),nones 10,[]⟩
def e8x127 : Ent := ⟨[(i 127)],gob ++ [g0,g1],(s [49,50,55]),nones 10,[]⟩
def e8x128 : Ent := ⟨[(i 128)],gob ++ [g0,g1],(s [49,50,56]),nones 10,[]⟩
def e8x129 : Ent := ⟨[(i 129)],gob ++ [g0,g1],(s [49,50,57]),nones 10,[]⟩
def e8x130 : Ent := ⟨[(i 130)],gob ++ [g0,g1],(s [49,51,48]),nones 10,[]⟩
def e8x131 : Ent := ⟨[(i 131)],gob ++ [g0,g1],(s [49,51,49]),nones 10,[]⟩
def e8x132 : Ent := ⟨[(i 132)],gob ++ [g0,g1],(s [49,51,50]),nones 10,[]⟩
def e8x133 : Ent := ⟨[(i 133)],gob ++ [g0,g1],(s [49,51,51]),nones 10,[]⟩
def e8x134 : Ent := ⟨[(i 134)],gob ++ [g0,g1],(s [49,51,52]),nones 10,[]⟩
def e8x135 : Ent := ⟨[(i 135)],gob ++ [g0,g1],(s [49,51,53]),nones 10,[]⟩
def e8x136 : Ent := ⟨[(i 136)],gob ++ [g0,g1],(s [49,51,54]),nones 10,[]⟩
def e8x137 : Ent := ⟨[(i 137)],gob ++ [g0,g1],(s [49,51,55]),nones 10,[]⟩
def e8x138 : Ent := ⟨[(i 138)],gob ++ [g0,g1],(s [49,51,56]),nones 10,[]⟩
def e8x139 : Ent := ⟨[(i 139)],gob ++ [g0,g1],(s [49,51,57]),nones 10,[]⟩
def e8x140 : Ent := ⟨[(i 140)],gob ++ [g0,g1],(s [49,52,48]),nones 10,[]⟩
def e8x141 : Ent := ⟨[(i 141)],gob ++ [g0,g1],(s [49,52,49]),nones 10,[]⟩
def e8x142 : Ent := ⟨[(i 142)],gob ++ [g0,g1],(s [49,52,50]),nones 10,[]⟩
def e8x143 : Ent := ⟨[(i 143)],gob ++ [g0,g1],(s [49,52,51]),nones 10,[]⟩
def e8x144 : Ent := ⟨[(i 144)],gob ++ [g0,g1],(s [49,52,52]),nones 10,[]⟩
def e8x145 : Ent := ⟨[(i 145)],gob ++ [g0,g1],(s [49,52,53]),nones 10,[]⟩
def e8x146 : Ent := ⟨[(i 146)],gob ++ [g0,g1],(s [49,52,54]),nones 10,[]⟩
def e8x147 : Ent := ⟨[(i 147)],gob ++ [g0,g1],(s [49,52,55]),nones 10,[]⟩
def e8x148 : Ent := ⟨[(i 148)],gob ++ [g0,g1],(s [49,52,56]),nones 10,[]⟩
def e8x149 : Ent := ⟨[(i 149)],gob ++ [g0,g1],(s [49,52,57]),nones 10,[]⟩
def e8x150 : Ent := ⟨[(i 150)],gob ++ [g0,g1],(s [49,53,48]),nones 10,[]⟩
def e8x151 : Ent := ⟨[(i 151)],gob ++ [g0,g1],(s [49,53,49]),nones 10,[]⟩
def e8x152 : Ent := ⟨[(i 152)],gob ++ [g0,g1],(s [49,53,50]),nones 10,[]⟩
def e8x153 : Ent := ⟨[(i 153)],gob ++ [g0,g1],(s [49,53,51]),nones 10,[]⟩
def e8x154 : Ent := ⟨[(i 154)],gob ++ [g0,g1],(s [49,53,52]),nones 10,[]⟩
def e8x155 : Ent := ⟨[(i 155)],gob ++ [g0,g1],(s [49,53,53]),nones 10,[]⟩
def e8x156 : Ent := ⟨[(i 156)],gob ++ [g0,g1],(s [49,53,54]),nones 10,[]⟩
def e8x157 : Ent := ⟨[(i 157)],gob ++ [g0,g1],(s [49,53,55]),nones 10,[]⟩
def e8x158 : Ent := ⟨[(i 158)],gob ++ [g0,g1],(s [49,53,56]),nones 10,[]⟩
def e8x159 : Ent := ⟨[(i 159)],gob ++ [g0,g1],(s [49,53,57]),nones 10,[]⟩
def e8x160 : Ent := ⟨[(i 160)],gob ++ [g0,g1],(s [49,54,48]),nones 10,[]⟩
def e8x161 : Ent := ⟨[(i 161)],gob ++ [g0,g1],(s [49,54,49]),nones 10,[]⟩
def e8x162 : Ent := ⟨[(i 162)],gob ++ [g0,g1],(s [49,54,50]),nones 10,[]⟩
def e8x163 : Ent := ⟨[(i 163)],gob ++ [g0,g1],(s [49,54,51]),nones 10,[]⟩
def e8x164 : Ent := ⟨[(i 164)],gob ++ [g0,g1],(s [49,54,52]),nones 10,[]⟩
def e8x165 : Ent := ⟨[(i 165)],gob ++ [g0,g1],(s [49,54,53]),nones 10,[]⟩
def e8x166 : Ent := ⟨[(i 166)],gob ++ [g0,g1],(s [49,54,54]),nones 10,[]⟩
def e8x167 : Ent := ⟨[(i 167)],gob ++ [g0,g1],(s [49,54,55]),nones 10,[]⟩
def e8x168 : Ent := ⟨[(i 168)],gob ++ [g0,g1],(s [49,54,56]),nones 10,[]⟩
def e8x169 : Ent := ⟨[(i 169)],gob ++ [g0,g1],(s [49,54,57]),nones 10,[]⟩
def e8x170 : Ent := ⟨[(i 170)],gob ++ [g0,g1],(s [49,55,48]),nones 10,[]⟩
def e8x171 : Ent := ⟨[(i 171)],gob ++ [g0,g1],(s [49,55,49]),nones 10,[]⟩
def e8x172 : Ent := ⟨[(i 172)],gob ++ [g0,g1],(s [49,55,50]),nones 10,[]⟩
def e8x173 : Ent := ⟨[(i 173)],gob ++ [g0,g1],(s [49,55,51]),nones 10,[]⟩
def e8x174 : Ent := ⟨[(i 174)],gob ++ [g0,g1],(s [49,55,52]),nones 10,[]⟩
def e8x175 : Ent := ⟨[(i 175)],gob ++ [g0,g1],(s [49,55,53]),nones 10,[]⟩
def e8x176 : Ent := ⟨[(i 176)],gob ++ [g0,g1],(s [49,55,54]),nones 10,[]⟩
def e8x177 : Ent := ⟨[(i 177)],gob ++ [g0,g1],(s [49,55,55]),nones 10,[]⟩
def e8x178 : Ent := ⟨[(i 178)],gob ++ [g0,g1],(s [49,55,56]),nones 10,[]⟩
def e8x179 : Ent := ⟨[(i 179)],gob ++ [g0,g1],(s [49,55,57]),nones 10,[]⟩
def e8x180 : Ent := ⟨[(i 180)],gob ++ [g0,g1],(s [49,56,48]),nones 10,[]⟩
def e8x181 : Ent := ⟨[(i 181)],gob ++ [g0,g1],(s [49,56,49]),nones 10,[]⟩
def e8x182 : Ent := ⟨[(i 182)],gob ++ [g0,g1],(s [49,56,50]),nones 10,[]⟩
def e8x183 : Ent := ⟨[(i 183)],gob ++ [g0,g1],(s [49,56,51]),nones 10,[]⟩
def e8x184 : Ent := ⟨[(i 184)],gob ++ [g0,g1],(s [49,56,52]),nones 10,[]⟩
def e8x185 : Ent := ⟨[(i 185)],gob ++ [g0,g1],(s [49,56,53]),nones 10,[]⟩
def e8x186 : Ent := ⟨[(i 186)],gob ++ [g0,g1],(s [49,56,54]),nones 10,[]⟩
def e8x187 : Ent := ⟨[(i 187)],gob ++ [g0,g1],(s [49,56,55]),nones 10,[]⟩
def e8x188 : Ent := ⟨[(i 188)],gob ++ [g0,g1],(s [49,56,56]),nones 10,[]⟩
def e8x189 : Ent := ⟨[(i 189)],gob ++ [g0,g1],(s [49,56,57]),nones 10,[]⟩
def e8x190 : Ent := ⟨[(i 190)],gob ++ [g0,g1],(s [49,57,48]),nones 10,[]⟩
def e8x191 : Ent := ⟨[(i 191)],gob ++ [g0,g1],(s [49,57,49]),nones 10,[]⟩
def e8x192 : Ent := ⟨[(i 192)],gob ++ [g0,g1],(s [49,57,50]),nones 10,[]⟩
def e8x193 : Ent := ⟨[(i 193)],gob ++ [g0,g1],(s [49,57,51]),nones 10,[]⟩
def e8x194 : Ent := ⟨[(i 194)],gob ++ [g0,g1],(s [49,57,52]),nones 10,[]⟩
def e8x195 : Ent := ⟨[(i 195)],gob ++ [g0,g1],(s [49,57,53]),nones 10,[]⟩
def e8x196 : Ent := ⟨[(i 196)],gob ++ [g0,g1],(s [49,57,54]),nones 10,[]⟩
def e8x197 : Ent := ⟨[(i 197)],gob ++ [g0,g1],(s [49,57,55]),nones 10,[]⟩
def e8x198 : Ent := ⟨[(i 198)],gob ++ [g0,g1],(s [49,57,56]),nones 10,[]⟩
def e8x199 : Ent := ⟨[(i 199)],gob ++ [g0,g1],(s [49,57,57]),nones 10,[]⟩
def e8x200 : Ent := ⟨[(i 200)],gob ++ [g0,g1],(s [50,48,48]),nones 10,[]⟩
def e8x201 : Ent := ⟨[(i 201)],gob ++ [g0,g1],(s [50,48,49]),nones 10,[]⟩
def e8x202 : Ent := ⟨[(i 202)],gob ++ [g0,g1],(s [50,48,50]),nones 10,[]⟩
def e8x203 : Ent := ⟨[(i 203)],gob ++ [g0,g1],(s [50,48,51]),nones 10,[]⟩
def e8x204 : Ent := ⟨[(i 204)],gob ++ [g0,g1],(s [50,48,52]),nones 10,[]⟩
def e8x205 : Ent := ⟨[(i 205)],gob ++ [g0,g1],(s [50,48,53]),nones 10,[]⟩
def e8x206 : Ent := ⟨[(i 206)],gob ++ [g0,g1],(s [50,48,54]),nones 10,[]⟩
def e8x207 : Ent := ⟨[(i 207)],gob ++ [g0,g1],(s [50,48,55]),nones 10,[]⟩
def e8x208 : Ent := ⟨[(i 208)],gob ++ [g0,g1],(s [50,48,56]),nones 10,[]⟩
def e8x209 : Ent := ⟨[(i 209)],gob ++ [g0,g1],(s [50,48,57]),nones 10,[]⟩
def e8x210 : Ent := ⟨[(i 210)],gob ++ [g0,g1],(s [50,49,48]),nones 10,[]⟩
def e8x211 : Ent := ⟨[(i 211)],gob ++ [g0,g1],(s [50,49,49]),nones 10,[]⟩
def e8x212 : Ent := ⟨[(i 212)],gob ++ [g0,g1],(s [50,49,50]),nones 10,[]⟩
def e8x213 : Ent := ⟨[(i 213)],gob ++ [g0,g1],(s [50,49,51]),nones 10,[]⟩
def e8x214 : Ent := ⟨[(i 214)],gob ++ [g0,g1],(s [50,49,52]),nones 10,[]⟩
def e8x215 : Ent := ⟨[(i 215)],gob ++ [g0,g1],(s [50,49,53]),nones 10,[]⟩
def e8x216 : Ent := ⟨[(i 216)],gob ++ [g0,g1],(s [50,49,54]),nones 10,[]⟩
def e8x217 : Ent := ⟨[(i 217)],gob ++ [g0,g1],(s [50,49,55]),nones 10,[]⟩
def e8x218 : Ent := ⟨[(i 218)],gob ++ [g0,g1],(s [50,49,56]),nones 10,[]⟩
def e8x219 : Ent := ⟨[(i 219)],gob ++ [g0,g1],(s [50,49,57]),nones 10,[]⟩
def e8x220 : Ent := ⟨[(i 220)],gob ++ [g0,g1],(s [50,50,48]),nones 10,[]⟩
def e8x221 : Ent := ⟨[(i 221)],gob ++ [g0,g1],(s [50,50,49]),nones 10,[]⟩
def e8x222 : Ent := ⟨[(i 222)],gob ++ [g0,g1],(s [50,50,50]),nones 10,[]⟩
def e8x223 : Ent := ⟨[(i 223)],gob ++ [g0,g1],(s [50,50,51]),nones 10,[]⟩
def e8x224 : Ent := ⟨[(i 224)],gob ++ [g0,g1],(s [50,50,52]),nones 10,[]⟩
def e8x225 : Ent := ⟨[(i 225)],gob ++ [g0,g1],(s [50,50,53]),nones 10,[]⟩
def e8x226 : Ent := ⟨[(i 226)],gob ++ [g0,g1],(s [50,50,54]),nones 10,[]⟩
def e8x227 : Ent := ⟨[(i 227)],gob ++ [g0,g1],(s [50,50,55]),nones 10,[]⟩
def e8x228 : Ent := ⟨[(i 228)],gob ++ [g0,g1],(s [50,50,56]),nones 10,[]⟩
def e8x229 : Ent := ⟨[(i 229)],gob ++ [g0,g1],(s [50,50,57]),nones 10,[]⟩
def e8x230 : Ent := ⟨[(i 230)],gob ++ [g0,g1],(s [50,51,48]),nones 10,[]⟩
def e8x231 : Ent := ⟨[(i 231)],gob ++ [g0,g1],(s [50,51,49]),nones 10,[]⟩
def e8x232 : Ent := ⟨[(i 232)],gob ++ [g0,g1],(s [50,51,50]),nones 10,[]⟩
def e8x233 : Ent := ⟨[(i 233)],gob ++ [g0,g1],(s [50,51,51]),nones 10,[]⟩
def e8x234 : Ent := ⟨[(i 234)],gob ++ [g0,g1],(s [50,51,52]),nones 10,[]⟩
def e8x235 : Ent := ⟨[(i 235)],gob ++ [g0,g1],(s [50,51,53]),nones 10,[]⟩
def e8x236 : Ent := ⟨[(i 236)],gob ++ [g0,g1],(s [50,51,54]),nones 10,[]⟩
def e8x237 : Ent := ⟨[(i 237)],gob ++ [g0,g1],(s [50,51,55]),nones 10,[]⟩
def e8x238 : Ent := ⟨[(i 238)],gob ++ [g0,g1],(s [50,51,56]),nones 10,[]⟩
def e8x239 : Ent := ⟨[(i 239)],gob ++ [g0,g1],(s [50,51,57]),nones 10,[]⟩
def e8x240 : Ent := ⟨[(i 240)],gob ++ [g0,g1],(s [50,52,48]),nones 10,[]⟩
def e8x241 : Ent := ⟨[(i 241)],gob ++ [g0,g1],(s [50,52,49]),nones 10,[]⟩
def e8x242 : Ent := ⟨[(i 242)],gob ++ [g0,g1],(s [50,52,50]),nones 10,[]⟩
def e8x243 : Ent := ⟨[(i 243)],gob ++ [g0,g1],(s [50,52,51]),nones 10,[]⟩
def e8x244 : Ent := ⟨[(i 244)],gob ++ [g0,g1],(s [50,52,52]),nones 10,[]⟩
def e8x245 : Ent := ⟨[(i 245)],gob ++ [g0,g1],(s [50,52,53]),nones 10,[]⟩
def e8x246 : Ent := ⟨[(i 246)],gob ++ [g0,g1],(s [50,52,54]),nones 10,[]⟩
def e8x247 : Ent := ⟨[(i 247)],gob ++ [g0,g1],(s [50,52,55]),nones 10,[]⟩
def e8x248 : Ent := ⟨[(i 248)],gob ++ [g0,g1],(s [50,52,56]),nones 10,[]⟩
def e8x249 : Ent := ⟨[(i 249)],gob ++ [g0,g1],(s [50,52,57]),nones 10,[]⟩
def e8x250 : Ent := ⟨[(i 250)],gob ++ [g0,g1],(s [50,53,48]),nones 10,[]⟩
def e8x251 : Ent := ⟨[(i 251)],gob ++ [g0,g1],(s [50,53,49]),nones 10,[]⟩
def e8x252 : Ent := ⟨[(i 252)],gob ++ [g0,g1],(s [50,53,50]),nones 10,[]⟩
def e8x253 : Ent := ⟨[(i 253)],gob ++ [g0,g1],(s [50,53,51]),nones 10,[]⟩
def e8x254 : Ent := ⟨[(i 254)],gob ++ [g0,g1],(s [50,53,52]),nones 10,[]⟩
def e8x255 : Ent := ⟨[(i 255)],gob ++ [g0,g1],(s [50,53,53]),nones 10,[]⟩
def tbl8 : List Ent := [e8x0, e8x1, e8x2, e8x3, e8x4, e8x5, e8x6, e8x7, e8x8, e8x9, e8x10, e8x11, e8x12, e8x13, e8x14, e8x15, e8x16, e8x17, e8x18, e8x19, e8x20, e8x21, e8x22, e8x23, e8x24, e8x25, e8x26, e8x27, e8x28, e8x29, e8x30, e8x31, e8x32, e8x33, e8x34, e8x35, e8x36, e8x37, e8x38, e8x39, e8x40, e8x41, e8x42, e8x43, e8x44, e8x45, e8x46, e8x47, e8x48, e8x49, e8x50, e8x51, e8x52, e8x53, e8x54, e8x55, e8x56, e8x57, e8x58, e8x59, e8x60, e8x61, e8x62, e8x63, e8x64, e8x65, e8x66, e8x67, e8x68, e8x69, e8x70, e8x71, e8x72, e8x73, e8x74, e8x75, e8x76, e8x77, e8x78, e8x79, e8x80, e8x81, e8x82, e8x83, e8x84, e8x85, e8x86, e8x87, e8x88, e8x89, e8x90, e8x91, e8x92, e8x93, e8x94, e8x95, e8x96, e8x97, e8x98, e8x99, e8x100, e8x101, e8x102, e8x103, e8x104, e8x105, e8x106, e8x107, e8x108, e8x109, e8x110, e8x111, e8x112, e8x113, e8x114, e8x115, e8x116, e8x117, e8x118, e8x119, e8x120, e8x121, e8x122, e8x123, e8x124, e8x125, e8x126, e8x127, e8x128, e8x129, e8x130, e8x131, e8x132, e8x133, e8x134, e8x135, e8x136, e8x137, e8x138, e8x139, e8x140, e8x141, e8x142, e8x143, e8x144, e8x145, e8x146, e8x147, e8x148, e8x149, e8x150, e8x151, e8x152, e8x153, e8x154, e8x155, e8x156, e8x157, e8x158, e8x159, e8x160, e8x161, e8x162, e8x163, e8x164, e8x165, e8x166, e8x167, e8x168, e8x169, e8x170, e8x171, e8x172, e8x173, e8x174, e8x175, e8x176, e8x177, e8x178, e8x179, e8x180, e8x181, e8x182, e8x183, e8x184, e8x185, e8x186, e8x187, e8x188, e8x189, e8x190, e8x191, e8x192, e8x193, e8x194, e8x195, e8x196, e8x197, e8x198, e8x199, e8x200, e8x201, e8x202, e8x203, e8x204, e8x205, e8x206, e8x207, e8x208, e8x209, e8x210, e8x211, e8x212, e8x213, e8x214, e8x215, e8x216, e8x217, e8x218, e8x219, e8x220, e8x221, e8x222, e8x223, e8x224, e8x225, e8x226, e8x227, e8x228, e8x229, e8x230, e8x231, e8x232, e8x233, e8x234, e8x235, e8x236, e8x237, e8x238, e8x239, e8x240, e8x241, e8x242, e8x243, e8x244, e8x245, e8x246, e8x247, e8x248, e8x249, e8x250, e8x251, e8x252, e8x253, e8x254, e8x255]
theorem allB8 : (tbl8.all fun E => chkE (tabT tr6) (evalF (tabT tr6) 100000) 8 E) = true := by kernel_rfl
theorem all8 : ∀ E, E ∈ tbl8 → chkE (tabT tr6) (evalF (tabT tr6) 100000) 8 E = true := fun E h => List.all_eq_true.1 allB8 E h
noncomputable def tl7 : List (Nat × FnImp) := (8, .hook (memoAH memoPre tbl8)) :: tl6
noncomputable def tr7 : Tree FnImp := tr6.set 8 (.hook (memoAH memoPre tbl8))
theorem tr7_ok : treeOf tl7 = tr7 := by kernel_rfl
end Go.V
