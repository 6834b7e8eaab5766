/- Calls told beforehand, each run by the kernel in a state that holds what its arguments reach; then the law. -/
import Derived.Test.YtndplpfokhmmjaaGreatDoorDqTab
import Derived.KernelRfl
set_option linter.unusedVariables false
set_option linter.unusedSimpArgs false
set_option linter.unusedSectionVars false
/- Calls told beforehand, each run by the kernel in a state that holds what its arguments reach; then the law. -/
namespace Go.V
open Go Go.V.Z
def memoPre : List Nat := [0, 1, 2, 3, 4, 5, 6, 7, 8, 9, 10]
def nones : Nat → List (Option AObj)
  | 0 => []
  | n + 1 => none :: nones n
def g0 : AObj := (D [(S 12 0 0 90 9 9 true 10)])
def g1 : AObj := (D [(i 16),(i 16)])
def g2 : AObj := (D [(b 240),(b 240),(b 240),(b 240),(b 240),(b 240),(b 240),(b 240),(b 240),(b 240),(b 240),(b 240),(b 240),(b 240),(b 240),(b 240),(b 240),(b 240),(b 240),(b 240),(b 240),(b 240),(b 240),(b 240),(b 240),(b 240),(b 240),(b 240),(b 240),(b 240),(b 240),(b 240),(b 240),(b 240),(b 240),(b 240),(b 240),(b 240),(b 240),(b 240),(b 240),(b 240),(b 240),(b 240),(b 240),(b 240),(b 240),(b 240),(b 240),(b 240),(b 240),(b 240),(b 240),(b 240),(b 240),(b 240),(b 240),(b 240),(b 240),(b 240),(b 240),(b 240),(b 240),(b 240),(b 240),(b 240),(b 240),(b 240),(b 240),(b 240),(b 240),(b 240),(b 240),(b 240),(b 240),(b 240),(b 240),(b 240),(b 240),(b 240),(b 240),(b 240),(b 240),(b 240),(b 240),(b 240),(b 240),(b 240),(b 240),(b 240),(b 240),(b 240),(b 240),(b 240),(b 240),(b 240),(b 240),(b 240),(b 240),(b 240),(b 240),(b 240),(b 240),(b 240),(b 240),(b 240),(b 240),(b 240),(b 240),(b 240),(b 240),(b 240),(b 240),(b 240),(b 240),(b 240),(b 240),(b 240),(b 240),(b 240),(b 240),(b 240),(b 240),(b 240),(b 240),(b 240),(b 240),(b 240),(b 241),(b 241),(b 241),(b 241),(b 241),(b 241),(b 241),(b 241),(b 241),(b 241),(b 241),(b 241),(b 241),(b 241),(b 241),(b 241),(b 241),(b 241),(b 241),(b 241),(b 241),(b 241),(b 241),(b 241),(b 241),(b 241),(b 241),(b 241),(b 241),(b 241),(b 241),(b 241),(b 241),(b 241),(b 241),(b 241),(b 241),(b 241),(b 241),(b 241),(b 241),(b 241),(b 241),(b 241),(b 241),(b 241),(b 241),(b 241),(b 241),(b 241),(b 241),(b 241),(b 241),(b 241),(b 241),(b 241),(b 241),(b 241),(b 241),(b 241),(b 241),(b 241),(b 241),(b 241),(b 241),(b 241),(b 2),(b 2),(b 2),(b 2),(b 2),(b 2),(b 2),(b 2),(b 2),(b 2),(b 2),(b 2),(b 2),(b 2),(b 2),(b 2),(b 2),(b 2),(b 2),(b 2),(b 2),(b 2),(b 2),(b 2),(b 2),(b 2),(b 2),(b 2),(b 2),(b 2),(b 19),(b 3),(b 3),(b 3),(b 3),(b 3),(b 3),(b 3),(b 3),(b 3),(b 3),(b 3),(b 3),(b 35),(b 3),(b 3),(b 52),(b 4),(b 4),(b 4),(b 68),(b 241),(b 241),(b 241),(b 241),(b 241),(b 241),(b 241),(b 241),(b 241),(b 241),(b 241)])
def g3 : AObj := (D [(b 128),(b 191),(b 160),(b 191),(b 128),(b 159),(b 144),(b 191),(b 128),(b 143),(b 0),(b 0),(b 0),(b 0),(b 0),(b 0),(b 0),(b 0),(b 0),(b 0),(b 0),(b 0),(b 0),(b 0),(b 0),(b 0),(b 0),(b 0),(b 0),(b 0),(b 0),(b 0)])
def g4 : AObj := (C [(b 27),(b 0),(b 0),(b 0),(b 0),(b 0),(b 0),z,z,(.int .u16 0),(i 4)])
def g5 : AObj := (D [(b 8),(i 1),(i 4),(i 0),(i 5),(i 7),(i 0),(i 0),(i 0),(i 0),(b 7),(i 4),(i 4),(i 0),(i 6),(i 7),(i 0),(i 0),(i 0),(i 0),(b 9),(i 1),(i 4),(i 0),(i 2),(i 4),(i 0),(i 0),(i 0),(i 0),(b 2),(i 4),(i 4),(i 0),(i 3),(i 4),(i 0),(i 0),(i 0),(i 0),(b 21),(i 1),(i 4),(i 0),(i 2),(i 4),(i 0),(i 5),(i 3),(i 2),(b 24),(i 2),(i 4),(i 0),(i 3),(i 4),(i 0),(i 5),(i 3),(i 2),(b 23),(i 1),(i 4),(i 0),(i 2),(i 4),(i 0),(i 5),(i 3),(i 0),(b 26),(i 2),(i 4),(i 0),(i 3),(i 4),(i 0),(i 5),(i 3),(i 0),(b 13),(i 2),(i 4),(i 0),(i 5),(i 7),(i 0),(i 0),(i 0),(i 0)])
def g6 : AObj := (C [(b 1),(b 0),(b 0),(b 0),(b 0),(b 0),(b 0),z,z,(.int .u16 0),(i 0)])
def g7 : AObj := (.cells [(b 1),(b 0),(b 0),(b 0),(b 0),(b 0),(b 0),z,z,(.int .u16 0),(i 0),(b 1),(b 0),(b 0),(b 0),(b 0),(b 0),(b 0),z,z,(.int .u16 0),(i 0)] 0 1 false)
def g8 : AObj := (C [(w 1811988480)])
def g9 : AObj := (C [(w 67158016)])
def g10 : AObj := (.cells [(w 67125248),(w 67158016),(w 67125248)] 0 2 false)
def g11 : AObj := (.cells [(w 67158016),(w 0)] 0 1 false)
def g12 : AObj := (.map [⟨(w 4),y,0⟩] 1)
def g13 : AObj := (D [(S 13 0 0 90 9 9 true 10)])
def g14 : AObj := (.cells [(b 0),(b 192),(b 0),(b 108)] 25769803776 25769803776 false)
def g15 : AObj := (C [(w 4),(i 4),y])
def g16 : AObj := (C [(b 5),(b 6),(b 7),(b 0),(b 0),(b 0),(b 0),(b 0),(b 0),(b 0),(b 0),(b 0),(b 8)])
def g17 : AObj := (C [(w 1),(i 13),z])
def g18 : AObj := (C [(s [46,98,121,116,101,32,53])])
def g19 : AObj := (C [(b 0),(b 192),(b 0),(b 4),(b 1),(b 2),(b 3),(b 4),(b 5)])
def g20 : AObj := (C [(w 8),(i 4),y,(w 12),(i 5),z])
def g21 : AObj := (.cells [(b 0),(b 192),(b 0),(b 4),(b 0),(b 0),(b 0),(b 0)] 25769803776 25769803777 false)
def g22 : AObj := (C [(w 0),(i 8),y])
def g23 : AObj := (.cells [(b 0),(b 192),(b 0),(b 4)] 25769803776 25769803776 false)
def g24 : AObj := (C [(w 4),(i 8),y])
def gob : List AObj := [(D [(.int .u64 1),(.int .u64 10),(.int .u64 100),(.int .u64 1000),(.int .u64 10000),(.int .u64 100000),(.int .u64 1000000),(.int .u64 10000000),(.int .u64 100000000),(.int .u64 1000000000),(.int .u64 10000000000),(.int .u64 100000000000),(.int .u64 1000000000000),(.int .u64 10000000000000),(.int .u64 100000000000000),(.int .u64 1000000000000000),(.int .u64 10000000000000000),(.int .u64 100000000000000000),(.int .u64 1000000000000000000),(.int .u64 10000000000000000000)]),(D []),(D [(i 0),(i 14),(i 16),(i 10)]),(D [(i 26),(i 6)]),(D [(i 14),(i 2)]),(D [(b 0),(b 1),(b 28),(b 2),(b 29),(b 14),(b 24),(b 3),(b 30),(b 22),(b 20),(b 15),(b 25),(b 17),(b 4),(b 8),(b 31),(b 27),(b 13),(b 23),(b 21),(b 19),(b 16),(b 7),(b 26),(b 12),(b 18),(b 6),(b 11),(b 5),(b 10),(b 9)]),(D [(b 0),(b 1),(b 56),(b 2),(b 57),(b 49),(b 28),(b 3),(b 61),(b 58),(b 42),(b 50),(b 38),(b 29),(b 17),(b 4),(b 62),(b 47),(b 59),(b 36),(b 45),(b 43),(b 51),(b 22),(b 53),(b 39),(b 33),(b 30),(b 24),(b 18),(b 12),(b 5),(b 63),(b 55),(b 48),(b 27),(b 60),(b 41),(b 37),(b 16),(b 46),(b 35),(b 44),(b 21),(b 52),(b 32),(b 23),(b 11),(b 54),(b 26),(b 40),(b 15),(b 34),(b 20),(b 31),(b 10),(b 25),(b 14),(b 19),(b 9),(b 13),(b 8),(b 7),(b 6)])]
noncomputable def tl0 : List (Nat × FnImp) := t_law
noncomputable def tr0 : Tree FnImp := (.node none (.node none (.node (some (.code ir3)) (.node (some (.code ir7)) (.node (some (.code ir15)) (.node (some (.code ir31)) (.node (some (.code ir63)) .leaf (.node (some (.code ir191)) .leaf .leaf)) (.node (some (.hook (pureH (inF writesPredR)))) (.node (some (.code ir159)) .leaf .leaf) .leaf)) (.node (some (.code ir47)) (.node (some (.code ir79)) (.node (some (.code ir143)) .leaf .leaf) .leaf) (.node (some (.code ir111)) (.node (some (.code ir175)) .leaf .leaf) .leaf))) (.node (some (.code ir23)) (.node (some (.code ir39)) (.node (some (.code ir71)) (.node (some (.code ir135)) .leaf .leaf) .leaf) (.node (some (.code ir103)) (.node (some (.code ir167)) .leaf .leaf) .leaf)) (.node (some (.code ir55)) (.node (some (.code ir87)) (.node (some (.code ir151)) .leaf .leaf) .leaf) (.node (some (.code ir119)) (.node (some (.code ir183)) .leaf .leaf) .leaf)))) (.node (some (.code ir11)) (.node (some (.code ir19)) (.node (some (.code ir35)) (.node (some (.code ir67)) .leaf (.node (some (.code ir195)) .leaf .leaf)) (.node (some (.code ir99)) .leaf .leaf)) (.node (some (.code ir51)) (.node (some (.code ir83)) (.node (some (.code ir147)) .leaf .leaf) .leaf) (.node (some (.code ir115)) (.node (some (.code ir179)) .leaf .leaf) .leaf))) (.node (some (.code ir27)) (.node none (.node (some (.code ir75)) (.node (some (.code ir139)) .leaf .leaf) .leaf) (.node (some (.code ir107)) (.node (some (.code ir171)) .leaf .leaf) .leaf)) (.node (some (.code ir59)) (.node (some (.code ir91)) (.node (some (.code ir155)) .leaf .leaf) .leaf) (.node (some (.code ir123)) .leaf .leaf))))) (.node (some (.code ir5)) (.node (some (.code ir9)) (.node (some (.code ir17)) (.node (some (.code ir33)) (.node none .leaf (.node (some (.code ir193)) .leaf .leaf)) (.node (some (.code ir97)) (.node (some (.code ir161)) .leaf .leaf) .leaf)) (.node (some (.code ir49)) (.node none (.node (some (.code ir145)) .leaf .leaf) .leaf) (.node (some (.code ir113)) (.node (some (.code ir177)) .leaf .leaf) .leaf))) (.node (some (.hook (pureH hasG))) (.node (some (.hook (litH rowG))) (.node (some (.code ir73)) (.node (some (.code ir137)) .leaf .leaf) .leaf) (.node (some (.code ir105)) (.node (some (.code ir169)) .leaf .leaf) .leaf)) (.node (some (.code ir57)) (.node (some (.code ir89)) (.node (some (.code ir153)) .leaf .leaf) .leaf) (.node (some (.code ir121)) (.node (some (.code ir185)) .leaf .leaf) .leaf)))) (.node (some (.code ir13)) (.node (some (.code ir21)) (.node (some (.code ir37)) (.node (some (.code ir69)) .leaf .leaf) (.node (some (.code ir101)) (.node (some (.code ir165)) .leaf .leaf) .leaf)) (.node (some (.code ir53)) (.node (some (.code ir85)) (.node (some (.code ir149)) .leaf .leaf) .leaf) (.node (some (.code ir117)) (.node (some (.code ir181)) .leaf .leaf) .leaf))) (.node (some (.code ir29)) (.node (some (.hook (pureH atG))) (.node (some (.code ir77)) (.node (some (.code ir141)) .leaf .leaf) .leaf) (.node (some (.code ir109)) (.node (some (.code ir173)) .leaf .leaf) .leaf)) (.node (some (.code ir61)) (.node (some (.code ir93)) (.node (some (.code ir157)) .leaf .leaf) .leaf) (.node (some (.code ir125)) (.node (some (.code ir189)) .leaf .leaf) .leaf)))))) (.node none (.node (some (.code ir4)) (.node (some (.code ir8)) (.node (some (.code ir16)) (.node (some (.ext .noEscape)) (.node (some (.code ir64)) .leaf (.node (some (.code ir192)) .leaf .leaf)) (.node (some (.hook (pureH classG))) (.node (some (.code ir160)) .leaf .leaf) .leaf)) (.node (some (.code ir48)) (.node (some (.code ir80)) (.node (some (.code ir144)) .leaf .leaf) .leaf) (.node (some (.code ir112)) (.node (some (.code ir176)) .leaf .leaf) .leaf))) (.node (some (.hook (pureH (inF rightR)))) (.node (some (.code ir40)) (.node (some (.code ir72)) (.node (some (.code ir136)) .leaf .leaf) .leaf) (.node (some (.code ir104)) (.node (some (.code ir168)) .leaf .leaf) .leaf)) (.node (some (.code ir56)) (.node (some (.code ir88)) (.node (some (.code ir152)) .leaf .leaf) .leaf) (.node (some (.code ir120)) (.node (some (.code ir184)) .leaf .leaf) .leaf)))) (.node (some (.code ir12)) (.node (some (.code ir20)) (.node (some (.code ir36)) (.node (some (.code ir68)) .leaf (.node (some (.code ir196)) .leaf .leaf)) (.node (some (.code ir100)) (.node (some (.code ir164)) .leaf .leaf) .leaf)) (.node (some (.code ir52)) (.node (some (.code ir84)) (.node (some (.code ir148)) .leaf .leaf) .leaf) (.node (some (.code ir116)) (.node (some (.code ir180)) .leaf .leaf) .leaf))) (.node (some (.code ir28)) (.node none (.node (some (.code ir76)) (.node (some (.code ir140)) .leaf .leaf) .leaf) (.node (some (.code ir108)) (.node (some (.hook (pureH (inF readsPredR)))) .leaf .leaf) .leaf)) (.node (some (.code ir60)) (.node none (.node (some (.code ir156)) .leaf .leaf) .leaf) (.node (some (.code ir124)) (.node (some (.code ir188)) .leaf .leaf) .leaf))))) (.node (some (.code ir6)) (.node (some (.code ir10)) (.node (some (.code ir18)) (.node (some (.code ir34)) (.node none .leaf (.node (some (.code ir194)) .leaf .leaf)) (.node (some (.code ir98)) (.node (some (.code ir162)) .leaf .leaf) .leaf)) (.node (some (.code ir50)) (.node (some (.code ir82)) (.node (some (.code ir146)) .leaf .leaf) .leaf) (.node (some (.code ir114)) (.node (some (.code ir178)) .leaf .leaf) .leaf))) (.node (some (.code ir26)) (.node none (.node (some (.code ir74)) (.node (some (.code ir138)) .leaf .leaf) .leaf) (.node (some (.code ir106)) (.node (some (.code ir170)) .leaf .leaf) .leaf)) (.node (some (.code ir58)) (.node (some (.code ir90)) (.node (some (.code ir154)) .leaf .leaf) .leaf) (.node (some (.code ir122)) (.node (some (.code ir186)) .leaf .leaf) .leaf)))) (.node (some (.code ir14)) (.node (some (.code ir22)) (.node (some (.code ir38)) (.node (some (.code ir70)) .leaf .leaf) (.node (some (.code ir102)) (.node (some (.code ir166)) .leaf .leaf) .leaf)) (.node (some (.code ir54)) (.node (some (.code ir86)) (.node (some (.code ir150)) .leaf .leaf) .leaf) (.node (some (.code ir118)) (.node (some (.code ir182)) .leaf .leaf) .leaf))) (.node (some (.code ir30)) (.node (some (.code ir46)) (.node (some (.code ir78)) (.node (some (.code ir142)) .leaf .leaf) .leaf) (.node (some (.code ir110)) (.node (some (.hook (pureH (inF writesR)))) .leaf .leaf) .leaf)) (.node (some (.code ir62)) (.node (some (.code ir94)) (.node (some (.code ir158)) .leaf .leaf) .leaf) (.node none (.node (some (.code ir190)) .leaf .leaf) .leaf)))))))
theorem tr0_ok : treeOf tl0 = tr0 := by kernel_rfl
def e85x0 : Ent := ⟨[(.agg [(S 11 0 0 11 1 1 false 11),z,z,z,z])],gob ++ [g0,g1,g2,g3,g4,g5],(i 0),nones 13,[]⟩
def e85x1 : Ent := ⟨[(.agg [(S 11 0 0 11 1 1 false 11),z,z,z,z])],gob ++ [g0,g1,g2,g3,g6,g5],(i 0),nones 13,[]⟩
def e85x2 : Ent := ⟨[(.agg [(S 11 0 1 22 2 2 false 11),z,z,y,z])],gob ++ [g0,g1,g2,g3,g7,g5],(i 0),nones 13,[]⟩
def tbl85 : List Ent := [e85x0, e85x1, e85x2]
theorem ce85x0 : chkE (tabT tr0) (evalF (tabT tr0) 100000) 85 e85x0 = true := by kernel_rfl
theorem ce85x1 : chkE (tabT tr0) (evalF (tabT tr0) 100000) 85 e85x1 = true := by kernel_rfl
theorem ce85x2 : chkE (tabT tr0) (evalF (tabT tr0) 100000) 85 e85x2 = true := by kernel_rfl
theorem all85 : ∀ E, E ∈ tbl85 → chkE (tabT tr0) (evalF (tabT tr0) 100000) 85 E = true := all_cons (p := fun E => chkE (tabT tr0) (evalF (tabT tr0) 100000) 85 E) ce85x0 (all_cons (p := fun E => chkE (tabT tr0) (evalF (tabT tr0) 100000) 85 E) ce85x1 (all_cons (p := fun E => chkE (tabT tr0) (evalF (tabT tr0) 100000) 85 E) ce85x2 (fun _ h => by cases h)))
noncomputable def tl1 : List (Nat × FnImp) := (85, .hook (memoAH memoPre tbl85)) :: tl0
noncomputable def tr1 : Tree FnImp := tr0.set 85 (.hook (memoAH memoPre tbl85))
theorem tr1_ok : treeOf tl1 = tr1 := by kernel_rfl
def e63x0 : Ent := ⟨[(.agg [(S 11 0 0 11 1 1 false 11),z,z,z,z]),(w 4)],gob ++ [g0,g1,g2,g3,g4,g5],(.tuple [(S 13 0 0 1 1 1 false 1),(i 0)]),nones 13,[g8]⟩
def e63x1 : Ent := ⟨[(.agg [(S 11 0 0 11 1 1 false 11),z,z,z,z]),(w 8)],gob ++ [g0,g1,g2,g3,g6,g5],(.tuple [(S 13 0 0 1 1 1 false 1),(i 0)]),nones 13,[g9]⟩
def e63x2 : Ent := ⟨[(.agg [(S 11 0 1 22 2 2 false 11),z,z,y,z]),(w 0)],gob ++ [g0,g1,g2,g3,g7,g5],(.tuple [(S 13 0 1 2 2 2 false 1),(i 0)]),nones 13,[(.cells [(w 67125248),(w 67158016)] 1 1 false)]⟩
def e63x3 : Ent := ⟨[(.agg [(S 11 0 0 11 1 1 false 11),z,z,z,z]),(w 0)],gob ++ [g0,g1,g2,g3,g6,g5],(.tuple [(S 13 0 0 1 1 1 false 1),(i 0)]),nones 13,[g9]⟩
def tbl63 : List Ent := [e63x0, e63x1, e63x2, e63x3]
theorem ce63x0 : chkE (tabT tr1) (evalF (tabT tr1) 100000) 63 e63x0 = true := by kernel_rfl
theorem ce63x1 : chkE (tabT tr1) (evalF (tabT tr1) 100000) 63 e63x1 = true := by kernel_rfl
theorem ce63x2 : chkE (tabT tr1) (evalF (tabT tr1) 100000) 63 e63x2 = true := by kernel_rfl
theorem ce63x3 : chkE (tabT tr1) (evalF (tabT tr1) 100000) 63 e63x3 = true := by kernel_rfl
theorem all63 : ∀ E, E ∈ tbl63 → chkE (tabT tr1) (evalF (tabT tr1) 100000) 63 E = true := all_cons (p := fun E => chkE (tabT tr1) (evalF (tabT tr1) 100000) 63 E) ce63x0 (all_cons (p := fun E => chkE (tabT tr1) (evalF (tabT tr1) 100000) 63 E) ce63x1 (all_cons (p := fun E => chkE (tabT tr1) (evalF (tabT tr1) 100000) 63 E) ce63x2 (all_cons (p := fun E => chkE (tabT tr1) (evalF (tabT tr1) 100000) 63 E) ce63x3 (fun _ h => by cases h))))
noncomputable def tl2 : List (Nat × FnImp) := (63, .hook (memoAH memoPre tbl63)) :: tl1
noncomputable def tr2 : Tree FnImp := tr1.set 63 (.hook (memoAH memoPre tbl63))
theorem tr2_ok : treeOf tl2 = tr2 := by kernel_rfl
def e62x0 : Ent := ⟨[(S 11 0 0 1 1 1 false 1),(w 4)],gob ++ [g0,g1,g2,g3,g8,g5],(.tuple [(.agg [(S 13 0 0 11 1 1 false 11),z,z,z,z]),(i 0)]),nones 13,[g4]⟩
def e62x1 : Ent := ⟨[(S 11 0 0 1 1 1 false 1),(w 8)],gob ++ [g0,g1,g2,g3,g9,g5],(.tuple [(.agg [(S 13 0 0 11 1 1 false 11),z,z,z,z]),(i 0)]),nones 13,[g6]⟩
def e62x2 : Ent := ⟨[(S 11 0 2 3 2 3 false 1),(w 0)],gob ++ [g0,g1,g2,g3,g10,g5],(.tuple [(.agg [(S 13 0 1 22 2 2 false 11),z,z,y,z]),(i 0)]),nones 13,[g7]⟩
def e62x3 : Ent := ⟨[(S 11 0 1 2 1 2 false 1),(w 0)],gob ++ [g0,g1,g2,g3,g11,g5],(.tuple [(.agg [(S 13 0 0 11 1 1 false 11),z,z,z,z]),(i 0)]),nones 13,[g6]⟩
def e62x4 : Ent := ⟨[(S 11 0 0 1 1 1 false 1),(w 4)],gob ++ [g0,g1,g2,g3,(C [(w 0)]),g5],(.tuple [(.agg [.nilSlice,z,z,z,z]),(i 8)]),nones 13,[]⟩
def tbl62 : List Ent := [e62x0, e62x1, e62x2, e62x3, e62x4]
theorem ce62x0 : chkE (tabT tr2) (evalF (tabT tr2) 100000) 62 e62x0 = true := by kernel_rfl
theorem ce62x1 : chkE (tabT tr2) (evalF (tabT tr2) 100000) 62 e62x1 = true := by kernel_rfl
theorem ce62x2 : chkE (tabT tr2) (evalF (tabT tr2) 100000) 62 e62x2 = true := by kernel_rfl
theorem ce62x3 : chkE (tabT tr2) (evalF (tabT tr2) 100000) 62 e62x3 = true := by kernel_rfl
theorem ce62x4 : chkE (tabT tr2) (evalF (tabT tr2) 100000) 62 e62x4 = true := by kernel_rfl
theorem all62 : ∀ E, E ∈ tbl62 → chkE (tabT tr2) (evalF (tabT tr2) 100000) 62 E = true := all_cons (p := fun E => chkE (tabT tr2) (evalF (tabT tr2) 100000) 62 E) ce62x0 (all_cons (p := fun E => chkE (tabT tr2) (evalF (tabT tr2) 100000) 62 E) ce62x1 (all_cons (p := fun E => chkE (tabT tr2) (evalF (tabT tr2) 100000) 62 E) ce62x2 (all_cons (p := fun E => chkE (tabT tr2) (evalF (tabT tr2) 100000) 62 E) ce62x3 (all_cons (p := fun E => chkE (tabT tr2) (evalF (tabT tr2) 100000) 62 E) ce62x4 (fun _ h => by cases h)))))
noncomputable def tl3 : List (Nat × FnImp) := (62, .hook (memoAH memoPre tbl62)) :: tl2
noncomputable def tr3 : Tree FnImp := tr2.set 62 (.hook (memoAH memoPre tbl62))
theorem tr3_ok : treeOf tl3 = tr3 := by kernel_rfl
def e46x0 : Ent := ⟨[(.agg [(b 27),(b 0),(b 0),(b 0),(b 0),(b 0),(b 0),z,z,(.int .u16 0),(i 4)]),(.func 14 [(.map 11)] [])],gob ++ [g0,g1,g2,g3,g12,g5],(s [106,117,109,112,32,76,95,52]),nones 13,[]⟩
def e46x1 : Ent := ⟨[(.agg [(b 1),(b 0),(b 0),(b 0),(b 0),(b 0),(b 0),z,z,(.int .u16 0),(i 0)]),(.func 14 [(.map 11)] [])],gob ++ [g0,g1,g2,g3,(.map [⟨(w 8),z,0⟩,⟨(w 12),z,1⟩,⟨(w 16),z,2⟩] 3),g5],(s [110,111,112]),nones 13,[]⟩
def e46x2 : Ent := ⟨[(.agg [(b 1),(b 0),(b 0),(b 0),(b 0),(b 0),(b 0),z,z,(.int .u16 0),(i 0)]),(.func 14 [(.map 11)] [])],gob ++ [g0,g1,g2,g3,(.map [⟨(w 0),z,0⟩,⟨(w 4),z,1⟩] 2),g5],(s [110,111,112]),nones 13,[]⟩
def tbl46 : List Ent := [e46x0, e46x1, e46x2]
theorem ce46x0 : chkE (tabT tr3) (evalF (tabT tr3) 100000) 46 e46x0 = true := by kernel_rfl
theorem ce46x1 : chkE (tabT tr3) (evalF (tabT tr3) 100000) 46 e46x1 = true := by kernel_rfl
theorem ce46x2 : chkE (tabT tr3) (evalF (tabT tr3) 100000) 46 e46x2 = true := by kernel_rfl
theorem all46 : ∀ E, E ∈ tbl46 → chkE (tabT tr3) (evalF (tabT tr3) 100000) 46 E = true := all_cons (p := fun E => chkE (tabT tr3) (evalF (tabT tr3) 100000) 46 E) ce46x0 (all_cons (p := fun E => chkE (tabT tr3) (evalF (tabT tr3) 100000) 46 E) ce46x1 (all_cons (p := fun E => chkE (tabT tr3) (evalF (tabT tr3) 100000) 46 E) ce46x2 (fun _ h => by cases h)))
noncomputable def tl4 : List (Nat × FnImp) := (46, .hook (memoAH memoPre tbl46)) :: tl3
noncomputable def tr4 : Tree FnImp := tr3.set 46 (.hook (memoAH memoPre tbl46))
theorem tr4_ok : treeOf tl4 = tr4 := by kernel_rfl
def e11x0 : Ent := ⟨[(.agg [(w 4),(S 11 0 25769803776 4 4 4 false 1),(S 12 0 0 3 1 1 true 3)]),(.agg [(w 4),(i 4),y])],gob ++ [g13,g1,g2,g3,g14,g15,g5],(S 14 0 0 2 1 1 false 2),nones 14,[(C [(w 4),(.func 27 [] [(P 15 0 0 8)])]),(C [(w 4),(S 16 0 0 1 1 1 false 1),y,(S 17 0 0 11 1 1 false 11),z,z,z,z]),g8,g4]⟩
def e11x1 : Ent := ⟨[(.agg [(w 1),(S 11 0 0 13 13 13 true 1),(S 12 0 0 3 1 1 true 3)]),(.agg [(w 1),(i 13),z])],gob ++ [g13,g1,g2,g3,g16,g17,g5],(S 14 0 5 12 6 6 false 2),nones 14,[(.cells [(w 1),(.func 50 [] [(P 15 0 0 1)]),(w 2),(.func 50 [] [(P 16 0 0 1)]),(w 3),(.func 50 [] [(P 17 0 0 1)]),(w 4),(.func 50 [] [(P 18 0 0 1)]),(w 12),(.func 50 [] [(P 19 0 0 1)]),(w 13),(.func 50 [] [(P 20 0 0 1)])] 0 5 false),g18,(C [(s [46,98,121,116,101,32,54])]),(C [(s [46,98,121,116,101,32,55])]),(C [(s [46,115,112,97,99,101,32,56])]),(C [(s [46,98,121,116,101,32,48])]),(C [(s [46,98,121,116,101,32,56])])]⟩
def e11x2 : Ent := ⟨[(.agg [(w 8),(S 11 0 0 9 9 9 true 1),(S 12 0 0 6 2 2 true 3)]),(.agg [(w 8),(i 4),y])],gob ++ [g13,g1,g2,g3,g19,g20,g5],(S 14 0 0 2 1 1 false 2),nones 14,[(C [(w 8),(.func 27 [] [(P 15 0 0 8)])]),(C [(w 8),(S 16 0 0 1 1 1 false 1),y,(S 17 0 0 11 1 1 false 11),z,z,z,z]),g9,g6]⟩
def e11x3 : Ent := ⟨[(.agg [(w 8),(S 11 0 0 9 9 9 true 1),(S 12 0 0 6 2 2 true 3)]),(.agg [(w 12),(i 5),z])],gob ++ [g13,g1,g2,g3,g19,g20,g5],(S 14 0 1 4 2 2 false 2),nones 14,[(.cells [(w 12),(.func 50 [] [(P 15 0 0 1)]),(w 16),(.func 50 [] [(P 16 0 0 1)])] 0 1 false),(C [(s [46,119,111,114,100,32,48,120,48,52,48,51,48,50,48,49])]),g18]⟩
def e11x4 : Ent := ⟨[(.agg [(w 0),(S 11 0 25769803777 8 8 8 false 1),(S 12 0 0 3 1 1 true 3)]),(.agg [(w 0),(i 8),y])],gob ++ [g13,g1,g2,g3,g21,g22,g5],(S 14 0 1 4 2 2 false 2),nones 14,[(.cells [(w 0),(.func 27 [] [(P 15 0 0 8)]),(w 4),(.func 50 [] [(P 16 0 0 1)])] 0 1 false),(C [(w 0),(S 17 0 1 2 1 2 false 1),y,(S 18 0 0 11 1 1 false 11),z,z,z,z]),(C [(s [46,119,111,114,100,32,48,120,48,48,48,48,48,48,48,48])]),g11,g6]⟩
def tbl11 : List Ent := [e11x0, e11x1, e11x2, e11x3, e11x4]
theorem ce11x0 : chkE (tabT tr4) (evalF (tabT tr4) 100000) 11 e11x0 = true := by kernel_rfl
theorem ce11x1 : chkE (tabT tr4) (evalF (tabT tr4) 100000) 11 e11x1 = true := by kernel_rfl
theorem ce11x2 : chkE (tabT tr4) (evalF (tabT tr4) 100000) 11 e11x2 = true := by kernel_rfl
theorem ce11x3 : chkE (tabT tr4) (evalF (tabT tr4) 100000) 11 e11x3 = true := by kernel_rfl
theorem ce11x4 : chkE (tabT tr4) (evalF (tabT tr4) 100000) 11 e11x4 = true := by kernel_rfl
theorem all11 : ∀ E, E ∈ tbl11 → chkE (tabT tr4) (evalF (tabT tr4) 100000) 11 E = true := all_cons (p := fun E => chkE (tabT tr4) (evalF (tabT tr4) 100000) 11 E) ce11x0 (all_cons (p := fun E => chkE (tabT tr4) (evalF (tabT tr4) 100000) 11 E) ce11x1 (all_cons (p := fun E => chkE (tabT tr4) (evalF (tabT tr4) 100000) 11 E) ce11x2 (all_cons (p := fun E => chkE (tabT tr4) (evalF (tabT tr4) 100000) 11 E) ce11x3 (all_cons (p := fun E => chkE (tabT tr4) (evalF (tabT tr4) 100000) 11 E) ce11x4 (fun _ h => by cases h)))))
noncomputable def tl5 : List (Nat × FnImp) := (11, .hook (memoAH memoPre tbl11)) :: tl4
noncomputable def tr5 : Tree FnImp := tr4.set 11 (.hook (memoAH memoPre tbl11))
theorem tr5_ok : treeOf tl5 = tr5 := by kernel_rfl
def e10x0 : Ent := ⟨[(.agg [(w 4),(S 11 0 25769803776 4 4 4 false 1),(S 12 0 0 3 1 1 true 3)])],gob ++ [g13,g1,g2,g3,g14,g15,g5],(.map 14),nones 14,[g12]⟩
def e10x1 : Ent := ⟨[(.agg [(w 1),(S 11 0 0 13 13 13 true 1),(S 12 0 0 3 1 1 true 3)])],gob ++ [g13,g1,g2,g3,g16,g17,g5],(.map 14),nones 14,[(.map [] 0)]⟩
def e10x2 : Ent := ⟨[(.agg [(w 8),(S 11 0 0 9 9 9 true 1),(S 12 0 0 6 2 2 true 3)])],gob ++ [g13,g1,g2,g3,g19,g20,g5],(.map 14),nones 14,[(.map [] 0)]⟩
def e10x3 : Ent := ⟨[(.agg [(w 0),(S 11 0 25769803777 8 8 8 false 1),(S 12 0 0 3 1 1 true 3)])],gob ++ [g13,g1,g2,g3,g21,g22,g5],(.map 14),nones 14,[(.map [] 0)]⟩
def tbl10 : List Ent := [e10x0, e10x1, e10x2, e10x3]
theorem ce10x0 : chkE (tabT tr5) (evalF (tabT tr5) 100000) 10 e10x0 = true := by kernel_rfl
theorem ce10x1 : chkE (tabT tr5) (evalF (tabT tr5) 100000) 10 e10x1 = true := by kernel_rfl
theorem ce10x2 : chkE (tabT tr5) (evalF (tabT tr5) 100000) 10 e10x2 = true := by kernel_rfl
theorem ce10x3 : chkE (tabT tr5) (evalF (tabT tr5) 100000) 10 e10x3 = true := by kernel_rfl
theorem all10 : ∀ E, E ∈ tbl10 → chkE (tabT tr5) (evalF (tabT tr5) 100000) 10 E = true := all_cons (p := fun E => chkE (tabT tr5) (evalF (tabT tr5) 100000) 10 E) ce10x0 (all_cons (p := fun E => chkE (tabT tr5) (evalF (tabT tr5) 100000) 10 E) ce10x1 (all_cons (p := fun E => chkE (tabT tr5) (evalF (tabT tr5) 100000) 10 E) ce10x2 (all_cons (p := fun E => chkE (tabT tr5) (evalF (tabT tr5) 100000) 10 E) ce10x3 (fun _ h => by cases h))))
noncomputable def tl6 : List (Nat × FnImp) := (10, .hook (memoAH memoPre tbl10)) :: tl5
noncomputable def tr6 : Tree FnImp := tr5.set 10 (.hook (memoAH memoPre tbl10))
theorem tr6_ok : treeOf tl6 = tr6 := by kernel_rfl
def e6x0 : Ent := ⟨[(.agg [(w 0),.nilSlice,.nilSlice])],gob ++ [(D [(S 11 0 0 90 9 9 true 10)]),g1,g2,g3,g5],(s []),nones 12,[]⟩
def e6x1 : Ent := ⟨[(.agg [(w 4),(S 11 0 25769803776 4 4 4 false 1),(S 12 0 0 3 1 1 true 3)])],gob ++ [g13,g1,g2,g3,g14,g15,g5],(s [46,111,114,103,32,48,120,52,10,46,115,101,99,116,105,111,110,32,99,111,100,101,10,76,95,52,58,32,106,117,109,112,32,76,95,52,10]),nones 14,[]⟩
def e6x2 : Ent := ⟨[(.agg [(w 1),(S 11 0 0 13 13 13 true 1),(S 12 0 0 3 1 1 true 3)])],gob ++ [g13,g1,g2,g3,g16,g17,g5],(s [46,111,114,103,32,48,120,49,10,46,115,101,99,116,105,111,110,32,100,97,116,97,10,46,98,121,116,101,32,53,10,46,98,121,116,101,32,54,10,46,98,121,116,101,32,55,10,46,115,112,97,99,101,32,56,10,46,98,121,116,101,32,48,10,46,98,121,116,101,32,56,10]),nones 14,[]⟩
def e6x3 : Ent := ⟨[(.agg [(w 8),(S 11 0 0 9 9 9 true 1),(S 12 0 0 6 2 2 true 3)])],gob ++ [g13,g1,g2,g3,g19,g20,g5],(s [46,111,114,103,32,48,120,56,10,46,115,101,99,116,105,111,110,32,99,111,100,101,10,110,111,112,10,46,115,101,99,116,105,111,110,32,100,97,116,97,10,46,119,111,114,100,32,48,120,48,52,48,51,48,50,48,49,10,46,98,121,116,101,32,53,10]),nones 14,[]⟩
def e6x4 : Ent := ⟨[(.agg [(w 4),(S 11 0 25769803776 4 4 4 false 1),(S 12 0 0 3 1 1 true 3)])],gob ++ [g13,g1,g2,g3,g23,g24,g5],(s []),nones 14,[]⟩
def e6x5 : Ent := ⟨[(.agg [(w 2),(S 11 0 25769803776 4 4 4 false 1),(S 12 0 0 3 1 1 true 3)])],gob ++ [g13,g1,g2,g3,g23,(C [(w 2),(i 4),y]),g5],(s []),nones 14,[]⟩
def e6x6 : Ent := ⟨[(.agg [(w 0),(S 11 0 25769803777 8 8 8 false 1),(S 12 0 0 3 1 1 true 3)])],gob ++ [g13,g1,g2,g3,g21,g22,g5],(s [46,111,114,103,32,48,120,48,10,46,115,101,99,116,105,111,110,32,99,111,100,101,10,110,111,112,10,46,119,111,114,100,32,48,120,48,48,48,48,48,48,48,48,10]),nones 14,[]⟩
def tbl6 : List Ent := [e6x0, e6x1, e6x2, e6x3, e6x4, e6x5, e6x6]
theorem ce6x0 : chkE (tabT tr6) (evalF (tabT tr6) 100000) 6 e6x0 = true := by kernel_rfl
theorem ce6x1 : chkE (tabT tr6) (evalF (tabT tr6) 100000) 6 e6x1 = true := by kernel_rfl
theorem ce6x2 : chkE (tabT tr6) (evalF (tabT tr6) 100000) 6 e6x2 = true := by kernel_rfl
theorem ce6x3 : chkE (tabT tr6) (evalF (tabT tr6) 100000) 6 e6x3 = true := by kernel_rfl
theorem ce6x4 : chkE (tabT tr6) (evalF (tabT tr6) 100000) 6 e6x4 = true := by kernel_rfl
theorem ce6x5 : chkE (tabT tr6) (evalF (tabT tr6) 100000) 6 e6x5 = true := by kernel_rfl
theorem ce6x6 : chkE (tabT tr6) (evalF (tabT tr6) 100000) 6 e6x6 = true := by kernel_rfl
theorem all6 : ∀ E, E ∈ tbl6 → chkE (tabT tr6) (evalF (tabT tr6) 100000) 6 E = true := all_cons (p := fun E => chkE (tabT tr6) (evalF (tabT tr6) 100000) 6 E) ce6x0 (all_cons (p := fun E => chkE (tabT tr6) (evalF (tabT tr6) 100000) 6 E) ce6x1 (all_cons (p := fun E => chkE (tabT tr6) (evalF (tabT tr6) 100000) 6 E) ce6x2 (all_cons (p := fun E => chkE (tabT tr6) (evalF (tabT tr6) 100000) 6 E) ce6x3 (all_cons (p := fun E => chkE (tabT tr6) (evalF (tabT tr6) 100000) 6 E) ce6x4 (all_cons (p := fun E => chkE (tabT tr6) (evalF (tabT tr6) 100000) 6 E) ce6x5 (all_cons (p := fun E => chkE (tabT tr6) (evalF (tabT tr6) 100000) 6 E) ce6x6 (fun _ h => by cases h)))))))
noncomputable def tl7 : List (Nat × FnImp) := (6, .hook (memoAH memoPre tbl6)) :: tl6
noncomputable def tr7 : Tree FnImp := tr6.set 6 (.hook (memoAH memoPre tbl6))
theorem tr7_ok : treeOf tl7 = tr7 := by kernel_rfl
def e7x0 : Ent := ⟨[(.agg [(w 4),(S 11 0 25769803776 4 4 4 false 1),(S 12 0 0 3 1 1 true 3)])],gob ++ [g13,g1,g2,g3,g14,g15,g5],(S 14 0 0 8 1 1 false 8),nones 14,[(C [(w 4),(S 15 0 0 1 1 1 false 1),y,(S 16 0 0 11 1 1 false 11),z,z,z,z]),g8,g4]⟩
def e7x1 : Ent := ⟨[(.agg [(w 1),(S 11 0 0 13 13 13 true 1),(S 12 0 0 3 1 1 true 3)])],gob ++ [g13,g1,g2,g3,g16,g17,g5],.nilSlice,nones 14,[]⟩
def e7x2 : Ent := ⟨[(.agg [(w 8),(S 11 0 0 9 9 9 true 1),(S 12 0 0 6 2 2 true 3)])],gob ++ [g13,g1,g2,g3,g19,g20,g5],(S 14 0 0 8 1 1 false 8),nones 14,[(C [(w 8),(S 15 0 0 1 1 1 false 1),y,(S 16 0 0 11 1 1 false 11),z,z,z,z]),g9,g6]⟩
def e7x3 : Ent := ⟨[(.agg [(w 0),(S 11 0 25769803778 12 12 12 false 1),(S 12 0 0 3 1 1 true 3)])],gob ++ [g13,g1,g2,g3,(.cells [(b 0),(b 64),(b 0),(b 4),(b 0),(b 192),(b 0),(b 4),(b 0),(b 64),(b 0),(b 4)] 25769803776 25769803778 false),(C [(w 0),(i 12),y]),g5],(S 14 0 0 16 2 2 false 8),nones 14,[(C [(w 0),(S 15 0 2 3 2 3 false 1),y,(S 16 0 1 22 2 2 false 11),z,z,y,z,(w 8),(S 17 0 0 1 1 1 false 1),z,.nilSlice,z,z,z,z]),g10,g7,(C [(w 67125248)])]⟩
def e7x4 : Ent := ⟨[(.agg [(w 4),(S 11 0 25769803776 4 4 4 false 1),(S 12 0 0 3 1 1 true 3)])],gob ++ [g13,g1,g2,g3,g23,g24,g5],.nilSlice,nones 14,[]⟩
def e7x5 : Ent := ⟨[(.agg [(w 0),(S 11 0 25769803777 8 8 8 false 1),(S 12 0 0 3 1 1 true 3)])],gob ++ [g13,g1,g2,g3,g21,g22,g5],(S 14 0 0 16 2 2 false 8),nones 14,[(C [(w 0),(S 15 0 1 2 1 2 false 1),y,(S 16 0 0 11 1 1 false 11),z,z,z,z,(w 4),(S 17 0 0 1 1 1 false 1),z,.nilSlice,z,z,z,z]),g11,g6,(C [(w 0)])]⟩
def tbl7 : List Ent := [e7x0, e7x1, e7x2, e7x3, e7x4, e7x5]
theorem ce7x0 : chkE (tabT tr7) (evalF (tabT tr7) 100000) 7 e7x0 = true := by kernel_rfl
theorem ce7x1 : chkE (tabT tr7) (evalF (tabT tr7) 100000) 7 e7x1 = true := by kernel_rfl
theorem ce7x2 : chkE (tabT tr7) (evalF (tabT tr7) 100000) 7 e7x2 = true := by kernel_rfl
theorem ce7x3 : chkE (tabT tr7) (evalF (tabT tr7) 100000) 7 e7x3 = true := by kernel_rfl
theorem ce7x4 : chkE (tabT tr7) (evalF (tabT tr7) 100000) 7 e7x4 = true := by kernel_rfl
theorem ce7x5 : chkE (tabT tr7) (evalF (tabT tr7) 100000) 7 e7x5 = true := by kernel_rfl
theorem all7 : ∀ E, E ∈ tbl7 → chkE (tabT tr7) (evalF (tabT tr7) 100000) 7 E = true := all_cons (p := fun E => chkE (tabT tr7) (evalF (tabT tr7) 100000) 7 E) ce7x0 (all_cons (p := fun E => chkE (tabT tr7) (evalF (tabT tr7) 100000) 7 E) ce7x1 (all_cons (p := fun E => chkE (tabT tr7) (evalF (tabT tr7) 100000) 7 E) ce7x2 (all_cons (p := fun E => chkE (tabT tr7) (evalF (tabT tr7) 100000) 7 E) ce7x3 (all_cons (p := fun E => chkE (tabT tr7) (evalF (tabT tr7) 100000) 7 E) ce7x4 (all_cons (p := fun E => chkE (tabT tr7) (evalF (tabT tr7) 100000) 7 E) ce7x5 (fun _ h => by cases h))))))
noncomputable def tl8 : List (Nat × FnImp) := (7, .hook (memoAH memoPre tbl7)) :: tl7
noncomputable def tr8 : Tree FnImp := tr7.set 7 (.hook (memoAH memoPre tbl7))
theorem tr8_ok : treeOf tl8 = tr8 := by kernel_rfl
theorem law_ev : isYes (callF (tabT tr8) (evalF (tabT tr8) 100000) 3 [] sG) = true := by kernel_rfl
end Go.V
