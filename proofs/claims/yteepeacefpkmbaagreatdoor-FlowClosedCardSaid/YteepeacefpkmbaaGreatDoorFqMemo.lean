/- Calls told beforehand, each run by the kernel in a state that holds what its arguments reach; then the law. -/
import Derived.Test.YteepeacefpkmbaaGreatDoorFqTab
import Derived.KernelRfl
set_option linter.unusedVariables false
set_option linter.unusedSimpArgs false
set_option linter.unusedSectionVars false
/- Calls told beforehand, each run by the kernel in a state that holds what its arguments reach; then the law. -/
namespace Go.V
open Go Go.V.Z
set_option maxRecDepth 1000000
def memoPre : List Nat := [0, 1, 2, 3, 4, 5, 6, 7, 8, 9, 10]
def nones : Nat → List (Option AObj)
  | 0 => []
  | n + 1 => none :: nones n
def g0 : AObj := (D [(S 11 0 0 90 9 9 true 10)])
def g1 : AObj := (D [(i 16),(i 16)])
def g2 : AObj := (D [(.iface 424 (P 12 0 0 1))])
def g3 : AObj := (D [(.iface 424 (P 13 0 0 1))])
def g4 : AObj := (D [(.int .u64 1),(.int .u64 10),(.int .u64 100),(.int .u64 1000),(.int .u64 10000),(.int .u64 100000),(.int .u64 1000000),(.int .u64 10000000),(.int .u64 100000000),(.int .u64 1000000000),(.int .u64 10000000000),(.int .u64 100000000000),(.int .u64 1000000000000),(.int .u64 10000000000000),(.int .u64 100000000000000),(.int .u64 1000000000000000),(.int .u64 10000000000000000),(.int .u64 100000000000000000),(.int .u64 1000000000000000000),(.int .u64 10000000000000000000)])
def g5 : AObj := (D [(b 0),(b 1),(b 28),(b 2),(b 29),(b 14),(b 24),(b 3),(b 30),(b 22),(b 20),(b 15),(b 25),(b 17),(b 4),(b 8),(b 31),(b 27),(b 13),(b 23),(b 21),(b 19),(b 16),(b 7),(b 26),(b 12),(b 18),(b 6),(b 11),(b 5),(b 10),(b 9)])
def g6 : AObj := (D [(b 0),(b 1),(b 56),(b 2),(b 57),(b 49),(b 28),(b 3),(b 61),(b 58),(b 42),(b 50),(b 38),(b 29),(b 17),(b 4),(b 62),(b 47),(b 59),(b 36),(b 45),(b 43),(b 51),(b 22),(b 53),(b 39),(b 33),(b 30),(b 24),(b 18),(b 12),(b 5),(b 63),(b 55),(b 48),(b 27),(b 60),(b 41),(b 37),(b 16),(b 46),(b 35),(b 44),(b 21),(b 52),(b 32),(b 23),(b 11),(b 54),(b 26),(b 40),(b 15),(b 34),(b 20),(b 31),(b 10),(b 25),(b 14),(b 19),(b 9),(b 13),(b 8),(b 7),(b 6)])
def g7 : AObj := (D [(b 8),(i 1),(i 4),(i 0),(i 5),(i 7),(i 0),(i 0),(i 0),(i 0),(b 7),(i 4),(i 4),(i 0),(i 6),(i 7),(i 0),(i 0),(i 0),(i 0),(b 9),(i 1),(i 4),(i 0),(i 2),(i 4),(i 0),(i 0),(i 0),(i 0),(b 2),(i 4),(i 4),(i 0),(i 3),(i 4),(i 0),(i 0),(i 0),(i 0),(b 21),(i 1),(i 4),(i 0),(i 2),(i 4),(i 0),(i 5),(i 3),(i 2),(b 24),(i 2),(i 4),(i 0),(i 3),(i 4),(i 0),(i 5),(i 3),(i 2),(b 23),(i 1),(i 4),(i 0),(i 2),(i 4),(i 0),(i 5),(i 3),(i 0),(b 26),(i 2),(i 4),(i 0),(i 3),(i 4),(i 0),(i 5),(i 3),(i 0),(b 13),(i 2),(i 4),(i 0),(i 5),(i 7),(i 0),(i 0),(i 0),(i 0)])
def g8 : AObj := (D [(s [105,110,118,97,108,105,100,32,115,121,110,116,97,120])])
def g9 : AObj := (D [(s [118,97,108,117,101,32,111,117,116,32,111,102,32,114,97,110,103,101])])
def g10 : AObj := (D [(S 12 0 0 90 9 9 true 10)])
def g11 : AObj := (D [(.iface 424 (P 14 0 0 1))])
def g12 : AObj := (.cells [(b 1),(s [110,111,112]),(i 0),(i 1),(i 1),(b 4),(s []),(i 0),(i 1),(i 4),(b 1),(s [76]),(i 0),(i 2),(i 1),(b 3),(s [58]),(i 0),(i 2),(i 2),(b 1),(s [106,117,109,112]),(i 0),(i 2),(i 4),(b 1),(s [76]),(i 0),(i 2),(i 9),(b 4),(s []),(i 0),(i 2),(i 10),(b 1),(s [110,111,112]),(i 0),(i 3),(i 1),(b 4),(s []),(i 0),(i 3),(i 4),(b 4),(s []),(i 0),(i 4),(i 1)] 0 9 false)
def g13 : AObj := (C [(b 2),(i 0),(s [76]),(i 0),(i 0)])
def g14 : AObj := (.cells [(b 2),(s []),.nilSlice,(S 15 0 0 16 1 1 true 16),z,z,z,(i 1),(i 1),(b 1),(s [76]),.nilSlice,.nilSlice,z,z,z,(i 2),(i 1),(b 2),(s []),.nilSlice,(S 16 0 0 16 1 1 true 16),z,z,z,(i 2),(i 4),(b 2),(s []),.nilSlice,(S 17 0 0 16 1 1 true 16),z,z,z,(i 3),(i 1)] 0 3 false)
def g15 : AObj := (C [(b 1),(b 0),(b 0),(b 0),(b 0),(b 0),(b 0),z,z,(.int .u16 0),(i 0),.nilSlice,.nilSlice,z,(i 1),(i 1)])
def g16 : AObj := (C [(b 27),(b 0),(b 0),(b 0),(b 0),(b 0),(b 0),z,z,(.int .u16 0),(i 0),(S 18 0 0 5 1 1 false 5),.nilSlice,z,(i 2),(i 4)])
def g17 : AObj := (C [(b 1),(b 0),(b 0),(b 0),(b 0),(b 0),(b 0),z,z,(.int .u16 0),(i 0),.nilSlice,.nilSlice,z,(i 3),(i 1)])
def g18 : AObj := (C [(b 1),(i 3),(i 0),z,z,(b 2),(i 2),(i 0),z,z,(b 3),(i 5),(i 0),z,z,(b 5),(i 5),(i 0),z,z,(b 6),(i 5),(i 0),z,z])
def g19 : AObj := (C [(b 4),(i 2),(i 0),z,z,(b 5),(i 5),(i 0),z,z,(b 6),(i 5),(i 0),z,z])
def g20 : AObj := (C [(b 3),(i 5),(i 0),z,z,(b 5),(i 5),(i 0),z,z,(b 9),(i 5),(i 0),z,z])
def g21 : AObj := (C [(b 3),(i 5),(i 0),z,z,(b 5),(i 5),(i 0),z,z,(b 6),(i 5),(i 0),z,z])
def g22 : AObj := (C [(b 1),(i 3),(i 0),z,z,(b 2),(i 2),(i 0),z,z,(b 10),(i 19),(i 2),y,y])
def g23 : AObj := (C [(b 1),(b 0),(b 0),(b 0),(b 0),(b 0),(b 0),z,z,(.int .u16 0),(i 0)])
def g24 : AObj := (C [(b 27),(b 0),(b 0),(b 0),(b 0),(b 0),(b 0),z,z,(.int .u16 0),(i 4)])
def g25 : AObj := (D [(S 13 0 0 90 9 9 true 10)])
def g26 : AObj := (D [(.iface 424 (P 15 0 0 1))])
def g27 : AObj := (C [(S 16 0 3 36 4 4 false 9),(P 17 0 0 1),(S 18 0 0 4 4 4 true 1),(S 19 0 0 4 4 4 true 1),(S 20 0 0 20 4 4 true 5),(i 12),(i 1),(i 1),(i 0),.nilSlice])
def g28 : AObj := (C [(P 17 0 0 1),(S 21 0 0 4 4 4 false 1),z,(.map 22)])
def g29 : AObj := (.cells [(b 2),(s []),.nilSlice,(S 23 0 0 16 1 1 true 16),z,z,z,(i 1),(i 1),(b 1),(s [76]),.nilSlice,.nilSlice,z,z,z,(i 2),(i 1),(b 2),(s []),.nilSlice,(S 24 0 0 16 1 1 true 16),z,z,z,(i 2),(i 4),(b 2),(s []),.nilSlice,(S 25 0 0 16 1 1 true 16),z,z,z,(i 3),(i 1)] 0 3 false)
def g30 : AObj := (C [(.map 26)])
def g31 : AObj := (C [(i 0),(i 0),(i 0),(i 0)])
def g32 : AObj := (C [(i 0),(i 4),(i 4),(i 8)])
def g33 : AObj := (C [(S 27 0 0 11 1 1 false 11),z,z,z,z,.nilSlice,z,z,z,z,(S 28 0 0 11 1 1 false 11),z,z,z,z,(S 29 0 0 11 1 1 false 11),z,z,z,z])
def g34 : AObj := (C [(b 27),(b 0),(b 0),(b 0),(b 0),(b 0),(b 0),z,z,(.int .u16 0),(i 0),(S 30 0 0 5 1 1 false 5),.nilSlice,z,(i 2),(i 4)])
def g35 : AObj := (.map [⟨(s [76]),(.agg [(i 1),y,.nilSlice]),0⟩] 1)
def g36 : AObj := (.map [⟨(s [76]),(.agg [(i 4),(i 0)]),0⟩] 1)
def g37 : AObj := (.cells [(b 0),(b 192),(b 0),(b 4),(b 0),(b 192),(b 0),(b 108),(b 0),(b 192),(b 0),(b 4)] 0 2 false)
def g38 : AObj := (C [(w 0),(i 12),y])
def g39 : AObj := (C [(w 67158016)])
def gob : List AObj := [(D [(i 26),(i 6)]),(D [(i 0),(i 14),(i 16),(i 10)]),(D [(i 14),(i 2)])]
noncomputable def tl0 : List (Nat × FnImp) := t_law
noncomputable def tr0 : Tree FnImp := treeOf tl0
theorem tr0_ok : treeOf tl0 = tr0 := rfl
def e177x0 : Ent := ⟨[(s [110,111,112]),(s [114]),(i 32)],gob ++ [g0,g1,(D []),g2,g3,g4,g5,g6,g7,g8,g9],(.tuple [(b 0),z]),nones 14,[]⟩
def e177x1 : Ent := ⟨[(s [110,111,112]),(s [112]),(i 4)],gob ++ [g0,g1,(D []),g2,g3,g4,g5,g6,g7,g8,g9],(.tuple [(b 0),z]),nones 14,[]⟩
def e177x2 : Ent := ⟨[(s [76]),(s [114]),(i 32)],gob ++ [g0,g1,(D []),g2,g3,g4,g5,g6,g7,g8,g9],(.tuple [(b 0),z]),nones 14,[]⟩
def e177x3 : Ent := ⟨[(s [76]),(s [112]),(i 4)],gob ++ [g0,g1,(D []),g2,g3,g4,g5,g6,g7,g8,g9],(.tuple [(b 0),z]),nones 14,[]⟩
def e177x4 : Ent := ⟨[(s [106,117,109,112]),(s [114]),(i 32)],gob ++ [g0,g1,(D []),g2,g3,g4,g5,g6,g7,g8,g9],(.tuple [(b 0),z]),nones 14,[]⟩
def e177x5 : Ent := ⟨[(s [106,117,109,112]),(s [112]),(i 4)],gob ++ [g0,g1,(D []),g2,g3,g4,g5,g6,g7,g8,g9],(.tuple [(b 0),z]),nones 14,[]⟩
def tbl177 : List Ent := [e177x0, e177x1, e177x2, e177x3, e177x4, e177x5]
theorem ce177x0 : chkE (tabT tr0) (evalF (tabT tr0) 100000) 177 e177x0 = true := by kernel_rfl
theorem ce177x1 : chkE (tabT tr0) (evalF (tabT tr0) 100000) 177 e177x1 = true := by kernel_rfl
theorem ce177x2 : chkE (tabT tr0) (evalF (tabT tr0) 100000) 177 e177x2 = true := by kernel_rfl
theorem ce177x3 : chkE (tabT tr0) (evalF (tabT tr0) 100000) 177 e177x3 = true := by kernel_rfl
theorem ce177x4 : chkE (tabT tr0) (evalF (tabT tr0) 100000) 177 e177x4 = true := by kernel_rfl
theorem ce177x5 : chkE (tabT tr0) (evalF (tabT tr0) 100000) 177 e177x5 = true := by kernel_rfl
theorem all177 : ∀ E, E ∈ tbl177 → chkE (tabT tr0) (evalF (tabT tr0) 100000) 177 E = true := all_cons (p := fun E => chkE (tabT tr0) (evalF (tabT tr0) 100000) 177 E) ce177x0 (all_cons (p := fun E => chkE (tabT tr0) (evalF (tabT tr0) 100000) 177 E) ce177x1 (all_cons (p := fun E => chkE (tabT tr0) (evalF (tabT tr0) 100000) 177 E) ce177x2 (all_cons (p := fun E => chkE (tabT tr0) (evalF (tabT tr0) 100000) 177 E) ce177x3 (all_cons (p := fun E => chkE (tabT tr0) (evalF (tabT tr0) 100000) 177 E) ce177x4 (all_cons (p := fun E => chkE (tabT tr0) (evalF (tabT tr0) 100000) 177 E) ce177x5 (fun _ h => by cases h))))))
noncomputable def tl1 : List (Nat × FnImp) := (177, .hook (memoAH memoPre tbl177)) :: tl0
noncomputable def tr1 : Tree FnImp := tr0.set 177 (.hook (memoAH memoPre tbl177))
theorem tr1_ok : treeOf tl1 = tr1 := by kernel_rfl
noncomputable def tl2 : List (Nat × FnImp) := (182, .hook (deferH (evalF (tabT tr1) 100000) dfn182)) :: tl1
noncomputable def tr2 : Tree FnImp := tr1.set 182 (.hook (deferH (evalF (tabT tr1) 100000) dfn182))
theorem tr2_ok : treeOf tl2 = tr2 := by kernel_rfl
def e182x0 : Ent := ⟨[(S 11 0 9 50 10 10 false 5)],gob ++ [g10,g1,(D []),g3,g11,g4,g5,g6,g12,g7,g8,g9],(.tuple [(.agg [(b 1),(b 0),(b 0),(b 0),(b 0),(b 0),(b 0),z,z,(.int .u16 0),(i 0),.nilSlice,.nilSlice,z,(i 1),(i 1)]),(i 1),(i 0)]),nones 15,[]⟩
def e182x1 : Ent := ⟨[(S 11 20 9 50 6 6 false 5)],gob ++ [g10,g1,(D []),g3,g11,g4,g5,g6,g12,g7,g8,g9],(.tuple [(.agg [(b 27),(b 0),(b 0),(b 0),(b 0),(b 0),(b 0),z,z,(.int .u16 0),(i 0),(S 15 0 0 5 1 1 false 5),.nilSlice,z,(i 2),(i 4)]),(i 2),(i 0)]),nones 15,[g13]⟩
def e182x2 : Ent := ⟨[(S 11 35 9 50 3 3 false 5)],gob ++ [g10,g1,(D []),g3,g11,g4,g5,g6,g12,g7,g8,g9],(.tuple [(.agg [(b 1),(b 0),(b 0),(b 0),(b 0),(b 0),(b 0),z,z,(.int .u16 0),(i 0),.nilSlice,.nilSlice,z,(i 3),(i 1)]),(i 1),(i 0)]),nones 15,[]⟩
def tbl182 : List Ent := [e182x0, e182x1, e182x2]
theorem ce182x0 : chkE (tabT tr2) (evalF (tabT tr2) 100000) 182 e182x0 = true := by kernel_rfl
theorem ce182x1 : chkE (tabT tr2) (evalF (tabT tr2) 100000) 182 e182x1 = true := by kernel_rfl
theorem ce182x2 : chkE (tabT tr2) (evalF (tabT tr2) 100000) 182 e182x2 = true := by kernel_rfl
theorem all182 : ∀ E, E ∈ tbl182 → chkE (tabT tr2) (evalF (tabT tr2) 100000) 182 E = true := all_cons (p := fun E => chkE (tabT tr2) (evalF (tabT tr2) 100000) 182 E) ce182x0 (all_cons (p := fun E => chkE (tabT tr2) (evalF (tabT tr2) 100000) 182 E) ce182x1 (all_cons (p := fun E => chkE (tabT tr2) (evalF (tabT tr2) 100000) 182 E) ce182x2 (fun _ h => by cases h)))
noncomputable def tl3 : List (Nat × FnImp) := (182, .hook (memoAH memoPre tbl182)) :: tl2
noncomputable def tr3 : Tree FnImp := tr2.set 182 (.hook (memoAH memoPre tbl182))
theorem tr3_ok : treeOf tl3 = tr3 := by kernel_rfl
def e33x0 : Ent := ⟨[(s [110,111,112,10,76,58,32,106,117,109,112,32,76,10,110,111,112,10])],gob ++ [g0,g1,(D []),g2,g3,g4,g5,g6,g7,g8,g9],(.tuple [(S 14 0 9 50 10 10 false 5),.nilSlice]),nones 14,[g12]⟩
def tbl33 : List Ent := [e33x0]
theorem ce33x0 : chkE (tabT tr3) (evalF (tabT tr3) 100000) 33 e33x0 = true := by kernel_rfl
theorem all33 : ∀ E, E ∈ tbl33 → chkE (tabT tr3) (evalF (tabT tr3) 100000) 33 E = true := all_cons (p := fun E => chkE (tabT tr3) (evalF (tabT tr3) 100000) 33 E) ce33x0 (fun _ h => by cases h)
noncomputable def tl4 : List (Nat × FnImp) := (33, .hook (memoAH memoPre tbl33)) :: tl3
noncomputable def tr4 : Tree FnImp := tr3.set 33 (.hook (memoAH memoPre tbl33))
theorem tr4_ok : treeOf tl4 = tr4 := by kernel_rfl
noncomputable def tl5 : List (Nat × FnImp) := (34, .hook (deferH (evalF (tabT tr4) 100000) dfn34)) :: tl4
noncomputable def tr5 : Tree FnImp := tr4.set 34 (.hook (deferH (evalF (tabT tr4) 100000) dfn34))
theorem tr5_ok : treeOf tl5 = tr5 := by kernel_rfl
def e24x0 : Ent := ⟨[(s [110,111,112,10,76,58,32,106,117,109,112,32,76,10,110,111,112,10])],gob ++ [g0,g1,(D []),g2,g3,g4,g5,g6,g7,g8,g9],(.tuple [(S 14 0 3 36 4 4 false 9),.nilSlice]),nones 14,[g14,g15,g16,g17,g13]⟩
def tbl24 : List Ent := [e24x0]
theorem ce24x0 : chkE (tabT tr5) (evalF (tabT tr5) 100000) 24 e24x0 = true := by kernel_rfl
theorem all24 : ∀ E, E ∈ tbl24 → chkE (tabT tr5) (evalF (tabT tr5) 100000) 24 E = true := all_cons (p := fun E => chkE (tabT tr5) (evalF (tabT tr5) 100000) 24 E) ce24x0 (fun _ h => by cases h)
noncomputable def tl6 : List (Nat × FnImp) := (24, .hook (memoAH memoPre tbl24)) :: tl5
noncomputable def tr6 : Tree FnImp := tr5.set 24 (.hook (memoAH memoPre tbl24))
theorem tr6_ok : treeOf tl6 = tr6 := by kernel_rfl
def e220x0 : Ent := ⟨[],gob ++ [g0,g1,(D []),g2,g3,g4,g5,g6,g7,g8,g9],(S 14 0 0 155 31 31 true 5),nones 14,[(C [(b 1),(s [110,111,112]),(b 1),(b 15),.nilSlice,(b 2),(s [97,100,100]),(b 1),(b 15),(S 15 0 0 25 5 5 false 5),(b 3),(s [115,117,98]),(b 1),(b 15),(S 16 0 0 25 5 5 false 5),(b 4),(s [97,110,100]),(b 1),(b 15),(S 17 0 0 25 5 5 false 5),(b 5),(s [111,114]),(b 1),(b 15),(S 18 0 0 25 5 5 false 5),(b 6),(s [120,111,114]),(b 1),(b 15),(S 19 0 0 25 5 5 false 5),(b 7),(s [97,100,100,105]),(b 1),(b 15),(S 20 0 0 15 3 3 false 5),(b 8),(s [109,111,118,105]),(b 1),(b 15),(S 21 0 0 20 4 4 false 5),(b 9),(s [109,111,118]),(b 1),(b 15),(S 22 0 0 20 4 4 false 5),(b 10),(s [99,109,112,101,113]),(b 1),(b 15),(S 23 0 0 15 3 3 false 5),(b 11),(s [99,109,112,103,116]),(b 1),(b 15),(S 24 0 0 15 3 3 false 5),(b 12),(s [99,109,112,103,116,117]),(b 1),(b 15),(S 25 0 0 15 3 3 false 5),(b 13),(s [99,109,112,101,113,105]),(b 1),(b 15),(S 26 0 0 15 3 3 false 5),(b 14),(s [109,117,120]),(b 1),(b 15),(S 27 0 0 20 4 4 false 5),(b 15),(s [97,115,108]),(b 2),(b 12),(S 28 0 0 15 3 3 false 5),(b 16),(s [108,115,114]),(b 2),(b 12),(S 29 0 0 15 3 3 false 5),(b 17),(s [97,115,114]),(b 2),(b 12),(S 30 0 0 15 3 3 false 5),(b 18),(s [109,112,121]),(b 2),(b 12),(S 31 0 0 15 3 3 false 5),(b 19),(s [99,109,112,121]),(b 2),(b 12),(S 32 0 0 15 3 3 false 5),(b 20),(s [99,109,112,121,99]),(b 2),(b 12),(S 33 0 0 15 3 3 false 5),(b 21),(s [108,100,119]),(b 3),(b 3),(S 34 0 0 15 3 3 false 5),(b 22),(s [108,100,104]),(b 3),(b 3),(S 35 0 0 15 3 3 false 5),(b 23),(s [108,100,98]),(b 3),(b 3),(S 36 0 0 15 3 3 false 5),(b 24),(s [115,116,119]),(b 4),(b 1),(S 37 0 0 20 4 4 false 5),(b 25),(s [115,116,104]),(b 4),(b 1),(S 38 0 0 20 4 4 false 5),(b 26),(s [115,116,98]),(b 4),(b 1),(S 39 0 0 20 4 4 false 5),(b 27),(s [106,117,109,112]),(b 5),(b 12),(S 40 0 0 15 3 3 false 5),(b 28),(s [106,117,109,112,114]),(b 5),(b 12),(S 41 0 0 15 3 3 false 5),(b 29),(s [99,97,108,108]),(b 5),(b 12),(S 42 0 0 5 1 1 false 5),(b 30),(s [108,111,111,112,105]),(b 6),(b 8),(S 43 0 0 15 3 3 false 5),(b 31),(s [108,111,111,112,114]),(b 6),(b 8),(S 44 0 0 15 3 3 false 5)]),g18,g18,g18,g18,g18,(C [(b 3),(i 5),(i 0),z,z,(b 5),(i 5),(i 0),z,z,(b 9),(i 14),(i 0),y,y]),(C [(b 1),(i 3),(i 0),z,z,(b 2),(i 2),(i 0),z,z,(b 3),(i 5),(i 0),z,z,(b 9),(i 14),(i 0),y,y]),(C [(b 1),(i 3),(i 0),z,z,(b 2),(i 2),(i 0),z,z,(b 3),(i 5),(i 0),z,z,(b 5),(i 5),(i 0),z,z]),g19,g19,g19,(C [(b 4),(i 2),(i 0),z,z,(b 5),(i 5),(i 0),z,z,(b 9),(i 14),(i 0),y,y]),(C [(b 3),(i 5),(i 0),z,z,(b 2),(i 2),(i 0),z,z,(b 5),(i 5),(i 0),z,z,(b 6),(i 5),(i 0),z,z]),g20,g20,g20,g21,g21,g21,(C [(b 3),(i 5),(i 0),z,z,(b 5),(i 5),(i 0),z,z,(b 9),(i 12),(i 2),y,y]),(C [(b 3),(i 5),(i 0),z,z,(b 5),(i 5),(i 0),z,z,(b 9),(i 12),(i 1),y,y]),(C [(b 3),(i 5),(i 0),z,z,(b 5),(i 5),(i 0),z,z,(b 9),(i 12),(i 0),y,y]),(C [(b 5),(i 5),(i 0),z,z,(b 8),(i 1),(i 0),z,z,(b 6),(i 5),(i 0),z,z,(b 9),(i 12),(i 2),y,y]),(C [(b 5),(i 5),(i 0),z,z,(b 8),(i 1),(i 0),z,z,(b 6),(i 5),(i 0),z,z,(b 9),(i 12),(i 1),y,y]),(C [(b 5),(i 5),(i 0),z,z,(b 8),(i 1),(i 0),z,z,(b 6),(i 5),(i 0),z,z,(b 9),(i 12),(i 0),y,y]),g22,(C [(b 1),(i 3),(i 0),z,z,(b 2),(i 2),(i 0),z,z,(b 5),(i 5),(i 0),z,z]),(C [(b 10),(i 24),(i 2),y,y]),(C [(b 7),(i 1),(i 0),z,z,(b 10),(i 12),(i 2),y,y,(b 11),(i 11),(i 0),z,z]),(C [(b 7),(i 1),(i 0),z,z,(b 10),(i 12),(i 2),y,y,(b 5),(i 5),(i 0),z,z])]⟩
def tbl220 : List Ent := [e220x0]
theorem ce220x0 : chkE (tabT tr6) (evalF (tabT tr6) 100000) 220 e220x0 = true := by kernel_rfl
theorem all220 : ∀ E, E ∈ tbl220 → chkE (tabT tr6) (evalF (tabT tr6) 100000) 220 E = true := all_cons (p := fun E => chkE (tabT tr6) (evalF (tabT tr6) 100000) 220 E) ce220x0 (fun _ h => by cases h)
noncomputable def tl7 : List (Nat × FnImp) := (220, .hook (memoAH memoPre tbl220)) :: tl6
noncomputable def tr7 : Tree FnImp := tr6.set 220 (.hook (memoAH memoPre tbl220))
theorem tr7_ok : treeOf tl7 = tr7 := by kernel_rfl
def e156x0 : Ent := ⟨[(b 1)],gob ++ [g0,g1,(D []),g2,g3,g4,g5,g6,g7,g8,g9],(.tuple [(.agg [(b 1),(s [110,111,112]),(b 1),(b 15),.nilSlice]),y]),nones 14,[]⟩
def e156x1 : Ent := ⟨[(b 27)],gob ++ [g0,g1,(D []),g2,g3,g4,g5,g6,g7,g8,g9],(.tuple [(.agg [(b 27),(s [106,117,109,112]),(b 5),(b 12),(S 14 0 0 15 3 3 false 5)]),y]),nones 14,[g22]⟩
def tbl156 : List Ent := [e156x0, e156x1]
theorem ce156x0 : chkE (tabT tr7) (evalF (tabT tr7) 100000) 156 e156x0 = true := by kernel_rfl
theorem ce156x1 : chkE (tabT tr7) (evalF (tabT tr7) 100000) 156 e156x1 = true := by kernel_rfl
theorem all156 : ∀ E, E ∈ tbl156 → chkE (tabT tr7) (evalF (tabT tr7) 100000) 156 E = true := all_cons (p := fun E => chkE (tabT tr7) (evalF (tabT tr7) 100000) 156 E) ce156x0 (all_cons (p := fun E => chkE (tabT tr7) (evalF (tabT tr7) 100000) 156 E) ce156x1 (fun _ h => by cases h))
noncomputable def tl8 : List (Nat × FnImp) := (156, .hook (memoAH memoPre tbl156)) :: tl7
noncomputable def tr8 : Tree FnImp := tr7.set 156 (.hook (memoAH memoPre tbl156))
theorem tr8_ok : treeOf tl8 = tr8 := by kernel_rfl
def e126x0 : Ent := ⟨[(.agg [(S 11 0 0 11 1 1 false 11),z,z,z,z])],gob ++ [g10,g1,(D []),g3,g11,g4,g5,g6,g23,g7,g8,g9],(i 0),nones 15,[]⟩
def e126x1 : Ent := ⟨[(.agg [(S 11 0 0 11 1 1 false 11),z,z,z,z])],gob ++ [g10,g1,(D []),g3,g11,g4,g5,g6,g24,g7,g8,g9],(i 0),nones 15,[]⟩
def tbl126 : List Ent := [e126x0, e126x1]
theorem ce126x0 : chkE (tabT tr8) (evalF (tabT tr8) 100000) 126 e126x0 = true := by kernel_rfl
theorem ce126x1 : chkE (tabT tr8) (evalF (tabT tr8) 100000) 126 e126x1 = true := by kernel_rfl
theorem all126 : ∀ E, E ∈ tbl126 → chkE (tabT tr8) (evalF (tabT tr8) 100000) 126 E = true := all_cons (p := fun E => chkE (tabT tr8) (evalF (tabT tr8) 100000) 126 E) ce126x0 (all_cons (p := fun E => chkE (tabT tr8) (evalF (tabT tr8) 100000) 126 E) ce126x1 (fun _ h => by cases h))
noncomputable def tl9 : List (Nat × FnImp) := (126, .hook (memoAH memoPre tbl126)) :: tl8
noncomputable def tr9 : Tree FnImp := tr8.set 126 (.hook (memoAH memoPre tbl126))
theorem tr9_ok : treeOf tl9 = tr9 := by kernel_rfl
def e82x0 : Ent := ⟨[(P 11 0 0 10),(i 0),(P 12 0 0 4),z],gob ++ [g25,g1,(D []),g11,g26,g4,g5,g6,g27,g28,g7,g8,g9,g29,g30,g31,g32,g33,g32,(.map [] 0),g15,g34,g17,g35,g23,g24,g23,g13],(.tuple []),nones 31,[]⟩
def e82x1 : Ent := ⟨[(P 11 0 0 10),(i 2),(P 12 0 0 4),z],gob ++ [g25,g1,(D []),g11,g26,g4,g5,g6,g27,g28,g7,g8,g9,g29,g30,g31,g32,g33,g32,(.map [] 0),g15,g34,g17,g35,g23,g24,g23,g13],(.tuple []),[none,none,none,none,none,none,none,none,none,none,none,none,none,none,none,none,none,none,none,none,none,none,some g36,none,none,none,none,none,none,none,none],[]⟩
def e82x2 : Ent := ⟨[(P 11 0 0 10),(i 3),(P 12 0 0 4),z],gob ++ [g25,g1,(D []),g11,g26,g4,g5,g6,g27,g28,g7,g8,g9,g29,g30,g31,g32,g33,g32,g36,g15,g34,g17,g35,g23,g24,g23,g13],(.tuple []),nones 31,[]⟩
def tbl82 : List Ent := [e82x0, e82x1, e82x2]
theorem ce82x0 : chkE (tabT tr9) (evalF (tabT tr9) 100000) 82 e82x0 = true := by kernel_rfl
theorem ce82x1 : chkE (tabT tr9) (evalF (tabT tr9) 100000) 82 e82x1 = true := by kernel_rfl
theorem ce82x2 : chkE (tabT tr9) (evalF (tabT tr9) 100000) 82 e82x2 = true := by kernel_rfl
theorem all82 : ∀ E, E ∈ tbl82 → chkE (tabT tr9) (evalF (tabT tr9) 100000) 82 E = true := all_cons (p := fun E => chkE (tabT tr9) (evalF (tabT tr9) 100000) 82 E) ce82x0 (all_cons (p := fun E => chkE (tabT tr9) (evalF (tabT tr9) 100000) 82 E) ce82x1 (all_cons (p := fun E => chkE (tabT tr9) (evalF (tabT tr9) 100000) 82 E) ce82x2 (fun _ h => by cases h)))
noncomputable def tl10 : List (Nat × FnImp) := (82, .hook (memoAH memoPre tbl82)) :: tl9
noncomputable def tr10 : Tree FnImp := tr9.set 82 (.hook (memoAH memoPre tbl82))
theorem tr10_ok : treeOf tl10 = tr10 := by kernel_rfl
def e25x0 : Ent := ⟨[(S 11 0 3 36 4 4 false 9)],gob ++ [g10,g1,(D []),g3,g11,g4,g5,g6,g14,g7,g8,g9,g15,g16,g17,g13],(.tuple [(.agg [(S 19 0 0 4 4 4 true 1),(S 20 0 0 20 4 4 true 5),(i 12),(i 1),(i 1),(i 0)]),.nilSlice]),nones 19,[g32,(C [(S 21 0 0 11 1 1 false 11),z,z,z,z,.nilSlice,z,z,z,z,(S 22 0 0 11 1 1 false 11),z,z,z,z,(S 23 0 0 11 1 1 false 11),z,z,z,z]),g23,g24,g23]⟩
def tbl25 : List Ent := [e25x0]
theorem ce25x0 : chkE (tabT tr10) (evalF (tabT tr10) 100000) 25 e25x0 = true := by kernel_rfl
theorem all25 : ∀ E, E ∈ tbl25 → chkE (tabT tr10) (evalF (tabT tr10) 100000) 25 E = true := all_cons (p := fun E => chkE (tabT tr10) (evalF (tabT tr10) 100000) 25 E) ce25x0 (fun _ h => by cases h)
noncomputable def tl11 : List (Nat × FnImp) := (25, .hook (memoAH memoPre tbl25)) :: tl10
noncomputable def tr11 : Tree FnImp := tr10.set 25 (.hook (memoAH memoPre tbl25))
theorem tr11_ok : treeOf tl11 = tr11 := by kernel_rfl
def e18x0 : Ent := ⟨[(s [110,111,112,10,76,58,32,106,117,109,112,32,76,10,110,111,112,10])],gob ++ [g0,g1,(D []),g2,g3,g4,g5,g6,g7,g8,g9],(.tuple [(.agg [(w 0),(S 14 0 2 12 12 12 false 1),(S 15 0 0 3 1 1 false 3),(S 16 0 2 3 3 3 false 1),(S 17 0 2 15 3 3 false 5),(i 1),(i 1),(i 0)]),.nilSlice]),nones 14,[g37,g38,(.cells [(w 0),(w 4),(w 8)] 0 2 false),(.cells [(S 18 0 0 11 1 1 false 11),z,z,z,z,(S 19 0 0 11 1 1 false 11),z,z,z,z,(S 20 0 0 11 1 1 false 11),z,z,z,z] 0 2 false),g23,g24,g23]⟩
def tbl18 : List Ent := [e18x0]
theorem ce18x0 : chkE (tabT tr11) (evalF (tabT tr11) 100000) 18 e18x0 = true := by kernel_rfl
theorem all18 : ∀ E, E ∈ tbl18 → chkE (tabT tr11) (evalF (tabT tr11) 100000) 18 E = true := all_cons (p := fun E => chkE (tabT tr11) (evalF (tabT tr11) 100000) 18 E) ce18x0 (fun _ h => by cases h)
noncomputable def tl12 : List (Nat × FnImp) := (18, .hook (memoAH memoPre tbl18)) :: tl11
noncomputable def tr12 : Tree FnImp := tr11.set 18 (.hook (memoAH memoPre tbl18))
theorem tr12_ok : treeOf tl12 = tr12 := by kernel_rfl
def e93x0 : Ent := ⟨[(S 11 0 0 1 1 1 false 1),(w 0)],gob ++ [g10,g1,(D []),g3,g11,g4,g5,g6,g39,g7,g8,g9],(.tuple [(.agg [(S 15 0 0 11 1 1 false 11),z,z,z,z]),(i 0)]),nones 15,[g23]⟩
def e93x1 : Ent := ⟨[(S 11 0 0 1 1 1 false 1),(w 4)],gob ++ [g10,g1,(D []),g3,g11,g4,g5,g6,(C [(w 1811988480)]),g7,g8,g9],(.tuple [(.agg [(S 15 0 0 11 1 1 false 11),z,z,z,z]),(i 0)]),nones 15,[g24]⟩
def e93x2 : Ent := ⟨[(S 11 0 0 1 1 1 false 1),(w 8)],gob ++ [g10,g1,(D []),g3,g11,g4,g5,g6,g39,g7,g8,g9],(.tuple [(.agg [(S 15 0 0 11 1 1 false 11),z,z,z,z]),(i 0)]),nones 15,[g23]⟩
def tbl93 : List Ent := [e93x0, e93x1, e93x2]
theorem ce93x0 : chkE (tabT tr12) (evalF (tabT tr12) 100000) 93 e93x0 = true := by kernel_rfl
theorem ce93x1 : chkE (tabT tr12) (evalF (tabT tr12) 100000) 93 e93x1 = true := by kernel_rfl
theorem ce93x2 : chkE (tabT tr12) (evalF (tabT tr12) 100000) 93 e93x2 = true := by kernel_rfl
theorem all93 : ∀ E, E ∈ tbl93 → chkE (tabT tr12) (evalF (tabT tr12) 100000) 93 E = true := all_cons (p := fun E => chkE (tabT tr12) (evalF (tabT tr12) 100000) 93 E) ce93x0 (all_cons (p := fun E => chkE (tabT tr12) (evalF (tabT tr12) 100000) 93 E) ce93x1 (all_cons (p := fun E => chkE (tabT tr12) (evalF (tabT tr12) 100000) 93 E) ce93x2 (fun _ h => by cases h)))
noncomputable def tl13 : List (Nat × FnImp) := (93, .hook (memoAH memoPre tbl93)) :: tl12
noncomputable def tr13 : Tree FnImp := tr12.set 93 (.hook (memoAH memoPre tbl93))
theorem tr13_ok : treeOf tl13 = tr13 := by kernel_rfl
def e19x0 : Ent := ⟨[(.agg [(w 0),(S 11 0 2 12 12 12 false 1),(S 12 0 0 3 1 1 false 3)])],gob ++ [g25,g1,(D []),g11,g26,g4,g5,g6,g37,g38,g7,g8,g9],(.tuple [(S 16 0 2 12 3 3 false 4),(i 0)]),nones 16,[(.cells [(w 0),(i 1),(S 17 0 0 1 1 1 false 1),z,(w 4),(i 1),(S 18 0 0 1 1 1 false 1),z,(w 8),(i 1),(S 19 0 0 1 1 1 false 1),z] 0 2 false),(C [(w 4)]),(C [(w 4)]),(C [(w 12)])]⟩
def tbl19 : List Ent := [e19x0]
theorem ce19x0 : chkE (tabT tr13) (evalF (tabT tr13) 100000) 19 e19x0 = true := by kernel_rfl
theorem all19 : ∀ E, E ∈ tbl19 → chkE (tabT tr13) (evalF (tabT tr13) 100000) 19 E = true := all_cons (p := fun E => chkE (tabT tr13) (evalF (tabT tr13) 100000) 19 E) ce19x0 (fun _ h => by cases h)
noncomputable def tl14 : List (Nat × FnImp) := (19, .hook (memoAH memoPre tbl19)) :: tl13
noncomputable def tr14 : Tree FnImp := tr13.set 19 (.hook (memoAH memoPre tbl19))
theorem tr14_ok : treeOf tl14 = tr14 := by kernel_rfl
def e13x0 : Ent := ⟨[(s [110,111,112,10,76,58,32,106,117,109,112,32,76,10,110,111,112,10])],gob ++ [g0,g1,(D []),g2,g3,g4,g5,g6,g7,g8,g9],(S 14 0 2 12 3 3 false 4),nones 14,[(.cells [(w 0),(i 1),(S 15 0 0 1 1 1 false 1),z,(w 4),(i 1),(S 16 0 0 1 1 1 false 1),z,(w 8),(i 1),(S 17 0 0 1 1 1 false 1),z] 0 2 false),(C [(w 4)]),(C [(w 4)]),(C [(w 12)])]⟩
def tbl13 : List Ent := [e13x0]
theorem ce13x0 : chkE (tabT tr14) (evalF (tabT tr14) 100000) 13 e13x0 = true := by kernel_rfl
theorem all13 : ∀ E, E ∈ tbl13 → chkE (tabT tr14) (evalF (tabT tr14) 100000) 13 E = true := all_cons (p := fun E => chkE (tabT tr14) (evalF (tabT tr14) 100000) 13 E) ce13x0 (fun _ h => by cases h)
noncomputable def tl15 : List (Nat × FnImp) := (13, .hook (memoAH memoPre tbl13)) :: tl14
noncomputable def tr15 : Tree FnImp := tr14.set 13 (.hook (memoAH memoPre tbl13))
theorem tr15_ok : treeOf tl15 = tr15 := by kernel_rfl
def e5x0 : Ent := ⟨[],gob ++ [g0,g1,(D []),g2,g3,g4,g5,g6,g7,g8,g9],y,nones 14,[]⟩
def tbl5 : List Ent := [e5x0]
theorem ce5x0 : chkE (tabT tr15) (evalF (tabT tr15) 100000) 5 e5x0 = true := by kernel_rfl
theorem all5 : ∀ E, E ∈ tbl5 → chkE (tabT tr15) (evalF (tabT tr15) 100000) 5 E = true := all_cons (p := fun E => chkE (tabT tr15) (evalF (tabT tr15) 100000) 5 E) ce5x0 (fun _ h => by cases h)
noncomputable def tl16 : List (Nat × FnImp) := (5, .hook (memoAH memoPre tbl5)) :: tl15
noncomputable def tr16 : Tree FnImp := tr15.set 5 (.hook (memoAH memoPre tbl5))
theorem tr16_ok : treeOf tl16 = tr16 := by kernel_rfl
theorem law_ev : isYes (callF (tabT tr16) (evalF (tabT tr16) 100000) 5 [] sG) = true := by kernel_rfl
end Go.V
