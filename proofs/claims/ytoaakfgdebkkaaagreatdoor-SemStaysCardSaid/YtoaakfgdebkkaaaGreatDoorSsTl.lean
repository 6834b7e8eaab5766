/- The law's table: the hooks and functions, each out of its contract. -/
import Derived.Test.YtoaakfgdebkkaaaGreatDoorSsOk
import Derived.Test.YtoaakfgdebkkaaaGreatDoorV67
import Derived.Test.YtoaakfgdebkkaaaGreatDoorSL
import Derived.KernelRfl
set_option linter.unusedVariables false
set_option linter.unusedSimpArgs false
set_option linter.unusedSectionVars false
/- The law's table: the hooks and functions, each out of its contract. -/
namespace Go.V
open Go Go.Proofs
set_option maxRecDepth 1000000
theorem okt19 : Ec 19 ir19 := ⟨_, Tryz.func19, by kernel_rfl, by kernel_rfl⟩
theorem okt50 : Ec 50 ir50 := ⟨_, Tryz.func50, by kernel_rfl, by kernel_rfl⟩
theorem okt20 : Ec 20 ir20 := ⟨_, Tryz.func20, by kernel_rfl, by kernel_rfl⟩
theorem okt21 : Ec 21 ir21 := ⟨_, Tryz.func21, by kernel_rfl, by kernel_rfl⟩
theorem okt8 : Ec 8 ir8 := ⟨_, Tryz.func8, by kernel_rfl, by kernel_rfl⟩
theorem okt5 : Ec 5 ir5 := ⟨_, Tryz.func5, by kernel_rfl, by kernel_rfl⟩
theorem okt84 : Ec 84 ir84 := ⟨_, Tryz.func84, by kernel_rfl, by kernel_rfl⟩
theorem okt98 : Ec 98 ir98 := ⟨_, Tryz.func98, by kernel_rfl, by kernel_rfl⟩
theorem okt68 : Ec 68 ir68 := ⟨_, Tryz.func68, by kernel_rfl, by kernel_rfl⟩
theorem okt70 : Ec 70 ir70 := ⟨_, Tryz.func70, by kernel_rfl, by kernel_rfl⟩
theorem okt41 : Ec 41 ir41 := ⟨_, Tryz.func41, by kernel_rfl, by kernel_rfl⟩
theorem okt40 : Ec 40 ir40 := ⟨_, Tryz.func40, by kernel_rfl, by kernel_rfl⟩
theorem okt67 : Ec 67 ir67 := ⟨_, Tryz.func67, by kernel_rfl, by kernel_rfl⟩
theorem okt42 : Ec 42 ir42 := ⟨_, Tryz.func42, by kernel_rfl, by kernel_rfl⟩
theorem okt103 : Ec 103 ir103 := ⟨_, Tryz.func103, by kernel_rfl, by kernel_rfl⟩
theorem okt76 : Ec 76 ir76 := ⟨_, Tryz.func76, by kernel_rfl, by kernel_rfl⟩
theorem okt44 : Ec 44 ir44 := ⟨_, Tryz.func44, by kernel_rfl, by kernel_rfl⟩
theorem okt75 : Ec 75 ir75 := ⟨_, Tryz.func75, by kernel_rfl, by kernel_rfl⟩
theorem okt46 : Ec 46 ir46 := ⟨_, Tryz.func46, by kernel_rfl, by kernel_rfl⟩
theorem okt78 : Ec 78 ir78 := ⟨_, Tryz.func78, by kernel_rfl, by kernel_rfl⟩
theorem okt14 : Ec 14 ir14 := ⟨_, Tryz.func14, by kernel_rfl, by kernel_rfl⟩
theorem okt45 : Ec 45 ir45 := ⟨_, Tryz.func45, by kernel_rfl, by kernel_rfl⟩
theorem okt49 : Ec 49 ir49 := ⟨_, Tryz.func49, by kernel_rfl, by kernel_rfl⟩
theorem okt48 : Ec 48 ir48 := ⟨_, Tryz.func48, by kernel_rfl, by kernel_rfl⟩
theorem okt82 : Ec 82 ir82 := ⟨_, Tryz.func82, by kernel_rfl, by kernel_rfl⟩
theorem okt83 : Ec 83 ir83 := ⟨_, Tryz.func83, by kernel_rfl, by kernel_rfl⟩
theorem okt105 : Ec 105 ir105 := ⟨_, Tryz.func105, by kernel_rfl, by kernel_rfl⟩
theorem okt16 : Ec 16 ir16 := ⟨_, Tryz.func16, by kernel_rfl, by kernel_rfl⟩
theorem okt17 : Ec 17 ir17 := ⟨_, Tryz.func17, by kernel_rfl, by kernel_rfl⟩
theorem okt81 : Ec 81 ir81 := ⟨_, Tryz.func81, by kernel_rfl, by kernel_rfl⟩
theorem okt47 : Ec 47 ir47 := ⟨_, Tryz.func47, by kernel_rfl, by kernel_rfl⟩
theorem okt15 : Ec 15 ir15 := ⟨_, Tryz.func15, by kernel_rfl, by kernel_rfl⟩
theorem okt6 : Ec 6 ir6 := ⟨_, Tryz.func6, by kernel_rfl, by kernel_rfl⟩
theorem okt182 : Ec 182 ir182 := ⟨_, Tryz.func182, by kernel_rfl, by kernel_rfl⟩
theorem okt181 : Ec 181 ir181 := ⟨_, Tryz.func181, by kernel_rfl, by kernel_rfl⟩
theorem okt170 : Ec 170 ir170 := ⟨_, Tryz.func170, by kernel_rfl, by kernel_rfl⟩
theorem okt177 : Ec 177 ir177 := ⟨_, Tryz.func177, by kernel_rfl, by kernel_rfl⟩
theorem okt166 : Ec 166 ir166 := ⟨_, Tryz.func166, by kernel_rfl, by kernel_rfl⟩
theorem okt169 : Ec 169 ir169 := ⟨_, Tryz.func169, by kernel_rfl, by kernel_rfl⟩
theorem okt101 : Ec 101 ir101 := ⟨_, Tryz.func101, by kernel_rfl, by kernel_rfl⟩
theorem okt180 : Ec 180 ir180 := ⟨_, Tryz.func180, by kernel_rfl, by kernel_rfl⟩
theorem okt178 : Ec 178 ir178 := ⟨_, Tryz.func178, by kernel_rfl, by kernel_rfl⟩
theorem okt179 : Ec 179 ir179 := ⟨_, Tryz.func179, by kernel_rfl, by kernel_rfl⟩
theorem okt167 : Ec 167 ir167 := ⟨_, Tryz.func167, by kernel_rfl, by kernel_rfl⟩
theorem okt168 : Ec 168 ir168 := ⟨_, Tryz.func168, by kernel_rfl, by kernel_rfl⟩
theorem okt155 : Ec 155 ir155 := ⟨_, Tryz.func155, by kernel_rfl, by kernel_rfl⟩
theorem okt156 : Ec 156 ir156 := ⟨_, Tryz.func156, by kernel_rfl, by kernel_rfl⟩
theorem okt129 : Ec 129 ir129 := ⟨_, Tryz.func129, by kernel_rfl, by kernel_rfl⟩
theorem okt157 : Ec 157 ir157 := ⟨_, Tryz.func157, by kernel_rfl, by kernel_rfl⟩
theorem okt130 : Ec 130 ir130 := ⟨_, Tryz.func130, by kernel_rfl, by kernel_rfl⟩
theorem okt131 : Ec 131 ir131 := ⟨_, Tryz.func131, by kernel_rfl, by kernel_rfl⟩
theorem okt104 : Ec 104 ir104 := ⟨_, Tryz.func104, by kernel_rfl, by kernel_rfl⟩
theorem okt3 : Ec 3 ir3 := ⟨_, Tryz.func3, by kernel_rfl, by kernel_rfl⟩
noncomputable def t_ss : List (Nat × FnImp) := [(7, .hook (memoAH memoPre tbl7)), (122, .code ir122), (123, .code ir123), (132, .code ir132), (133, .code ir133), (134, .code ir134), (158, .code ir158), (171, .code ir171), (172, .code ir172), (173, .code ir173), (174, .code ir174), (183, .ext .floor), (185, .ext .fmax), (187, .ext .fmin), (106, .code ir106), (107, .code ir107), (108, .code ir108), (109, .code ir109), (110, .code ir110), (111, .code ir111), (112, .code ir112), (113, .code ir113), (114, .code ir114), (115, .code ir115), (116, .code ir116), (117, .code ir117), (118, .code ir118), (119, .code ir119), (120, .code ir120), (121, .code ir121), (86, .code ir86), (54, .code ir54), (87, .code ir87), (89, .code ir89), (51, .code ir51), (55, .code ir55), (85, .code ir85), (53, .code ir53), (23, .code ir23), (52, .code ir52), (22, .code ir22), (90, .code ir90), (57, .code ir57), (88, .code ir88), (56, .code ir56), (24, .code ir24), (25, .code ir25), (9, .code ir9), (18, .code ir18), (19, .code ir19), (50, .code ir50), (20, .code ir20), (21, .code ir21), (8, .code ir8), (5, .code ir5), (43, .hook (pureH (inF rightR))), (69, .hook (pureH classG)), (84, .code ir84), (98, .code ir98), (68, .code ir68), (70, .code ir70), (41, .code ir41), (40, .code ir40), (67, .code ir67), (42, .code ir42), (80, .hook (pureH (inF writesR))), (79, .hook (pureH (inF writesPredR))), (77, .hook (pureH (inF readsPredR))), (103, .code ir103), (76, .code ir76), (44, .code ir44), (75, .code ir75), (46, .code ir46), (78, .code ir78), (14, .code ir14), (45, .code ir45), (49, .code ir49), (48, .code ir48), (82, .code ir82), (83, .code ir83), (105, .code ir105), (16, .code ir16), (17, .code ir17), (81, .code ir81), (47, .code ir47), (15, .code ir15), (6, .code ir6), (182, .code ir182), (181, .code ir181), (170, .code ir170), (177, .code ir177), (166, .code ir166), (169, .code ir169), (101, .code ir101), (180, .code ir180), (178, .code ir178), (179, .code ir179), (167, .code ir167), (168, .code ir168), (155, .code ir155), (156, .code ir156), (129, .code ir129), (157, .code ir157), (130, .code ir130), (131, .code ir131), (104, .code ir104), (3, .code ir3)]
theorem ok_ss : AllOk2 prog t_ss := .cons (ok_l1.get (f := 7) rfl) (.cons (.old ok122) (.cons (.old ok123) (.cons (.old ok132) (.cons (.old ok133) (.cons (.old ok134) (.cons (.old ok158) (.cons (.old ok171) (.cons (.old ok172) (.cons (.old ok173) (.cons (.old ok174) (.cons (.old oke183) (.cons (.old oke185) (.cons (.old oke187) (.cons (.old ok106) (.cons (.old ok107) (.cons (.old ok108) (.cons (.old ok109) (.cons (.old ok110) (.cons (.old ok111) (.cons (.old ok112) (.cons (.old ok113) (.cons (.old ok114) (.cons (.old ok115) (.cons (.old ok116) (.cons (.old ok117) (.cons (.old ok118) (.cons (.old ok119) (.cons (.old ok120) (.cons (.old ok121) (.cons (.old ok86) (.cons (.old ok54) (.cons (.old ok87) (.cons (.old ok89) (.cons (.old ok51) (.cons (.old ok55) (.cons (.old ok85) (.cons (.old ok53) (.cons (.old ok23) (.cons (.old ok52) (.cons (.old ok22) (.cons (.old ok90) (.cons (.old ok57) (.cons (.old ok88) (.cons (.old ok56) (.cons (.old ok24) (.cons (.old ok25) (.cons (.old ok9) (.cons (.old ok18) (.cons (.old okt19) (.cons (.old okt50) (.cons (.old okt20) (.cons (.old okt21) (.cons (.old okt8) (.cons (.old okt5) (.cons (globs (h_right mixed0 rfl all0)) (.cons (globs (h_class mixed0 rfl all0)) (.cons (.old okt84) (.cons (.old okt98) (.cons (.old okt68) (.cons (.old okt70) (.cons (.old okt41) (.cons (.old okt40) (.cons (.old okt67) (.cons (.old okt42) (.cons (globs (h_writes mixed0 rfl all0)) (.cons (globs (h_writesPred mixed0 rfl all0)) (.cons (globs (h_readsPred mixed0 rfl all0)) (.cons (.old okt103) (.cons (.old okt76) (.cons (.old okt44) (.cons (.old okt75) (.cons (.old okt46) (.cons (.old okt78) (.cons (.old okt14) (.cons (.old okt45) (.cons (.old okt49) (.cons (.old okt48) (.cons (.old okt82) (.cons (.old okt83) (.cons (.old okt105) (.cons (.old okt16) (.cons (.old okt17) (.cons (.old okt81) (.cons (.old okt47) (.cons (.old okt15) (.cons (.old okt6) (.cons (.old okt182) (.cons (.old okt181) (.cons (.old okt170) (.cons (.old okt177) (.cons (.old okt166) (.cons (.old okt169) (.cons (.old okt101) (.cons (.old okt180) (.cons (.old okt178) (.cons (.old okt179) (.cons (.old okt167) (.cons (.old okt168) (.cons (.old okt155) (.cons (.old okt156) (.cons (.old okt129) (.cons (.old okt157) (.cons (.old okt130) (.cons (.old okt131) (.cons (.old okt104) (.cons (.old okt3) (.nil)))))))))))))))))))))))))))))))))))))))))))))))))))))))))))))))))))))))))))))))))))))))))))))))))))))))))))
theorem fine_ss : TabFine prog (tabL t_ss) := AllOk2.fine ok_ss
theorem xCxTab : CxTab (tabL t_ss) := ⟨rfl, rfl, rfl, rfl, rfl, rfl, rfl, rfl, rfl, rfl, rfl, rfl, rfl⟩
theorem xWhTab : WhTab (tabL t_ss) := ⟨xCxTab, rfl, rfl, rfl, rfl, rfl, rfl, rfl, rfl, rfl, rfl, rfl, rfl, rfl, rfl, rfl, rfl, rfl, rfl, rfl⟩
theorem xSmTab : SmTab (tabL t_ss) := ⟨xWhTab, rfl, rfl, rfl, rfl, rfl, rfl, rfl, rfl, rfl, rfl, rfl, rfl, rfl, rfl, rfl⟩
theorem xMoTab : MoTab (tabL t_ss) := ⟨rfl, rfl, rfl, rfl, rfl, rfl, rfl, rfl⟩
theorem xInTab : InTab (tabL t_ss) := ⟨rfl, rfl, rfl⟩
theorem xRuTab : RuTab (tabL t_ss) := ⟨xInTab, rfl, rfl, rfl, rfl, rfl, rfl, rfl⟩
theorem xWrTab : WrTab (tabL t_ss) := ⟨rfl, rfl, rfl, rfl, rfl, rfl, rfl⟩
theorem xFeTab : FeTab (tabL t_ss) := ⟨rfl, rfl⟩
theorem xCkTab : CkTab (tabL t_ss) := ⟨xRuTab, xWrTab, xFeTab, rfl, rfl⟩
theorem xLgTab : LgTab (tabL t_ss) := ⟨xCkTab, rfl, rfl, rfl, rfl, rfl, rfl, rfl, rfl, rfl, rfl, rfl⟩
theorem xBiTab : BiTab (tabL t_ss) := ⟨rfl, rfl, rfl, rfl, rfl, rfl, rfl, rfl⟩
theorem xSbTab : SbTab (tabL t_ss) := ⟨xBiTab, rfl, rfl, rfl, rfl⟩
theorem xRwTab : RwTab (tabL t_ss) := ⟨xSbTab, rfl, rfl⟩
theorem xDuTab : DuTab (tabL t_ss) := ⟨xRwTab, xInTab, rfl, rfl, rfl, rfl, rfl⟩
theorem xSsTab : SsTab (tabL t_ss) := ⟨xSmTab, xMoTab, xLgTab, xDuTab, rfl⟩
theorem awake_yes : memoYes memoPre tbl7 sG.heap = true := by kernel_rfl
theorem sG_full : (List.range sG.next).all (fun i => (sG.heap.get i).isSome) = true := by kernel_rfl
def rwL : List Rw := [⟨8, 1, 4, 0, 5, 7, 0, 0, 0, 0⟩, ⟨7, 4, 4, 0, 6, 7, 0, 0, 0, 0⟩, ⟨9, 1, 4, 0, 2, 4, 0, 0, 0, 0⟩, ⟨2, 4, 4, 0, 3, 4, 0, 0, 0, 0⟩, ⟨21, 1, 4, 0, 2, 4, 0, 5, 3, 2⟩, ⟨24, 2, 4, 0, 3, 4, 0, 5, 3, 2⟩, ⟨23, 1, 4, 0, 2, 4, 0, 5, 3, 0⟩, ⟨26, 2, 4, 0, 3, 4, 0, 5, 3, 0⟩, ⟨13, 2, 4, 0, 5, 7, 0, 0, 0, 0⟩]
theorem glb_sG (hw : WFS sG) : Glb sG where
 wf := hw
 ends := by kernel_rfl
 parse := by kernel_rfl
 upper := by kernel_rfl
 rows := ⟨.slice ⟨5, 0, 0, 90⟩ 9 9 true 10, rwL, by kernel_rfl, ⟨by decide, .inr ⟨5, 0, 0, 0, 90, 9, true, true, rwL.flatMap Rw.cells, rfl, by decide, by kernel_rfl, by decide, by decide, by decide, by rw [List.take_of_length_le (by decide)], by decide⟩⟩, by decide, by decide⟩
theorem ss_all {s : St} (hG : WFS sG) (hE : Ext sG s) {p : Pk} {w : Ms} (hw : w.Ok) (hwr : ∀ x ∈ w.r, 0 ≤ x ∧ x < 4294967296) (hx : RdI s p.x p.L) (hxc : p.x.isCell = true) (hok : ∀ i ∈ p.L, i.ok = true) {x : AV} {l : List Act} (hl : Acts s.next s x l) (next : Int) : Ran (tabL t_ss) 3 [.agg p.cells, .int .u32 next, .agg w.cells, x] s fun v _ => v = .bool true :=
 sstays_ran xSsTab ((glb_sG hG).ext hE) (fun s' h => (memoYes_ran rfl hG (hE.trans h) awake_yes).mono fun _ _ e => ⟨e.1, by rw [e.2]; exact .refl h.1⟩) hw hwr hx hxc hok hl next
end Go.V
