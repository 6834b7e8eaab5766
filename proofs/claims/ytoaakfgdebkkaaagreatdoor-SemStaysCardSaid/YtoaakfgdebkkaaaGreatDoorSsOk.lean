/- The functions of the dump are what the texts in the small language say: by the kernel. The listed variables lie in the state's beginning. -/
import Derived.Test.YtoaakfgdebkkaaaGreatDoorSsMemo
import Derived.Test.YtoaakfgdebkkaaaGreatDoorRows
import Derived.MakeChecks
import Derived.Stop.LaidErr
import Derived.KernelRfl
set_option linter.unusedVariables false
set_option linter.unusedSimpArgs false
set_option linter.unusedSectionVars false
namespace Go.V
open Go
open Go.V Go.Proofs Go.RowKit Go.ChangeShapes Go.WideShapes Go.ChangeAt
set_option maxRecDepth 1000000
noncomputable def prog : Prog := { toProgram := Tryz.prog, G := [0, 1, 2, 3] }
noncomputable def prog0 : Prog := { toProgram := Tryz.prog, G := [] }
abbrev Ec (f : Nat) (i : IFunc) : Prop := EntryOk prog f (.code i)
abbrev Ec0 (f : Nat) (i : IFunc) : Prop := EntryOk prog0 f (.code i)
theorem ok7 : Ec 7 ir7 := ⟨_, Tryz.func7, by kernel_rfl, by kernel_rfl⟩
theorem ok9 : Ec 9 ir9 := ⟨_, Tryz.func9, by kernel_rfl, by kernel_rfl⟩
theorem ok25 : Ec 25 ir25 := ⟨_, Tryz.func25, by kernel_rfl, by kernel_rfl⟩
theorem ok24 : Ec 24 ir24 := ⟨_, Tryz.func24, by kernel_rfl, by kernel_rfl⟩
theorem ok57 : Ec 57 ir57 := ⟨_, Tryz.func57, by kernel_rfl, by kernel_rfl⟩
theorem ok90 : Ec 90 ir90 := ⟨_, Tryz.func90, by kernel_rfl, by kernel_rfl⟩
theorem ok89 : Ec 89 ir89 := ⟨_, Tryz.func89, by kernel_rfl, by kernel_rfl⟩
theorem ok51 : Ec 51 ir51 := ⟨_, Tryz.func51, by kernel_rfl, by kernel_rfl⟩
theorem ok85 : Ec 85 ir85 := ⟨_, Tryz.func85, by kernel_rfl, by kernel_rfl⟩
theorem ok54 : Ec 54 ir54 := ⟨_, Tryz.func54, by kernel_rfl, by kernel_rfl⟩
theorem ok86 : Ec 86 ir86 := ⟨_, Tryz.func86, by kernel_rfl, by kernel_rfl⟩
theorem ok123 : Ec 123 ir123 := ⟨_, Tryz.func123, by kernel_rfl, by kernel_rfl⟩
theorem ok132 : Ec 132 ir132 := ⟨_, Tryz.func132, by kernel_rfl, by kernel_rfl⟩
theorem ok158 : Ec 158 ir158 := ⟨_, Tryz.func158, by kernel_rfl, by kernel_rfl⟩
theorem ok173 : Ec 173 ir173 := ⟨_, Tryz.func173, by kernel_rfl, by kernel_rfl⟩
theorem ok171 : Ec 171 ir171 := ⟨_, Tryz.func171, by kernel_rfl, by kernel_rfl⟩
theorem ok174 : Ec 174 ir174 := ⟨_, Tryz.func174, by kernel_rfl, by kernel_rfl⟩
theorem ok172 : Ec 172 ir172 := ⟨_, Tryz.func172, by kernel_rfl, by kernel_rfl⟩
theorem ok133 : Ec 133 ir133 := ⟨_, Tryz.func133, by kernel_rfl, by kernel_rfl⟩
theorem ok134 : Ec 134 ir134 := ⟨_, Tryz.func134, by kernel_rfl, by kernel_rfl⟩
theorem ok122 : Ec 122 ir122 := ⟨_, Tryz.func122, by kernel_rfl, by kernel_rfl⟩
theorem ok121 : Ec 121 ir121 := ⟨_, Tryz.func121, by kernel_rfl, by kernel_rfl⟩
theorem ok120 : Ec 120 ir120 := ⟨_, Tryz.func120, by kernel_rfl, by kernel_rfl⟩
theorem ok119 : Ec 119 ir119 := ⟨_, Tryz.func119, by kernel_rfl, by kernel_rfl⟩
theorem ok118 : Ec 118 ir118 := ⟨_, Tryz.func118, by kernel_rfl, by kernel_rfl⟩
theorem ok117 : Ec 117 ir117 := ⟨_, Tryz.func117, by kernel_rfl, by kernel_rfl⟩
theorem ok116 : Ec 116 ir116 := ⟨_, Tryz.func116, by kernel_rfl, by kernel_rfl⟩
theorem ok115 : Ec 115 ir115 := ⟨_, Tryz.func115, by kernel_rfl, by kernel_rfl⟩
theorem ok114 : Ec 114 ir114 := ⟨_, Tryz.func114, by kernel_rfl, by kernel_rfl⟩
theorem ok113 : Ec 113 ir113 := ⟨_, Tryz.func113, by kernel_rfl, by kernel_rfl⟩
theorem ok112 : Ec 112 ir112 := ⟨_, Tryz.func112, by kernel_rfl, by kernel_rfl⟩
theorem ok111 : Ec 111 ir111 := ⟨_, Tryz.func111, by kernel_rfl, by kernel_rfl⟩
theorem ok110 : Ec 110 ir110 := ⟨_, Tryz.func110, by kernel_rfl, by kernel_rfl⟩
theorem ok109 : Ec 109 ir109 := ⟨_, Tryz.func109, by kernel_rfl, by kernel_rfl⟩
theorem ok108 : Ec 108 ir108 := ⟨_, Tryz.func108, by kernel_rfl, by kernel_rfl⟩
theorem ok107 : Ec 107 ir107 := ⟨_, Tryz.func107, by kernel_rfl, by kernel_rfl⟩
theorem ok106 : Ec 106 ir106 := ⟨_, Tryz.func106, by kernel_rfl, by kernel_rfl⟩
theorem ok55 : Ec 55 ir55 := ⟨_, Tryz.func55, by kernel_rfl, by kernel_rfl⟩
theorem ok87 : Ec 87 ir87 := ⟨_, Tryz.func87, by kernel_rfl, by kernel_rfl⟩
theorem ok56 : Ec 56 ir56 := ⟨_, Tryz.func56, by kernel_rfl, by kernel_rfl⟩
theorem ok88 : Ec 88 ir88 := ⟨_, Tryz.func88, by kernel_rfl, by kernel_rfl⟩
theorem ok23 : Ec 23 ir23 := ⟨_, Tryz.func23, by kernel_rfl, by kernel_rfl⟩
theorem ok53 : Ec 53 ir53 := ⟨_, Tryz.func53, by kernel_rfl, by kernel_rfl⟩
theorem ok22 : Ec 22 ir22 := ⟨_, Tryz.func22, by kernel_rfl, by kernel_rfl⟩
theorem ok52 : Ec 52 ir52 := ⟨_, Tryz.func52, by kernel_rfl, by kernel_rfl⟩
theorem ok18 : Ec 18 ir18 := ⟨_, Tryz.func18, by kernel_rfl, by kernel_rfl⟩
theorem ok0x127 : Ec0 127 ir127 := ⟨_, Tryz.func127, by kernel_rfl, by kernel_rfl⟩
theorem ok0x146 : Ec0 146 ir146 := ⟨_, Tryz.func146, by kernel_rfl, by kernel_rfl⟩
theorem ok0x147 : Ec0 147 ir147 := ⟨_, Tryz.func147, by kernel_rfl, by kernel_rfl⟩
theorem ok0x148 : Ec0 148 ir148 := ⟨_, Tryz.func148, by kernel_rfl, by kernel_rfl⟩
theorem ok0x149 : Ec0 149 ir149 := ⟨_, Tryz.func149, by kernel_rfl, by kernel_rfl⟩
theorem ok0x150 : Ec0 150 ir150 := ⟨_, Tryz.func150, by kernel_rfl, by kernel_rfl⟩
theorem ok0x151 : Ec0 151 ir151 := ⟨_, Tryz.func151, by kernel_rfl, by kernel_rfl⟩
theorem ok0x152 : Ec0 152 ir152 := ⟨_, Tryz.func152, by kernel_rfl, by kernel_rfl⟩
theorem ok0x153 : Ec0 153 ir153 := ⟨_, Tryz.func153, by kernel_rfl, by kernel_rfl⟩
theorem ok0x154 : Ec0 154 ir154 := ⟨_, Tryz.func154, by kernel_rfl, by kernel_rfl⟩
theorem ok0x84 : Ec0 84 ir84 := ⟨_, Tryz.func84, by kernel_rfl, by kernel_rfl⟩
theorem ok0x100 : Ec0 100 ir100 := ⟨_, Tryz.func100, by kernel_rfl, by kernel_rfl⟩
theorem ok0x165 : Ec0 165 ir165 := ⟨_, Tryz.func165, by kernel_rfl, by kernel_rfl⟩
theorem ok0x176 : Ec0 176 ir176 := ⟨_, Tryz.func176, by kernel_rfl, by kernel_rfl⟩
theorem ok0x99 : Ec0 99 ir99 := ⟨_, Tryz.func99, by kernel_rfl, by kernel_rfl⟩
theorem ok0x71 : Ec0 71 ir71 := ⟨_, Tryz.func71, by kernel_rfl, by kernel_rfl⟩
theorem ok0x128 : Ec0 128 ir128 := ⟨_, Tryz.func128, by kernel_rfl, by kernel_rfl⟩
theorem ok0x101 : Ec0 101 ir101 := ⟨_, Tryz.func101, by kernel_rfl, by kernel_rfl⟩
theorem ok0x72 : Ec0 72 ir72 := ⟨_, Tryz.func72, by kernel_rfl, by kernel_rfl⟩
theorem ok0x73 : Ec0 73 ir73 := ⟨_, Tryz.func73, by kernel_rfl, by kernel_rfl⟩
theorem ok0x102 : Ec0 102 ir102 := ⟨_, Tryz.func102, by kernel_rfl, by kernel_rfl⟩
theorem ok0x74 : Ec0 74 ir74 := ⟨_, Tryz.func74, by kernel_rfl, by kernel_rfl⟩
theorem ok0x69 : Ec0 69 ir69 := ⟨_, Tryz.func69, by kernel_rfl, by kernel_rfl⟩
theorem ok0x43 : Ec0 43 ir43 := ⟨_, Tryz.func43, by kernel_rfl, by kernel_rfl⟩
theorem ok0x80 : Ec0 80 ir80 := ⟨_, Tryz.func80, by kernel_rfl, by kernel_rfl⟩
theorem ok0x79 : Ec0 79 ir79 := ⟨_, Tryz.func79, by kernel_rfl, by kernel_rfl⟩
theorem ok0x77 : Ec0 77 ir77 := ⟨_, Tryz.func77, by kernel_rfl, by kernel_rfl⟩
theorem oke185 : EntryOk prog 185 (.ext .fmax) := ext_hook (fn := Tryz.f185) ⟨Tryz.func185, by kernel_rfl, by kernel_rfl, by kernel_rfl, by kernel_rfl⟩ ext_fmax
theorem oke187 : EntryOk prog 187 (.ext .fmin) := ext_hook (fn := Tryz.f187) ⟨Tryz.func187, by kernel_rfl, by kernel_rfl, by kernel_rfl, by kernel_rfl⟩ ext_fmin
theorem oke183 : EntryOk prog 183 (.ext .floor) := ext_hook (fn := Tryz.f183) ⟨Tryz.func183, by kernel_rfl, by kernel_rfl, by kernel_rfl, by kernel_rfl⟩ ext_floor
theorem allLaw : AllOk prog lawCode := .cons ok7 (.cons ok9 (.cons ok25 (.cons ok24 (.cons ok57 (.cons ok90 (.cons ok89 (.cons ok51 (.cons ok85 (.cons ok54 (.cons ok86 (.cons ok123 (.cons ok132 (.cons ok158 (.cons ok173 (.cons ok171 (.cons ok174 (.cons ok172 (.cons ok133 (.cons ok134 (.cons ok122 (.cons ok121 (.cons ok120 (.cons ok119 (.cons ok118 (.cons ok117 (.cons ok116 (.cons ok115 (.cons ok114 (.cons ok113 (.cons ok112 (.cons ok111 (.cons ok110 (.cons ok109 (.cons ok108 (.cons ok107 (.cons ok106 (.cons ok55 (.cons ok87 (.cons ok56 (.cons ok88 (.cons ok23 (.cons ok53 (.cons ok22 (.cons ok52 (.cons ok18 (.nil))))))))))))))))))))))))))))))))))))))))))))))
theorem allExt : AllOk prog lawExt := .cons oke185 (.cons oke187 (.cons oke183 (.nil)))
theorem all0 : AllOk prog0 instCode := .cons ok0x127 (.cons ok0x146 (.cons ok0x147 (.cons ok0x148 (.cons ok0x149 (.cons ok0x150 (.cons ok0x151 (.cons ok0x152 (.cons ok0x153 (.cons ok0x154 (.cons ok0x84 (.cons ok0x100 (.cons ok0x165 (.cons ok0x176 (.cons ok0x99 (.cons ok0x71 (.cons ok0x128 (.cons ok0x101 (.cons ok0x72 (.cons ok0x73 (.cons ok0x102 (.cons ok0x74 (.cons ok0x69 (.cons ok0x43 (.cons ok0x80 (.cons ok0x79 (.cons ok0x77 (.nil)))))))))))))))))))))))))))
theorem mixed : prog.follows .mixedOrders = true := by kernel_rfl
theorem mixed0 : prog0.follows .mixedOrders = true := by kernel_rfl
theorem globs {h : List AV → St → Option (AV × St)} {f : Nat} (e : EntryOk2 prog0 f (.hook h)) : EntryOk2 prog f (.hook h) := by
 cases e with
 | old e => exact e.elim
 | hook a b =>
  exact .hook (fun args s r e1 e2 φ w c hg => a args s r e1 e2 φ w c (fun g hg' => by cases hg')) b
theorem ok_l0 : AllOk2 prog tl0 := AllOk2.app allLaw (AllOk2.app allExt (show AllOk2 prog (lawH2 ++ lawHooks) from .nil))
theorem gl_pre : ∀ g, g ∈ prog.G → memoPre[g]? = some g ∧ g ∈ prog.G := fun g hg => ⟨(by decide : ∀ g ∈ ([0, 1, 2, 3] : List Nat), memoPre[g]? = some g) g hg, hg⟩
theorem ok_l1 : AllOk2 prog tl1 := .cons (EntryOk2.memoA (P0 := prog) mixed rfl gl_pre (AllOk2.fine ok_l0) 100000 7 tbl7 (by rw [← tabT_eq tr0_ok]; exact all7)) ok_l0
abbrev theLaid : List (String × DataW Unit) := YtoaakfgdebkkaaaGreatDoor.Rows.semStaysRow.laid
def gchk (ty : Ty) (d : DataW Unit) (g sz : Nat) (s : St) : Bool := match layD ty d s with
 | some (l, s1) => Nat.blt g s1.next && ((match s1.heap.get g with | none => true | some _ => false) && Nat.ble sz l.length)
 | none => false
theorem gst_step {P : Program} {W : World} {φ : Phi} {s : St} (h : RelSt φ s W) (hr : AllRo s) (hw : WFS s) {name : String} {g t : Nat} {ty : Ty} (hg : P.globalNamed name = some g) (ht : tyOf P 8 t = some ty) {cs : Array Value} (hv : W.var? P name = some cs) {held : Bool} {m : Nat} {d : DataW Unit} {ps : List MemPlace} (hd : DataW.trod (fun _ => ()) P W 0 (fun _ => true) held m t cs.toList = some (d, ps)) {sz : Nat} (hc : gchk ty d g sz s = true) :
 ∃ φ', Imp W φ s φ' (gst ty d g s) ∧ ∃ n, φ' g 0 = some ⟨g, 0, 0, n, n⟩ ∧ sz ≤ n := by
 unfold gchk at hc
 cases hl : layD ty d s with
 | none => rw [hl] at hc; cases hc
 | some x =>
  obtain ⟨l, s1⟩ := x
  rw [hl] at hc
  simp only [Bool.and_eq_true, Nat.blt_eq, Nat.ble_eq] at hc
  obtain ⟨h1, h2, h3⟩ := hc
  have hf : s1.heap.get g = none := by
   cases hh : s1.heap.get g with
   | none => rfl
   | some _ => rw [hh] at h2; cases h2
  obtain ⟨φ', i, e⟩ := glob_lay h hr hw hg ht hv hd hl h1 hf
  refine ⟨φ', ?_, l.length, e, h3⟩
  unfold gst
  rw [hl]
  exact i
theorem next_up {φ : Phi} {s : St} {W : World} (h1 : RelSt φ s W) (h2 : AllRo s) (h3 : WFS s) {n : Nat} (hn : s.next ≤ n) : RelSt φ { s with next := n } W ∧ AllRo { s with next := n } ∧ WFS { s with next := n } :=
 ⟨RelSt.at (H := s.heap) (b := s.next) h1, h2, fun id hid => h3 id (Nat.le_trans hn hid)⟩
theorem ty0 : tyOf Tryz.prog 8 197 = some gt0 := by
 have c197 : Tryz.prog.cellsOf 197 = 1 := by kernel_rfl
 have c202 : Tryz.prog.cellsOf 202 = 10 := by kernel_rfl
 have c5 : Tryz.prog.cellsOf 5 = 1 := by kernel_rfl
 have c200 : Tryz.prog.cellsOf 200 = 9 := by kernel_rfl
 have c199 : Tryz.prog.cellsOf 199 = 3 := by kernel_rfl
 have c3 : Tryz.prog.cellsOf 3 = 1 := by kernel_rfl
 simp [tyOf, tyOf.go, gt0, tySize, tySizes, Tryz.underlying197, Tryz.underlying202, Tryz.underlying5, Tryz.underlying200, Tryz.underlying199, Tryz.underlying3, c197, c202, c5, c200, c199, c3]
theorem ty1 : tyOf Tryz.prog 8 224 = some gt1 := by
 have c224 : Tryz.prog.cellsOf 224 = 4 := by kernel_rfl
 have c223 : Tryz.prog.cellsOf 223 = 2 := by kernel_rfl
 have c3 : Tryz.prog.cellsOf 3 = 1 := by kernel_rfl
 simp [tyOf, tyOf.go, gt1, tySize, tySizes, Tryz.underlying224, Tryz.underlying223, Tryz.underlying3, c224, c223, c3]
theorem ty2 : tyOf Tryz.prog 8 223 = some gt2 := by
 have c223 : Tryz.prog.cellsOf 223 = 2 := by kernel_rfl
 have c3 : Tryz.prog.cellsOf 3 = 1 := by kernel_rfl
 simp [tyOf, tyOf.go, gt2, tySize, tySizes, Tryz.underlying223, Tryz.underlying3, c223, c3]
theorem glob_state {W : World} (h : laidMetH Tryz.prog theLaid W) : ∃ φ, RelSt φ sG W ∧ AllRo sG ∧ WFS sG ∧ GlobOk prog φ := by
 rw [MakeChecks.laidMetH_plain _ _ _ (by kernel_rfl)] at h
 obtain ⟨ps, ⟨g1, t1, cs1, f1, p1, q1, hg1, ht1, hv1, hd1, ⟨g3, t3, cs3, f3, p3, q3, hg3, ht3, hv3, hd3, ⟨g2, t2, cs2, f2, p2, q2, hg2, ht2, hv2, hd2, ⟨g0, t0, cs0, f0, p0, q0, hg0, ht0, hv0, hd0, _, _⟩, _⟩, _⟩, _⟩, _⟩ := h
 obtain rfl := Option.some.inj ((show Tryz.prog.globalNamed "coxless/sub.rows" = some 0 by kernel_rfl).symm.trans hg0)
 obtain rfl := Option.some.inj ((show (Tryz.prog.globals[0]?).map (·.type) = some 197 by kernel_rfl).symm.trans ht0)
 obtain rfl := Option.some.inj ((show Tryz.prog.globalNamed "coxless/bits.ends" = some 1 by kernel_rfl).symm.trans hg1)
 obtain rfl := Option.some.inj ((show (Tryz.prog.globals[1]?).map (·.type) = some 224 by kernel_rfl).symm.trans ht1)
 obtain rfl := Option.some.inj ((show Tryz.prog.globalNamed "coxless/bits.upper" = some 2 by kernel_rfl).symm.trans hg2)
 obtain rfl := Option.some.inj ((show (Tryz.prog.globals[2]?).map (·.type) = some 223 by kernel_rfl).symm.trans ht2)
 obtain rfl := Option.some.inj ((show Tryz.prog.globalNamed "coxless/bits.parseAt" = some 3 by kernel_rfl).symm.trans hg3)
 obtain rfl := Option.some.inj ((show (Tryz.prog.globals[3]?).map (·.type) = some 223 by kernel_rfl).symm.trans ht3)
 obtain ⟨r1, r2, r3⟩ := next_up (n := 5) (rel0 W) allRo0 wfs0 (by decide)
 obtain ⟨φ0, i0, n0, e0, l0⟩ := gst_step (d := gd0) (sz := 1) r1 r2 r3 hg0 (ty := gt0) ty0 hv0 hd0 (by kernel_rfl)
 obtain ⟨φ1, i1, n1, e1, l1⟩ := gst_step (d := gd1) (sz := 4) i0.rel i0.ro i0.wfs hg1 (ty := gt1) ty1 hv1 hd1 (by kernel_rfl)
 obtain ⟨φ2, i2, n2, e2, l2⟩ := gst_step (d := gd2) (sz := 2) i1.rel i1.ro i1.wfs hg2 (ty := gt2) ty2 hv2 hd2 (by kernel_rfl)
 obtain ⟨φ3, i3, n3, e3, l3⟩ := gst_step (d := gd3) (sz := 2) i2.rel i2.ro i2.wfs hg3 (ty := gt3) ty2 hv3 hd3 (by kernel_rfl)
 obtain ⟨_, _, hh4⟩ := var_cells (P := Tryz.prog) (g := 0) (by kernel_rfl) hv0
 obtain ⟨φd4, d4⟩ := gdummy_step i3.rel i3.ro i3.wfs (d := 4) hh4 (by kernel_rfl) (by kernel_rfl)
 refine ⟨_, d4.rel, d4.ro, d4.wfs, ?_⟩
 intro g hg
 have hg : g = 0 ∨ g = 1 ∨ g = 2 ∨ g = 3 := by
  have : g ∈ [0, 1, 2, 3] := hg
  simpa using this
 rcases hg with rfl | rfl | rfl | rfl
 · refine ⟨_, d4.le _ _ _ (i3.le _ _ _ (i2.le _ _ _ (i1.le _ _ _ (e0)))), rfl, rfl, rfl, fun gl n h1 h2 => ?_, rfl⟩
   have hk : (prog.globals[0]?).bind (fun gl => szOf prog gl.type) = some 1 := by kernel_rfl
   rw [h1, Option.bind_some, h2] at hk
   cases hk
   exact l0
 · refine ⟨_, d4.le _ _ _ (i3.le _ _ _ (i2.le _ _ _ (e1))), rfl, rfl, rfl, fun gl n h1 h2 => ?_, rfl⟩
   have hk : (prog.globals[1]?).bind (fun gl => szOf prog gl.type) = some 4 := by kernel_rfl
   rw [h1, Option.bind_some, h2] at hk
   cases hk
   exact l1
 · refine ⟨_, d4.le _ _ _ (i3.le _ _ _ (e2)), rfl, rfl, rfl, fun gl n h1 h2 => ?_, rfl⟩
   have hk : (prog.globals[2]?).bind (fun gl => szOf prog gl.type) = some 2 := by kernel_rfl
   rw [h1, Option.bind_some, h2] at hk
   cases hk
   exact l2
 · refine ⟨_, d4.le _ _ _ (e3), rfl, rfl, rfl, fun gl n h1 h2 => ?_, rfl⟩
   have hk : (prog.globals[3]?).bind (fun gl => szOf prog gl.type) = some 2 := by kernel_rfl
   rw [h1, Option.bind_some, h2] at hk
   cases hk
   exact l3
end Go.V
