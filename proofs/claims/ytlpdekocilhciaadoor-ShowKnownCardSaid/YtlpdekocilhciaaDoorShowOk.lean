/- The functions of the dump are what the texts in the small language say: by the kernel. The listed variables lie in the state's beginning. -/
import Derived.Test.YtlpdekocilhciaaDoorShowTab
import Derived.Test.YtlpdekocilhciaaDoorRows
import Derived.Shelf.Strings.OnBuilder
import Derived.MakeChecks
import Derived.KernelRfl
set_option linter.unusedVariables false
set_option linter.unusedSimpArgs false
set_option linter.unusedSectionVars false
namespace Go.Proofs
open Go.Shelf
def Tryd.layJoin_ren : Go.Shelf.Ren := ⟨fun | 156 => 22 | 165 => 41 | 166 => 42 | 169 => 43 | 240 => 57 | 241 => 58 | 276 => 73 | 277 => 74 | n => n, fun | 31 => 50 | 9 => 9 | 3 => 3 | 4 => 4 | 0 => 0 | 20 => 20 | 72 => 67 | 76 => 71 | 70 => 64 | 37 => 65 | 75 => 70 | 127 => 89 | 164 => 102 | 5 => 5 | 80 => 73 | n => n, fun | n => n⟩
theorem Tryd.layJoin : Go.Proofs.Lays.n156 Tryd.prog Tryd.layJoin_ren where
  mixed := by kernel_rfl
  f156 := Tryd.func22.trans (congrArg some (by kernel_rfl))
  f165 := Tryd.func41.trans (congrArg some (by kernel_rfl))
  f166 := Tryd.func42.trans (congrArg some (by kernel_rfl))
  f169 := Tryd.func43.trans (congrArg some (by kernel_rfl))
  f240 := Tryd.func57.trans (congrArg some (by kernel_rfl))
  f241 := Tryd.func58.trans (congrArg some (by kernel_rfl))
  f276 := Tryd.func73.trans (congrArg some (by kernel_rfl))
  f277 := Tryd.func74.trans (congrArg some (by kernel_rfl))
  t0 := Tryd.underlying0
  a0 := Tryd.isAgg0
  z0 := Tryd.sizeOf0
  v0 := Tryd.zeroValue0
  t3 := Tryd.underlying3
  a3 := Tryd.isAgg3
  z3 := Tryd.sizeOf3
  v3 := Tryd.zeroValue3
  t4 := Tryd.underlying4
  a4 := Tryd.isAgg4
  z4 := Tryd.sizeOf4
  v4 := Tryd.zeroValue4
  t9 := Tryd.underlying9
  a9 := Tryd.isAgg9
  z9 := Tryd.sizeOf9
  v9 := Tryd.zeroValue9
  t20 := Tryd.underlying20
  a20 := Tryd.isAgg20
  z20 := Tryd.sizeOf20
  v20 := Tryd.zeroValue20
  t31 := Tryd.underlying50
  a31 := Tryd.isAgg50
  z31 := Tryd.sizeOf50
  v31 := Tryd.zeroValue50
  t37 := Tryd.underlying65
  a37 := Tryd.isAgg65
  z37 := Tryd.sizeOf65
  v37 := Tryd.zeroValue65
  t70 := Tryd.underlying64
  a70 := Tryd.isAgg64
  z70 := Tryd.sizeOf64
  v70 := Tryd.zeroValue64
  t72 := Tryd.underlying67
  a72 := Tryd.isAgg67
  z72 := Tryd.sizeOf67
  v72 := Tryd.zeroValue67
  t75 := Tryd.underlying70
  a75 := Tryd.isAgg70
  z75 := Tryd.sizeOf70
  v75 := Tryd.zeroValue70
  t76 := Tryd.underlying71
  a76 := Tryd.isAgg71
  z76 := Tryd.sizeOf71
  v76 := Tryd.zeroValue71
  t127 := Tryd.underlying89
  a127 := Tryd.isAgg89
  z127 := Tryd.sizeOf89
  v127 := Tryd.zeroValue89
  t164 := Tryd.underlying102
  a164 := Tryd.isAgg102
  z164 := Tryd.sizeOf102
  v164 := Tryd.zeroValue102
theorem Tryd.joinExtra : Builder.Extra Tryd.prog Tryd.layJoin_ren where
  sizeBuilder := by kernel_rfl
  liesBuilder := by kernel_rfl
  t5 := Tryd.underlying5
  a5 := Tryd.isAgg5
  z5 := Tryd.sizeOf5
  v5 := Tryd.zeroValue5
  infoByte := by kernel_rfl
  cellsByte := by kernel_rfl
  sizeByte := by kernel_rfl
  neB5 := by decide
end Go.Proofs
namespace Go.V
open Go
open Go.V Go.Proofs Go.RowKit Go.ChangeShapes Go.WideShapes Go.ChangeAt
set_option maxRecDepth 1000000
noncomputable def prog : Prog := { toProgram := Tryd.prog, G := [0, 2, 3] }
noncomputable def prog0 : Prog := { toProgram := Tryd.prog, G := [] }
theorem ok4 : EntryOk prog 4 (.code ir4) := ⟨Tryd.f4, Tryd.func4, by kernel_rfl, by kernel_rfl⟩
theorem ok7 : EntryOk prog 7 (.code ir7) := ⟨Tryd.f7, Tryd.func7, by kernel_rfl, by kernel_rfl⟩
theorem ok8 : EntryOk prog 8 (.code ir8) := ⟨Tryd.f8, Tryd.func8, by kernel_rfl, by kernel_rfl⟩
theorem ok21 : EntryOk prog 21 (.code ir21) := ⟨Tryd.f21, Tryd.func21, by kernel_rfl, by kernel_rfl⟩
theorem ok40 : EntryOk prog 40 (.code ir40) := ⟨Tryd.f40, Tryd.func40, by kernel_rfl, by kernel_rfl⟩
theorem ok55 : EntryOk prog 55 (.code ir55) := ⟨Tryd.f55, Tryd.func55, by kernel_rfl, by kernel_rfl⟩
theorem ok38 : EntryOk prog 38 (.code ir38) := ⟨Tryd.f38, Tryd.func38, by kernel_rfl, by kernel_rfl⟩
theorem ok53 : EntryOk prog 53 (.code ir53) := ⟨Tryd.f53, Tryd.func53, by kernel_rfl, by kernel_rfl⟩
theorem ok72 : EntryOk prog 72 (.code ir72) := ⟨Tryd.f72, Tryd.func72, by kernel_rfl, by kernel_rfl⟩
theorem ok82 : EntryOk prog 82 (.code ir82) := ⟨Tryd.f82, Tryd.func82, by kernel_rfl, by kernel_rfl⟩
theorem ok52 : EntryOk prog 52 (.code ir52) := ⟨Tryd.f52, Tryd.func52, by kernel_rfl, by kernel_rfl⟩
theorem ok71 : EntryOk prog 71 (.code ir71) := ⟨Tryd.f71, Tryd.func71, by kernel_rfl, by kernel_rfl⟩
theorem ok81 : EntryOk prog 81 (.code ir81) := ⟨Tryd.f81, Tryd.func81, by kernel_rfl, by kernel_rfl⟩
theorem ok85 : EntryOk prog 85 (.code ir85) := ⟨Tryd.f85, Tryd.func85, by kernel_rfl, by kernel_rfl⟩
theorem ok84 : EntryOk prog 84 (.code ir84) := ⟨Tryd.f84, Tryd.func84, by kernel_rfl, by kernel_rfl⟩
theorem ok80 : EntryOk prog 80 (.code ir80) := ⟨Tryd.f80, Tryd.func80, by kernel_rfl, by kernel_rfl⟩
theorem ok70 : EntryOk prog 70 (.code ir70) := ⟨Tryd.f70, Tryd.func70, by kernel_rfl, by kernel_rfl⟩
theorem ok69 : EntryOk prog 69 (.code ir69) := ⟨Tryd.f69, Tryd.func69, by kernel_rfl, by kernel_rfl⟩
theorem ok79 : EntryOk prog 79 (.code ir79) := ⟨Tryd.f79, Tryd.func79, by kernel_rfl, by kernel_rfl⟩
theorem ok77 : EntryOk prog 77 (.code ir77) := ⟨Tryd.f77, Tryd.func77, by kernel_rfl, by kernel_rfl⟩
theorem ok78 : EntryOk prog 78 (.code ir78) := ⟨Tryd.f78, Tryd.func78, by kernel_rfl, by kernel_rfl⟩
theorem ok68 : EntryOk prog 68 (.code ir68) := ⟨Tryd.f68, Tryd.func68, by kernel_rfl, by kernel_rfl⟩
theorem ok33 : EntryOk prog 33 (.code ir33) := ⟨Tryd.f33, Tryd.func33, by kernel_rfl, by kernel_rfl⟩
theorem ok56 : EntryOk prog 56 (.code ir56) := ⟨Tryd.f56, Tryd.func56, by kernel_rfl, by kernel_rfl⟩
theorem ok32 : EntryOk prog 32 (.code ir32) := ⟨Tryd.f32, Tryd.func32, by kernel_rfl, by kernel_rfl⟩
theorem ok39 : EntryOk prog 39 (.code ir39) := ⟨Tryd.f39, Tryd.func39, by kernel_rfl, by kernel_rfl⟩
theorem ok37 : EntryOk prog 37 (.code ir37) := ⟨Tryd.f37, Tryd.func37, by kernel_rfl, by kernel_rfl⟩
theorem ok36 : EntryOk prog 36 (.code ir36) := ⟨Tryd.f36, Tryd.func36, by kernel_rfl, by kernel_rfl⟩
theorem ok54 : EntryOk prog 54 (.code ir54) := ⟨Tryd.f54, Tryd.func54, by kernel_rfl, by kernel_rfl⟩
theorem ok20 : EntryOk prog 20 (.code ir20) := ⟨Tryd.f20, Tryd.func20, by kernel_rfl, by kernel_rfl⟩
theorem ok19 : EntryOk prog 19 (.code ir19) := ⟨Tryd.f19, Tryd.func19, by kernel_rfl, by kernel_rfl⟩
theorem ok10 : EntryOk prog 10 (.code ir10) := ⟨Tryd.f10, Tryd.func10, by kernel_rfl, by kernel_rfl⟩
theorem ok23 : EntryOk prog 23 (.code ir23) := ⟨Tryd.f23, Tryd.func23, by kernel_rfl, by kernel_rfl⟩
theorem ok9 : EntryOk prog 9 (.code ir9) := ⟨Tryd.f9, Tryd.func9, by kernel_rfl, by kernel_rfl⟩
theorem ok0x50 : EntryOk prog0 50 (.code ir50) := ⟨Tryd.f50, Tryd.func50, by kernel_rfl, by kernel_rfl⟩
theorem ok0x59 : EntryOk prog0 59 (.code ir59) := ⟨Tryd.f59, Tryd.func59, by kernel_rfl, by kernel_rfl⟩
theorem ok0x60 : EntryOk prog0 60 (.code ir60) := ⟨Tryd.f60, Tryd.func60, by kernel_rfl, by kernel_rfl⟩
theorem ok0x61 : EntryOk prog0 61 (.code ir61) := ⟨Tryd.f61, Tryd.func61, by kernel_rfl, by kernel_rfl⟩
theorem ok0x62 : EntryOk prog0 62 (.code ir62) := ⟨Tryd.f62, Tryd.func62, by kernel_rfl, by kernel_rfl⟩
theorem ok0x63 : EntryOk prog0 63 (.code ir63) := ⟨Tryd.f63, Tryd.func63, by kernel_rfl, by kernel_rfl⟩
theorem ok0x64 : EntryOk prog0 64 (.code ir64) := ⟨Tryd.f64, Tryd.func64, by kernel_rfl, by kernel_rfl⟩
theorem ok0x65 : EntryOk prog0 65 (.code ir65) := ⟨Tryd.f65, Tryd.func65, by kernel_rfl, by kernel_rfl⟩
theorem ok0x66 : EntryOk prog0 66 (.code ir66) := ⟨Tryd.f66, Tryd.func66, by kernel_rfl, by kernel_rfl⟩
theorem ok0x67 : EntryOk prog0 67 (.code ir67) := ⟨Tryd.f67, Tryd.func67, by kernel_rfl, by kernel_rfl⟩
theorem ok0x75 : EntryOk prog0 75 (.code ir75) := ⟨Tryd.f75, Tryd.func75, by kernel_rfl, by kernel_rfl⟩
theorem ok0x29 : EntryOk prog0 29 (.code ir29) := ⟨Tryd.f29, Tryd.func29, by kernel_rfl, by kernel_rfl⟩
theorem ok0x76 : EntryOk prog0 76 (.code ir76) := ⟨Tryd.f76, Tryd.func76, by kernel_rfl, by kernel_rfl⟩
theorem ok0x83 : EntryOk prog0 83 (.code ir83) := ⟨Tryd.f83, Tryd.func83, by kernel_rfl, by kernel_rfl⟩
theorem ok0x28 : EntryOk prog0 28 (.code ir28) := ⟨Tryd.f28, Tryd.func28, by kernel_rfl, by kernel_rfl⟩
theorem ok0x14 : EntryOk prog0 14 (.code ir14) := ⟨Tryd.f14, Tryd.func14, by kernel_rfl, by kernel_rfl⟩
theorem ok0x51 : EntryOk prog0 51 (.code ir51) := ⟨Tryd.f51, Tryd.func51, by kernel_rfl, by kernel_rfl⟩
theorem ok0x30 : EntryOk prog0 30 (.code ir30) := ⟨Tryd.f30, Tryd.func30, by kernel_rfl, by kernel_rfl⟩
theorem ok0x15 : EntryOk prog0 15 (.code ir15) := ⟨Tryd.f15, Tryd.func15, by kernel_rfl, by kernel_rfl⟩
theorem ok0x16 : EntryOk prog0 16 (.code ir16) := ⟨Tryd.f16, Tryd.func16, by kernel_rfl, by kernel_rfl⟩
theorem ok0x31 : EntryOk prog0 31 (.code ir31) := ⟨Tryd.f31, Tryd.func31, by kernel_rfl, by kernel_rfl⟩
theorem ok0x17 : EntryOk prog0 17 (.code ir17) := ⟨Tryd.f17, Tryd.func17, by kernel_rfl, by kernel_rfl⟩
theorem ok0x35 : EntryOk prog0 35 (.code ir35) := ⟨Tryd.f35, Tryd.func35, by kernel_rfl, by kernel_rfl⟩
theorem ok0x6 : EntryOk prog0 6 (.code ir6) := ⟨Tryd.f6, Tryd.func6, by kernel_rfl, by kernel_rfl⟩
theorem ok0x34 : EntryOk prog0 34 (.code ir34) := ⟨Tryd.f34, Tryd.func34, by kernel_rfl, by kernel_rfl⟩
theorem ok0x18 : EntryOk prog0 18 (.code ir18) := ⟨Tryd.f18, Tryd.func18, by kernel_rfl, by kernel_rfl⟩
theorem ok0x78 : EntryOk prog0 78 (.code ir78) := ⟨Tryd.f78, Tryd.func78, by kernel_rfl, by kernel_rfl⟩
theorem allShow : AllOk prog showCode := .cons ok4 (.cons ok7 (.cons ok8 (.cons ok21 (.cons ok40 (.cons ok55 (.cons ok38 (.cons ok53 (.cons ok72 (.cons ok82 (.cons ok52 (.cons ok71 (.cons ok81 (.cons ok85 (.cons ok84 (.cons ok80 (.cons ok70 (.cons ok69 (.cons ok79 (.cons ok77 (.cons ok78 (.cons ok68 (.cons ok33 (.cons ok56 (.cons ok32 (.cons ok39 (.cons ok37 (.cons ok36 (.cons ok54 (.cons ok20 (.cons ok19 (.cons ok10 (.cons ok23 (.cons ok9 (.nil))))))))))))))))))))))))))))))))))
theorem all0 : AllOk prog0 instCode := .cons ok0x50 (.cons ok0x59 (.cons ok0x60 (.cons ok0x61 (.cons ok0x62 (.cons ok0x63 (.cons ok0x64 (.cons ok0x65 (.cons ok0x66 (.cons ok0x67 (.cons ok0x75 (.cons ok0x29 (.cons ok0x76 (.cons ok0x83 (.cons ok0x28 (.cons ok0x14 (.cons ok0x51 (.cons ok0x30 (.cons ok0x15 (.cons ok0x16 (.cons ok0x31 (.cons ok0x17 (.cons ok0x35 (.cons ok0x6 (.cons ok0x34 (.cons ok0x18 (.cons ok0x78 (.nil)))))))))))))))))))))))))))
theorem mixed : prog.follows .mixedOrders = true := by kernel_rfl
theorem mixed0 : prog0.follows .mixedOrders = true := by kernel_rfl
theorem globs {h : List AV → St → Option (AV × St)} {f : Nat} (e : EntryOk2 prog0 f (.hook h)) : EntryOk2 prog f (.hook h) := by
  cases e with
  | old e => exact e.elim
  | hook a b =>
    exact .hook (fun args s r e1 e2 φ w c hg => a args s r e1 e2 φ w c (fun g hg' => by cases hg')) b
theorem okJoin : EntryOk2 prog 22 (.hook joinH) :=
  .hook (join_ok (P := prog) Tryd.layJoin Tryd.joinExtra (fun args w => enters_of Tryd.func22 (by kernel_rfl) rfl args w)) join_tame
theorem showHooks_ok : AllOk2 prog showHooks := .cons okJoin (.cons (globs (h_right mixed0 rfl all0)) (.cons (globs (h_writesPred mixed0 rfl all0)) (.cons (globs (h_target mixed0 rfl all0)) (.cons (globs (h_class mixed0 rfl all0)) (.nil)))))
theorem fine_show : TabFine prog (tabL t_show) := AllOk2.fine (AllOk2.app allShow showHooks_ok)

/- the listed variables -/
abbrev theLaid : List (String × DataW Unit) := YtlpdekocilhciaaDoor.Rows.showKnownRow.laid
theorem next_up {φ : Phi} {s : St} {W : World} (h1 : RelSt φ s W) (h2 : AllRo s) (h3 : WFS s) {n : Nat} (hn : s.next ≤ n) : RelSt φ { s with next := n } W ∧ AllRo { s with next := n } ∧ WFS { s with next := n } :=
  ⟨⟨h1.obj, h1.dom, h1.inj, h1.incs⟩, h2, fun id hid => h3 id (Nat.le_trans hn hid)⟩
theorem glob_state {W : World} (h : laidMetH Tryd.prog theLaid W) : ∃ φ, RelSt φ sG W ∧ AllRo sG ∧ WFS sG ∧ GlobOk prog φ := by
  rw [MakeChecks.laidMetH_plain _ _ _ (by kernel_rfl)] at h
  obtain ⟨ps, ⟨g2, t2, cs2, f2, p2, q2, hg2, ht2, hv2, hd2, ⟨g3, t3, cs3, f3, p3, q3, hg3, ht3, hv3, hd3, ⟨g0, t0, cs0, f0, p0, q0, hg0, ht0, hv0, hd0, _, _⟩, _⟩, _⟩, _⟩ := h
  obtain rfl := Option.some.inj ((show Tryd.prog.globalNamed "math/bits.deBruijn32tab" = some 2 by kernel_rfl).symm.trans hg2)
  obtain rfl := Option.some.inj ((show Tryd.prog.globalNamed "math/bits.deBruijn64tab" = some 3 by kernel_rfl).symm.trans hg3)
  obtain rfl := Option.some.inj ((show Tryd.prog.globalNamed "internal/strconv.uint64pow10" = some 0 by kernel_rfl).symm.trans hg0)
  obtain rfl := Option.some.inj ((show (Tryd.prog.globals[2]?).map (·.type) = some 117 by kernel_rfl).symm.trans ht2)
  obtain rfl := Option.some.inj ((show (Tryd.prog.globals[3]?).map (·.type) = some 118 by kernel_rfl).symm.trans ht3)
  obtain rfl := Option.some.inj ((show (Tryd.prog.globals[0]?).map (·.type) = some 110 by kernel_rfl).symm.trans ht0)
  have e2 := ints_of_trod (zs := gz2) Tryd.underlying117 Tryd.underlying5 (by kernel_rfl) (by kernel_rfl) hd2
  have e3 := ints_of_trod (zs := gz3) Tryd.underlying118 Tryd.underlying5 (by kernel_rfl) (by kernel_rfl) hd3
  have e0 := ints_of_trod (zs := gz0) Tryd.underlying110 Tryd.underlying97 (by kernel_rfl) (by kernel_rfl) hd0
  obtain ⟨_, _, c2⟩ := var_cells hg2 hv2
  obtain ⟨_, _, c3⟩ := var_cells hg3 hv3
  obtain ⟨_, _, c0⟩ := var_cells hg0 hv0
  have i0 := imp_glob (s := s0) (cs := gc0) (rel0 W) allRo0 wfs0 c0 (by rw [e0]; exact vrels_ints _ _ _)
  obtain ⟨r1, r2, r3⟩ := next_up (n := 2) i0.rel i0.ro i0.wfs (by decide)
  have i2 := imp_glob (cs := gc2) r1 r2 r3 c2 (by rw [e2]; exact vrels_ints _ _ _)
  have i3 := imp_glob (cs := gc3) i2.rel i2.ro i2.wfs c3 (by rw [e3]; exact vrels_ints _ _ _)
  refine ⟨_, i3.rel, i3.ro, i3.wfs, ?_⟩
  intro g hg
  have hg : g = 0 ∨ g = 2 ∨ g = 3 := by
    have : g ∈ [0, 2, 3] := hg
    simpa using this
  rcases hg with rfl | rfl | rfl
  · refine ⟨_, i3.le _ _ _ (i2.le _ _ _ (upd_at _ _ _ _)), rfl, rfl, rfl, fun gl n h1 h2 => ?_⟩
    have hk : (prog.globals[0]?).bind (fun gl => szOf prog gl.type) = some 20 := by kernel_rfl
    rw [h1, Option.bind_some, h2] at hk
    cases hk
    exact Nat.le_of_ble_eq_true rfl
  · refine ⟨_, i3.le _ _ _ (upd_at _ _ _ _), rfl, rfl, rfl, fun gl n h1 h2 => ?_⟩
    have hk : (prog.globals[2]?).bind (fun gl => szOf prog gl.type) = some 32 := by kernel_rfl
    rw [h1, Option.bind_some, h2] at hk
    cases hk
    exact Nat.le_of_ble_eq_true rfl
  · refine ⟨_, upd_at _ _ _ _, rfl, rfl, rfl, fun gl n h1 h2 => ?_⟩
    have hk : (prog.globals[3]?).bind (fun gl => szOf prog gl.type) = some 64 := by kernel_rfl
    rw [h1, Option.bind_some, h2] at hk
    cases hk
    exact Nat.le_of_ble_eq_true rfl
theorem ran_of_yes {T : Tab} {n : Nat} {f : FuncId} {args : List AV} {s : St} (h : isYes (callF T (evalF T n) f args s) = true) : Ran T f args s fun v _ => v = .bool true := by
  rw [evalF_eq] at h
  cases hr : callF T (evalN T n) f args s with
  | fail => rw [hr] at h; cases h
  | panic v s => rw [hr] at h; cases h
  | val v s' =>
    rw [hr] at h
    refine ⟨n, v, s', hr, ?_⟩
    cases v with
    | bool b => cases b with
      | true => rfl
      | false => cases h
    | _ => cases h
end Go.V
