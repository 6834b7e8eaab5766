/- The functions of the dump are what the texts in the small language say: by the kernel. The listed variables lie in the state's beginning. -/
import Derived.Test.YtkjddipkaaelaaaDoorSqMemo
import Derived.Test.YtkjddipkaaelaaaDoorRows
import Derived.MakeChecks
import Derived.Stop.LaidErr
import Derived.KernelRfl
set_option linter.unusedVariables false
set_option linter.unusedSimpArgs false
set_option linter.unusedSectionVars false
namespace Go.V
open Go
open Go.V Go.Proofs Go.RowKit Go.ChangeShapes Go.WideShapes Go.ChangeAt
set_option maxRecDepth 1000000
noncomputable def prog0 : Prog := { toProgram := Tryd.prog, G := [] }
theorem ok6 : Okx 6 Tryd.f6 := okx Tryd.func6 (by kernel_rfl)
theorem ok70 : Okx 70 Tryd.f70 := okx Tryd.func70 (by kernel_rfl)
theorem ok80 : Okx 80 Tryd.f80 := okx Tryd.func80 (by kernel_rfl)
theorem ok82 : Okx 82 Tryd.f82 := okx Tryd.func82 (by kernel_rfl)
theorem ok68 : Okx 68 Tryd.f68 := okx Tryd.func68 (by kernel_rfl)
theorem ok67 : Okx 67 Tryd.f67 := okx Tryd.func67 (by kernel_rfl)
theorem ok77 : Okx 77 Tryd.f77 := okx Tryd.func77 (by kernel_rfl)
theorem ok75 : Okx 75 Tryd.f75 := okx Tryd.func75 (by kernel_rfl)
theorem ok76 : Okx 76 Tryd.f76 := okx Tryd.func76 (by kernel_rfl)
theorem ok66 : Okx 66 Tryd.f66 := okx Tryd.func66 (by kernel_rfl)
theorem ok7 : EntryOk prog 7 (.code ir7) := ⟨Tryd.f7, Tryd.func7, by kernel_rfl, by kernel_rfl⟩
theorem ok19 : EntryOk prog 19 (.code ir19) := ⟨Tryd.f19, Tryd.func19, by kernel_rfl, by kernel_rfl⟩
theorem ok38 : EntryOk prog 38 (.code ir38) := ⟨Tryd.f38, Tryd.func38, by kernel_rfl, by kernel_rfl⟩
theorem ok53 : EntryOk prog 53 (.code ir53) := ⟨Tryd.f53, Tryd.func53, by kernel_rfl, by kernel_rfl⟩
theorem ok36 : EntryOk prog 36 (.code ir36) := ⟨Tryd.f36, Tryd.func36, by kernel_rfl, by kernel_rfl⟩
theorem ok51 : EntryOk prog 51 (.code ir51) := ⟨Tryd.f51, Tryd.func51, by kernel_rfl, by kernel_rfl⟩
theorem ok50 : EntryOk prog 50 (.code ir50) := ⟨Tryd.f50, Tryd.func50, by kernel_rfl, by kernel_rfl⟩
theorem ok69 : EntryOk prog 69 (.code ir69) := ⟨Tryd.f69, Tryd.func69, by kernel_rfl, by kernel_rfl⟩
theorem ok79 : EntryOk prog 79 (.code ir79) := ⟨Tryd.f79, Tryd.func79, by kernel_rfl, by kernel_rfl⟩
theorem ok83 : EntryOk prog 83 (.code ir83) := ⟨Tryd.f83, Tryd.func83, by kernel_rfl, by kernel_rfl⟩
theorem ok78 : EntryOk prog 78 (.code ir78) := ⟨Tryd.f78, Tryd.func78, by kernel_rfl, by kernel_rfl⟩
theorem ok31 : EntryOk prog 31 (.code ir31) := ⟨Tryd.f31, Tryd.func31, by kernel_rfl, by kernel_rfl⟩
theorem ok54 : EntryOk prog 54 (.code ir54) := ⟨Tryd.f54, Tryd.func54, by kernel_rfl, by kernel_rfl⟩
theorem ok30 : EntryOk prog 30 (.code ir30) := ⟨Tryd.f30, Tryd.func30, by kernel_rfl, by kernel_rfl⟩
theorem ok37 : EntryOk prog 37 (.code ir37) := ⟨Tryd.f37, Tryd.func37, by kernel_rfl, by kernel_rfl⟩
theorem ok35 : EntryOk prog 35 (.code ir35) := ⟨Tryd.f35, Tryd.func35, by kernel_rfl, by kernel_rfl⟩
theorem ok34 : EntryOk prog 34 (.code ir34) := ⟨Tryd.f34, Tryd.func34, by kernel_rfl, by kernel_rfl⟩
theorem ok52 : EntryOk prog 52 (.code ir52) := ⟨Tryd.f52, Tryd.func52, by kernel_rfl, by kernel_rfl⟩
theorem ok18 : EntryOk prog 18 (.code ir18) := ⟨Tryd.f18, Tryd.func18, by kernel_rfl, by kernel_rfl⟩
theorem ok17 : EntryOk prog 17 (.code ir17) := ⟨Tryd.f17, Tryd.func17, by kernel_rfl, by kernel_rfl⟩
theorem ok16 : EntryOk prog 16 (.code ir16) := ⟨Tryd.f16, Tryd.func16, by kernel_rfl, by kernel_rfl⟩
theorem ok0x48 : EntryOk prog0 48 (.code ir48) := ⟨Tryd.f48, Tryd.func48, by kernel_rfl, by kernel_rfl⟩
theorem ok0x57 : EntryOk prog0 57 (.code ir57) := ⟨Tryd.f57, Tryd.func57, by kernel_rfl, by kernel_rfl⟩
theorem ok0x58 : EntryOk prog0 58 (.code ir58) := ⟨Tryd.f58, Tryd.func58, by kernel_rfl, by kernel_rfl⟩
theorem ok0x59 : EntryOk prog0 59 (.code ir59) := ⟨Tryd.f59, Tryd.func59, by kernel_rfl, by kernel_rfl⟩
theorem ok0x60 : EntryOk prog0 60 (.code ir60) := ⟨Tryd.f60, Tryd.func60, by kernel_rfl, by kernel_rfl⟩
theorem ok0x61 : EntryOk prog0 61 (.code ir61) := ⟨Tryd.f61, Tryd.func61, by kernel_rfl, by kernel_rfl⟩
theorem ok0x62 : EntryOk prog0 62 (.code ir62) := ⟨Tryd.f62, Tryd.func62, by kernel_rfl, by kernel_rfl⟩
theorem ok0x63 : EntryOk prog0 63 (.code ir63) := ⟨Tryd.f63, Tryd.func63, by kernel_rfl, by kernel_rfl⟩
theorem ok0x64 : EntryOk prog0 64 (.code ir64) := ⟨Tryd.f64, Tryd.func64, by kernel_rfl, by kernel_rfl⟩
theorem ok0x65 : EntryOk prog0 65 (.code ir65) := ⟨Tryd.f65, Tryd.func65, by kernel_rfl, by kernel_rfl⟩
theorem ok0x73 : EntryOk prog0 73 (.code ir73) := ⟨Tryd.f73, Tryd.func73, by kernel_rfl, by kernel_rfl⟩
theorem ok0x27 : EntryOk prog0 27 (.code ir27) := ⟨Tryd.f27, Tryd.func27, by kernel_rfl, by kernel_rfl⟩
theorem ok0x74 : EntryOk prog0 74 (.code ir74) := ⟨Tryd.f74, Tryd.func74, by kernel_rfl, by kernel_rfl⟩
theorem ok0x81 : EntryOk prog0 81 (.code ir81) := ⟨Tryd.f81, Tryd.func81, by kernel_rfl, by kernel_rfl⟩
theorem ok0x26 : EntryOk prog0 26 (.code ir26) := ⟨Tryd.f26, Tryd.func26, by kernel_rfl, by kernel_rfl⟩
theorem ok0x12 : EntryOk prog0 12 (.code ir12) := ⟨Tryd.f12, Tryd.func12, by kernel_rfl, by kernel_rfl⟩
theorem ok0x49 : EntryOk prog0 49 (.code ir49) := ⟨Tryd.f49, Tryd.func49, by kernel_rfl, by kernel_rfl⟩
theorem ok0x28 : EntryOk prog0 28 (.code ir28) := ⟨Tryd.f28, Tryd.func28, by kernel_rfl, by kernel_rfl⟩
theorem ok0x13 : EntryOk prog0 13 (.code ir13) := ⟨Tryd.f13, Tryd.func13, by kernel_rfl, by kernel_rfl⟩
theorem ok0x14 : EntryOk prog0 14 (.code ir14) := ⟨Tryd.f14, Tryd.func14, by kernel_rfl, by kernel_rfl⟩
theorem ok0x29 : EntryOk prog0 29 (.code ir29) := ⟨Tryd.f29, Tryd.func29, by kernel_rfl, by kernel_rfl⟩
theorem ok0x15 : EntryOk prog0 15 (.code ir15) := ⟨Tryd.f15, Tryd.func15, by kernel_rfl, by kernel_rfl⟩
theorem ok0x33 : EntryOk prog0 33 (.code ir33) := ⟨Tryd.f33, Tryd.func33, by kernel_rfl, by kernel_rfl⟩
theorem ok0x5 : EntryOk prog0 5 (.code ir5) := ⟨Tryd.f5, Tryd.func5, by kernel_rfl, by kernel_rfl⟩
theorem ok0x32 : EntryOk prog0 32 (.code ir32) := ⟨Tryd.f32, Tryd.func32, by kernel_rfl, by kernel_rfl⟩
theorem ok0x16 : EntryOk prog0 16 (.code ir16) := ⟨Tryd.f16, Tryd.func16, by kernel_rfl, by kernel_rfl⟩
theorem allLaw : AllOk prog lawCode := .cons ok6 (.cons ok7 (.cons ok19 (.cons ok38 (.cons ok53 (.cons ok36 (.cons ok51 (.cons ok70 (.cons ok80 (.cons ok50 (.cons ok69 (.cons ok79 (.cons ok83 (.cons ok82 (.cons ok78 (.cons ok68 (.cons ok67 (.cons ok77 (.cons ok75 (.cons ok76 (.cons ok66 (.cons ok31 (.cons ok54 (.cons ok30 (.cons ok37 (.cons ok35 (.cons ok34 (.cons ok52 (.cons ok18 (.cons ok17 (.cons ok16 (.nil)))))))))))))))))))))))))))))))
theorem allExt : AllOk prog lawExt := .nil
theorem all0 : AllOk prog0 instCode := .cons ok0x48 (.cons ok0x57 (.cons ok0x58 (.cons ok0x59 (.cons ok0x60 (.cons ok0x61 (.cons ok0x62 (.cons ok0x63 (.cons ok0x64 (.cons ok0x65 (.cons ok0x73 (.cons ok0x27 (.cons ok0x74 (.cons ok0x81 (.cons ok0x26 (.cons ok0x12 (.cons ok0x49 (.cons ok0x28 (.cons ok0x13 (.cons ok0x14 (.cons ok0x29 (.cons ok0x15 (.cons ok0x33 (.cons ok0x5 (.cons ok0x32 (.cons ok0x16 (.nil))))))))))))))))))))))))))
theorem mixed : prog.follows .mixedOrders = true := by kernel_rfl
theorem mixed0 : prog0.follows .mixedOrders = true := by kernel_rfl
theorem globs {h : List AV → St → Option (AV × St)} {f : Nat} (e : EntryOk2 prog0 f (.hook h)) : EntryOk2 prog f (.hook h) := by
  cases e with
  | old e => exact e.elim
  | hook a b =>
    exact .hook (fun args s r e1 e2 φ w c hg => a args s r e1 e2 φ w c (fun g hg' => by cases hg')) b
theorem lawHooks_ok : AllOk2 prog lawHooks := .cons (globs (h_right mixed0 rfl all0)) (.cons (globs (h_writesPred mixed0 rfl all0)) (.cons (globs (h_class mixed0 rfl all0)) (.cons (globs (h_has mixed0 rfl all0)) (.nil))))
theorem h2_ok : AllOk2 prog lawH2 := .nil
theorem ok_l0 : AllOk2 prog tl0 := AllOk2.app allLaw (AllOk2.app allExt (AllOk2.app2 h2_ok lawHooks_ok))
theorem gl_pre : ∀ g, g ∈ prog.G → memoPre[g]? = some g ∧ g ∈ prog.G := fun g hg => ⟨(by decide : ∀ g ∈ ([0, 2, 3] : List Nat), memoPre[g]? = some g) g hg, hg⟩
theorem ok_l1 : AllOk2 prog tl1 := .cons (EntryOk2.memoA (P0 := prog) mixed rfl gl_pre (AllOk2.fine ok_l0) 100000 6 tbl6 (by rw [← tabT_eq tr0_ok]; exact all6)) ok_l0
abbrev theLaid : List (String × DataW Unit) := YtkjddipkaaelaaaDoor.Rows.showTellsRow.laid
def gchk (ty : Ty) (d : DataW Unit) (g sz : Nat) (s : St) : Bool := match layD ty d s with
  | some (l, s1) => Nat.blt g s1.next && ((match s1.heap.get g with | none => true | some _ => false) && Nat.ble sz l.length)
  | none => false
theorem gst_step {P : Program} {W : World} {φ : Phi} {s : St} (h : RelSt φ s W) (hr : AllRo s) (hw : WFS s) {name : String} {g t : Nat} {ty : Ty} (hg : P.globalNamed name = some g) (ht : tyOf P 8 t = some ty) {cs : Array Value} (hv : W.var? P name = some cs) {held : Bool} {m : Nat} {d : DataW Unit} {ps : List MemPlace} (hd : DataW.trod (fun _ => ()) P W 0 (fun _ => true) held m t cs.toList = some (d, ps)) {sz : Nat} (hc : gchk ty d g sz s = true) :
    ∃ φ', Imp W φ s φ' (gst ty d g s) ∧ ∃ n, φ' g 0 = some ⟨g, 0, 0, n, n⟩ ∧ sz ≤ n := by
  unfold gchk at hc
  cases hl : layD ty d s with
  | none => rw [hl] at hc; cases hc
  | some x =>
    obtain ⟨l, s1⟩ := x
    rw [hl] at hc
    simp only [Bool.and_eq_true, Nat.blt_eq, Nat.ble_eq] at hc
    obtain ⟨h1, h2, h3⟩ := hc
    have hf : s1.heap.get g = none := by
      cases hh : s1.heap.get g with
      | none => rfl
      | some _ => rw [hh] at h2; cases h2
    obtain ⟨φ', i, e⟩ := glob_lay h hr hw hg ht hv hd hl h1 hf
    refine ⟨φ', ?_, l.length, e, h3⟩
    unfold gst
    rw [hl]
    exact i
theorem next_up {φ : Phi} {s : St} {W : World} (h1 : RelSt φ s W) (h2 : AllRo s) (h3 : WFS s) {n : Nat} (hn : s.next ≤ n) : RelSt φ { s with next := n } W ∧ AllRo { s with next := n } ∧ WFS { s with next := n } :=
  ⟨RelSt.at (H := s.heap) (b := s.next) h1, h2, fun id hid => h3 id (Nat.le_trans hn hid)⟩
theorem ty0 : tyOf Tryd.prog 8 110 = some gt0 := by
  have c110 : Tryd.prog.cellsOf 110 = 20 := by kernel_rfl
  have c97 : Tryd.prog.cellsOf 97 = 1 := by kernel_rfl
  simp [tyOf, tyOf.go, gt0, tySize, tySizes, Tryd.underlying110, Tryd.underlying97, c110, c97]
theorem ty2 : tyOf Tryd.prog 8 117 = some gt2 := by
  have c117 : Tryd.prog.cellsOf 117 = 32 := by kernel_rfl
  have c5 : Tryd.prog.cellsOf 5 = 1 := by kernel_rfl
  simp [tyOf, tyOf.go, gt2, tySize, tySizes, Tryd.underlying117, Tryd.underlying5, c117, c5]
theorem ty3 : tyOf Tryd.prog 8 118 = some gt3 := by
  have c118 : Tryd.prog.cellsOf 118 = 64 := by kernel_rfl
  have c5 : Tryd.prog.cellsOf 5 = 1 := by kernel_rfl
  simp [tyOf, tyOf.go, gt3, tySize, tySizes, Tryd.underlying118, Tryd.underlying5, c118, c5]
theorem glob_state {W : World} (h : laidMetH Tryd.prog theLaid W) : ∃ φ, RelSt φ sG W ∧ AllRo sG ∧ WFS sG ∧ GlobOk prog φ := by
  rw [MakeChecks.laidMetH_plain _ _ _ (by kernel_rfl)] at h
  obtain ⟨ps, ⟨g2, t2, cs2, f2, p2, q2, hg2, ht2, hv2, hd2, ⟨g3, t3, cs3, f3, p3, q3, hg3, ht3, hv3, hd3, ⟨g0, t0, cs0, f0, p0, q0, hg0, ht0, hv0, hd0, _, _⟩, _⟩, _⟩, _⟩ := h
  obtain rfl := Option.some.inj ((show Tryd.prog.globalNamed "internal/strconv.uint64pow10" = some 0 by kernel_rfl).symm.trans hg0)
  obtain rfl := Option.some.inj ((show (Tryd.prog.globals[0]?).map (·.type) = some 110 by kernel_rfl).symm.trans ht0)
  obtain rfl := Option.some.inj ((show Tryd.prog.globalNamed "math/bits.deBruijn32tab" = some 2 by kernel_rfl).symm.trans hg2)
  obtain rfl := Option.some.inj ((show (Tryd.prog.globals[2]?).map (·.type) = some 117 by kernel_rfl).symm.trans ht2)
  obtain rfl := Option.some.inj ((show Tryd.prog.globalNamed "math/bits.deBruijn64tab" = some 3 by kernel_rfl).symm.trans hg3)
  obtain rfl := Option.some.inj ((show (Tryd.prog.globals[3]?).map (·.type) = some 118 by kernel_rfl).symm.trans ht3)
  obtain ⟨r1, r2, r3⟩ := next_up (n := 4) (rel0 W) allRo0 wfs0 (by decide)
  obtain ⟨φ0, i0, n0, e0, l0⟩ := gst_step (d := gd0) (sz := 20) r1 r2 r3 hg0 (ty := gt0) ty0 hv0 hd0 (by kernel_rfl)
  obtain ⟨φ2, i2, n2, e2, l2⟩ := gst_step (d := gd2) (sz := 32) i0.rel i0.ro i0.wfs hg2 (ty := gt2) ty2 hv2 hd2 (by kernel_rfl)
  obtain ⟨φ3, i3, n3, e3, l3⟩ := gst_step (d := gd3) (sz := 64) i2.rel i2.ro i2.wfs hg3 (ty := gt3) ty3 hv3 hd3 (by kernel_rfl)
  obtain ⟨_, _, hh1⟩ := var_cells (P := Tryd.prog) (g := 0) (by kernel_rfl) hv0
  obtain ⟨φd1, d1⟩ := gdummy_step i3.rel i3.ro i3.wfs (d := 1) hh1 (by kernel_rfl) (by kernel_rfl)
  refine ⟨_, d1.rel, d1.ro, d1.wfs, ?_⟩
  intro g hg
  have hg : g = 0 ∨ g = 2 ∨ g = 3 := by
    have : g ∈ [0, 2, 3] := hg
    simpa using this
  rcases hg with rfl | rfl | rfl
  · refine ⟨_, d1.le _ _ _ (i3.le _ _ _ (i2.le _ _ _ (e0))), rfl, rfl, rfl, fun gl n h1 h2 => ?_, rfl⟩
    have hk : (prog.globals[0]?).bind (fun gl => szOf prog gl.type) = some 20 := by kernel_rfl
    rw [h1, Option.bind_some, h2] at hk
    cases hk
    exact l0
  · refine ⟨_, d1.le _ _ _ (i3.le _ _ _ (e2)), rfl, rfl, rfl, fun gl n h1 h2 => ?_, rfl⟩
    have hk : (prog.globals[2]?).bind (fun gl => szOf prog gl.type) = some 32 := by kernel_rfl
    rw [h1, Option.bind_some, h2] at hk
    cases hk
    exact l2
  · refine ⟨_, d1.le _ _ _ (e3), rfl, rfl, rfl, fun gl n h1 h2 => ?_, rfl⟩
    have hk : (prog.globals[3]?).bind (fun gl => szOf prog gl.type) = some 64 := by kernel_rfl
    rw [h1, Option.bind_some, h2] at hk
    cases hk
    exact l3
end Go.V
