/- A packet that came in. -/
import Derived.Test.YtkjddipkaaelaaaDoorSG
import Derived.Test.YtkjddipkaaelaaaDoorFInst
import Derived.Test.YtkjddipkaaelaaaDoorVE
import Derived.Test.YtkjddipkaaelaaaDoorV54
import Derived.Test.YtkjddipkaaelaaaDoorV67
set_option linter.unusedVariables false
set_option linter.unusedSimpArgs false
set_option linter.unusedSectionVars false
/- A packet that came in. -/
namespace Go.V
open Go Go.RowKit
def instTy : Ty := .struct [.int .u8, .int .u8, .int .u8, .int .u8, .int .u8, .int .u8, .int .u8, .bool, .bool, .int .u16, .int .i64]
def pkTy : Ty := .struct [.slice instTy, .bool, .bool, .bool, .bool]
theorem wfs_lt {s : St} (hw : WFS s) {id : Nat} {o : AObj} (h : s.heap.get id = some o) : id < s.next := by
  refine Nat.lt_of_not_le fun hge => ?_
  rw [hw id hge] at h; cases h
theorem u8_of {s : St} {c : List AV} (h : Shape s (.int .u8) c) : ∃ n : Int, c = [.int .u8 n] ∧ isByte n = true := by
  simp only [Shape] at h
  obtain ⟨d, rfl, d0, d1⟩ := h
  simp [IntKind.min, IntKind.max, IntKind.signed, IntKind.bits] at d0 d1
  exact ⟨d, rfl, isByte_of d0 d1⟩
theorem inst_of {s : St} {c : List AV} (h : Shape s instTy c) : ∃ i : In, c = i.cells ∧ i.ok = true := by
  simp only [instTy, Shape, Shapes] at h
  obtain ⟨_, _, rfl, h0, _, _, rfl, h1, _, _, rfl, h2, _, _, rfl, h3, _, _, rfl, h4, _, _, rfl, h5, _, _, rfl, h6, _, _, rfl, ⟨b7, rfl⟩, _, _, rfl, ⟨b8, rfl⟩, _, _, rfl, ⟨n9, rfl, a9, c9⟩, _, _, rfl, ⟨n10, rfl, a10, c10⟩, rfl⟩ := h
  obtain ⟨n0, rfl, k0⟩ := u8_of (s := s) (by simpa only [Shape] using h0)
  obtain ⟨n1, rfl, k1⟩ := u8_of (s := s) (by simpa only [Shape] using h1)
  obtain ⟨n2, rfl, k2⟩ := u8_of (s := s) (by simpa only [Shape] using h2)
  obtain ⟨n3, rfl, k3⟩ := u8_of (s := s) (by simpa only [Shape] using h3)
  obtain ⟨n4, rfl, k4⟩ := u8_of (s := s) (by simpa only [Shape] using h4)
  obtain ⟨n5, rfl, k5⟩ := u8_of (s := s) (by simpa only [Shape] using h5)
  obtain ⟨n6, rfl, k6⟩ := u8_of (s := s) (by simpa only [Shape] using h6)
  simp [IntKind.min, IntKind.max, IntKind.signed, IntKind.bits] at a9 c9 a10 c10
  refine ⟨⟨n0, n1, n2, n3, n4, n5, n6, b7, b8, n9, n10⟩, rfl, ?_⟩
  simp only [In.ok, isI64, k0, k1, k2, k3, k4, k5, k6, Bool.true_and, Bool.and_eq_true, decide_eq_true_eq]
  omega
theorem inst_many {s : St} : ∀ {cs : List (List AV)}, (∀ c ∈ cs, Shape s instTy c) → ∃ L : List In, cs.flatten = L.flatMap In.cells ∧ L.length = cs.length ∧ ∀ i ∈ L, i.ok = true
  | [], _ => ⟨[], rfl, rfl, by simp⟩
  | c :: cs, h => by
    obtain ⟨a, rfl, ha⟩ := inst_of (h c List.mem_cons_self)
    obtain ⟨l, h1, h2, h3⟩ := inst_many fun c hc => h c (List.mem_cons_of_mem _ hc)
    refine ⟨a :: l, ?_, ?_, ?_⟩
    · rw [List.flatten_cons, List.flatMap_cons, h1]
    · simp [h2]
    · intro x hx
      rcases List.mem_cons.1 hx with rfl | hx
      · exact ha
      · exact h3 x hx
theorem cells_len11 (L : List In) : (L.flatMap In.cells).length = L.length * 11 := by
  induction L with
  | nil => rfl
  | cons n l ih => rw [List.flatMap_cons, List.length_append, ih, show n.cells.length = 11 from rfl, List.length_cons]; omega
theorem insts_in {s : St} (hw : WFS s) {c : List AV} (h : Shape s (.slice instTy) c) : ∃ x L, c = [x] ∧ RdI s x L ∧ (∀ i ∈ L, i.ok = true) ∧ x.isCell = true := by
  simp only [Shape] at h
  rcases h with rfl | rfl | ⟨id, len, cap, cs, rfl, h0, hc, hg, hl, hs⟩
  · exact ⟨_, [], rfl, ⟨by simp, .inl ⟨rfl, .inl rfl⟩⟩, by simp, rfl⟩
  · exact ⟨_, [], rfl, ⟨by simp, .inl ⟨rfl, .inr rfl⟩⟩, by simp, rfl⟩
  · obtain ⟨L, h1, h2, h3⟩ := inst_many hs
    have hlen : L.length = len := by omega
    subst hlen
    exact ⟨_, L, rfl, ⟨cells_len11 L, .inr ⟨id, 0, 0, 0, L.length * tySize instTy, cap, true, true, cs.flatten, rfl, wfs_lt hw hg, hg, Nat.le_refl _, Nat.le_refl _, Nat.le_refl _, by rw [h1, List.take_of_length_le (by rw [cells_len11]; exact Nat.le_refl _)]⟩⟩, h3, rfl⟩
theorem pack_arg {H : Type} {enc : TypeId × Value → H} {P : Program} {W : World} {held : Bool} {t : TypeId} {fs : Array Field} (hu : P.underlying t = some (.struct fs)) (ht : tyOf P 8 t = some pkTy) {base : Nat} {v : Value} (hv : Value.okWide P W .any base t v) {d : DataW H} {p : List MemPlace} (hd : DataW.Trod enc P W 0 (fun _ => true) held t v d p) {φ0 : Phi} {s0 : St} (h0 : RelSt φ0 s0 W) (h1 : AllRo s0) (h2 : WFS s0) :
    ∃ φ s x L e0 e1 raw y, Imp W φ0 s0 φ s ∧ VRel φ (.agg [x, .bool e0, .bool e1, .bool raw, y]) v ∧ RdI s x L ∧ (∀ i ∈ L, i.ok = true) ∧ x.isCell = true ∧ y.isCell = true := by
  obtain ⟨m, hx⟩ := hd
  unfold Value.okWide at hv
  rw [hu] at hv
  obtain ⟨cs, rfl, _⟩ := hv
  obtain ⟨φ, s, c, hI, hV, hS⟩ := imp_trod 8 t _ ht m _ _ hx φ0 s0 h0 h1 h2
  simp only [pkTy, Shape, Shapes] at hS
  obtain ⟨a, _, rfl, hA, _, _, rfl, ⟨b1, rfl⟩, _, _, rfl, ⟨b2, rfl⟩, _, _, rfl, ⟨b3, rfl⟩, _, _, rfl, ⟨b4, rfl⟩, rfl⟩ := hS
  obtain ⟨x, L, rfl, hL, hok, hxc⟩ := insts_in hI.wfs (by simpa only [Shape] using hA)
  exact ⟨φ, s, x, L, b1, b2, b3, .bool b4, hI, .agg hV, hL, hok, hxc, rfl⟩
/-- What an imported state keeps, where nothing was lacking. -/
theorem imp_ext {W : World} {φ φ' : Phi} {s s' : St} (h : Imp W φ s φ' s') (hf : (List.range s.next).all (fun i => (s.heap.get i).isSome) = true) : Ext s s' := by
  have hg : ∀ id, id < s.next → ∃ o, s.heap.get id = some o := fun id hid => by
    have := List.all_eq_true.1 hf id (List.mem_range.2 hid)
    exact Option.isSome_iff_exists.1 this
  refine ⟨h.wfs, ?_, fun id hid => ?_⟩
  · refine Nat.le_of_not_lt fun hlt => ?_
    obtain ⟨o, ho⟩ := hg s'.next hlt
    have := h.keep _ _ ho
    rw [h.wfs s'.next (Nat.le_refl _)] at this
    cases this
  · obtain ⟨o, ho⟩ := hg id hid
    rw [ho]; exact h.keep _ _ ho
end Go.V
