/- A row of nodes that came in. -/
import Derived.Test.YteepeacefpkmbaaGreatDoorFL8
import Derived.Test.YteepeacefpkmbaaGreatDoorVE
import Derived.Test.YteepeacefpkmbaaGreatDoorV54
import Derived.Test.YteepeacefpkmbaaGreatDoorV67
set_option linter.unusedVariables false
set_option linter.unusedSimpArgs false
set_option linter.unusedSectionVars false
/- A row of nodes that came in. -/
namespace Go.V
open Go Go.RowKit
def ndTy : Ty := .struct [.int .u32, .int .i64, .slice (.int .u32), .bool]
theorem wfs_lt {s : St} (hw : WFS s) {id : Nat} {o : AObj} (h : s.heap.get id = some o) : id < s.next := by
  refine Nat.lt_of_not_le fun hge => ?_
  rw [hw id hge] at h; cases h
theorem u32_of {s : St} {c : List AV} (h : Shape s (.int .u32) c) : ∃ k : Nat, c = [.int .u32 (k : Int)] := by
  simp only [Shape] at h
  obtain ⟨d, rfl, d0, d1⟩ := h
  simp [IntKind.min, IntKind.max, IntKind.signed, IntKind.bits] at d0 d1
  obtain ⟨d, rfl⟩ := Int.eq_ofNat_of_zero_le d0
  exact ⟨d, rfl⟩
theorem u32_many {s : St} : ∀ {cs : List (List AV)}, (∀ c ∈ cs, Shape s (.int .u32) c) → ∃ l : List Nat, cs.flatten = u32s l ∧ l.length = cs.length
  | [], _ => ⟨[], rfl, rfl⟩
  | c :: cs, h => by
    obtain ⟨k, rfl⟩ := u32_of (h c List.mem_cons_self)
    obtain ⟨l, h1, h2⟩ := u32_many fun c hc => h c (List.mem_cons_of_mem _ hc)
    exact ⟨k :: l, by rw [List.flatten_cons, h1]; rfl, by simp [h2]⟩
theorem u32_in {s : St} (hw : WFS s) {c : List AV} (h : Shape s (.slice (.int .u32)) c) : ∃ v l, c = [v] ∧ U32 s v l ∧ v.isCell = true := by
  simp only [Shape] at h
  rcases h with rfl | rfl | ⟨id, len, cap, cs, rfl, h0, hc, hg, hl, hs⟩
  · exact ⟨_, [], rfl, ⟨by simp, .inl ⟨rfl, .inl rfl⟩⟩, rfl⟩
  · exact ⟨_, [], rfl, ⟨by simp, .inl ⟨rfl, .inr rfl⟩⟩, rfl⟩
  · obtain ⟨l, h1, h2⟩ := u32_many (s := s) (cs := cs) (by simpa only [Shape] using hs)
    have hlen : l.length = len := by omega
    subst hlen
    exact ⟨_, l, rfl, ⟨by simp, .inr ⟨id, 0, 0, 0, l.length * tySize (.int .u32), cap, true, true, cs.flatten, rfl, wfs_lt hw hg, hg, Nat.le_refl _, Nat.le_refl _, Nat.le_refl _, by rw [h1, List.take_of_length_le (by simp)]⟩⟩, rfl⟩
theorem nd_of {s : St} (hw : WFS s) {c : List AV} (h : Shape s ndTy c) : ∃ n : ND, c = n.cells ∧ U32 s n.nx n.to ∧ n.w.isCell = true ∧ n.nx.isCell = true ∧ n.op.isCell = true := by
  simp only [ndTy, Shape, Shapes] at h
  obtain ⟨a, _, rfl, h1, b, _, rfl, ⟨w, rfl, _⟩, c, _, rfl, h3, d, _, rfl, ⟨o, rfl⟩, rfl⟩ := h
  obtain ⟨k, rfl⟩ := u32_of (s := s) (by simpa only [Shape] using h1)
  obtain ⟨v, l, rfl, hU, hc⟩ := u32_in hw (by simpa only [Shape] using h3)
  exact ⟨⟨k, .int .i64 w, v, .bool o, l⟩, rfl, hU, rfl, hc, rfl⟩
theorem nd_many {s : St} (hw : WFS s) : ∀ {cs : List (List AV)}, (∀ c ∈ cs, Shape s ndTy c) → ∃ L : List ND, cs.flatten = L.flatMap ND.cells ∧ L.length = cs.length ∧ ∀ n ∈ L, U32 s n.nx n.to ∧ n.w.isCell = true ∧ n.nx.isCell = true ∧ n.op.isCell = true
  | [], _ => ⟨[], rfl, rfl, by simp⟩
  | c :: cs, h => by
    obtain ⟨a, rfl, ha⟩ := nd_of hw (h c List.mem_cons_self)
    obtain ⟨l, h1, h2, h3⟩ := nd_many hw fun c hc => h c (List.mem_cons_of_mem _ hc)
    refine ⟨a :: l, ?_, ?_, ?_⟩
    · rw [List.flatten_cons, List.flatMap_cons, h1]
    · simp [h2]
    · intro x hx
      rcases List.mem_cons.1 hx with rfl | hx
      · exact ha
      · exact h3 x hx
theorem cells_len4 (L : List ND) : (L.flatMap ND.cells).length = L.length * 4 := by
  induction L with
  | nil => rfl
  | cons n l ih => rw [List.flatMap_cons, List.length_append, ih, show n.cells.length = 4 from rfl, List.length_cons]; omega
theorem nds_in {s : St} (hw : WFS s) {x : AV} (h : Shape s (.slice ndTy) [x]) : ∃ L, NdR s x L := by
  simp only [Shape] at h
  rcases h with h | h | ⟨id, len, cap, cs, h, h0, hc, hg, hl, hs⟩
  · cases h; exact ⟨[], ⟨by simp, .inl ⟨rfl, .inl rfl⟩⟩, by simp⟩
  · cases h; exact ⟨[], ⟨by simp, .inl ⟨rfl, .inr rfl⟩⟩, by simp⟩
  · cases h
    obtain ⟨L, h1, h2, h3⟩ := nd_many hw hs
    have hlen : L.length = len := by omega
    subst hlen
    exact ⟨L, ⟨cells_len4 L, .inr ⟨id, 0, 0, 0, L.length * tySize ndTy, cap, true, true, cs.flatten, rfl, wfs_lt hw hg, hg, Nat.le_refl _, Nat.le_refl _, Nat.le_refl _, by rw [h1, List.take_of_length_le (by rw [cells_len4]; exact Nat.le_refl _)]⟩⟩, h3⟩
/-- A slice of nodes that came in, behind what lay there. -/
theorem nds_arg {H : Type} {enc : TypeId × Value → H} {P : Program} {W : World} {held : Bool} {t u : TypeId} (hu : P.underlying t = some (.slice u)) (ht : tyOf P 8 t = some (.slice ndTy)) {base : Nat} {v : Value} (hv : Value.okWide P W .any base t v) {d : DataW H} {p : List MemPlace} (hd : DataW.Trod enc P W 0 (fun _ => true) held t v d p) {φ0 : Phi} {s0 : St} (h0 : RelSt φ0 s0 W) (h1 : AllRo s0) (h2 : WFS s0) :
    ∃ φ s x L, Imp W φ0 s0 φ s ∧ VRel φ x v ∧ NdR s x L := by
  obtain ⟨m, hx⟩ := hd
  rw [slice_cell hu hv] at hx
  obtain ⟨φ, s, c, hI, hV, hS⟩ := imp_trod 8 t _ ht m _ _ hx φ0 s0 h0 h1 h2
  obtain ⟨x, rfl, hx⟩ := vrels_one hV
  obtain ⟨L, hL⟩ := nds_in hI.wfs hS
  exact ⟨φ, s, x, L, hI, hx, hL⟩
/-- What an imported state keeps, where nothing was lacking. -/
theorem imp_ext {W : World} {φ φ' : Phi} {s s' : St} (h : Imp W φ s φ' s') (hf : (List.range s.next).all (fun i => (s.heap.get i).isSome) = true) : Ext s s' := by
  have hg : ∀ id, id < s.next → ∃ o, s.heap.get id = some o := fun id hid => by
    have := List.all_eq_true.1 hf id (List.mem_range.2 hid)
    exact Option.isSome_iff_exists.1 this
  refine ⟨h.wfs, ?_, fun id hid => ?_⟩
  · refine Nat.le_of_not_lt fun hlt => ?_
    obtain ⟨o, ho⟩ := hg s'.next hlt
    have := h.keep _ _ ho
    rw [h.wfs s'.next (Nat.le_refl _)] at this
    cases this
  · obtain ⟨o, ho⟩ := hg id hid
    rw [ho]; exact h.keep _ _ ho
end Go.V
