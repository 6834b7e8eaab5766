/- mem: acts that come in; the tables. -/
import Derived.Test.YtlpdekocilhciaaMB
import Derived.Test.YtlpdekocilhciaaVE
set_option linter.unusedVariables false
set_option linter.unusedSimpArgs false
set_option linter.unusedSectionVars false
/- mem: acts that come in; the tables. -/
namespace Go.V
open Go
set_option linter.unusedSimpArgs false
set_option linter.unusedVariables false
open Go.V.KU Go.RowKit Go.ChangeShapes Go.WideShapes Go.ChangeAt
def actTy : Ty := .struct [.int .u8, .int .u32, .int .i64, .int .u32, .str]
theorem act_of {s : St} {c : List AV} (h : Shape s actTy c) : ∃ a, c = actC a ∧ ActOk a := by
  simp only [actTy, Shape, Shapes] at h
  obtain ⟨_, _, rfl, ⟨d, rfl, d0, d1⟩, _, _, rfl, ⟨k, rfl, k0, k1⟩, _, _, rfl, ⟨n, rfl, n0, n1⟩, _, _, rfl, ⟨v, rfl, v0, v1⟩, _, _, rfl, ⟨b, rfl, b0⟩, rfl⟩ := h
  simp [IntKind.min, IntKind.max, IntKind.signed, IntKind.bits] at d0 d1 k0 k1 v0 v1
  obtain ⟨d, rfl⟩ := Int.eq_ofNat_of_zero_le d0
  obtain ⟨k, rfl⟩ := Int.eq_ofNat_of_zero_le k0
  obtain ⟨v, rfl⟩ := Int.eq_ofNat_of_zero_le v0
  exact ⟨⟨d, k, n, v, b⟩, rfl, show k < 4294967296 by omega, show v < 4294967296 by omega, show d < 256 by omega⟩
theorem acts_many {s : St} : ∀ {cs : List (List AV)}, (∀ c ∈ cs, Shape s actTy c) → ∃ l : List Act, cs.flatten = l.flatMap actC ∧ l.length = cs.length ∧ ∀ a ∈ l, ActOk a
  | [], _ => ⟨[], rfl, rfl, by simp⟩
  | c :: cs, h => by
    obtain ⟨a, rfl, ha⟩ := act_of (h c (by simp))
    obtain ⟨l, h1, h2, h3⟩ := acts_many fun c hc => h c (List.mem_cons_of_mem _ hc)
    refine ⟨a :: l, ?_, ?_, ?_⟩
    · rw [List.flatten_cons, List.flatMap_cons, h1]
    · simp [h2]
    · intro x hx
      rcases List.mem_cons.1 hx with rfl | hx
      · exact ha
      · exact h3 x hx
theorem acts_in {s : St} (hw : WFS s) {x : AV} (h : Shape s (.slice actTy) [x]) : ∃ l, Acts s.next s x l := by
  simp only [Shape] at h
  rcases h with h | h | ⟨id, len, cap, cs, h, h0, hc, hg, hl, hs⟩
  · cases h; exact ⟨[], by simp, .inl ⟨rfl, .inl rfl⟩⟩
  · cases h; exact ⟨[], by simp, .inl ⟨rfl, .inr rfl⟩⟩
  · cases h
    obtain ⟨l, h1, h2, h3⟩ := acts_many hs
    have hlen : l.length = len := by omega
    have hid : id < s.next := by
      refine Nat.lt_of_not_le fun hge => ?_
      rw [hw id hge] at hg; cases hg
    subst hlen
    exact ⟨l, h3, .inr ⟨h0, id, cap, rfl, hid, hid, by rw [hg, h1]⟩⟩
/-- A slice of acts that came in, in a state of its own. -/
theorem acts_arg {H : Type} {enc : TypeId × Value → H} {P : Program} {W : World} {held : Bool} {t u : TypeId} (hu : P.underlying t = some (.slice u)) (ht : tyOf P 8 t = some (.slice actTy)) {base : Nat} {v : Value} (hv : Value.okWide P W .any base t v) {d : DataW H} {p : List MemPlace} (hd : DataW.Trod enc P W 0 (fun _ => true) held t v d p) {φ0 : Phi} {s0 : St} (h0 : RelSt φ0 s0 W) (h1 : AllRo s0) (h2 : WFS s0) :
    ∃ φ s x l, Imp W φ0 s0 φ s ∧ VRel φ x v ∧ Acts s.next s x l := by
  obtain ⟨m, hx⟩ := hd
  rw [slice_cell hu hv] at hx
  obtain ⟨φ, s, c, hI, hV, hS⟩ := imp_trod 8 t _ ht m _ _ hx φ0 s0 h0 h1 h2
  obtain ⟨x, rfl, hx⟩ := vrels_one hV
  obtain ⟨l, hl⟩ := acts_in hI.wfs hS
  exact ⟨φ, s, x, l, hI, hx, hl⟩
def memAll : List (Nat × FnImp) := mem2Code ++ memList
end Go.V
