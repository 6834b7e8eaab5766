/- The plain facts behind InstTurned. -/
import Derived.Test.YtlpdekocilhciaaLInst1
set_option linter.unusedVariables false
set_option linter.unusedSimpArgs false
set_option linter.unusedSectionVars false
/- The plain facts behind InstTurned. -/
namespace Go.V
open Go
set_option linter.unusedSimpArgs false
set_option linter.unusedVariables false

def anyK (fs : List Fld) (k : Int) : Bool := fs.any fun f => decide (f.kind = k)
def anyE (fs : List Fld) : Bool := fs.any fun f => f.ext
/-- Nothing is left but what the fields say. -/
def leftOk (i : In) (fs : List Fld) : Prop := i.op = 0 ∧ (anyK fs 1 = true ∨ i.mode = 0) ∧ (anyK fs 2 = true ∨ i.pred = 0) ∧ (anyK fs 3 = true ∨ anyK fs 4 = true ∨ i.d = 0) ∧ (anyK fs 5 = true ∨ i.s = 0) ∧ (anyK fs 6 = true ∨ i.t = 0) ∧ (anyK fs 7 = true ∨ i.n = 0) ∧
  (anyK fs 8 = true ∨ i.nw = false) ∧ (anyK fs 9 = true ∨ anyK fs 10 = true ∨ i.imm = 0) ∧ (anyK fs 11 = true ∨ i.count = 0) ∧ (anyE fs = true ∨ i.ext = false)
theorem leftF_iff : ∀ (fs : List Fld) (i : In), leftF i fs = In.zero ↔ leftOk i fs
  | [], i => by
    obtain ⟨a1, a2, a3, a4, a5, a6, a7, a8, a9, a10, a11⟩ := i
    simp only [leftF, List.foldl, In.zero, In.mk.injEq, leftOk, anyK, anyE, List.any_nil, Bool.false_eq_true, false_or]
    constructor
    · rintro ⟨h1, h2, h3, h4, h5, h6, h7, h8, h9, h10, h11⟩; exact ⟨h1, h7, h6, h2, h3, h4, h5, h8, h11, h10, h9⟩
    · rintro ⟨h1, h7, h6, h2, h3, h4, h5, h8, h11, h10, h9⟩; exact ⟨h1, h2, h3, h4, h5, h6, h7, h8, h9, h10, h11⟩
  | f :: fs, i => by
    have ih := leftF_iff fs (withoutSpec i f)
    show leftF (withoutSpec i f) fs = In.zero ↔ _
    rw [ih]
    obtain ⟨k, b, sh, sg, e⟩ := f
    obtain ⟨a1, a2, a3, a4, a5, a6, a7, a8, a9, a10, a11⟩ := i
    have key : ∀ j, anyK (⟨k, b, sh, sg, e⟩ :: fs) j = (decide (k = j) || anyK fs j) := fun j => rfl
    have keye : anyE (⟨k, b, sh, sg, e⟩ :: fs) = (e || anyE fs) := rfl
    unfold leftOk
    simp only [key, keye, Bool.or_eq_true, decide_eq_true_eq]
    unfold withoutSpec
    by_cases h1 : k = 1
    · subst h1; cases e <;> simp
    by_cases h2 : k = 2
    · subst h2; cases e <;> simp
    by_cases h3 : k = 3
    · subst h3; cases e <;> simp
    by_cases h4 : k = 4
    · subst h4; cases e <;> simp
    by_cases h5 : k = 5
    · subst h5; cases e <;> simp
    by_cases h6 : k = 6
    · subst h6; cases e <;> simp
    by_cases h7 : k = 7
    · subst h7; cases e <;> simp
    by_cases h8 : k = 8
    · subst h8; cases e <;> simp
    by_cases h9 : k = 9
    · subst h9; cases e <;> simp
    by_cases h10 : k = 10
    · subst h10; cases e <;> simp
    by_cases h11 : k = 11
    · subst h11; cases e <;> simp
    cases e <;> simp [h1, h2, h3, h4, h5, h6, h7, h8, h9, h10, h11]

theorem right_iff (i : In) : rightF i = true ↔ (isaRow i.op).isSome = true ∧ (∀ f ∈ fieldsOf i.op, holdsSpec i f = true) ∧ leftOk { i with op := 0 } (fieldsOf i.op) ∧ ¬ (hasF i.op 1 = true ∧ i.mode = 0 ∧ i.pred ≠ 0) := by
  unfold rightF
  rw [okF_all]
  simp only [Bool.and_eq_true, decide_eq_true_eq, leftF_iff, Bool.not_eq_true', List.all_eq_true]
  constructor
  · rintro ⟨⟨h1, h2⟩, h3, h4⟩
    refine ⟨h1, h2, h3, ?_⟩
    rintro ⟨g1, g2, g3⟩
    simp [g1, g2, g3] at h4
  · rintro ⟨h1, h2, h3, h4⟩
    refine ⟨⟨h1, h2⟩, h3, ?_⟩
    cases hb : (hasF i.op 1 && (decide (i.mode = 0) && !decide (i.pred = 0))) with
    | false => rfl
    | true =>
      simp only [Bool.and_eq_true, decide_eq_true_eq, Bool.not_eq_true', decide_eq_false_iff_not] at hb
      exact absurd hb h4

theorem turn_core {i x : In} (k : Int) (hop : x.op = i.op) (hR : rightF i = true) (hh : ∀ f ∈ fieldsOf i.op, holdsSpec x f = true) (hmp : x.mode = i.mode ∧ x.pred = i.pred)
    (hl : leftOk { x with op := 0 } (fieldsOf i.op) ↔ (anyK (fieldsOf i.op) k = true ∨ x = i)) : rightF x = (hasF i.op k || decide (x = i)) := by
  obtain ⟨h1, h2, h3, h4⟩ := (right_iff i).1 hR
  rw [Bool.eq_iff_iff, right_iff, hop, hl, hmp.1, hmp.2, Bool.or_eq_true, decide_eq_true_eq]
  constructor
  · rintro ⟨_, _, h, _⟩; exact h
  · intro h; exact ⟨h1, hh, h, h4⟩
theorem holds_s (i : In) (f : Fld) (v : Int) : holdsSpec { i with s := v } f = if f.kind = 5 then decide (v < 32) else holdsSpec i f := by
  unfold holdsSpec
  by_cases h : f.kind = 5 <;> simp [h]
theorem turn_s {i : In} (hR : rightF i = true) (v : Int) (hv : v < 32) : rightF { i with s := v } = (hasF i.op 5 || decide (({ i with s := v } : In) = i)) := by
  refine turn_core (i := i) (x := { i with s := v }) 5 rfl hR (fun f hf => ?_) ⟨rfl, rfl⟩ ?_
  · rw [holds_s]
    split
    · exact decide_eq_true hv
    · exact right_holds hR f hf
  · obtain ⟨_, _, h3, _⟩ := (right_iff i).1 hR
    obtain ⟨a1, a2, a3, a4, a5, a6, a7, a8, a9, a10, a11⟩ := i
    unfold leftOk at h3 ⊢
    simp only [In.mk.injEq, true_and, and_true] at h3 ⊢
    cases hk : anyK (fieldsOf a1) 5 with
    | true => simp [hk] at h3 ⊢; exact h3
    | false =>
      simp [hk] at h3 ⊢
      constructor
      · intro h; omega
      · rintro rfl; exact h3
theorem holds_t (i : In) (f : Fld) (v : Int) : holdsSpec { i with t := v } f = if f.kind = 6 then decide (v < 32) else holdsSpec i f := by
  unfold holdsSpec
  by_cases h : f.kind = 6 <;> simp [h]
theorem turn_t {i : In} (hR : rightF i = true) (v : Int) (hv : v < 32) : rightF { i with t := v } = (hasF i.op 6 || decide (({ i with t := v } : In) = i)) := by
  refine turn_core (i := i) (x := { i with t := v }) 6 rfl hR (fun f hf => ?_) ⟨rfl, rfl⟩ ?_
  · rw [holds_t]
    split
    · exact decide_eq_true hv
    · exact right_holds hR f hf
  · obtain ⟨_, _, h3, _⟩ := (right_iff i).1 hR
    obtain ⟨a1, a2, a3, a4, a5, a6, a7, a8, a9, a10, a11⟩ := i
    unfold leftOk at h3 ⊢
    simp only [In.mk.injEq, true_and, and_true] at h3 ⊢
    cases hk : anyK (fieldsOf a1) 6 with
    | true => simp [hk] at h3 ⊢; exact h3
    | false =>
      simp [hk] at h3 ⊢
      constructor
      · intro h; omega
      · rintro rfl; exact h3
theorem holds_n (i : In) (f : Fld) (v : Int) : holdsSpec { i with n := v } f = if f.kind = 7 then decide (v < 2) else holdsSpec i f := by
  unfold holdsSpec
  by_cases h : f.kind = 7 <;> simp [h]
theorem turn_n {i : In} (hR : rightF i = true) (v : Int) (hv : v < 2) : rightF { i with n := v } = (hasF i.op 7 || decide (({ i with n := v } : In) = i)) := by
  refine turn_core (i := i) (x := { i with n := v }) 7 rfl hR (fun f hf => ?_) ⟨rfl, rfl⟩ ?_
  · rw [holds_n]
    split
    · exact decide_eq_true hv
    · exact right_holds hR f hf
  · obtain ⟨_, _, h3, _⟩ := (right_iff i).1 hR
    obtain ⟨a1, a2, a3, a4, a5, a6, a7, a8, a9, a10, a11⟩ := i
    unfold leftOk at h3 ⊢
    simp only [In.mk.injEq, true_and, and_true] at h3 ⊢
    cases hk : anyK (fieldsOf a1) 7 with
    | true => simp [hk] at h3 ⊢; exact h3
    | false =>
      simp [hk] at h3 ⊢
      constructor
      · intro h; omega
      · rintro rfl; exact h3
theorem holds_count (i : In) (f : Fld) (v : Int) : holdsSpec { i with count := v } f = if f.kind = 11 then decide (v < 2048) else holdsSpec i f := by
  unfold holdsSpec
  by_cases h : f.kind = 11 <;> simp [h]
theorem turn_count {i : In} (hR : rightF i = true) (v : Int) (hv : v < 2048) : rightF { i with count := v } = (hasF i.op 11 || decide (({ i with count := v } : In) = i)) := by
  refine turn_core (i := i) (x := { i with count := v }) 11 rfl hR (fun f hf => ?_) ⟨rfl, rfl⟩ ?_
  · rw [holds_count]
    split
    · exact decide_eq_true hv
    · exact right_holds hR f hf
  · obtain ⟨_, _, h3, _⟩ := (right_iff i).1 hR
    obtain ⟨a1, a2, a3, a4, a5, a6, a7, a8, a9, a10, a11⟩ := i
    unfold leftOk at h3 ⊢
    simp only [In.mk.injEq, true_and, and_true] at h3 ⊢
    cases hk : anyK (fieldsOf a1) 11 with
    | true => simp [hk] at h3 ⊢; exact h3
    | false =>
      simp [hk] at h3 ⊢
      constructor
      · intro h; omega
      · rintro rfl; exact h3
theorem holds_nw (i : In) (f : Fld) (v : Bool) : holdsSpec { i with nw := v } f = holdsSpec i f := by
  unfold holdsSpec
  rfl
theorem turn_nw {i : In} (hR : rightF i = true) (v : Bool) : rightF { i with nw := v } = (hasF i.op 8 || decide (({ i with nw := v } : In) = i)) := by
  refine turn_core (i := i) (x := { i with nw := v }) 8 rfl hR (fun f hf => ?_) ⟨rfl, rfl⟩ ?_
  · rw [holds_nw]; exact right_holds hR f hf
  · obtain ⟨_, _, h3, _⟩ := (right_iff i).1 hR
    obtain ⟨a1, a2, a3, a4, a5, a6, a7, a8, a9, a10, a11⟩ := i
    unfold leftOk at h3 ⊢
    simp only [In.mk.injEq, true_and, and_true] at h3 ⊢
    cases hk : anyK (fieldsOf a1) 8 with
    | true => simp [hk] at h3 ⊢; exact h3
    | false =>
      simp [hk] at h3 ⊢
      constructor
      · intro h; rw [h.2.2.2.2.2.2.1, h3.2.2.2.2.2.2.1]
      · rintro rfl; exact h3
end Go.V
