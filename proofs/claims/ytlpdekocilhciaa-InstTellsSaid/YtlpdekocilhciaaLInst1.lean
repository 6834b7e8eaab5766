/- The plain facts behind InstOne. -/
import Derived.Test.YtlpdekocilhciaaSort2
set_option linter.unusedVariables false
set_option linter.unusedSimpArgs false
set_option linter.unusedSectionVars false
/- The plain facts behind InstOne. -/
namespace Go.V
open Go
set_option linter.unusedSimpArgs false
set_option linter.unusedVariables false

theorem okF_false (i : In) : ∀ (fs : List Fld), okF i fs false = false
  | [] => rfl
  | f :: l => by
    show okF i l (false && holdsSpec i f) = false
    rw [Bool.false_and]; exact okF_false i l
theorem okF_all (i : In) : ∀ (fs : List Fld) (b : Bool), okF i fs b = (b && fs.all (holdsSpec i))
  | [], b => by simp [okF]
  | f :: l, b => by
    show okF i l (b && holdsSpec i f) = _
    rw [okF_all i l, List.all_cons, Bool.and_assoc]

theorem right_row {i : In} (h : rightF i = true) : ∃ r, isaRow i.op = some r ∧ r.fields.all (holdsSpec i) = true := by
  unfold rightF at h
  simp only [Bool.and_eq_true] at h
  cases hr : isaRow i.op with
  | none =>
    rw [hr] at h
    simp only [Option.isSome_none, okF_false] at h
    exact absurd h.1 (by simp)
  | some r =>
    refine ⟨r, rfl, ?_⟩
    have := h.1
    rw [okF_all] at this
    simp only [fieldsOf, hr, Bool.and_eq_true] at this
    exact this.2
theorem right_holds {i : In} (h : rightF i = true) : ∀ f ∈ fieldsOf i.op, holdsSpec i f = true := by
  obtain ⟨r, h1, h2⟩ := right_row h
  simp only [fieldsOf, h1]
  exact List.all_eq_true.1 h2

theorem at_mem (kind : Int) : ∀ (l : List Fld) (a : Int), (atSpec kind l a).2.2 = true → (atSpec kind l a).1 ∈ l ∧ (atSpec kind l a).1.kind = kind
  | [], a, h => by simp [atSpec] at h
  | f :: l, a, h => by
    simp only [atSpec] at h ⊢
    by_cases hk : f.kind = kind
    · simp only [if_pos hk]; exact ⟨by simp, hk⟩
    · simp only [if_neg hk] at h ⊢
      have := at_mem kind l _ h
      exact ⟨List.mem_cons_of_mem _ this.1, this.2⟩

theorem isaRow_range {op : Int} {r : IRow} (h : isaRow op = some r) : 1 ≤ op ∧ op ≤ 31 := by
  unfold isaRow at h
  split at h
  · split at h
    · cases h
    · rename_i n
      have := (List.getElem?_eq_some_iff.1 h).1
      have hl : isaRows.length = 31 := rfl
      constructor
      · show (1 : Int) ≤ ((n + 1 : Nat) : Int); omega
      · show ((n + 1 : Nat) : Int) ≤ 31; omega
  · cases h
/-- A fact of all rows, from the kernel. -/
theorem isa_all {p : Int → Bool} (h : ((List.range 32).all fun n => p (Int.ofNat n)) = true) {op : Int} {r : IRow} (hr : isaRow op = some r) : p op = true := by
  have := isaRow_range hr
  have h1 : op.toNat ∈ List.range 32 := by simp; omega
  have h2 := List.all_eq_true.1 h _ h1
  have h3 : Int.ofNat op.toNat = op := Int.toNat_of_nonneg (by omega)
  rwa [h3] at h2

theorem no_both (i : In) (h : (writesF i).2 = true) : (writesPredF i).2 = false := by
  unfold writesF at h
  unfold writesPredF
  split at h
  · rename_i hR
    obtain ⟨r, hr, _⟩ := right_row hR
    have h1 := isa_all (p := fun op => !(hasF op 4 && (decide (op = 29) || hasF op 3))) (by decide +kernel) hr
    split
    · rename_i h2
      exfalso
      rw [h2.2] at h1
      split at h
      · rename_i h3
        rw [decide_eq_true h3] at h1; simp at h1
      · split at h
        · rename_i h3; rw [h3] at h1; simp at h1
        · simp at h
    · rfl
  · simp at h

theorem reads_shape (i : In) : readsF i = [] ∨ (∃ x, readsF i = [x]) ∨ ∃ x y, x < y ∧ readsF i = [x, y] := by
  unfold readsF
  repeat' split
  all_goals first
    | exact .inl rfl
    | exact .inr (.inl ⟨_, rfl⟩)
    | exact .inr (.inr ⟨_, _, by omega, rfl⟩)
theorem reads_not {i : In} (h : rightF i = false) : readsF i = [] := by simp [readsF, h]
theorem writes_not {i : In} (h : rightF i = false) : writesF i = (0, false) := by simp [writesF, h]
theorem writesPred_not {i : In} (h : rightF i = false) : writesPredF i = (0, false) := by simp [writesPredF, h]
theorem target_not {i : In} (h : rightF i = false) : targetF i = (0, false) := by simp [targetF, h]

theorem has_mem {op kind : Int} (h : hasF op kind = true) : ∃ f ∈ fieldsOf op, f.kind = kind := by
  unfold hasF at h
  obtain ⟨f, h1, h2⟩ := List.any_eq_true.1 h
  exact ⟨f, h1, by simpa using h2⟩
theorem target_4 (i : In) : (targetF i).1 % 4 = 0 ∧ ((targetF i).2 = true → (targetF i).1 = i.imm) := by
  unfold targetF
  split
  · rename_i h
    obtain ⟨f, h1, h2⟩ := has_mem h.2
    have := right_holds h.1 f h1
    unfold holdsSpec at this
    simp [h2] at this
    constructor
    · show i.imm % 4294967296 % 4 = 0; omega
    · intro _; show i.imm % 4294967296 = i.imm; omega
  · simp
theorem imm_fits {i : In} (h : rightF i = true) (h9 : (atSpec 9 (fieldsOf i.op) 24).2.2 = true) (he : i.ext = false) :
    ((atSpec 9 (fieldsOf i.op) 24).1.bits, (atSpec 9 (fieldsOf i.op) 24).1.shift, (atSpec 9 (fieldsOf i.op) 24).1.signed) ∈ fitsKnown ∧ fitsSpec i.imm (atSpec 9 (fieldsOf i.op) 24).1.bits (atSpec 9 (fieldsOf i.op) 24).1.shift (atSpec 9 (fieldsOf i.op) 24).1.signed = true := by
  obtain ⟨h1, h2⟩ := at_mem 9 _ _ h9
  have h3 := right_holds h _ h1
  obtain ⟨r, hr, _⟩ := right_row h
  have h4 : fldOk (atSpec 9 (fieldsOf i.op) 24).1 = true := isaRow_fldOk hr _ (by simp only [fieldsOf, hr] at h1 ⊢; exact h1)
  constructor
  · simpa [fldOk, h2] using h4
  · unfold holdsSpec at h3
    simpa [h2, he] using h3
end Go.V
