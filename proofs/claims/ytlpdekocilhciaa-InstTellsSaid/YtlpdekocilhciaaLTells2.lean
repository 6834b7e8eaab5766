/- The document's answers are inst's. -/
import Derived.Test.YtlpdekocilhciaaRef04d
set_option linter.unusedVariables false
set_option linter.unusedSimpArgs false
set_option linter.unusedSectionVars false
/- The document's answers are inst's. -/
namespace Go.V
open Go
set_option linter.unusedSimpArgs false
set_option linter.unusedVariables false
theorem ops_all (p : Int → Bool) (h : ((List.range 32).all fun n => p (Int.ofNat n)) = true) (h0 : ∀ op, isaRow op = none → p op = true) (op : Int) : p op = true := by
  cases hr : isaRow op with
  | none => exact h0 op hr
  | some r => exact isa_all h hr
theorem has_out {op k : Int} (h : isaRow op = none) : hasF op k = false := by simp [hasF, fieldsOf, h]
theorem op_cond (op : Int) : hasF op 1 = decide (kindF op = 1 ∨ kindF op = 3 ∨ kindF op = 4 ∨ kindF op = 12 ∨ kindF op = 13) := by
  have := ops_all (fun op => hasF op 1 == decide (kindF op = 1 ∨ kindF op = 3 ∨ kindF op = 4 ∨ kindF op = 12 ∨ kindF op = 13)) (by decide +kernel) (fun op h => by simp [has_out h, row_out h]) op
  simpa using this
theorem op_facts {op : Int} {r : IRow} (hr : isaRow op = some r) : (decide (op = 29) = decide (kindF op = 14)) ∧ (decide (op = 14) = decide (kindF op = 7)) ∧ (hasF op 3 = decide ((1 ≤ kindF op ∧ kindF op ≤ 4) ∨ (7 ≤ kindF op ∧ kindF op ≤ 10))) ∧ (hasF op 4 = decide (kindF op = 5 ∨ kindF op = 6)) ∧ (hasF op 10 = decide (kindF op = 12 ∨ kindF op = 14 ∨ kindF op = 15 ∨ kindF op = 16)) ∧ (hasF op 5 = rsK (kindF op)) ∧ (hasF op 6 = (rtK (kindF op) || decide (kindF op = 11))) := by
  have := isa_all (p := fun op => decide ((decide (op = 29) = decide (kindF op = 14)) ∧ (decide (op = 14) = decide (kindF op = 7)) ∧ (hasF op 3 = decide ((1 ≤ kindF op ∧ kindF op ≤ 4) ∨ (7 ≤ kindF op ∧ kindF op ≤ 10))) ∧ (hasF op 4 = decide (kindF op = 5 ∨ kindF op = 6)) ∧ (hasF op 10 = decide (kindF op = 12 ∨ kindF op = 14 ∨ kindF op = 15 ∨ kindF op = 16)) ∧ (hasF op 5 = rsK (kindF op)) ∧ (hasF op 6 = (rtK (kindF op) || decide (kindF op = 11))))) (by decide +kernel) hr
  exact of_decide_eq_true this
theorem eq_writes (i : In) (hi : In.ok i = true) : rWritesF i = writesF i := by
  unfold rWritesF writesF
  rw [ref_right i hi]
  cases h : rightF i with
  | false => rfl
  | true =>
    obtain ⟨r, hr, _⟩ := right_row h
    obtain ⟨f1, f2, f3, f4, f5, f6, f7⟩ := op_facts hr
    rw [decide_eq_decide] at f1
    simp only [f1, f3, decide_eq_true_eq]
theorem eq_writesPred (i : In) (hi : In.ok i = true) : rWritesPredF i = writesPredF i := by
  unfold rWritesPredF writesPredF
  rw [ref_right i hi]
  cases h : rightF i with
  | false => simp
  | true =>
    obtain ⟨r, hr, _⟩ := right_row h
    obtain ⟨f1, f2, f3, f4, f5, f6, f7⟩ := op_facts hr
    simp only [f4, decide_eq_true_eq]
theorem eq_readsPred (i : In) (hi : In.ok i = true) : rReadsPredF i = readsPredF i := by
  unfold rReadsPredF readsPredF
  rw [ref_right i hi]
  cases h : rightF i with
  | false => simp
  | true =>
    obtain ⟨r, hr, _⟩ := right_row h
    obtain ⟨f1, f2, f3, f4, f5, f6, f7⟩ := op_facts hr
    rw [decide_eq_decide] at f2
    simp only [f2, ne_eq]
    have : decide (2 < i.mode) = decide (3 ≤ i.mode) := by rw [decide_eq_decide]; omega
    rw [this]
theorem eq_target (i : In) (hi : In.ok i = true) : rTargetF i = targetF i := by
  unfold rTargetF targetF
  rw [ref_right i hi]
  cases h : rightF i with
  | false => simp
  | true =>
    obtain ⟨r, hr, _⟩ := right_row h
    obtain ⟨f1, f2, f3, f4, f5, f6, f7⟩ := op_facts hr
    simp only [f5, decide_eq_true_eq]
theorem ref_nw {i : In} (h : refF i = true) (hk : rtK (kindF i.op) = true) : i.nw = false := by
  simp only [refF, Bool.and_eq_true, decide_eq_true_eq] at h
  have hw := congrArg In.nw h.2.2.2
  simp only [rtK, decide_eq_true_eq] at hk
  unfold wayF at hw
  rcases hk with hk | hk | hk | hk <;> (rw [hk] at hw; exact hw.symm)
theorem eq_reads (i : In) (hi : In.ok i = true) (j : Nat) : rReadsM i j = decide ((j : Int) ∈ readsF i) := by
  unfold rReadsM readsF
  rw [ref_right i hi]
  cases h : rightF i with
  | false => simp
  | true =>
    obtain ⟨r, hr, _⟩ := right_row h
    obtain ⟨f1, f2, f3, f4, f5, f6, f7⟩ := op_facts hr
    have hn := ref_nw (i := i) (by rw [ref_right i hi]; exact h)
    rw [f6, f7]
    cases hs : rsK (kindF i.op) <;> cases ht : rtK (kindF i.op) <;> by_cases h11 : kindF i.op = 11 <;> cases hnw : i.nw <;> simp [ht, hnw] at hn <;> simp [h11] <;> (try (repeat' split)) <;> simp <;> (try (rw [Bool.eq_iff_iff]; simp; omega)) <;> (try (intros; omega))
theorem eq_class (i : In) (K : Int) (h : K = classF i.op) : (AV.int .u8 K) = classR i.op := by rw [h]; rfl
end Go.V
