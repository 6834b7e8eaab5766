/- The document's Right is inst's. -/
import Derived.Test.YtlpdekocilhciaaRef04b
set_option linter.unusedVariables false
set_option linter.unusedSimpArgs false
set_option linter.unusedSectionVars false
/- The document's Right is inst's. -/
namespace Go.V
open Go
set_option linter.unusedSimpArgs false
set_option linter.unusedVariables false
theorem within_eq (i : In) (n sc : Int) (hsc : sc ≠ 0) : withinRF i n sc = if i.ext = true then decide (-2147483648 ≤ i.imm) && decide (i.imm ≤ 2147483647) else decide (i.imm % sc = 0) && (decide (-(2 ^ (n - 1).toNat) ≤ i.imm / sc) && decide (i.imm / sc < 2 ^ (n - 1).toNat)) := by
  unfold withinRF
  split
  · rfl
  · by_cases h : i.imm % sc = 0
    · rw [Int.tdiv_eq_ediv_of_dvd (Int.dvd_of_emod_eq_zero h)]
    · simp [h]
theorem row_out {op : Int} (h : isaRow op = none) : kindF op = 0 := by
  unfold isaRow at h
  unfold kindF
  split
  · rename_i n
    split
    · rename_i k hk
      cases n with
      | zero => simp at hk; exact hk.symm
      | succ n =>
        simp only [] at h
        have h1 := (List.getElem?_eq_some_iff.1 hk).1
        have h2 : isaRows.length = 31 := rfl
        have h3 : isaRows.length ≤ n := List.getElem?_eq_none_iff.1 h
        simp at h1
        omega
    · rfl
  · rfl
theorem isByte_lt {a : Int} (h : isByte a = true) : 0 ≤ a ∧ a < 256 := by
  unfold isByte at h
  split at h
  · rename_i n
    have : n + 1 ≤ 256 := Nat.le_of_ble_eq_true h
    show (0 : Int) ≤ (n : Int) ∧ (n : Int) < 256
    omega
  · cases h
set_option maxHeartbeats 4000000 in
theorem ref_right (i : In) (hok : In.ok i = true) : refF i = rightF i := by
  cases hr : isaRow i.op with
  | none =>
    have h1 := row_out hr
    have h2 : rightF i = false := by
      cases h : rightF i with
      | false => rfl
      | true =>
        have := ((right_iff i).1 h).1
        rw [hr] at this; cases this
    rw [h2]
    simp [refF, h1]
  | some r =>
    obtain ⟨l1, l2⟩ := isaRow_range hr
    clear hr
    rw [Bool.eq_iff_iff, right_iff]
    obtain ⟨a1, a2, a3, a4, a5, a6, a7, a8, a9, a10, a11⟩ := i
    simp only [In.ok, Bool.and_eq_true] at hok
    obtain ⟨-, hd, hs, ht, hn, hp, hm, hc, -⟩ := hok
    have b1 := isByte_lt hd
    have b2 := isByte_lt hs
    have b3 := isByte_lt ht
    have b4 := isByte_lt hn
    have b5 := isByte_lt hp
    have b6 := isByte_lt hm
    have b7 := of_decide_eq_true hc
    clear hd hs ht hn hp hm hc
    try simp only [] at b1 b2 b3 b4 b5 b6 b7
    simp only [] at l1 l2
    have hop : a1 = 1 ∨ a1 = 2 ∨ a1 = 3 ∨ a1 = 4 ∨ a1 = 5 ∨ a1 = 6 ∨ a1 = 7 ∨ a1 = 8 ∨ a1 = 9 ∨ a1 = 10 ∨ a1 = 11 ∨ a1 = 12 ∨ a1 = 13 ∨ a1 = 14 ∨ a1 = 15 ∨ a1 = 16 ∨ a1 = 17 ∨ a1 = 18 ∨ a1 = 19 ∨ a1 = 20 ∨ a1 = 21 ∨ a1 = 22 ∨ a1 = 23 ∨ a1 = 24 ∨ a1 = 25 ∨ a1 = 26 ∨ a1 = 27 ∨ a1 = 28 ∨ a1 = 29 ∨ a1 = 30 ∨ a1 = 31 := by omega
    have w1 := fun i : In => within_eq i 14 1 (by decide)
    have w2 := fun i : In => within_eq i 12 1 (by decide)
    have w3 := fun i : In => within_eq i 12 2 (by decide)
    have w4 := fun i : In => within_eq i 12 4 (by decide)
    rcases hop with rfl | rfl | rfl | rfl | rfl | rfl | rfl | rfl | rfl | rfl | rfl | rfl | rfl | rfl | rfl | rfl | rfl | rfl | rfl | rfl | rfl | rfl | rfl | rfl | rfl | rfl | rfl | rfl | rfl | rfl | rfl
    all_goals
      simp [refF, kindF, regsF, asksF, wayF, fieldsOf, isaRow, isaRows, leftOk, anyK, anyE, hasF, holdsSpec, condRF, targetRF, fitsSpec, scaleF, w1, w2, w3, w4]
    all_goals clear w1 w2 w3 w4
    all_goals cases a8 <;> cases a9 <;> simp <;> (try (intros; constructor <;> intro h <;> omega))
end Go.V
