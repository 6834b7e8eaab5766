/- An instruction that came in. -/
import Derived.Test.YtkjddipkaaelaaaDoorVE
import Derived.Test.YtkjddipkaaelaaaDoorSA
set_option linter.unusedVariables false
set_option linter.unusedSimpArgs false
set_option linter.unusedSectionVars false
/- An instruction that came in. -/
namespace Go.V
open Go Go.RowKit

theorem isByte_of {n : Int} (h1 : 0 ≤ n) (h2 : n ≤ 255) : isByte n = true := by
  cases n with
  | ofNat n => simp only [isByte]; exact Nat.ble_eq_true_of_le (by have : (n : Int) ≤ 255 := h2; omega)
  | negSucc n => exact absurd h1 (by omega)
theorem inst_arg {P : Program} {W : World} {base : Nat} {t u8 b u16 i64 : TypeId} {v : Value} {fs : Array Field} (ht : P.underlying t = some (.struct fs)) (hn : P.cellsOf t = 11) (hc : P.cellTypes P.depth t = some [u8, u8, u8, u8, u8, u8, u8, b, b, u16, i64])
    (h8 : P.underlying u8 = some (.int .u8)) (hb : P.underlying b = some .bool) (h16 : P.underlying u16 = some (.int .u16)) (h64 : P.underlying i64 = some (.int .i64)) (h : Value.okWide P W .any base t v) : ∃ i : In, i.ok = true ∧ VRel phi0 (.agg i.cells) v := by
  unfold Value.okWide at h
  rw [ht] at h
  obtain ⟨cs, rfl, hsz, ts, hts, _, hcell⟩ := h
  rw [hc] at hts
  cases hts
  rw [hn] at hsz
  obtain ⟨l⟩ := cs
  have hl : l.length = 11 := hsz
  match l, hl with
  | [c0, c1, c2, c3, c4, c5, c6, c7, c8, c9, c10], _ =>
    obtain ⟨u, e, q0⟩ := hcell 0 c0 rfl; cases e
    obtain ⟨u, e, q1⟩ := hcell 1 c1 rfl; cases e
    obtain ⟨u, e, q2⟩ := hcell 2 c2 rfl; cases e
    obtain ⟨u, e, q3⟩ := hcell 3 c3 rfl; cases e
    obtain ⟨u, e, q4⟩ := hcell 4 c4 rfl; cases e
    obtain ⟨u, e, q5⟩ := hcell 5 c5 rfl; cases e
    obtain ⟨u, e, q6⟩ := hcell 6 c6 rfl; cases e
    obtain ⟨u, e, q7⟩ := hcell 7 c7 rfl; cases e
    obtain ⟨u, e, q8⟩ := hcell 8 c8 rfl; cases e
    obtain ⟨u, e, q9⟩ := hcell 9 c9 rfl; cases e
    obtain ⟨u, e, q10⟩ := hcell 10 c10 rfl; cases e
    obtain ⟨n0, rfl, a0, b0⟩ := cell_int h8 q0
    obtain ⟨n1, rfl, a1, b1⟩ := cell_int h8 q1
    obtain ⟨n2, rfl, a2, b2⟩ := cell_int h8 q2
    obtain ⟨n3, rfl, a3, b3⟩ := cell_int h8 q3
    obtain ⟨n4, rfl, a4, b4⟩ := cell_int h8 q4
    obtain ⟨n5, rfl, a5, b5⟩ := cell_int h8 q5
    obtain ⟨n6, rfl, a6, b6⟩ := cell_int h8 q6
    obtain ⟨n7, rfl⟩ := cell_bool hb q7
    obtain ⟨n8, rfl⟩ := cell_bool hb q8
    obtain ⟨n9, rfl, a9, b9⟩ := cell_int h16 q9
    obtain ⟨n10, rfl, a10, b10⟩ := cell_int h64 q10
    refine ⟨⟨n0, n1, n2, n3, n4, n5, n6, n7, n8, n9, n10⟩, ?_, .agg (.cons (.int _ _) (.cons (.int _ _) (.cons (.int _ _) (.cons (.int _ _) (.cons (.int _ _) (.cons (.int _ _) (.cons (.int _ _) (.cons (.bool _) (.cons (.bool _) (.cons (.int _ _) (.cons (.int _ _) .nil)))))))))))⟩
    simp [IntKind.min, IntKind.max, IntKind.signed, IntKind.bits] at a0 b0 a1 b1 a2 b2 a3 b3 a4 b4 a5 b5 a6 b6 a9 b9 a10 b10
    simp only [In.ok, isI64, isByte_of a0 b0, isByte_of a1 b1, isByte_of a2 b2, isByte_of a3 b3, isByte_of a4 b4, isByte_of a5 b5, isByte_of a6 b6, Bool.true_and, Bool.and_eq_true, decide_eq_true_eq]
    omega
end Go.V
