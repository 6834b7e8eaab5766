/- slices.breakPatternsOrdered, pdqsortOrdered, Sort over the small language. (Printed by mkpdqm.py.) -/
import Derived.Test.YtlpdekocilhciaaPdqK
set_option linter.unusedVariables false
set_option linter.unusedSimpArgs false
set_option linter.unusedSectionVars false
/- slices.breakPatternsOrdered, pdqsortOrdered, Sort over the small language. (Printed by mkpdqm.py.) -/
namespace Go.V
open Go
set_option linter.unusedSimpArgs false
set_option linter.unusedVariables false
-- slices.pdqsortOrdered[uint32]
def ir95 : IFunc := ⟨134, [], (.seq (.region [⟨some 8, none, [], (.move (.c (.bool true)))⟩] false)
 (.seq (.region [⟨some 9, none, [], (.move (.c (.bool true)))⟩] false)
 (.block 0 (.loop (.block 1 (.seq (.region [⟨some 19, none, [], (.move (.t 2))⟩, ⟨some 20, none, [], (.move (.t 1))⟩, ⟨some 21, none, [], (.bin .sub (.t 19) (.t 20))⟩, ⟨some 10, none, [], (.move (.t 21))⟩] false)
 (.seq (.seq (.region [⟨some 22, none, [], (.move (.t 10))⟩, ⟨some 23, none, [], (.bin .leq (.t 22) (.c (.int .i64 12)))⟩] false)
 (.cond (.t 23) (.seq (.region [⟨some 24, none, [], (.move (.t 0))⟩, ⟨some 25, none, [], (.move (.t 1))⟩, ⟨some 26, none, [], (.move (.t 2))⟩, ⟨some 27, none, [], (.call 134 [(.t 24), (.t 25), (.t 26)])⟩] false)
 .ret) .skip))
 (.seq (.seq (.region [⟨some 28, none, [], (.move (.t 3))⟩, ⟨some 29, none, [], (.bin .eql (.t 28) (.c (.int .i64 0)))⟩] false)
 (.cond (.t 29) (.seq (.region [⟨some 30, none, [], (.move (.t 0))⟩, ⟨some 31, none, [], (.move (.t 1))⟩, ⟨some 32, none, [], (.move (.t 2))⟩, ⟨some 33, none, [], (.call 135 [(.t 30), (.t 31), (.t 32)])⟩] false)
 .ret) .skip))
 (.seq (.seq (.region [⟨some 34, none, [], (.move (.t 8))⟩, ⟨some 35, none, [], (.un .not (.t 34))⟩] false)
 (.cond (.t 35) (.seq (.region [⟨some 36, none, [], (.move (.t 0))⟩, ⟨some 37, none, [], (.move (.t 1))⟩, ⟨some 38, none, [], (.move (.t 2))⟩, ⟨some 39, none, [], (.call 136 [(.t 36), (.t 37), (.t 38)])⟩] false)
 (.region [⟨some 40, none, [], (.move (.t 3))⟩, ⟨some 41, none, [], (.bin .sub (.t 40) (.c (.int .i64 1)))⟩, ⟨some 3, none, [], (.move (.t 41))⟩] false)) .skip))
 (.seq (.region [⟨some 43, none, [], (.move (.t 0))⟩, ⟨some 44, none, [], (.move (.t 1))⟩, ⟨some 45, none, [], (.move (.t 2))⟩, ⟨some 46, none, [], (.call 137 [(.t 43), (.t 44), (.t 45)])⟩, ⟨some 42, none, [], (.move (.t 46))⟩, ⟨some 47, none, [], (.extract (.t 42) 0)⟩, ⟨some 48, none, [], (.extract (.t 42) 1)⟩, ⟨some 11, none, [], (.move (.t 47))⟩, ⟨some 12, none, [], (.move (.t 48))⟩] false)
 (.seq (.seq (.region [⟨some 49, none, [], (.move (.t 12))⟩, ⟨some 50, none, [], (.bin .eql (.t 49) (.c (.int .i64 2)))⟩] false)
 (.cond (.t 50) (.seq (.region [⟨some 51, none, [], (.move (.t 0))⟩, ⟨some 52, none, [], (.move (.t 1))⟩, ⟨some 53, none, [], (.move (.t 2))⟩, ⟨some 54, none, [], (.call 138 [(.t 51), (.t 52), (.t 53)])⟩] false)
 (.seq (.region [⟨some 55, none, [], (.move (.t 2))⟩, ⟨some 56, none, [], (.bin .sub (.t 55) (.c (.int .i64 1)))⟩, ⟨some 57, none, [], (.move (.t 11))⟩, ⟨some 58, none, [], (.move (.t 1))⟩, ⟨some 59, none, [], (.bin .sub (.t 57) (.t 58))⟩, ⟨some 60, none, [], (.bin .sub (.t 56) (.t 59))⟩, ⟨some 11, none, [], (.move (.t 60))⟩] false)
 (.region [⟨some 12, none, [], (.move (.c (.int .i64 1)))⟩] false))) .skip))
 (.seq (.seq (.region [⟨some 61, none, [], (.move (.t 8))⟩, ⟨some 62, none, [], (.move (.t 61))⟩, ⟨some 63, some (62, true), [], (.move (.t 9))⟩, ⟨some 64, none, [], (.pick (.t 62) (.t 63) (.c (.bool false)))⟩, ⟨some 65, none, [], (.move (.t 64))⟩, ⟨some 66, some (65, true), [], (.move (.t 12))⟩, ⟨some 67, some (65, true), [], (.bin .eql (.t 66) (.c (.int .i64 1)))⟩, ⟨some 68, none, [], (.pick (.t 65) (.t 67) (.c (.bool false)))⟩] false)
 (.cond (.t 68) (.seq (.region [⟨some 69, none, [], (.move (.t 0))⟩, ⟨some 70, none, [], (.move (.t 1))⟩, ⟨some 71, none, [], (.move (.t 2))⟩, ⟨some 72, none, [], (.call 139 [(.t 69), (.t 70), (.t 71)])⟩] false)
 (.cond (.t 72) .ret .skip)) .skip))
 (.seq (.seq (.region [⟨some 73, none, [], (.move (.t 1))⟩, ⟨some 74, none, [], (.bin .gtr (.t 73) (.c (.int .i64 0)))⟩, ⟨some 75, none, [], (.move (.t 74))⟩, ⟨some 76, some (75, true), [], (.move (.t 0))⟩, ⟨some 77, some (75, true), [], (.move (.t 1))⟩, ⟨some 78, some (75, true), [], (.bin .sub (.t 77) (.c (.int .i64 1)))⟩, ⟨some 79, some (75, true), [], (.idxSl 1 (.t 76) (.t 78))⟩, ⟨some 80, some (75, true), [], (.load false 1 (.t 79))⟩, ⟨some 81, some (75, true), [], (.move (.t 0))⟩, ⟨some 82, some (75, true), [], (.move (.t 11))⟩, ⟨some 83, some (75, true), [], (.idxSl 1 (.t 81) (.t 82))⟩, ⟨some 84, some (75, true), [], (.load false 1 (.t 83))⟩, ⟨some 85, some (75, true), [], (.call 140 [(.t 80), (.t 84)])⟩, ⟨some 86, some (75, true), [], (.un .not (.t 85))⟩, ⟨some 87, none, [], (.pick (.t 75) (.t 86) (.c (.bool false)))⟩] true)
 (.cond (.t 87) (.seq (.region [⟨some 88, none, [], (.move (.t 0))⟩, ⟨some 89, none, [], (.move (.t 1))⟩, ⟨some 90, none, [], (.move (.t 2))⟩, ⟨some 91, none, [], (.move (.t 11))⟩, ⟨some 92, none, [], (.call 141 [(.t 88), (.t 89), (.t 90), (.t 91)])⟩, ⟨some 13, none, [], (.move (.t 92))⟩] false)
 (.seq (.region [⟨some 93, none, [], (.move (.t 13))⟩, ⟨some 1, none, [], (.move (.t 93))⟩] false)
 (.exit 1))) .skip))
 (.seq (.region [⟨some 95, none, [], (.move (.t 0))⟩, ⟨some 96, none, [], (.move (.t 1))⟩, ⟨some 97, none, [], (.move (.t 2))⟩, ⟨some 98, none, [], (.move (.t 11))⟩, ⟨some 99, none, [], (.call 142 [(.t 95), (.t 96), (.t 97), (.t 98)])⟩, ⟨some 94, none, [], (.move (.t 99))⟩, ⟨some 100, none, [], (.extract (.t 94) 0)⟩, ⟨some 101, none, [], (.extract (.t 94) 1)⟩, ⟨some 14, none, [], (.move (.t 100))⟩, ⟨some 15, none, [], (.move (.t 101))⟩] false)
 (.seq (.region [⟨some 102, none, [], (.move (.t 15))⟩, ⟨some 9, none, [], (.move (.t 102))⟩] false)
 (.seq (.region [⟨some 103, none, [], (.move (.t 14))⟩, ⟨some 104, none, [], (.move (.t 1))⟩, ⟨some 105, none, [], (.bin .sub (.t 103) (.t 104))⟩, ⟨some 106, none, [], (.move (.t 2))⟩, ⟨some 107, none, [], (.move (.t 14))⟩, ⟨some 108, none, [], (.bin .sub (.t 106) (.t 107))⟩, ⟨some 16, none, [], (.move (.t 105))⟩, ⟨some 17, none, [], (.move (.t 108))⟩] false)
 (.seq (.region [⟨some 109, none, [], (.move (.t 10))⟩, ⟨some 110, none, [], (.bin .quo (.t 109) (.c (.int .i64 8)))⟩, ⟨some 18, none, [], (.move (.t 110))⟩] false)
 (.seq (.region [⟨some 111, none, [], (.move (.t 16))⟩, ⟨some 112, none, [], (.move (.t 17))⟩, ⟨some 113, none, [], (.bin .lss (.t 111) (.t 112))⟩] false)
 (.cond (.t 113) (.seq (.region [⟨some 114, none, [], (.move (.t 16))⟩, ⟨some 115, none, [], (.move (.t 18))⟩, ⟨some 116, none, [], (.bin .geq (.t 114) (.t 115))⟩, ⟨some 8, none, [], (.move (.t 116))⟩] false)
 (.seq (.region [⟨some 117, none, [], (.move (.t 0))⟩, ⟨some 118, none, [], (.move (.t 1))⟩, ⟨some 119, none, [], (.move (.t 14))⟩, ⟨some 120, none, [], (.move (.t 3))⟩, ⟨some 121, none, [], (.call 95 [(.t 117), (.t 118), (.t 119), (.t 120)])⟩] false)
 (.region [⟨some 122, none, [], (.move (.t 14))⟩, ⟨some 123, none, [], (.bin .add (.t 122) (.c (.int .i64 1)))⟩, ⟨some 1, none, [], (.move (.t 123))⟩] false))) (.seq (.region [⟨some 124, none, [], (.move (.t 17))⟩, ⟨some 125, none, [], (.move (.t 18))⟩, ⟨some 126, none, [], (.bin .geq (.t 124) (.t 125))⟩, ⟨some 8, none, [], (.move (.t 126))⟩] false)
 (.seq (.region [⟨some 127, none, [], (.move (.t 0))⟩, ⟨some 128, none, [], (.move (.t 14))⟩, ⟨some 129, none, [], (.bin .add (.t 128) (.c (.int .i64 1)))⟩, ⟨some 130, none, [], (.move (.t 2))⟩, ⟨some 131, none, [], (.move (.t 3))⟩, ⟨some 132, none, [], (.call 95 [(.t 127), (.t 129), (.t 130), (.t 131)])⟩] false)
 (.region [⟨some 133, none, [], (.move (.t 14))⟩, ⟨some 2, none, [], (.move (.t 133))⟩] false))))))))))))))))))))))⟩
-- slices.Sort[[]uint32,uint32]
def ir81 : IFunc := ⟨11, [], (.seq (.region [⟨some 3, none, [], (.move (.t 0))⟩, ⟨some 4, none, [], (.lenSl (.t 3))⟩, ⟨some 2, none, [], (.move (.t 4))⟩] false)
 (.region [⟨some 5, none, [], (.move (.t 0))⟩, ⟨some 6, none, [], (.move (.t 2))⟩, ⟨some 7, none, [], (.move (.t 2))⟩, ⟨some 8, none, [], (.conv (.intInt .u64) (.t 7))⟩, ⟨some 9, none, [], (.call 88 [(.t 8)])⟩, ⟨some 10, none, [], (.call 95 [(.t 5), (.c (.int .i64 0)), (.t 6), (.t 9)])⟩] false))⟩
section
variable {α : Type} {en : α → AV} {lt : α → α → Bool} {T : Tab}
structure BxU (en : α → AV) (s0 : St) (B inc n : Nat) (f : Nat → α) (p : Nat) (s : St) : Prop where
  aft : Aft en s0 B inc n f s
  old : s0.next ≤ p
  lt : p < s.next
  box : ∃ z, s.heap.get p = some (.cells [.int .u64 z] 0 0 false)
theorem BxU.put {s0 s : St} {B inc n : Nat} {f : Nat → α} {p : Nat} (h : BxU en s0 B inc n f p s) (hB : B < s0.next) (z : Int) : BxU en s0 B inc n f p (s.put p (.cells [.int .u64 z] 0 0 false)) := by
  have := h.old
  obtain ⟨lo, h1, h2⟩ := h.aft.row
  refine ⟨⟨⟨lo, h1, by rw [put_get, if_neg (by omega)]; exact h2⟩, h.aft.wfs.put h.lt _, h.aft.next, fun id i1 i2 => by rw [put_get, if_neg (by omega)]; exact h.aft.same id i1 i2⟩, h.old, h.lt, ⟨z, by rw [put_get, if_pos rfl]⟩⟩
theorem BxU.row {s0 s : St} {B inc n : Nat} {f : Nat → α} {p : Nat} (h : BxU en s0 B inc n f p s) (hB : B < s0.next) (g : Nat → α) : BxU en s0 B inc n g p (s.put B (.cells (mp en n g) inc inc false)) := by
  have := h.old
  obtain ⟨z, hz⟩ := h.box
  exact ⟨h.aft.put hB g, h.old, h.lt, ⟨z, by rw [put_get, if_neg (by omega)]; exact hz⟩⟩
theorem BxU.new {s : St} {B inc n : Nat} {f : Nat → α} (h : Aft en s B inc n f s) (hB : B < s.next) (z : Int) : BxU en s B inc n f s.next (s.add (.cells [.int .u64 z] 0 0 false)) := by
  obtain ⟨lo, h1, h2⟩ := h.row
  exact ⟨⟨⟨lo, h1, by rw [add_get, if_neg (by omega)]; exact h2⟩, h.wfs.add _, by rw [add_next]; omega, fun id i1 _ => by rw [add_get, if_neg (by omega)]⟩, Nat.le_refl _, by rw [add_next]; omega, ⟨z, by rw [add_get, if_pos rfl]⟩⟩

set_option maxHeartbeats 8000000 in
theorem bp_loop (hx : T 147 = some (.code ir147)) (hL : LessOk T 140 en lt) {Q : Post} {s0 : St} {B inc n cap : Nat} {ex : Bool} (hB : B < s0.next) (hn : n ≤ 1000000000) (a b l q x M : Nat) (hl : a + l = b) (hl8 : 8 ≤ l) (hq : q = l / 4) (hxq : x = a + q * 2) (hM : 1 ≤ M) (hM2 : M ≤ 2 * l) (hbn : b ≤ n) (p : Nat) (f0 : Nat → α)
    (K : ∀ (e : Env) (s : St) (g : Nat → α), Aft en s0 B inc n g s → PermR a b f0 g → Q .normal e s) :
    ∀ (k i : Nat) (e : Env) (s : St) (g : Nat → α), k + i = x + 2 → x ≤ i + 1 → opd e (.t 0) = dsl B inc n cap ex → opd e (.t 1) = .int .i64 (a : Int) → opd e (.t 6) = .int .i64 (l : Int) → opd e (.t 7) = .ptr ⟨p, 0, 0, 1⟩ → opd e (.t 8) = .int .u64 (M : Int) → opd e (.t 9) = .int .i64 (i : Int) → BxU en s0 B inc n g p s → PermR a b f0 g →
      Go T Q ((.loop (.seq (.seq (.region [⟨some 26, none, [], (.move (.t 9))⟩, ⟨some 27, none, [], (.move (.t 1))⟩, ⟨some 28, none, [], (.move (.t 6))⟩, ⟨some 29, none, [], (.bin .quo (.t 28) (.c (.int .i64 4)))⟩, ⟨some 30, none, [], (.bin .mul (.t 29) (.c (.int .i64 2)))⟩, ⟨some 31, none, [], (.bin .add (.t 27) (.t 30))⟩, ⟨some 32, none, [], (.bin .add (.t 31) (.c (.int .i64 1)))⟩, ⟨some 33, none, [], (.bin .leq (.t 26) (.t 32))⟩] false)
 (.cond (.t 33) .skip (.exit 0)))
 (.seq (.block 1 (.seq (.region [⟨some 36, none, [], (.call 147 [(.t 7)])⟩, ⟨some 37, none, [], (.move (.t 8))⟩, ⟨some 38, none, [], (.bin .sub (.t 37) (.c (.int .u64 1)))⟩, ⟨some 39, none, [], (.bin .and (.t 36) (.t 38))⟩, ⟨some 40, none, [], (.conv (.intInt .i64) (.t 39))⟩, ⟨some 10, none, [], (.move (.t 40))⟩] false)
 (.seq (.seq (.region [⟨some 41, none, [], (.move (.t 10))⟩, ⟨some 42, none, [], (.move (.t 6))⟩, ⟨some 43, none, [], (.bin .geq (.t 41) (.t 42))⟩] false)
 (.cond (.t 43) (.region [⟨some 44, none, [], (.move (.t 10))⟩, ⟨some 45, none, [], (.move (.t 6))⟩, ⟨some 46, none, [], (.bin .sub (.t 44) (.t 45))⟩, ⟨some 10, none, [], (.move (.t 46))⟩] false) .skip))
 (.region [⟨some 47, none, [], (.move (.t 0))⟩, ⟨some 48, none, [], (.move (.t 9))⟩, ⟨some 49, none, [], (.move (.t 0))⟩, ⟨some 50, none, [], (.move (.t 1))⟩, ⟨some 51, none, [], (.move (.t 10))⟩, ⟨some 52, none, [], (.bin .add (.t 50) (.t 51))⟩, ⟨some 53, none, [], (.move (.t 0))⟩, ⟨some 54, none, [], (.move (.t 1))⟩, ⟨some 55, none, [], (.move (.t 10))⟩, ⟨some 56, none, [], (.bin .add (.t 54) (.t 55))⟩, ⟨some 57, none, [], (.idxSl 1 (.t 53) (.t 56))⟩, ⟨some 58, none, [], (.load false 1 (.t 57))⟩, ⟨some 59, none, [], (.move (.t 0))⟩, ⟨some 60, none, [], (.move (.t 9))⟩, ⟨some 61, none, [], (.idxSl 1 (.t 59) (.t 60))⟩, ⟨some 62, none, [], (.load false 1 (.t 61))⟩, ⟨some 63, none, [], (.idxSl 1 (.t 47) (.t 48))⟩, ⟨none, none, [], (.store 1 (.t 63) (.t 58))⟩, ⟨some 64, none, [], (.idxSl 1 (.t 49) (.t 52))⟩, ⟨none, none, [], (.store 1 (.t 64) (.t 62))⟩] true))))
 (.region [⟨some 34, none, [], (.move (.t 9))⟩, ⟨some 35, none, [], (.bin .add (.t 34) (.c (.int .i64 1)))⟩, ⟨some 9, none, [], (.move (.t 35))⟩] false))))) [.block 0] e s := by
  have kc := hL.cells
  have ki := hL.cell
  have u2 : wrapF .i64 (Int.tdiv (l : Int) 4) = (q : Int) := by
    have : Int.tdiv (l : Int) 4 = (l : Int) / 4 := Int.tdiv_eq_ediv_of_nonneg (by omega)
    rw [this, wrap_i64 _ (by omega) (by omega)]; omega
  have u5 : wrapF .i64 ((q : Int) * 2) = ((q * 2 : Nat) : Int) := by rw [wrap_i64 _ (by omega) (by omega)]; omega
  have u6 : wrapF .i64 ((a : Int) + ((q * 2 : Nat) : Int)) = (x : Int) := by rw [wrap_i64 _ (by omega) (by omega)]; omega
  have u7 : wrapF .i64 ((x : Int) + 1) = ((x + 1 : Nat) : Int) := i64_add1 (by omega)
  have uM : ((M : Int) - 1) % 18446744073709551616 = ((M - 1 : Nat) : Int) := by omega
  intro k
  induction k with
  | zero =>
    intro i e s g hk hi h0 h1 h6 h7 h8 h9 hX hP
    have hc : ¬ ((i : Int) ≤ ((x + 1 : Nat) : Int)) := by omega
    have hK := fun e => K e s g hX.aft hP
    rw [go_loop]
    simp only [h0, h1, h6, h7, h8, h9, u2, u5, u6, u7, hc, hK, wk, wk1, wk2, Option.some.injEq, exists_eq_left', decide_true, decide_false, Nat.reduceAdd, Nat.reduceEqDiff, Nat.reduceLeDiff, Nat.reduceLT, Nat.reduceMul, Nat.reduceBEq, Int.reduceLT, Int.reduceLE, Int.reduceEq, Int.reduceAdd, Int.reduceSub, Int.reduceMul, Int.reduceMod, Int.reduceTMod, Int.reduceTDiv, Int.reduceNeg, Nat.reduceSub, Nat.reduceDiv, reduceIte, reduceCtorEq]
  | succ k ih =>
    intro i e s g hk hi h0 h1 h6 h7 h8 h9 hX hP
    have hc : ((i : Int) ≤ ((x + 1 : Nat) : Int)) := by omega
    obtain ⟨z, hz⟩ := hX.box
    have u8 : wrapF .i64 ((i : Int) + 1) = ((i + 1 : Nat) : Int) := i64_add1 (by omega)
    rw [go_loop]
    simp only [h0, h1, h6, h7, h8, h9, u2, u5, u6, u7, hc, wk, wk1, wk2, Option.some.injEq, exists_eq_left', decide_true, decide_false, Nat.reduceAdd, Nat.reduceEqDiff, Nat.reduceLeDiff, Nat.reduceLT, Nat.reduceMul, Nat.reduceBEq, Int.reduceLT, Int.reduceLE, Int.reduceEq, Int.reduceAdd, Int.reduceSub, Int.reduceMul, Int.reduceMod, Int.reduceTMod, Int.reduceTDiv, Int.reduceNeg, Nat.reduceSub, Nat.reduceDiv, reduceIte, reduceCtorEq]
    refine goCall_by (xs_ran hx s p z hz) ?_
    rintro v s1 ⟨z', rfl, rfl⟩
    have hX1 := hX.put hB z'
    obtain ⟨c, hcM, hand⟩ := and_ex z' (M - 1) (by omega)
    have uc : wrapF .i64 (c : Int) = (c : Int) := wrap_i64 _ (by omega) (by omega)
    obtain ⟨σ, hσ⟩ : ∃ σ : St, σ = s.put p (.cells [.int .u64 z'] 0 0 false) := ⟨_, rfl⟩
    rw [← hσ] at hX1 ⊢
    -- what is behind the choice of the other
    have swapped : ∀ d : Nat, d < l → ∀ (w : Nat), w = a + d → wrapF .i64 ((a : Int) + (d : Int)) = (w : Int) ∧ w < n ∧ w + 1 ≤ n ∧ BxU en s0 B inc n (swp g i w) p (σ.put B (.cells (mp en n (swp g i w)) inc inc false)) ∧ PermR a b f0 (swp g i w) := by
      intro d hd w hw
      refine ⟨by rw [wrap_i64 _ (by omega) (by omega)]; omega, by omega, by omega, hX1.row hB _, hP.trans (PermR.swap (by omega) (by omega) (by omega) (by omega))⟩
    have hin : i < n := by omega
    have hi1 : i + 1 ≤ n := hin
    obtain ⟨lo', hlo, hrow⟩ := hX1.aft.row
    have r1 := mp_take (en := en) (f := g) hin
    have sp1 := fun f y => mp_splice (en := en) (f := f) (x := y) hin
    by_cases hcl : l ≤ c
    · have c2 : (l : Int) ≤ (c : Int) := by omega
      have u9 : wrapF .i64 ((c : Int) - (l : Int)) = ((c - l : Nat) : Int) := i64_sub (by omega) (by omega)
      obtain ⟨w, hw⟩ := op (a + (c - l))
      obtain ⟨v1, v2, v3, v4, v5⟩ := swapped (c - l) (by omega) w hw
      have r2 := mp_take (en := en) (f := g) v2
      have sp2 := fun f y => mp_splice (en := en) (f := f) (x := y) v2
      simp only [h0, h1, h6, h7, h8, h9, uM, hand, uc, c2, u9, u8, v1, v2, v3, hin, hi1, hrow, hlo, r1, r2, kc, ki, sp1, sp2, upd_swp, wk, wk1, wk2, Option.some.injEq, exists_eq_left', decide_true, decide_false, Nat.reduceAdd, Nat.reduceEqDiff, Nat.reduceLeDiff, Nat.reduceLT, Nat.reduceMul, Nat.reduceBEq, Int.reduceLT, Int.reduceLE, Int.reduceEq, Int.reduceAdd, Int.reduceSub, Int.reduceMul, Int.reduceMod, Int.reduceTMod, Int.reduceTDiv, Int.reduceNeg, Nat.reduceSub, Nat.reduceDiv, reduceIte, reduceCtorEq]
      refine ih (i + 1) _ _ _ (by omega) (by omega) ?_ ?_ ?_ ?_ ?_ ?_ v4 v5 <;> simp only [h0, h1, h6, h7, h8, h9, u8, wk, wk1, wk2, Option.some.injEq, exists_eq_left', decide_true, decide_false, Nat.reduceAdd, Nat.reduceEqDiff, Nat.reduceLeDiff, Nat.reduceLT, Nat.reduceMul, Nat.reduceBEq, Int.reduceLT, Int.reduceLE, Int.reduceEq, Int.reduceAdd, Int.reduceSub, Int.reduceMul, Int.reduceMod, Int.reduceTMod, Int.reduceTDiv, Int.reduceNeg, Nat.reduceSub, Nat.reduceDiv, reduceIte, reduceCtorEq]
    · have c2 : ¬ (l : Int) ≤ (c : Int) := by omega
      obtain ⟨w, hw⟩ := op (a + c)
      obtain ⟨v1, v2, v3, v4, v5⟩ := swapped c (by omega) w hw
      have r2 := mp_take (en := en) (f := g) v2
      have sp2 := fun f y => mp_splice (en := en) (f := f) (x := y) v2
      simp only [h0, h1, h6, h7, h8, h9, uM, hand, uc, c2, u8, v1, v2, v3, hin, hi1, hrow, hlo, r1, r2, kc, ki, sp1, sp2, upd_swp, wk, wk1, wk2, Option.some.injEq, exists_eq_left', decide_true, decide_false, Nat.reduceAdd, Nat.reduceEqDiff, Nat.reduceLeDiff, Nat.reduceLT, Nat.reduceMul, Nat.reduceBEq, Int.reduceLT, Int.reduceLE, Int.reduceEq, Int.reduceAdd, Int.reduceSub, Int.reduceMul, Int.reduceMod, Int.reduceTMod, Int.reduceTDiv, Int.reduceNeg, Nat.reduceSub, Nat.reduceDiv, reduceIte, reduceCtorEq]
      refine ih (i + 1) _ _ _ (by omega) (by omega) ?_ ?_ ?_ ?_ ?_ ?_ v4 v5 <;> simp only [h0, h1, h6, h7, h8, h9, u8, wk, wk1, wk2, Option.some.injEq, exists_eq_left', decide_true, decide_false, Nat.reduceAdd, Nat.reduceEqDiff, Nat.reduceLeDiff, Nat.reduceLT, Nat.reduceMul, Nat.reduceBEq, Int.reduceLT, Int.reduceLE, Int.reduceEq, Int.reduceAdd, Int.reduceSub, Int.reduceMul, Int.reduceMod, Int.reduceTMod, Int.reduceTDiv, Int.reduceNeg, Nat.reduceSub, Nat.reduceDiv, reduceIte, reduceCtorEq]

/-- The sort's functions. -/
structure SortTab (T : Tab) : Prop where
  ins : T 134 = some (.code ir134)
  sift : T 154 = some (.code ir154)
  heap : T 135 = some (.code ir135)
  len : T 88 = some (.code ir88)
  len64 : T 115 = some (.code ir115)
  pow2 : T 146 = some (.code ir146)
  xs : T 147 = some (.code ir147)
  brk : T 136 = some (.code ir136)
  o2 : T 161 = some (.code ir161)
  med : T 156 = some (.code ir156)
  medA : T 155 = some (.code ir155)
  piv : T 137 = some (.code ir137)
  rev : T 138 = some (.code ir138)
  pis : T 139 = some (.code ir139)
  pe : T 141 = some (.code ir141)
  po : T 142 = some (.code ir142)
  pdq : T 95 = some (.code ir95)

set_option maxHeartbeats 8000000 in
theorem bp_ran (hT : SortTab T) (hL : LessOk T 140 en lt) (s : St) (B inc n cap : Nat) (ex : Bool) (hB : B < s.next) (hn : n ≤ 1000000000) (a b : Nat) (hab : a + 13 ≤ b) (hbn : b ≤ n) (f : Nat → α) (hA : Aft en s B inc n f s) :
    Ran T 136 [dsl B inc n cap ex, .int .i64 (a : Int), .int .i64 (b : Int)] s fun v s' => v = .tuple [] ∧ ∃ g, Aft en s B inc n g s' ∧ PermR a b f g := by
  refine ran_code hT.brk (Nat.le_of_ble_eq_true rfl) ?_
  obtain ⟨l, hl⟩ := op (b - a)
  obtain ⟨q, hq⟩ := op (l / 4)
  obtain ⟨x, hx⟩ := op (a + q * 2)
  have u1 : wrapF .i64 ((b : Int) - (a : Int)) = (l : Int) := by rw [wrap_i64 _ (by omega) (by omega)]; omega
  have c8 : (8 : Int) ≤ (l : Int) := by omega
  have uu : (l : Int) % 18446744073709551616 = (l : Int) := by omega
  have u2 : wrapF .i64 (Int.tdiv (l : Int) 4) = (q : Int) := by
    have : Int.tdiv (l : Int) 4 = (l : Int) / 4 := Int.tdiv_eq_ediv_of_nonneg (by omega)
    rw [this, wrap_i64 _ (by omega) (by omega)]; omega
  have u5 : wrapF .i64 ((q : Int) * 2) = ((q * 2 : Nat) : Int) := by rw [wrap_i64 _ (by omega) (by omega)]; omega
  have u6 : wrapF .i64 ((a : Int) + ((q * 2 : Nat) : Int)) = (x : Int) := by rw [wrap_i64 _ (by omega) (by omega)]; omega
  have u7 : wrapF .i64 ((x : Int) - 1) = ((x - 1 : Nat) : Int) := i64_sub1 (by omega) (by omega)
  have hX := BxU.new (B := B) (inc := inc) (n := n) (f := f) hA hB (l : Int)
  generalize hQ : Fin _ _ = Q
  simp only [ir136, u1, c8, uu, wk, wk1, wk2, Option.some.injEq, exists_eq_left', decide_true, decide_false, Nat.reduceAdd, Nat.reduceEqDiff, Nat.reduceLeDiff, Nat.reduceLT, Nat.reduceMul, Nat.reduceBEq, Int.reduceLT, Int.reduceLE, Int.reduceEq, Int.reduceAdd, Int.reduceSub, Int.reduceMul, Int.reduceMod, Int.reduceTMod, Int.reduceTDiv, Int.reduceNeg, Nat.reduceSub, Nat.reduceDiv, reduceIte, reduceCtorEq]
  refine goCall_by (pow2_ran hT.pow2 hT.len hT.len64 _ l (by omega) (by omega)) ?_
  rintro v s1 ⟨rfl, M, rfl, hM1, hM2⟩
  simp only [u1, u2, u5, u6, u7, wk, wk1, wk2, Option.some.injEq, exists_eq_left', decide_true, decide_false, Nat.reduceAdd, Nat.reduceEqDiff, Nat.reduceLeDiff, Nat.reduceLT, Nat.reduceMul, Nat.reduceBEq, Int.reduceLT, Int.reduceLE, Int.reduceEq, Int.reduceAdd, Int.reduceSub, Int.reduceMul, Int.reduceMod, Int.reduceTMod, Int.reduceTDiv, Int.reduceNeg, Nat.reduceSub, Nat.reduceDiv, reduceIte, reduceCtorEq]
  refine bp_loop (s0 := s) (cap := cap) (ex := ex) hT.xs hL hB hn a b l q x M (by omega) (by omega) hq hx hM1 hM2 hbn s.next f ?_ 3 (x - 1) _ _ f (by omega) (by omega) ?_ ?_ ?_ ?_ ?_ ?_ hX (PermR.refl _ _ _)
  · intro e s' g hA hP
    subst hQ
    simp only [ir136, wk, wk1, wk2, Option.some.injEq, exists_eq_left', decide_true, decide_false, Nat.reduceAdd, Nat.reduceEqDiff, Nat.reduceLeDiff, Nat.reduceLT, Nat.reduceMul, Nat.reduceBEq, Int.reduceLT, Int.reduceLE, Int.reduceEq, Int.reduceAdd, Int.reduceSub, Int.reduceMul, Int.reduceMod, Int.reduceTMod, Int.reduceTDiv, Int.reduceNeg, Nat.reduceSub, Nat.reduceDiv, reduceIte, reduceCtorEq]
    exact ⟨g, hA, hP⟩
  all_goals simp only [u7, wk, wk1, wk2, Option.some.injEq, exists_eq_left', decide_true, decide_false, Nat.reduceAdd, Nat.reduceEqDiff, Nat.reduceLeDiff, Nat.reduceLT, Nat.reduceMul, Nat.reduceBEq, Int.reduceLT, Int.reduceLE, Int.reduceEq, Int.reduceAdd, Int.reduceSub, Int.reduceMul, Int.reduceMod, Int.reduceTMod, Int.reduceTDiv, Int.reduceNeg, Nat.reduceSub, Nat.reduceDiv, reduceIte, reduceCtorEq]

structure PdqE (B inc n cap : Nat) (ex : Bool) (a b : Nat) (lim : Int) (e : Env) : Prop where
  h0 : opd e (.t 0) = dsl B inc n cap ex
  h1 : opd e (.t 1) = .int .i64 (a : Int)
  h2 : opd e (.t 2) = .int .i64 (b : Int)
  h3 : opd e (.t 3) = .int .i64 lim
/-- What the sort's loop comes to, at so many places. -/
def PdqL (T : Tab) (en : α → AV) (lt : α → α → Bool) (B inc n cap : Nat) (ex : Bool) (m : Nat) : Prop :=
  ∀ (Q : Post) (s0 : St) (a b : Nat) (lim : Int) (wb wp : Bool) (e : Env) (s : St) (f : Nat → α), b - a = m → a ≤ b → b ≤ n → B < s0.next → PreA lt a b f → Aft en s0 B inc n f s → PdqE B inc n cap ex a b lim e → opd e (.t 8) = .bool wb → opd e (.t 9) = .bool wp →
    (∀ (e : Env) (s : St) (g : Nat → α), Aft en s0 B inc n g s → PermR a b f g → Srt lt a b g → Q .ret e s) →
    Go T Q ((.loop (.block 1 (.seq (.region [⟨some 19, none, [], (.move (.t 2))⟩, ⟨some 20, none, [], (.move (.t 1))⟩, ⟨some 21, none, [], (.bin .sub (.t 19) (.t 20))⟩, ⟨some 10, none, [], (.move (.t 21))⟩] false)
 (.seq (.seq (.region [⟨some 22, none, [], (.move (.t 10))⟩, ⟨some 23, none, [], (.bin .leq (.t 22) (.c (.int .i64 12)))⟩] false)
 (.cond (.t 23) (.seq (.region [⟨some 24, none, [], (.move (.t 0))⟩, ⟨some 25, none, [], (.move (.t 1))⟩, ⟨some 26, none, [], (.move (.t 2))⟩, ⟨some 27, none, [], (.call 134 [(.t 24), (.t 25), (.t 26)])⟩] false)
 .ret) .skip))
 (.seq (.seq (.region [⟨some 28, none, [], (.move (.t 3))⟩, ⟨some 29, none, [], (.bin .eql (.t 28) (.c (.int .i64 0)))⟩] false)
 (.cond (.t 29) (.seq (.region [⟨some 30, none, [], (.move (.t 0))⟩, ⟨some 31, none, [], (.move (.t 1))⟩, ⟨some 32, none, [], (.move (.t 2))⟩, ⟨some 33, none, [], (.call 135 [(.t 30), (.t 31), (.t 32)])⟩] false)
 .ret) .skip))
 (.seq (.seq (.region [⟨some 34, none, [], (.move (.t 8))⟩, ⟨some 35, none, [], (.un .not (.t 34))⟩] false)
 (.cond (.t 35) (.seq (.region [⟨some 36, none, [], (.move (.t 0))⟩, ⟨some 37, none, [], (.move (.t 1))⟩, ⟨some 38, none, [], (.move (.t 2))⟩, ⟨some 39, none, [], (.call 136 [(.t 36), (.t 37), (.t 38)])⟩] false)
 (.region [⟨some 40, none, [], (.move (.t 3))⟩, ⟨some 41, none, [], (.bin .sub (.t 40) (.c (.int .i64 1)))⟩, ⟨some 3, none, [], (.move (.t 41))⟩] false)) .skip))
 (.seq (.region [⟨some 43, none, [], (.move (.t 0))⟩, ⟨some 44, none, [], (.move (.t 1))⟩, ⟨some 45, none, [], (.move (.t 2))⟩, ⟨some 46, none, [], (.call 137 [(.t 43), (.t 44), (.t 45)])⟩, ⟨some 42, none, [], (.move (.t 46))⟩, ⟨some 47, none, [], (.extract (.t 42) 0)⟩, ⟨some 48, none, [], (.extract (.t 42) 1)⟩, ⟨some 11, none, [], (.move (.t 47))⟩, ⟨some 12, none, [], (.move (.t 48))⟩] false)
 (.seq (.seq (.region [⟨some 49, none, [], (.move (.t 12))⟩, ⟨some 50, none, [], (.bin .eql (.t 49) (.c (.int .i64 2)))⟩] false)
 (.cond (.t 50) (.seq (.region [⟨some 51, none, [], (.move (.t 0))⟩, ⟨some 52, none, [], (.move (.t 1))⟩, ⟨some 53, none, [], (.move (.t 2))⟩, ⟨some 54, none, [], (.call 138 [(.t 51), (.t 52), (.t 53)])⟩] false)
 (.seq (.region [⟨some 55, none, [], (.move (.t 2))⟩, ⟨some 56, none, [], (.bin .sub (.t 55) (.c (.int .i64 1)))⟩, ⟨some 57, none, [], (.move (.t 11))⟩, ⟨some 58, none, [], (.move (.t 1))⟩, ⟨some 59, none, [], (.bin .sub (.t 57) (.t 58))⟩, ⟨some 60, none, [], (.bin .sub (.t 56) (.t 59))⟩, ⟨some 11, none, [], (.move (.t 60))⟩] false)
 (.region [⟨some 12, none, [], (.move (.c (.int .i64 1)))⟩] false))) .skip))
 (.seq (.seq (.region [⟨some 61, none, [], (.move (.t 8))⟩, ⟨some 62, none, [], (.move (.t 61))⟩, ⟨some 63, some (62, true), [], (.move (.t 9))⟩, ⟨some 64, none, [], (.pick (.t 62) (.t 63) (.c (.bool false)))⟩, ⟨some 65, none, [], (.move (.t 64))⟩, ⟨some 66, some (65, true), [], (.move (.t 12))⟩, ⟨some 67, some (65, true), [], (.bin .eql (.t 66) (.c (.int .i64 1)))⟩, ⟨some 68, none, [], (.pick (.t 65) (.t 67) (.c (.bool false)))⟩] false)
 (.cond (.t 68) (.seq (.region [⟨some 69, none, [], (.move (.t 0))⟩, ⟨some 70, none, [], (.move (.t 1))⟩, ⟨some 71, none, [], (.move (.t 2))⟩, ⟨some 72, none, [], (.call 139 [(.t 69), (.t 70), (.t 71)])⟩] false)
 (.cond (.t 72) .ret .skip)) .skip))
 (.seq (.seq (.region [⟨some 73, none, [], (.move (.t 1))⟩, ⟨some 74, none, [], (.bin .gtr (.t 73) (.c (.int .i64 0)))⟩, ⟨some 75, none, [], (.move (.t 74))⟩, ⟨some 76, some (75, true), [], (.move (.t 0))⟩, ⟨some 77, some (75, true), [], (.move (.t 1))⟩, ⟨some 78, some (75, true), [], (.bin .sub (.t 77) (.c (.int .i64 1)))⟩, ⟨some 79, some (75, true), [], (.idxSl 1 (.t 76) (.t 78))⟩, ⟨some 80, some (75, true), [], (.load false 1 (.t 79))⟩, ⟨some 81, some (75, true), [], (.move (.t 0))⟩, ⟨some 82, some (75, true), [], (.move (.t 11))⟩, ⟨some 83, some (75, true), [], (.idxSl 1 (.t 81) (.t 82))⟩, ⟨some 84, some (75, true), [], (.load false 1 (.t 83))⟩, ⟨some 85, some (75, true), [], (.call 140 [(.t 80), (.t 84)])⟩, ⟨some 86, some (75, true), [], (.un .not (.t 85))⟩, ⟨some 87, none, [], (.pick (.t 75) (.t 86) (.c (.bool false)))⟩] true)
 (.cond (.t 87) (.seq (.region [⟨some 88, none, [], (.move (.t 0))⟩, ⟨some 89, none, [], (.move (.t 1))⟩, ⟨some 90, none, [], (.move (.t 2))⟩, ⟨some 91, none, [], (.move (.t 11))⟩, ⟨some 92, none, [], (.call 141 [(.t 88), (.t 89), (.t 90), (.t 91)])⟩, ⟨some 13, none, [], (.move (.t 92))⟩] false)
 (.seq (.region [⟨some 93, none, [], (.move (.t 13))⟩, ⟨some 1, none, [], (.move (.t 93))⟩] false)
 (.exit 1))) .skip))
 (.seq (.region [⟨some 95, none, [], (.move (.t 0))⟩, ⟨some 96, none, [], (.move (.t 1))⟩, ⟨some 97, none, [], (.move (.t 2))⟩, ⟨some 98, none, [], (.move (.t 11))⟩, ⟨some 99, none, [], (.call 142 [(.t 95), (.t 96), (.t 97), (.t 98)])⟩, ⟨some 94, none, [], (.move (.t 99))⟩, ⟨some 100, none, [], (.extract (.t 94) 0)⟩, ⟨some 101, none, [], (.extract (.t 94) 1)⟩, ⟨some 14, none, [], (.move (.t 100))⟩, ⟨some 15, none, [], (.move (.t 101))⟩] false)
 (.seq (.region [⟨some 102, none, [], (.move (.t 15))⟩, ⟨some 9, none, [], (.move (.t 102))⟩] false)
 (.seq (.region [⟨some 103, none, [], (.move (.t 14))⟩, ⟨some 104, none, [], (.move (.t 1))⟩, ⟨some 105, none, [], (.bin .sub (.t 103) (.t 104))⟩, ⟨some 106, none, [], (.move (.t 2))⟩, ⟨some 107, none, [], (.move (.t 14))⟩, ⟨some 108, none, [], (.bin .sub (.t 106) (.t 107))⟩, ⟨some 16, none, [], (.move (.t 105))⟩, ⟨some 17, none, [], (.move (.t 108))⟩] false)
 (.seq (.region [⟨some 109, none, [], (.move (.t 10))⟩, ⟨some 110, none, [], (.bin .quo (.t 109) (.c (.int .i64 8)))⟩, ⟨some 18, none, [], (.move (.t 110))⟩] false)
 (.seq (.region [⟨some 111, none, [], (.move (.t 16))⟩, ⟨some 112, none, [], (.move (.t 17))⟩, ⟨some 113, none, [], (.bin .lss (.t 111) (.t 112))⟩] false)
 (.cond (.t 113) (.seq (.region [⟨some 114, none, [], (.move (.t 16))⟩, ⟨some 115, none, [], (.move (.t 18))⟩, ⟨some 116, none, [], (.bin .geq (.t 114) (.t 115))⟩, ⟨some 8, none, [], (.move (.t 116))⟩] false)
 (.seq (.region [⟨some 117, none, [], (.move (.t 0))⟩, ⟨some 118, none, [], (.move (.t 1))⟩, ⟨some 119, none, [], (.move (.t 14))⟩, ⟨some 120, none, [], (.move (.t 3))⟩, ⟨some 121, none, [], (.call 95 [(.t 117), (.t 118), (.t 119), (.t 120)])⟩] false)
 (.region [⟨some 122, none, [], (.move (.t 14))⟩, ⟨some 123, none, [], (.bin .add (.t 122) (.c (.int .i64 1)))⟩, ⟨some 1, none, [], (.move (.t 123))⟩] false))) (.seq (.region [⟨some 124, none, [], (.move (.t 17))⟩, ⟨some 125, none, [], (.move (.t 18))⟩, ⟨some 126, none, [], (.bin .geq (.t 124) (.t 125))⟩, ⟨some 8, none, [], (.move (.t 126))⟩] false)
 (.seq (.region [⟨some 127, none, [], (.move (.t 0))⟩, ⟨some 128, none, [], (.move (.t 14))⟩, ⟨some 129, none, [], (.bin .add (.t 128) (.c (.int .i64 1)))⟩, ⟨some 130, none, [], (.move (.t 2))⟩, ⟨some 131, none, [], (.move (.t 3))⟩, ⟨some 132, none, [], (.call 95 [(.t 127), (.t 129), (.t 130), (.t 131)])⟩] false)
 (.region [⟨some 133, none, [], (.move (.t 14))⟩, ⟨some 2, none, [], (.move (.t 133))⟩] false)))))))))))))))))))) [.block 0] e s
set_option maxHeartbeats 4000000 in
theorem pdq_of (hT : SortTab T) {B inc n cap : Nat} {ex : Bool} {m : Nat} (hp : PdqL T en lt B inc n cap ex m) (s : St) (hB : B < s.next) (a b : Nat) (hab : a ≤ b) (hm : b - a = m) (hbn : b ≤ n) (lim : Int) (f : Nat → α) (hpre : PreA lt a b f) (hA : Aft en s B inc n f s) :
    Ran T 95 [dsl B inc n cap ex, .int .i64 (a : Int), .int .i64 (b : Int), .int .i64 lim] s fun v s' => v = .tuple [] ∧ ∃ g, Aft en s B inc n g s' ∧ PermR a b f g ∧ Srt lt a b g := by
  refine ran_code hT.pdq (Nat.le_of_ble_eq_true rfl) ?_
  generalize hQ : Fin _ _ = Q
  simp only [ir95, wk, wk1, wk2, Option.some.injEq, exists_eq_left', decide_true, decide_false, Nat.reduceAdd, Nat.reduceEqDiff, Nat.reduceLeDiff, Nat.reduceLT, Nat.reduceMul, Nat.reduceBEq, Int.reduceLT, Int.reduceLE, Int.reduceEq, Int.reduceAdd, Int.reduceSub, Int.reduceMul, Int.reduceMod, Int.reduceTMod, Int.reduceTDiv, Int.reduceNeg, Nat.reduceSub, Nat.reduceDiv, reduceIte, reduceCtorEq]
  refine hp Q s a b lim true true _ s f hm hab hbn hB hpre hA ⟨?_, ?_, ?_, ?_⟩ ?_ ?_ ?_
  case refine_7 =>
    intro e s' g hA hP hS
    subst hQ
    simp only [ir95, wk, wk1, wk2, Option.some.injEq, exists_eq_left', decide_true, decide_false, Nat.reduceAdd, Nat.reduceEqDiff, Nat.reduceLeDiff, Nat.reduceLT, Nat.reduceMul, Nat.reduceBEq, Int.reduceLT, Int.reduceLE, Int.reduceEq, Int.reduceAdd, Int.reduceSub, Int.reduceMul, Int.reduceMod, Int.reduceTMod, Int.reduceTDiv, Int.reduceNeg, Nat.reduceSub, Nat.reduceDiv, reduceIte, reduceCtorEq]
    exact ⟨g, hA, hP, hS⟩
  all_goals simp only [wk, wk1, wk2, Option.some.injEq, exists_eq_left', decide_true, decide_false, Nat.reduceAdd, Nat.reduceEqDiff, Nat.reduceLeDiff, Nat.reduceLT, Nat.reduceMul, Nat.reduceBEq, Int.reduceLT, Int.reduceLE, Int.reduceEq, Int.reduceAdd, Int.reduceSub, Int.reduceMul, Int.reduceMod, Int.reduceTMod, Int.reduceTDiv, Int.reduceNeg, Nat.reduceSub, Nat.reduceDiv, reduceIte, reduceCtorEq]

theorem part_join (ho : Ord lt) {a m b : Nat} {h : Nat → α} (h1 : ∀ x, a ≤ x → x < m → Le lt (h x) (h m)) (h2 : ∀ x, m < x → x < b → Le lt (h m) (h x)) (s1 : Srt lt a m h) (s2 : Srt lt (m + 1) b h) : Srt lt a b h := by
  intro p q p1 q1 q2
  by_cases e1 : q < m
  · exact s1 p q p1 q1 e1
  · by_cases e2 : m < p
    · exact s2 p q (by omega) q1 q2
    · by_cases e3 : p = m
      · subst e3; exact h2 q q1 q2
      · by_cases e4 : q = m
        · subst e4; exact h1 p p1 q1
        · exact ho.trans _ _ _ (h1 p p1 (by omega)) (h2 q (by omega) q2)
theorem PreA.sub {a b b' : Nat} {f : Nat → α} (h : PreA lt a b f) (hb : b' ≤ b) : PreA lt a b' f := fun h1 i i1 i2 => h h1 i i1 (by omega)

abbrev LoopK (Q : Post) (en : α → AV) (lt : α → α → Bool) (s0 : St) (B inc n a b : Nat) (f : Nat → α) : Prop := ∀ (e : Env) (s : St) (g : Nat → α), Aft en s0 B inc n g s → PermR a b f g → Srt lt a b g → Q .ret e s
theorem LoopK.from {Q : Post} {s0 : St} {B inc n a b : Nat} {f g : Nat → α} (h : LoopK Q en lt s0 B inc n a b f) (hp : PermR a b f g) : LoopK Q en lt s0 B inc n a b g := fun e s k hA hP hS => h e s k hA (hp.trans hP) hS

set_option maxHeartbeats 16000000 in
theorem pdq8 (hT : SortTab T) (hL : LessOk T 140 en lt) (ho : Ord lt) {Q : Post} {s0 : St} {B inc n cap : Nat} {ex : Bool} (hB : B < s0.next) (hn : n ≤ 1000000000) (a b p : Nat) (hap : a ≤ p) (hpb : p < b) (hbn : b ≤ n) (hih : ∀ m, m < b - a → PdqL T en lt B inc n cap ex m)
    (lim : Int) (e : Env) (s : St) (f : Nat → α) (hpre : PreA lt a b f) (hA : Aft en s0 B inc n f s) (hE : PdqE B inc n cap ex a b lim e) (h10 : opd e (.t 10) = .int .i64 ((b - a : Nat) : Int)) (h11 : opd e (.t 11) = .int .i64 (p : Int)) (K : LoopK Q en lt s0 B inc n a b f) :
    Go T Q ((.seq (.region [⟨some 95, none, [], (.move (.t 0))⟩, ⟨some 96, none, [], (.move (.t 1))⟩, ⟨some 97, none, [], (.move (.t 2))⟩, ⟨some 98, none, [], (.move (.t 11))⟩, ⟨some 99, none, [], (.call 142 [(.t 95), (.t 96), (.t 97), (.t 98)])⟩, ⟨some 94, none, [], (.move (.t 99))⟩, ⟨some 100, none, [], (.extract (.t 94) 0)⟩, ⟨some 101, none, [], (.extract (.t 94) 1)⟩, ⟨some 14, none, [], (.move (.t 100))⟩, ⟨some 15, none, [], (.move (.t 101))⟩] false)
 (.seq (.region [⟨some 102, none, [], (.move (.t 15))⟩, ⟨some 9, none, [], (.move (.t 102))⟩] false)
 (.seq (.region [⟨some 103, none, [], (.move (.t 14))⟩, ⟨some 104, none, [], (.move (.t 1))⟩, ⟨some 105, none, [], (.bin .sub (.t 103) (.t 104))⟩, ⟨some 106, none, [], (.move (.t 2))⟩, ⟨some 107, none, [], (.move (.t 14))⟩, ⟨some 108, none, [], (.bin .sub (.t 106) (.t 107))⟩, ⟨some 16, none, [], (.move (.t 105))⟩, ⟨some 17, none, [], (.move (.t 108))⟩] false)
 (.seq (.region [⟨some 109, none, [], (.move (.t 10))⟩, ⟨some 110, none, [], (.bin .quo (.t 109) (.c (.int .i64 8)))⟩, ⟨some 18, none, [], (.move (.t 110))⟩] false)
 (.seq (.region [⟨some 111, none, [], (.move (.t 16))⟩, ⟨some 112, none, [], (.move (.t 17))⟩, ⟨some 113, none, [], (.bin .lss (.t 111) (.t 112))⟩] false)
 (.cond (.t 113) (.seq (.region [⟨some 114, none, [], (.move (.t 16))⟩, ⟨some 115, none, [], (.move (.t 18))⟩, ⟨some 116, none, [], (.bin .geq (.t 114) (.t 115))⟩, ⟨some 8, none, [], (.move (.t 116))⟩] false)
 (.seq (.region [⟨some 117, none, [], (.move (.t 0))⟩, ⟨some 118, none, [], (.move (.t 1))⟩, ⟨some 119, none, [], (.move (.t 14))⟩, ⟨some 120, none, [], (.move (.t 3))⟩, ⟨some 121, none, [], (.call 95 [(.t 117), (.t 118), (.t 119), (.t 120)])⟩] false)
 (.region [⟨some 122, none, [], (.move (.t 14))⟩, ⟨some 123, none, [], (.bin .add (.t 122) (.c (.int .i64 1)))⟩, ⟨some 1, none, [], (.move (.t 123))⟩] false))) (.seq (.region [⟨some 124, none, [], (.move (.t 17))⟩, ⟨some 125, none, [], (.move (.t 18))⟩, ⟨some 126, none, [], (.bin .geq (.t 124) (.t 125))⟩, ⟨some 8, none, [], (.move (.t 126))⟩] false)
 (.seq (.region [⟨some 127, none, [], (.move (.t 0))⟩, ⟨some 128, none, [], (.move (.t 14))⟩, ⟨some 129, none, [], (.bin .add (.t 128) (.c (.int .i64 1)))⟩, ⟨some 130, none, [], (.move (.t 2))⟩, ⟨some 131, none, [], (.move (.t 3))⟩, ⟨some 132, none, [], (.call 95 [(.t 127), (.t 129), (.t 130), (.t 131)])⟩] false)
 (.region [⟨some 133, none, [], (.move (.t 14))⟩, ⟨some 2, none, [], (.move (.t 133))⟩] false)))))))))) (Fr.block 1 :: Fr.loop (.block 1 ((.seq (.region [⟨some 19, none, [], (.move (.t 2))⟩, ⟨some 20, none, [], (.move (.t 1))⟩, ⟨some 21, none, [], (.bin .sub (.t 19) (.t 20))⟩, ⟨some 10, none, [], (.move (.t 21))⟩] false)
 (.seq (.seq (.region [⟨some 22, none, [], (.move (.t 10))⟩, ⟨some 23, none, [], (.bin .leq (.t 22) (.c (.int .i64 12)))⟩] false)
 (.cond (.t 23) (.seq (.region [⟨some 24, none, [], (.move (.t 0))⟩, ⟨some 25, none, [], (.move (.t 1))⟩, ⟨some 26, none, [], (.move (.t 2))⟩, ⟨some 27, none, [], (.call 134 [(.t 24), (.t 25), (.t 26)])⟩] false)
 .ret) .skip))
 (.seq (.seq (.region [⟨some 28, none, [], (.move (.t 3))⟩, ⟨some 29, none, [], (.bin .eql (.t 28) (.c (.int .i64 0)))⟩] false)
 (.cond (.t 29) (.seq (.region [⟨some 30, none, [], (.move (.t 0))⟩, ⟨some 31, none, [], (.move (.t 1))⟩, ⟨some 32, none, [], (.move (.t 2))⟩, ⟨some 33, none, [], (.call 135 [(.t 30), (.t 31), (.t 32)])⟩] false)
 .ret) .skip))
 (.seq (.seq (.region [⟨some 34, none, [], (.move (.t 8))⟩, ⟨some 35, none, [], (.un .not (.t 34))⟩] false)
 (.cond (.t 35) (.seq (.region [⟨some 36, none, [], (.move (.t 0))⟩, ⟨some 37, none, [], (.move (.t 1))⟩, ⟨some 38, none, [], (.move (.t 2))⟩, ⟨some 39, none, [], (.call 136 [(.t 36), (.t 37), (.t 38)])⟩] false)
 (.region [⟨some 40, none, [], (.move (.t 3))⟩, ⟨some 41, none, [], (.bin .sub (.t 40) (.c (.int .i64 1)))⟩, ⟨some 3, none, [], (.move (.t 41))⟩] false)) .skip))
 (.seq (.region [⟨some 43, none, [], (.move (.t 0))⟩, ⟨some 44, none, [], (.move (.t 1))⟩, ⟨some 45, none, [], (.move (.t 2))⟩, ⟨some 46, none, [], (.call 137 [(.t 43), (.t 44), (.t 45)])⟩, ⟨some 42, none, [], (.move (.t 46))⟩, ⟨some 47, none, [], (.extract (.t 42) 0)⟩, ⟨some 48, none, [], (.extract (.t 42) 1)⟩, ⟨some 11, none, [], (.move (.t 47))⟩, ⟨some 12, none, [], (.move (.t 48))⟩] false)
 (.seq (.seq (.region [⟨some 49, none, [], (.move (.t 12))⟩, ⟨some 50, none, [], (.bin .eql (.t 49) (.c (.int .i64 2)))⟩] false)
 (.cond (.t 50) (.seq (.region [⟨some 51, none, [], (.move (.t 0))⟩, ⟨some 52, none, [], (.move (.t 1))⟩, ⟨some 53, none, [], (.move (.t 2))⟩, ⟨some 54, none, [], (.call 138 [(.t 51), (.t 52), (.t 53)])⟩] false)
 (.seq (.region [⟨some 55, none, [], (.move (.t 2))⟩, ⟨some 56, none, [], (.bin .sub (.t 55) (.c (.int .i64 1)))⟩, ⟨some 57, none, [], (.move (.t 11))⟩, ⟨some 58, none, [], (.move (.t 1))⟩, ⟨some 59, none, [], (.bin .sub (.t 57) (.t 58))⟩, ⟨some 60, none, [], (.bin .sub (.t 56) (.t 59))⟩, ⟨some 11, none, [], (.move (.t 60))⟩] false)
 (.region [⟨some 12, none, [], (.move (.c (.int .i64 1)))⟩] false))) .skip))
 (.seq (.seq (.region [⟨some 61, none, [], (.move (.t 8))⟩, ⟨some 62, none, [], (.move (.t 61))⟩, ⟨some 63, some (62, true), [], (.move (.t 9))⟩, ⟨some 64, none, [], (.pick (.t 62) (.t 63) (.c (.bool false)))⟩, ⟨some 65, none, [], (.move (.t 64))⟩, ⟨some 66, some (65, true), [], (.move (.t 12))⟩, ⟨some 67, some (65, true), [], (.bin .eql (.t 66) (.c (.int .i64 1)))⟩, ⟨some 68, none, [], (.pick (.t 65) (.t 67) (.c (.bool false)))⟩] false)
 (.cond (.t 68) (.seq (.region [⟨some 69, none, [], (.move (.t 0))⟩, ⟨some 70, none, [], (.move (.t 1))⟩, ⟨some 71, none, [], (.move (.t 2))⟩, ⟨some 72, none, [], (.call 139 [(.t 69), (.t 70), (.t 71)])⟩] false)
 (.cond (.t 72) .ret .skip)) .skip))
 (.seq (.seq (.region [⟨some 73, none, [], (.move (.t 1))⟩, ⟨some 74, none, [], (.bin .gtr (.t 73) (.c (.int .i64 0)))⟩, ⟨some 75, none, [], (.move (.t 74))⟩, ⟨some 76, some (75, true), [], (.move (.t 0))⟩, ⟨some 77, some (75, true), [], (.move (.t 1))⟩, ⟨some 78, some (75, true), [], (.bin .sub (.t 77) (.c (.int .i64 1)))⟩, ⟨some 79, some (75, true), [], (.idxSl 1 (.t 76) (.t 78))⟩, ⟨some 80, some (75, true), [], (.load false 1 (.t 79))⟩, ⟨some 81, some (75, true), [], (.move (.t 0))⟩, ⟨some 82, some (75, true), [], (.move (.t 11))⟩, ⟨some 83, some (75, true), [], (.idxSl 1 (.t 81) (.t 82))⟩, ⟨some 84, some (75, true), [], (.load false 1 (.t 83))⟩, ⟨some 85, some (75, true), [], (.call 140 [(.t 80), (.t 84)])⟩, ⟨some 86, some (75, true), [], (.un .not (.t 85))⟩, ⟨some 87, none, [], (.pick (.t 75) (.t 86) (.c (.bool false)))⟩] true)
 (.cond (.t 87) (.seq (.region [⟨some 88, none, [], (.move (.t 0))⟩, ⟨some 89, none, [], (.move (.t 1))⟩, ⟨some 90, none, [], (.move (.t 2))⟩, ⟨some 91, none, [], (.move (.t 11))⟩, ⟨some 92, none, [], (.call 141 [(.t 88), (.t 89), (.t 90), (.t 91)])⟩, ⟨some 13, none, [], (.move (.t 92))⟩] false)
 (.seq (.region [⟨some 93, none, [], (.move (.t 13))⟩, ⟨some 1, none, [], (.move (.t 93))⟩] false)
 (.exit 1))) .skip))
 (.seq (.region [⟨some 95, none, [], (.move (.t 0))⟩, ⟨some 96, none, [], (.move (.t 1))⟩, ⟨some 97, none, [], (.move (.t 2))⟩, ⟨some 98, none, [], (.move (.t 11))⟩, ⟨some 99, none, [], (.call 142 [(.t 95), (.t 96), (.t 97), (.t 98)])⟩, ⟨some 94, none, [], (.move (.t 99))⟩, ⟨some 100, none, [], (.extract (.t 94) 0)⟩, ⟨some 101, none, [], (.extract (.t 94) 1)⟩, ⟨some 14, none, [], (.move (.t 100))⟩, ⟨some 15, none, [], (.move (.t 101))⟩] false)
 (.seq (.region [⟨some 102, none, [], (.move (.t 15))⟩, ⟨some 9, none, [], (.move (.t 102))⟩] false)
 (.seq (.region [⟨some 103, none, [], (.move (.t 14))⟩, ⟨some 104, none, [], (.move (.t 1))⟩, ⟨some 105, none, [], (.bin .sub (.t 103) (.t 104))⟩, ⟨some 106, none, [], (.move (.t 2))⟩, ⟨some 107, none, [], (.move (.t 14))⟩, ⟨some 108, none, [], (.bin .sub (.t 106) (.t 107))⟩, ⟨some 16, none, [], (.move (.t 105))⟩, ⟨some 17, none, [], (.move (.t 108))⟩] false)
 (.seq (.region [⟨some 109, none, [], (.move (.t 10))⟩, ⟨some 110, none, [], (.bin .quo (.t 109) (.c (.int .i64 8)))⟩, ⟨some 18, none, [], (.move (.t 110))⟩] false)
 (.seq (.region [⟨some 111, none, [], (.move (.t 16))⟩, ⟨some 112, none, [], (.move (.t 17))⟩, ⟨some 113, none, [], (.bin .lss (.t 111) (.t 112))⟩] false)
 (.cond (.t 113) (.seq (.region [⟨some 114, none, [], (.move (.t 16))⟩, ⟨some 115, none, [], (.move (.t 18))⟩, ⟨some 116, none, [], (.bin .geq (.t 114) (.t 115))⟩, ⟨some 8, none, [], (.move (.t 116))⟩] false)
 (.seq (.region [⟨some 117, none, [], (.move (.t 0))⟩, ⟨some 118, none, [], (.move (.t 1))⟩, ⟨some 119, none, [], (.move (.t 14))⟩, ⟨some 120, none, [], (.move (.t 3))⟩, ⟨some 121, none, [], (.call 95 [(.t 117), (.t 118), (.t 119), (.t 120)])⟩] false)
 (.region [⟨some 122, none, [], (.move (.t 14))⟩, ⟨some 123, none, [], (.bin .add (.t 122) (.c (.int .i64 1)))⟩, ⟨some 1, none, [], (.move (.t 123))⟩] false))) (.seq (.region [⟨some 124, none, [], (.move (.t 17))⟩, ⟨some 125, none, [], (.move (.t 18))⟩, ⟨some 126, none, [], (.bin .geq (.t 124) (.t 125))⟩, ⟨some 8, none, [], (.move (.t 126))⟩] false)
 (.seq (.region [⟨some 127, none, [], (.move (.t 0))⟩, ⟨some 128, none, [], (.move (.t 14))⟩, ⟨some 129, none, [], (.bin .add (.t 128) (.c (.int .i64 1)))⟩, ⟨some 130, none, [], (.move (.t 2))⟩, ⟨some 131, none, [], (.move (.t 3))⟩, ⟨some 132, none, [], (.call 95 [(.t 127), (.t 129), (.t 130), (.t 131)])⟩] false)
 (.region [⟨some 133, none, [], (.move (.t 14))⟩, ⟨some 2, none, [], (.move (.t 133))⟩] false))))))))))))))))))) :: [.block 0]) e s := by
  obtain ⟨h0, h1, h2, h3⟩ := hE
  obtain ⟨LP, hLP⟩ : ∃ c : ICode, c = (.block 1 ((.seq (.region [⟨some 19, none, [], (.move (.t 2))⟩, ⟨some 20, none, [], (.move (.t 1))⟩, ⟨some 21, none, [], (.bin .sub (.t 19) (.t 20))⟩, ⟨some 10, none, [], (.move (.t 21))⟩] false)
 (.seq (.seq (.region [⟨some 22, none, [], (.move (.t 10))⟩, ⟨some 23, none, [], (.bin .leq (.t 22) (.c (.int .i64 12)))⟩] false)
 (.cond (.t 23) (.seq (.region [⟨some 24, none, [], (.move (.t 0))⟩, ⟨some 25, none, [], (.move (.t 1))⟩, ⟨some 26, none, [], (.move (.t 2))⟩, ⟨some 27, none, [], (.call 134 [(.t 24), (.t 25), (.t 26)])⟩] false)
 .ret) .skip))
 (.seq (.seq (.region [⟨some 28, none, [], (.move (.t 3))⟩, ⟨some 29, none, [], (.bin .eql (.t 28) (.c (.int .i64 0)))⟩] false)
 (.cond (.t 29) (.seq (.region [⟨some 30, none, [], (.move (.t 0))⟩, ⟨some 31, none, [], (.move (.t 1))⟩, ⟨some 32, none, [], (.move (.t 2))⟩, ⟨some 33, none, [], (.call 135 [(.t 30), (.t 31), (.t 32)])⟩] false)
 .ret) .skip))
 (.seq (.seq (.region [⟨some 34, none, [], (.move (.t 8))⟩, ⟨some 35, none, [], (.un .not (.t 34))⟩] false)
 (.cond (.t 35) (.seq (.region [⟨some 36, none, [], (.move (.t 0))⟩, ⟨some 37, none, [], (.move (.t 1))⟩, ⟨some 38, none, [], (.move (.t 2))⟩, ⟨some 39, none, [], (.call 136 [(.t 36), (.t 37), (.t 38)])⟩] false)
 (.region [⟨some 40, none, [], (.move (.t 3))⟩, ⟨some 41, none, [], (.bin .sub (.t 40) (.c (.int .i64 1)))⟩, ⟨some 3, none, [], (.move (.t 41))⟩] false)) .skip))
 (.seq (.region [⟨some 43, none, [], (.move (.t 0))⟩, ⟨some 44, none, [], (.move (.t 1))⟩, ⟨some 45, none, [], (.move (.t 2))⟩, ⟨some 46, none, [], (.call 137 [(.t 43), (.t 44), (.t 45)])⟩, ⟨some 42, none, [], (.move (.t 46))⟩, ⟨some 47, none, [], (.extract (.t 42) 0)⟩, ⟨some 48, none, [], (.extract (.t 42) 1)⟩, ⟨some 11, none, [], (.move (.t 47))⟩, ⟨some 12, none, [], (.move (.t 48))⟩] false)
 (.seq (.seq (.region [⟨some 49, none, [], (.move (.t 12))⟩, ⟨some 50, none, [], (.bin .eql (.t 49) (.c (.int .i64 2)))⟩] false)
 (.cond (.t 50) (.seq (.region [⟨some 51, none, [], (.move (.t 0))⟩, ⟨some 52, none, [], (.move (.t 1))⟩, ⟨some 53, none, [], (.move (.t 2))⟩, ⟨some 54, none, [], (.call 138 [(.t 51), (.t 52), (.t 53)])⟩] false)
 (.seq (.region [⟨some 55, none, [], (.move (.t 2))⟩, ⟨some 56, none, [], (.bin .sub (.t 55) (.c (.int .i64 1)))⟩, ⟨some 57, none, [], (.move (.t 11))⟩, ⟨some 58, none, [], (.move (.t 1))⟩, ⟨some 59, none, [], (.bin .sub (.t 57) (.t 58))⟩, ⟨some 60, none, [], (.bin .sub (.t 56) (.t 59))⟩, ⟨some 11, none, [], (.move (.t 60))⟩] false)
 (.region [⟨some 12, none, [], (.move (.c (.int .i64 1)))⟩] false))) .skip))
 (.seq (.seq (.region [⟨some 61, none, [], (.move (.t 8))⟩, ⟨some 62, none, [], (.move (.t 61))⟩, ⟨some 63, some (62, true), [], (.move (.t 9))⟩, ⟨some 64, none, [], (.pick (.t 62) (.t 63) (.c (.bool false)))⟩, ⟨some 65, none, [], (.move (.t 64))⟩, ⟨some 66, some (65, true), [], (.move (.t 12))⟩, ⟨some 67, some (65, true), [], (.bin .eql (.t 66) (.c (.int .i64 1)))⟩, ⟨some 68, none, [], (.pick (.t 65) (.t 67) (.c (.bool false)))⟩] false)
 (.cond (.t 68) (.seq (.region [⟨some 69, none, [], (.move (.t 0))⟩, ⟨some 70, none, [], (.move (.t 1))⟩, ⟨some 71, none, [], (.move (.t 2))⟩, ⟨some 72, none, [], (.call 139 [(.t 69), (.t 70), (.t 71)])⟩] false)
 (.cond (.t 72) .ret .skip)) .skip))
 (.seq (.seq (.region [⟨some 73, none, [], (.move (.t 1))⟩, ⟨some 74, none, [], (.bin .gtr (.t 73) (.c (.int .i64 0)))⟩, ⟨some 75, none, [], (.move (.t 74))⟩, ⟨some 76, some (75, true), [], (.move (.t 0))⟩, ⟨some 77, some (75, true), [], (.move (.t 1))⟩, ⟨some 78, some (75, true), [], (.bin .sub (.t 77) (.c (.int .i64 1)))⟩, ⟨some 79, some (75, true), [], (.idxSl 1 (.t 76) (.t 78))⟩, ⟨some 80, some (75, true), [], (.load false 1 (.t 79))⟩, ⟨some 81, some (75, true), [], (.move (.t 0))⟩, ⟨some 82, some (75, true), [], (.move (.t 11))⟩, ⟨some 83, some (75, true), [], (.idxSl 1 (.t 81) (.t 82))⟩, ⟨some 84, some (75, true), [], (.load false 1 (.t 83))⟩, ⟨some 85, some (75, true), [], (.call 140 [(.t 80), (.t 84)])⟩, ⟨some 86, some (75, true), [], (.un .not (.t 85))⟩, ⟨some 87, none, [], (.pick (.t 75) (.t 86) (.c (.bool false)))⟩] true)
 (.cond (.t 87) (.seq (.region [⟨some 88, none, [], (.move (.t 0))⟩, ⟨some 89, none, [], (.move (.t 1))⟩, ⟨some 90, none, [], (.move (.t 2))⟩, ⟨some 91, none, [], (.move (.t 11))⟩, ⟨some 92, none, [], (.call 141 [(.t 88), (.t 89), (.t 90), (.t 91)])⟩, ⟨some 13, none, [], (.move (.t 92))⟩] false)
 (.seq (.region [⟨some 93, none, [], (.move (.t 13))⟩, ⟨some 1, none, [], (.move (.t 93))⟩] false)
 (.exit 1))) .skip))
 (.seq (.region [⟨some 95, none, [], (.move (.t 0))⟩, ⟨some 96, none, [], (.move (.t 1))⟩, ⟨some 97, none, [], (.move (.t 2))⟩, ⟨some 98, none, [], (.move (.t 11))⟩, ⟨some 99, none, [], (.call 142 [(.t 95), (.t 96), (.t 97), (.t 98)])⟩, ⟨some 94, none, [], (.move (.t 99))⟩, ⟨some 100, none, [], (.extract (.t 94) 0)⟩, ⟨some 101, none, [], (.extract (.t 94) 1)⟩, ⟨some 14, none, [], (.move (.t 100))⟩, ⟨some 15, none, [], (.move (.t 101))⟩] false)
 (.seq (.region [⟨some 102, none, [], (.move (.t 15))⟩, ⟨some 9, none, [], (.move (.t 102))⟩] false)
 (.seq (.region [⟨some 103, none, [], (.move (.t 14))⟩, ⟨some 104, none, [], (.move (.t 1))⟩, ⟨some 105, none, [], (.bin .sub (.t 103) (.t 104))⟩, ⟨some 106, none, [], (.move (.t 2))⟩, ⟨some 107, none, [], (.move (.t 14))⟩, ⟨some 108, none, [], (.bin .sub (.t 106) (.t 107))⟩, ⟨some 16, none, [], (.move (.t 105))⟩, ⟨some 17, none, [], (.move (.t 108))⟩] false)
 (.seq (.region [⟨some 109, none, [], (.move (.t 10))⟩, ⟨some 110, none, [], (.bin .quo (.t 109) (.c (.int .i64 8)))⟩, ⟨some 18, none, [], (.move (.t 110))⟩] false)
 (.seq (.region [⟨some 111, none, [], (.move (.t 16))⟩, ⟨some 112, none, [], (.move (.t 17))⟩, ⟨some 113, none, [], (.bin .lss (.t 111) (.t 112))⟩] false)
 (.cond (.t 113) (.seq (.region [⟨some 114, none, [], (.move (.t 16))⟩, ⟨some 115, none, [], (.move (.t 18))⟩, ⟨some 116, none, [], (.bin .geq (.t 114) (.t 115))⟩, ⟨some 8, none, [], (.move (.t 116))⟩] false)
 (.seq (.region [⟨some 117, none, [], (.move (.t 0))⟩, ⟨some 118, none, [], (.move (.t 1))⟩, ⟨some 119, none, [], (.move (.t 14))⟩, ⟨some 120, none, [], (.move (.t 3))⟩, ⟨some 121, none, [], (.call 95 [(.t 117), (.t 118), (.t 119), (.t 120)])⟩] false)
 (.region [⟨some 122, none, [], (.move (.t 14))⟩, ⟨some 123, none, [], (.bin .add (.t 122) (.c (.int .i64 1)))⟩, ⟨some 1, none, [], (.move (.t 123))⟩] false))) (.seq (.region [⟨some 124, none, [], (.move (.t 17))⟩, ⟨some 125, none, [], (.move (.t 18))⟩, ⟨some 126, none, [], (.bin .geq (.t 124) (.t 125))⟩, ⟨some 8, none, [], (.move (.t 126))⟩] false)
 (.seq (.region [⟨some 127, none, [], (.move (.t 0))⟩, ⟨some 128, none, [], (.move (.t 14))⟩, ⟨some 129, none, [], (.bin .add (.t 128) (.c (.int .i64 1)))⟩, ⟨some 130, none, [], (.move (.t 2))⟩, ⟨some 131, none, [], (.move (.t 3))⟩, ⟨some 132, none, [], (.call 95 [(.t 127), (.t 129), (.t 130), (.t 131)])⟩] false)
 (.region [⟨some 133, none, [], (.move (.t 14))⟩, ⟨some 2, none, [], (.move (.t 133))⟩] false))))))))))))))))))) := ⟨_, rfl⟩
  have hgo : ∀ (m : Nat), m < b - a → ∀ (Q : Post) (s0 : St) (a b : Nat) (lim : Int) (wb wp : Bool) (e : Env) (s : St) (f : Nat → α), b - a = m → a ≤ b → b ≤ n → B < s0.next → PreA lt a b f → Aft en s0 B inc n f s → PdqE B inc n cap ex a b lim e → opd e (.t 8) = .bool wb → opd e (.t 9) = .bool wp → LoopK Q en lt s0 B inc n a b f → Go T Q (.loop LP) [.block 0] e s := by
    rw [hLP]; exact hih
  rw [← hLP]
  simp only [h0, h1, h2, h3, h11, wk, wk1, wk2, Option.some.injEq, exists_eq_left', decide_true, decide_false, Nat.reduceAdd, Nat.reduceEqDiff, Nat.reduceLeDiff, Nat.reduceLT, Nat.reduceMul, Nat.reduceBEq, Int.reduceLT, Int.reduceLE, Int.reduceEq, Int.reduceAdd, Int.reduceSub, Int.reduceMul, Int.reduceMod, Int.reduceTMod, Int.reduceTDiv, Int.reduceNeg, Nat.reduceSub, Nat.reduceDiv, reduceIte, reduceCtorEq]
  refine goCall_by (po_ran hT.po hL s B inc n cap ex (Nat.lt_of_lt_of_le hB hA.next) hn a b p hap hpb hbn f (Aft.refl hA.wfs hA.row)) ?_
  rintro v s1 ⟨m, g, al, rfl, hA1, hP1, m1, m2, q1, q2⟩
  have hA1' := hA.trans hA1
  have hpre1 := hpre.perm hP1
  have u1 : wrapF .i64 ((m : Int) - (a : Int)) = ((m - a : Nat) : Int) := i64_sub (by omega) m1
  have u2 : wrapF .i64 ((b : Int) - (m : Int)) = ((b - m : Nat) : Int) := i64_sub (by omega) (by omega)
  have u3 : wrapF .i64 ((m : Int) + 1) = ((m + 1 : Nat) : Int) := i64_add1 (by omega)
  obtain ⟨bal, hbal⟩ : ∃ z : Int, wrapF .i64 (Int.tdiv ((b - a : Nat) : Int) 8) = z := ⟨_, rfl⟩
  by_cases hlr : m - a < b - m
  · have c1 : ((m - a : Nat) : Int) < ((b - m : Nat) : Int) := by omega
    simp only [h0, h1, h2, h3, h10, h11, u1, u2, hbal, c1, wk, wk1, wk2, Option.some.injEq, exists_eq_left', decide_true, decide_false, Nat.reduceAdd, Nat.reduceEqDiff, Nat.reduceLeDiff, Nat.reduceLT, Nat.reduceMul, Nat.reduceBEq, Int.reduceLT, Int.reduceLE, Int.reduceEq, Int.reduceAdd, Int.reduceSub, Int.reduceMul, Int.reduceMod, Int.reduceTMod, Int.reduceTDiv, Int.reduceNeg, Nat.reduceSub, Nat.reduceDiv, reduceIte, reduceCtorEq]
    refine goCall_by (pdq_of hT (hih (m - a) (by omega)) s1 (Nat.lt_of_lt_of_le hB hA1'.next) a m m1 rfl (by omega) lim g (hpre1.sub (by omega)) (Aft.refl hA1.wfs hA1.row)) ?_
    rintro v s2 ⟨rfl, g2, hA2, hP2, hS2⟩
    have e2 : ∀ x, m ≤ x → g2 x = g x := fun x hx => hP2.out (by omega)
    have low2 : ∀ x, a ≤ x → x < m → lt (g2 x) (g m) = true := hP2.all (P := fun y => lt y (g m) = true) q1
    simp only [h0, h1, h2, h3, h10, h11, u3, wk, wk1, wk2, Option.some.injEq, exists_eq_left', decide_true, decide_false, Nat.reduceAdd, Nat.reduceEqDiff, Nat.reduceLeDiff, Nat.reduceLT, Nat.reduceMul, Nat.reduceBEq, Int.reduceLT, Int.reduceLE, Int.reduceEq, Int.reduceAdd, Int.reduceSub, Int.reduceMul, Int.reduceMod, Int.reduceTMod, Int.reduceTDiv, Int.reduceNeg, Nat.reduceSub, Nat.reduceDiv, reduceIte, reduceCtorEq]
    refine hgo (b - (m + 1)) (by omega) Q s0 (m + 1) b lim (decide (bal ≤ ((m - a : Nat) : Int))) al _ s2 g2 rfl (by omega) hbn hB ?_ (hA1'.trans hA2) ⟨?_, ?_, ?_, ?_⟩ ?_ ?_ ?_
    case refine_8 =>
      intro e s' g3 hA3 hP3 hS3
      have e3 : ∀ x, x < m + 1 → g3 x = g2 x := fun x hx => hP3.out (by omega)
      refine K e s' g3 hA3 (hP1.trans ((hP2.wide (Nat.le_refl _) (by omega)).trans (hP3.wide (by omega) (Nat.le_refl _)))) (part_join ho (m := m) ?_ ?_ ?_ hS3)
      · intro x x1 x2
        rw [e3 x (by omega), e3 m (by omega), e2 m (Nat.le_refl _)]
        exact ho.le (low2 x x1 x2)
      · intro x x1 x2
        rw [e3 m (by omega), e2 m (Nat.le_refl _)]
        refine hP3.all (P := fun y => Le lt (g m) y) (fun i i1 i2 => ?_) x x1 x2
        show lt (g2 i) (g m) = false
        rw [e2 i (by omega)]
        exact q2 i i1 i2
      · intro i j i1 j1 j2
        rw [e3 i (by omega), e3 j (by omega)]
        exact hS2 i j i1 j1 j2
    case refine_1 =>
      intro _ i i1 i2
      show lt (g2 i) (g2 (m + 1 - 1)) = false
      rw [Nat.add_sub_cancel, e2 i (by omega), e2 m (Nat.le_refl _)]
      exact q2 i i1 i2
    all_goals simp only [h0, h1, h2, h3, u3, wk, wk1, wk2, Option.some.injEq, exists_eq_left', decide_true, decide_false, Nat.reduceAdd, Nat.reduceEqDiff, Nat.reduceLeDiff, Nat.reduceLT, Nat.reduceMul, Nat.reduceBEq, Int.reduceLT, Int.reduceLE, Int.reduceEq, Int.reduceAdd, Int.reduceSub, Int.reduceMul, Int.reduceMod, Int.reduceTMod, Int.reduceTDiv, Int.reduceNeg, Nat.reduceSub, Nat.reduceDiv, reduceIte, reduceCtorEq]
  · have c1 : ¬ ((m - a : Nat) : Int) < ((b - m : Nat) : Int) := by omega
    simp only [h0, h1, h2, h3, h10, h11, u1, u2, u3, hbal, c1, wk, wk1, wk2, Option.some.injEq, exists_eq_left', decide_true, decide_false, Nat.reduceAdd, Nat.reduceEqDiff, Nat.reduceLeDiff, Nat.reduceLT, Nat.reduceMul, Nat.reduceBEq, Int.reduceLT, Int.reduceLE, Int.reduceEq, Int.reduceAdd, Int.reduceSub, Int.reduceMul, Int.reduceMod, Int.reduceTMod, Int.reduceTDiv, Int.reduceNeg, Nat.reduceSub, Nat.reduceDiv, reduceIte, reduceCtorEq]
    have hpre2 : PreA lt (m + 1) b g := by
      intro _ i i1 i2
      show lt (g i) (g (m + 1 - 1)) = false
      rw [Nat.add_sub_cancel]
      exact q2 i i1 i2
    refine goCall_by (pdq_of hT (hih (b - (m + 1)) (by omega)) s1 (Nat.lt_of_lt_of_le hB hA1'.next) (m + 1) b (by omega) rfl hbn lim g hpre2 (Aft.refl hA1.wfs hA1.row)) ?_
    rintro v s2 ⟨rfl, g2, hA2, hP2, hS2⟩
    have e2 : ∀ x, x < m + 1 → g2 x = g x := fun x hx => hP2.out (by omega)
    have high2 : ∀ x, m < x → x < b → lt (g2 x) (g m) = false := hP2.all (P := fun y => lt y (g m) = false) q2
    simp only [h0, h1, h2, h3, h10, h11, u3, wk, wk1, wk2, Option.some.injEq, exists_eq_left', decide_true, decide_false, Nat.reduceAdd, Nat.reduceEqDiff, Nat.reduceLeDiff, Nat.reduceLT, Nat.reduceMul, Nat.reduceBEq, Int.reduceLT, Int.reduceLE, Int.reduceEq, Int.reduceAdd, Int.reduceSub, Int.reduceMul, Int.reduceMod, Int.reduceTMod, Int.reduceTDiv, Int.reduceNeg, Nat.reduceSub, Nat.reduceDiv, reduceIte, reduceCtorEq]
    refine hgo (m - a) (by omega) Q s0 a m lim (decide (bal ≤ ((b - m : Nat) : Int))) al _ s2 g2 rfl m1 (by omega) hB ?_ (hA1'.trans hA2) ⟨?_, ?_, ?_, ?_⟩ ?_ ?_ ?_
    case refine_8 =>
      intro e s' g3 hA3 hP3 hS3
      have e3 : ∀ x, m ≤ x → g3 x = g2 x := fun x hx => hP3.out (by omega)
      refine K e s' g3 hA3 (hP1.trans ((hP2.wide (by omega) (Nat.le_refl _)).trans (hP3.wide (Nat.le_refl _) (by omega)))) (part_join ho (m := m) ?_ ?_ hS3 ?_)
      · intro x x1 x2
        rw [e3 m (Nat.le_refl _), e2 m (by omega)]
        refine hP3.all (P := fun y => Le lt y (g m)) (fun i i1 i2 => ?_) x x1 x2
        rw [e2 i (by omega)]
        exact ho.le (q1 i i1 i2)
      · intro x x1 x2
        rw [e3 m (Nat.le_refl _), e2 m (by omega), e3 x (by omega)]
        exact high2 x x1 x2
      · intro i j i1 j1 j2
        rw [e3 i (by omega), e3 j (by omega)]
        exact hS2 i j i1 j1 j2
    case refine_1 =>
      intro ha i i1 i2
      rw [e2 (a - 1) (by omega), e2 i (by omega)]
      exact hpre1 ha i i1 (by omega)
    all_goals simp only [h0, h1, h2, h3, u3, wk, wk1, wk2, Option.some.injEq, exists_eq_left', decide_true, decide_false, Nat.reduceAdd, Nat.reduceEqDiff, Nat.reduceLeDiff, Nat.reduceLT, Nat.reduceMul, Nat.reduceBEq, Int.reduceLT, Int.reduceLE, Int.reduceEq, Int.reduceAdd, Int.reduceSub, Int.reduceMul, Int.reduceMod, Int.reduceTMod, Int.reduceTDiv, Int.reduceNeg, Nat.reduceSub, Nat.reduceDiv, reduceIte, reduceCtorEq]
end
end Go.V
