/- slices.reverseRangeOrdered, siftDownOrdered, heapSortOrdered over the small language. -/
import Derived.Test.YtlpdekocilhciaaPdqI
set_option linter.unusedVariables false
set_option linter.unusedSimpArgs false
set_option linter.unusedSectionVars false
/- slices.reverseRangeOrdered, siftDownOrdered, heapSortOrdered over the small language. -/
namespace Go.V
open Go
set_option linter.unusedSimpArgs false
set_option linter.unusedVariables false
-- slices.reverseRangeOrdered[uint32]
def ir138 : IFunc := ⟨32, [], (.seq (.region [⟨some 8, none, [], (.move (.t 1))⟩, ⟨some 6, none, [], (.move (.t 8))⟩] false)
 (.seq (.region [⟨some 9, none, [], (.move (.t 2))⟩, ⟨some 10, none, [], (.bin .sub (.t 9) (.c (.int .i64 1)))⟩, ⟨some 7, none, [], (.move (.t 10))⟩] false)
 (.block 0 (.loop (.seq (.seq (.region [⟨some 11, none, [], (.move (.t 6))⟩, ⟨some 12, none, [], (.move (.t 7))⟩, ⟨some 13, none, [], (.bin .lss (.t 11) (.t 12))⟩] false)
 (.cond (.t 13) .skip (.exit 0)))
 (.block 1 (.seq (.region [⟨some 14, none, [], (.move (.t 0))⟩, ⟨some 15, none, [], (.move (.t 6))⟩, ⟨some 16, none, [], (.move (.t 0))⟩, ⟨some 17, none, [], (.move (.t 7))⟩, ⟨some 18, none, [], (.move (.t 0))⟩, ⟨some 19, none, [], (.move (.t 7))⟩, ⟨some 20, none, [], (.idxSl 1 (.t 18) (.t 19))⟩, ⟨some 21, none, [], (.load false 1 (.t 20))⟩, ⟨some 22, none, [], (.move (.t 0))⟩, ⟨some 23, none, [], (.move (.t 6))⟩, ⟨some 24, none, [], (.idxSl 1 (.t 22) (.t 23))⟩, ⟨some 25, none, [], (.load false 1 (.t 24))⟩, ⟨some 26, none, [], (.idxSl 1 (.t 14) (.t 15))⟩, ⟨none, none, [], (.store 1 (.t 26) (.t 21))⟩, ⟨some 27, none, [], (.idxSl 1 (.t 16) (.t 17))⟩, ⟨none, none, [], (.store 1 (.t 27) (.t 25))⟩] true)
 (.seq (.region [⟨some 28, none, [], (.move (.t 6))⟩, ⟨some 29, none, [], (.bin .add (.t 28) (.c (.int .i64 1)))⟩, ⟨some 6, none, [], (.move (.t 29))⟩] false)
 (.region [⟨some 30, none, [], (.move (.t 7))⟩, ⟨some 31, none, [], (.bin .sub (.t 30) (.c (.int .i64 1)))⟩, ⟨some 7, none, [], (.move (.t 31))⟩] false)))))))))⟩
-- slices.siftDownOrdered[uint32]
def ir154 : IFunc := ⟨76, [], (.seq (.region [⟨some 10, none, [], (.move (.t 1))⟩, ⟨some 8, none, [], (.move (.t 10))⟩] false)
 (.block 0 (.loop (.block 1 (.seq (.region [⟨some 11, none, [], (.move (.t 8))⟩, ⟨some 12, none, [], (.bin .mul (.c (.int .i64 2)) (.t 11))⟩, ⟨some 13, none, [], (.bin .add (.t 12) (.c (.int .i64 1)))⟩, ⟨some 9, none, [], (.move (.t 13))⟩] false)
 (.seq (.seq (.region [⟨some 14, none, [], (.move (.t 9))⟩, ⟨some 15, none, [], (.move (.t 2))⟩, ⟨some 16, none, [], (.bin .geq (.t 14) (.t 15))⟩] false)
 (.cond (.t 16) (.exit 0) .skip))
 (.seq (.seq (.region [⟨some 17, none, [], (.move (.t 9))⟩, ⟨some 18, none, [], (.bin .add (.t 17) (.c (.int .i64 1)))⟩, ⟨some 19, none, [], (.move (.t 2))⟩, ⟨some 20, none, [], (.bin .lss (.t 18) (.t 19))⟩, ⟨some 21, none, [], (.move (.t 20))⟩, ⟨some 22, some (21, true), [], (.move (.t 0))⟩, ⟨some 23, some (21, true), [], (.move (.t 3))⟩, ⟨some 24, some (21, true), [], (.move (.t 9))⟩, ⟨some 25, some (21, true), [], (.bin .add (.t 23) (.t 24))⟩, ⟨some 26, some (21, true), [], (.idxSl 1 (.t 22) (.t 25))⟩, ⟨some 27, some (21, true), [], (.load false 1 (.t 26))⟩, ⟨some 28, some (21, true), [], (.move (.t 0))⟩, ⟨some 29, some (21, true), [], (.move (.t 3))⟩, ⟨some 30, some (21, true), [], (.move (.t 9))⟩, ⟨some 31, some (21, true), [], (.bin .add (.t 29) (.t 30))⟩, ⟨some 32, some (21, true), [], (.bin .add (.t 31) (.c (.int .i64 1)))⟩, ⟨some 33, some (21, true), [], (.idxSl 1 (.t 28) (.t 32))⟩, ⟨some 34, some (21, true), [], (.load false 1 (.t 33))⟩, ⟨some 35, some (21, true), [], (.call 140 [(.t 27), (.t 34)])⟩, ⟨some 36, none, [], (.pick (.t 21) (.t 35) (.c (.bool false)))⟩] true)
 (.cond (.t 36) (.region [⟨some 37, none, [], (.move (.t 9))⟩, ⟨some 38, none, [], (.bin .add (.t 37) (.c (.int .i64 1)))⟩, ⟨some 9, none, [], (.move (.t 38))⟩] false) .skip))
 (.seq (.seq (.region [⟨some 39, none, [], (.move (.t 0))⟩, ⟨some 40, none, [], (.move (.t 3))⟩, ⟨some 41, none, [], (.move (.t 8))⟩, ⟨some 42, none, [], (.bin .add (.t 40) (.t 41))⟩, ⟨some 43, none, [], (.idxSl 1 (.t 39) (.t 42))⟩, ⟨some 44, none, [], (.load false 1 (.t 43))⟩, ⟨some 45, none, [], (.move (.t 0))⟩, ⟨some 46, none, [], (.move (.t 3))⟩, ⟨some 47, none, [], (.move (.t 9))⟩, ⟨some 48, none, [], (.bin .add (.t 46) (.t 47))⟩, ⟨some 49, none, [], (.idxSl 1 (.t 45) (.t 48))⟩, ⟨some 50, none, [], (.load false 1 (.t 49))⟩, ⟨some 51, none, [], (.call 140 [(.t 44), (.t 50)])⟩, ⟨some 52, none, [], (.un .not (.t 51))⟩] true)
 (.cond (.t 52) .ret .skip))
 (.seq (.region [⟨some 53, none, [], (.move (.t 0))⟩, ⟨some 54, none, [], (.move (.t 3))⟩, ⟨some 55, none, [], (.move (.t 8))⟩, ⟨some 56, none, [], (.bin .add (.t 54) (.t 55))⟩, ⟨some 57, none, [], (.move (.t 0))⟩, ⟨some 58, none, [], (.move (.t 3))⟩, ⟨some 59, none, [], (.move (.t 9))⟩, ⟨some 60, none, [], (.bin .add (.t 58) (.t 59))⟩, ⟨some 61, none, [], (.move (.t 0))⟩, ⟨some 62, none, [], (.move (.t 3))⟩, ⟨some 63, none, [], (.move (.t 9))⟩, ⟨some 64, none, [], (.bin .add (.t 62) (.t 63))⟩, ⟨some 65, none, [], (.idxSl 1 (.t 61) (.t 64))⟩, ⟨some 66, none, [], (.load false 1 (.t 65))⟩, ⟨some 67, none, [], (.move (.t 0))⟩, ⟨some 68, none, [], (.move (.t 3))⟩, ⟨some 69, none, [], (.move (.t 8))⟩, ⟨some 70, none, [], (.bin .add (.t 68) (.t 69))⟩, ⟨some 71, none, [], (.idxSl 1 (.t 67) (.t 70))⟩, ⟨some 72, none, [], (.load false 1 (.t 71))⟩, ⟨some 73, none, [], (.idxSl 1 (.t 53) (.t 56))⟩, ⟨none, none, [], (.store 1 (.t 73) (.t 66))⟩, ⟨some 74, none, [], (.idxSl 1 (.t 57) (.t 60))⟩, ⟨none, none, [], (.store 1 (.t 74) (.t 72))⟩] true)
 (.region [⟨some 75, none, [], (.move (.t 9))⟩, ⟨some 8, none, [], (.move (.t 75))⟩] false))))))))))⟩
-- slices.heapSortOrdered[uint32]
def ir135 : IFunc := ⟨56, [], (.seq (.region [⟨some 11, none, [], (.move (.t 1))⟩, ⟨some 6, none, [], (.move (.t 11))⟩] false)
 (.seq (.region [⟨some 7, none, [], (.move (.c (.int .i64 0)))⟩] false)
 (.seq (.region [⟨some 12, none, [], (.move (.t 2))⟩, ⟨some 13, none, [], (.move (.t 1))⟩, ⟨some 14, none, [], (.bin .sub (.t 12) (.t 13))⟩, ⟨some 8, none, [], (.move (.t 14))⟩] false)
 (.seq (.seq (.region [⟨some 15, none, [], (.move (.t 8))⟩, ⟨some 16, none, [], (.bin .sub (.t 15) (.c (.int .i64 1)))⟩, ⟨some 17, none, [], (.bin .quo (.t 16) (.c (.int .i64 2)))⟩, ⟨some 9, none, [], (.move (.t 17))⟩] false)
 (.block 0 (.loop (.seq (.seq (.region [⟨some 18, none, [], (.move (.t 9))⟩, ⟨some 19, none, [], (.bin .geq (.t 18) (.c (.int .i64 0)))⟩] false)
 (.cond (.t 19) .skip (.exit 0)))
 (.seq (.block 1 (.region [⟨some 22, none, [], (.move (.t 0))⟩, ⟨some 23, none, [], (.move (.t 9))⟩, ⟨some 24, none, [], (.move (.t 8))⟩, ⟨some 25, none, [], (.move (.t 6))⟩, ⟨some 26, none, [], (.call 154 [(.t 22), (.t 23), (.t 24), (.t 25)])⟩] false))
 (.region [⟨some 20, none, [], (.move (.t 9))⟩, ⟨some 21, none, [], (.bin .sub (.t 20) (.c (.int .i64 1)))⟩, ⟨some 9, none, [], (.move (.t 21))⟩] false))))))
 (.seq (.region [⟨some 27, none, [], (.move (.t 8))⟩, ⟨some 28, none, [], (.bin .sub (.t 27) (.c (.int .i64 1)))⟩, ⟨some 10, none, [], (.move (.t 28))⟩] false)
 (.block 2 (.loop (.seq (.seq (.region [⟨some 29, none, [], (.move (.t 10))⟩, ⟨some 30, none, [], (.bin .geq (.t 29) (.c (.int .i64 0)))⟩] false)
 (.cond (.t 30) .skip (.exit 2)))
 (.seq (.block 3 (.seq (.region [⟨some 33, none, [], (.move (.t 0))⟩, ⟨some 34, none, [], (.move (.t 6))⟩, ⟨some 35, none, [], (.move (.t 0))⟩, ⟨some 36, none, [], (.move (.t 6))⟩, ⟨some 37, none, [], (.move (.t 10))⟩, ⟨some 38, none, [], (.bin .add (.t 36) (.t 37))⟩, ⟨some 39, none, [], (.move (.t 0))⟩, ⟨some 40, none, [], (.move (.t 6))⟩, ⟨some 41, none, [], (.move (.t 10))⟩, ⟨some 42, none, [], (.bin .add (.t 40) (.t 41))⟩, ⟨some 43, none, [], (.idxSl 1 (.t 39) (.t 42))⟩, ⟨some 44, none, [], (.load false 1 (.t 43))⟩, ⟨some 45, none, [], (.move (.t 0))⟩, ⟨some 46, none, [], (.move (.t 6))⟩, ⟨some 47, none, [], (.idxSl 1 (.t 45) (.t 46))⟩, ⟨some 48, none, [], (.load false 1 (.t 47))⟩, ⟨some 49, none, [], (.idxSl 1 (.t 33) (.t 34))⟩, ⟨none, none, [], (.store 1 (.t 49) (.t 44))⟩, ⟨some 50, none, [], (.idxSl 1 (.t 35) (.t 38))⟩, ⟨none, none, [], (.store 1 (.t 50) (.t 48))⟩] true)
 (.region [⟨some 51, none, [], (.move (.t 0))⟩, ⟨some 52, none, [], (.move (.t 7))⟩, ⟨some 53, none, [], (.move (.t 10))⟩, ⟨some 54, none, [], (.move (.t 6))⟩, ⟨some 55, none, [], (.call 154 [(.t 51), (.t 52), (.t 53), (.t 54)])⟩] false)))
 (.region [⟨some 31, none, [], (.move (.t 10))⟩, ⟨some 32, none, [], (.bin .sub (.t 31) (.c (.int .i64 1)))⟩, ⟨some 10, none, [], (.move (.t 32))⟩] false))))))))))⟩
section
variable {α : Type} {en : α → AV} {lt : α → α → Bool} {T : Tab}
set_option maxHeartbeats 4000000 in
theorem rev_loop (hL : LessOk T 140 en lt) {Q : Post} {s0 : St} {B inc n cap : Nat} {ex : Bool} (hB : B < s0.next) (hn : n ≤ 1000000000) (a b : Nat) (hbn : b ≤ n) (f0 : Nat → α)
    (K : ∀ (e : Env) (s : St) (g : Nat → α), Aft en s0 B inc n g s → PermR a b f0 g → Q .normal e s) :
    ∀ (k i j : Nat) (e : Env) (s : St) (g : Nat → α), k = b - i → a ≤ i → j < b → a ≤ j → opd e (.t 0) = dsl B inc n cap ex → opd e (.t 6) = .int .i64 (i : Int) → opd e (.t 7) = .int .i64 (j : Int) → Aft en s0 B inc n g s → PermR a b f0 g →
      Go T Q ((.loop (.seq (.seq (.region [⟨some 11, none, [], (.move (.t 6))⟩, ⟨some 12, none, [], (.move (.t 7))⟩, ⟨some 13, none, [], (.bin .lss (.t 11) (.t 12))⟩] false)
 (.cond (.t 13) .skip (.exit 0)))
 (.block 1 (.seq (.region [⟨some 14, none, [], (.move (.t 0))⟩, ⟨some 15, none, [], (.move (.t 6))⟩, ⟨some 16, none, [], (.move (.t 0))⟩, ⟨some 17, none, [], (.move (.t 7))⟩, ⟨some 18, none, [], (.move (.t 0))⟩, ⟨some 19, none, [], (.move (.t 7))⟩, ⟨some 20, none, [], (.idxSl 1 (.t 18) (.t 19))⟩, ⟨some 21, none, [], (.load false 1 (.t 20))⟩, ⟨some 22, none, [], (.move (.t 0))⟩, ⟨some 23, none, [], (.move (.t 6))⟩, ⟨some 24, none, [], (.idxSl 1 (.t 22) (.t 23))⟩, ⟨some 25, none, [], (.load false 1 (.t 24))⟩, ⟨some 26, none, [], (.idxSl 1 (.t 14) (.t 15))⟩, ⟨none, none, [], (.store 1 (.t 26) (.t 21))⟩, ⟨some 27, none, [], (.idxSl 1 (.t 16) (.t 17))⟩, ⟨none, none, [], (.store 1 (.t 27) (.t 25))⟩] true)
 (.seq (.region [⟨some 28, none, [], (.move (.t 6))⟩, ⟨some 29, none, [], (.bin .add (.t 28) (.c (.int .i64 1)))⟩, ⟨some 6, none, [], (.move (.t 29))⟩] false)
 (.region [⟨some 30, none, [], (.move (.t 7))⟩, ⟨some 31, none, [], (.bin .sub (.t 30) (.c (.int .i64 1)))⟩, ⟨some 7, none, [], (.move (.t 31))⟩] false))))))) [.block 0] e s := by
  have kc := hL.cells
  have ki := hL.cell
  intro k
  induction k with
  | zero =>
    intro i j e s g hk hai hjb haj h0 h6 h7 hA hP
    have hc : ¬ ((i : Int) < (j : Int)) := by omega
    have hK := fun e => K e s g hA hP
    rw [go_loop]
    simp only [h0, h6, h7, hc, hK, wk, wk1, wk2, Option.some.injEq, exists_eq_left', decide_true, decide_false, Nat.reduceAdd, Nat.reduceEqDiff, Nat.reduceLeDiff, Nat.reduceLT, Nat.reduceMul, Nat.reduceBEq, Int.reduceLT, Int.reduceLE, Int.reduceEq, Int.reduceAdd, Int.reduceSub, Int.reduceMul, Int.reduceMod, Int.reduceTMod, Int.reduceTDiv, Int.reduceNeg, Nat.reduceSub, Nat.reduceDiv, reduceIte, reduceCtorEq]
  | succ k ih =>
    intro i j e s g hk hai hjb haj h0 h6 h7 hA hP
    by_cases hij : i < j
    · have hc : ((i : Int) < (j : Int)) := by omega
      have hw : wrapF .i64 ((i : Int) + 1) = ((i + 1 : Nat) : Int) := i64_add1 (by omega)
      have hwj : wrapF .i64 ((j : Int) - 1) = ((j - 1 : Nat) : Int) := i64_sub1 (by omega) (by omega)
      have hin : i < n := by omega
      have hjn : j < n := by omega
      have hi1 : i + 1 ≤ n := by omega
      have hj1 : j + 1 ≤ n := by omega
      obtain ⟨lo, hlo, hrow⟩ := hA.row
      have m1 := mp_take (en := en) (f := g) hin
      have m2 := mp_take (en := en) (f := g) hjn
      have sp1 := fun x => mp_splice (en := en) (f := g) (x := x) hin
      have sp2 := fun f x => mp_splice (en := en) (f := f) (x := x) hjn
      have hA' := hA.put hB (swp g i j)
      have hP' := hP.trans (PermR.swap (f := g) (i := i) (j := j) (a := a) (b := b) (by omega) (by omega) (by omega) (by omega))
      rw [go_loop]
      simp only [h0, h6, h7, hc, hw, hwj, hin, hjn, hi1, hj1, hrow, hlo, m1, m2, kc, ki, sp1, sp2, upd_swp, wk, wk1, wk2, Option.some.injEq, exists_eq_left', decide_true, decide_false, Nat.reduceAdd, Nat.reduceEqDiff, Nat.reduceLeDiff, Nat.reduceLT, Nat.reduceMul, Nat.reduceBEq, Int.reduceLT, Int.reduceLE, Int.reduceEq, Int.reduceAdd, Int.reduceSub, Int.reduceMul, Int.reduceMod, Int.reduceTMod, Int.reduceTDiv, Int.reduceNeg, Nat.reduceSub, Nat.reduceDiv, reduceIte, reduceCtorEq]
      refine ih (i + 1) (j - 1) _ _ _ (by omega) (by omega) (by omega) (by omega) ?_ ?_ ?_ hA' hP' <;> simp only [h0, h6, h7, hw, hwj, wk, wk1, wk2, Option.some.injEq, exists_eq_left', decide_true, decide_false, Nat.reduceAdd, Nat.reduceEqDiff, Nat.reduceLeDiff, Nat.reduceLT, Nat.reduceMul, Nat.reduceBEq, Int.reduceLT, Int.reduceLE, Int.reduceEq, Int.reduceAdd, Int.reduceSub, Int.reduceMul, Int.reduceMod, Int.reduceTMod, Int.reduceTDiv, Int.reduceNeg, Nat.reduceSub, Nat.reduceDiv, reduceIte, reduceCtorEq]
    · have hc : ¬ ((i : Int) < (j : Int)) := by omega
      have hK := fun e => K e s g hA hP
      rw [go_loop]
      simp only [h0, h6, h7, hc, hK, wk, wk1, wk2, Option.some.injEq, exists_eq_left', decide_true, decide_false, Nat.reduceAdd, Nat.reduceEqDiff, Nat.reduceLeDiff, Nat.reduceLT, Nat.reduceMul, Nat.reduceBEq, Int.reduceLT, Int.reduceLE, Int.reduceEq, Int.reduceAdd, Int.reduceSub, Int.reduceMul, Int.reduceMod, Int.reduceTMod, Int.reduceTDiv, Int.reduceNeg, Nat.reduceSub, Nat.reduceDiv, reduceIte, reduceCtorEq]

theorem rev_ran (hc : T 138 = some (.code ir138)) (hL : LessOk T 140 en lt) (s : St) (B inc n cap : Nat) (ex : Bool) (hB : B < s.next) (hn : n ≤ 1000000000) (a b : Nat) (hab : a < b) (hbn : b ≤ n) (f : Nat → α) (hA : Aft en s B inc n f s) :
    Ran T 138 [dsl B inc n cap ex, .int .i64 (a : Int), .int .i64 (b : Int)] s fun v s' => v = .tuple [] ∧ ∃ g, Aft en s B inc n g s' ∧ PermR a b f g := by
  refine ran_code hc (Nat.le_of_ble_eq_true rfl) ?_
  have hw : wrapF .i64 ((b : Int) - 1) = ((b - 1 : Nat) : Int) := i64_sub1 (by omega) (by omega)
  generalize hQ : Fin _ _ = Q
  simp only [ir138, hw, wk, wk1, wk2, Option.some.injEq, exists_eq_left', decide_true, decide_false, Nat.reduceAdd, Nat.reduceEqDiff, Nat.reduceLeDiff, Nat.reduceLT, Nat.reduceMul, Nat.reduceBEq, Int.reduceLT, Int.reduceLE, Int.reduceEq, Int.reduceAdd, Int.reduceSub, Int.reduceMul, Int.reduceMod, Int.reduceTMod, Int.reduceTDiv, Int.reduceNeg, Nat.reduceSub, Nat.reduceDiv, reduceIte, reduceCtorEq]
  refine rev_loop (cap := cap) (ex := ex) hL hB hn a b hbn f ?_ (b - a) a (b - 1) _ s f rfl (by omega) (by omega) (by omega) ?_ ?_ ?_ hA (PermR.refl _ _ _)
  · intro e s' g hA hP
    subst hQ
    simp only [ir138, wk, wk1, wk2, Option.some.injEq, exists_eq_left', decide_true, decide_false, Nat.reduceAdd, Nat.reduceEqDiff, Nat.reduceLeDiff, Nat.reduceLT, Nat.reduceMul, Nat.reduceBEq, Int.reduceLT, Int.reduceLE, Int.reduceEq, Int.reduceAdd, Int.reduceSub, Int.reduceMul, Int.reduceMod, Int.reduceTMod, Int.reduceTDiv, Int.reduceNeg, Nat.reduceSub, Nat.reduceDiv, reduceIte, reduceCtorEq]
    exact ⟨g, hA, hP⟩
  all_goals simp only [wk, wk1, wk2, Option.some.injEq, exists_eq_left', decide_true, decide_false, Nat.reduceAdd, Nat.reduceEqDiff, Nat.reduceLeDiff, Nat.reduceLT, Nat.reduceMul, Nat.reduceBEq, Int.reduceLT, Int.reduceLE, Int.reduceEq, Int.reduceAdd, Int.reduceSub, Int.reduceMul, Int.reduceMod, Int.reduceTMod, Int.reduceTDiv, Int.reduceNeg, Nat.reduceSub, Nat.reduceDiv, reduceIte, reduceCtorEq]

/- the heap -/
def Heap (lt : α → α → Bool) (o lo hi : Nat) (f : Nat → α) : Prop := ∀ c, 1 ≤ c → c < hi → lo ≤ (c - 1) / 2 → Le lt (f (o + c)) (f (o + (c - 1) / 2))
structure HeapInv (lt : α → α → Bool) (o lo hi r : Nat) (f : Nat → α) : Prop where
  one : ∀ c, 1 ≤ c → c < hi → lo ≤ (c - 1) / 2 → (c - 1) / 2 ≠ r → Le lt (f (o + c)) (f (o + (c - 1) / 2))
  two : ∀ c, 1 ≤ c → c < hi → (c - 1) / 2 = r → 1 ≤ r → lo ≤ (r - 1) / 2 → Le lt (f (o + c)) (f (o + (r - 1) / 2))

theorem HeapInv.done {o lo hi r : Nat} {f : Nat → α} (h : HeapInv lt o lo hi r f) (hr : ∀ c, 1 ≤ c → c < hi → (c - 1) / 2 = r → Le lt (f (o + c)) (f (o + r))) : Heap lt o lo hi f := by
  intro c h1 h2 h3
  by_cases hc : (c - 1) / 2 = r
  · rw [hc]; exact hr c h1 h2 hc
  · exact h.one c h1 h2 h3 hc
theorem HeapInv.step (ho : Ord lt) {o lo hi r c : Nat} {f : Nat → α} (h : HeapInv lt o lo hi r f) (hlr : lo ≤ r) (hc : c = 2 * r + 1 ∨ c = 2 * r + 2) (hch : c < hi) (hl : lt (f (o + r)) (f (o + c)) = true)
    (hsib : ∀ d, 1 ≤ d → d < hi → (d - 1) / 2 = r → Le lt (f (o + d)) (f (o + c))) : HeapInv lt o lo hi c (swp f (o + r) (o + c)) := by
  have hrc : r < c := by omega
  have hpc : (c - 1) / 2 = r := by omega
  constructor
  · intro d h1 h2 h3 h4
    unfold swp
    by_cases e1 : (d - 1) / 2 = r
    · rw [e1, if_neg (by omega : ¬ o + d = o + r), if_pos rfl]
      by_cases e2 : d = c
      · subst e2; rw [if_pos rfl]; exact ho.le hl
      · rw [if_neg (by omega)]; exact hsib d h1 h2 e1
    · rw [if_neg (by omega : ¬ o + (d - 1) / 2 = o + r), if_neg (by omega : ¬ o + (d - 1) / 2 = o + c)]
      by_cases e2 : d = r
      · subst e2; rw [if_pos rfl]; exact h.two c (by omega) hch hpc h1 h3
      · rw [if_neg (by omega), if_neg (by omega)]; exact h.one d h1 h2 h3 e1
  · intro d h1 h2 h3 h4 h5
    unfold swp
    rw [hpc, if_pos rfl, if_neg (by omega), if_neg (by omega)]
    have := h.one d h1 h2 (by omega) (by omega)
    rw [h3] at this
    exact this
theorem Heap.inv {o lo hi : Nat} {f : Nat → α} (h : Heap lt o (lo + 1) hi f) : HeapInv lt o lo hi lo f :=
  ⟨fun c h1 h2 h3 h4 => h c h1 h2 (by omega), fun c _ _ _ h4 h5 => by omega⟩
theorem Heap.top (ho : Ord lt) {o hi : Nat} {f : Nat → α} (h : Heap lt o 0 hi f) : ∀ c, c < hi → Le lt (f (o + c)) (f o) := by
  intro c
  induction c using Nat.strongRecOn with
  | _ c ih =>
    intro hc
    by_cases h0 : c = 0
    · subst h0; exact ho.refl _
    · exact ho.trans _ _ _ (h c (by omega) hc (Nat.zero_le _)) (ih ((c - 1) / 2) (by omega) (by omega))

theorem op (n : Nat) : ∃ m, m = n := ⟨n, rfl⟩
set_option maxHeartbeats 8000000 in
theorem sift_loop (hL : LessOk T 140 en lt) (ho : Ord lt) {Q : Post} {s0 : St} {B inc n cap : Nat} {ex : Bool} (hB : B < s0.next) (hn : n ≤ 1000000000) (o lo hi b : Nat) (hob : o + hi ≤ b) (hbn : b ≤ n) (f0 : Nat → α)
    (K : ∀ (e : Env) (s : St) (g : Nat → α), Aft en s0 B inc n g s → Heap lt o lo hi g → PermR o b f0 g → Q .normal e s ∧ Q .ret e s) :
    ∀ (k r : Nat) (e : Env) (s : St) (g : Nat → α), k = hi - r → lo ≤ r → r < hi ∨ r ≤ n → opd e (.t 0) = dsl B inc n cap ex → opd e (.t 2) = .int .i64 (hi : Int) → opd e (.t 3) = .int .i64 (o : Int) → opd e (.t 8) = .int .i64 (r : Int) → Aft en s0 B inc n g s → HeapInv lt o lo hi r g → PermR o b f0 g →
      Go T Q ((.loop (.block 1 (.seq (.region [⟨some 11, none, [], (.move (.t 8))⟩, ⟨some 12, none, [], (.bin .mul (.c (.int .i64 2)) (.t 11))⟩, ⟨some 13, none, [], (.bin .add (.t 12) (.c (.int .i64 1)))⟩, ⟨some 9, none, [], (.move (.t 13))⟩] false)
 (.seq (.seq (.region [⟨some 14, none, [], (.move (.t 9))⟩, ⟨some 15, none, [], (.move (.t 2))⟩, ⟨some 16, none, [], (.bin .geq (.t 14) (.t 15))⟩] false)
 (.cond (.t 16) (.exit 0) .skip))
 (.seq (.seq (.region [⟨some 17, none, [], (.move (.t 9))⟩, ⟨some 18, none, [], (.bin .add (.t 17) (.c (.int .i64 1)))⟩, ⟨some 19, none, [], (.move (.t 2))⟩, ⟨some 20, none, [], (.bin .lss (.t 18) (.t 19))⟩, ⟨some 21, none, [], (.move (.t 20))⟩, ⟨some 22, some (21, true), [], (.move (.t 0))⟩, ⟨some 23, some (21, true), [], (.move (.t 3))⟩, ⟨some 24, some (21, true), [], (.move (.t 9))⟩, ⟨some 25, some (21, true), [], (.bin .add (.t 23) (.t 24))⟩, ⟨some 26, some (21, true), [], (.idxSl 1 (.t 22) (.t 25))⟩, ⟨some 27, some (21, true), [], (.load false 1 (.t 26))⟩, ⟨some 28, some (21, true), [], (.move (.t 0))⟩, ⟨some 29, some (21, true), [], (.move (.t 3))⟩, ⟨some 30, some (21, true), [], (.move (.t 9))⟩, ⟨some 31, some (21, true), [], (.bin .add (.t 29) (.t 30))⟩, ⟨some 32, some (21, true), [], (.bin .add (.t 31) (.c (.int .i64 1)))⟩, ⟨some 33, some (21, true), [], (.idxSl 1 (.t 28) (.t 32))⟩, ⟨some 34, some (21, true), [], (.load false 1 (.t 33))⟩, ⟨some 35, some (21, true), [], (.call 140 [(.t 27), (.t 34)])⟩, ⟨some 36, none, [], (.pick (.t 21) (.t 35) (.c (.bool false)))⟩] true)
 (.cond (.t 36) (.region [⟨some 37, none, [], (.move (.t 9))⟩, ⟨some 38, none, [], (.bin .add (.t 37) (.c (.int .i64 1)))⟩, ⟨some 9, none, [], (.move (.t 38))⟩] false) .skip))
 (.seq (.seq (.region [⟨some 39, none, [], (.move (.t 0))⟩, ⟨some 40, none, [], (.move (.t 3))⟩, ⟨some 41, none, [], (.move (.t 8))⟩, ⟨some 42, none, [], (.bin .add (.t 40) (.t 41))⟩, ⟨some 43, none, [], (.idxSl 1 (.t 39) (.t 42))⟩, ⟨some 44, none, [], (.load false 1 (.t 43))⟩, ⟨some 45, none, [], (.move (.t 0))⟩, ⟨some 46, none, [], (.move (.t 3))⟩, ⟨some 47, none, [], (.move (.t 9))⟩, ⟨some 48, none, [], (.bin .add (.t 46) (.t 47))⟩, ⟨some 49, none, [], (.idxSl 1 (.t 45) (.t 48))⟩, ⟨some 50, none, [], (.load false 1 (.t 49))⟩, ⟨some 51, none, [], (.call 140 [(.t 44), (.t 50)])⟩, ⟨some 52, none, [], (.un .not (.t 51))⟩] true)
 (.cond (.t 52) .ret .skip))
 (.seq (.region [⟨some 53, none, [], (.move (.t 0))⟩, ⟨some 54, none, [], (.move (.t 3))⟩, ⟨some 55, none, [], (.move (.t 8))⟩, ⟨some 56, none, [], (.bin .add (.t 54) (.t 55))⟩, ⟨some 57, none, [], (.move (.t 0))⟩, ⟨some 58, none, [], (.move (.t 3))⟩, ⟨some 59, none, [], (.move (.t 9))⟩, ⟨some 60, none, [], (.bin .add (.t 58) (.t 59))⟩, ⟨some 61, none, [], (.move (.t 0))⟩, ⟨some 62, none, [], (.move (.t 3))⟩, ⟨some 63, none, [], (.move (.t 9))⟩, ⟨some 64, none, [], (.bin .add (.t 62) (.t 63))⟩, ⟨some 65, none, [], (.idxSl 1 (.t 61) (.t 64))⟩, ⟨some 66, none, [], (.load false 1 (.t 65))⟩, ⟨some 67, none, [], (.move (.t 0))⟩, ⟨some 68, none, [], (.move (.t 3))⟩, ⟨some 69, none, [], (.move (.t 8))⟩, ⟨some 70, none, [], (.bin .add (.t 68) (.t 69))⟩, ⟨some 71, none, [], (.idxSl 1 (.t 67) (.t 70))⟩, ⟨some 72, none, [], (.load false 1 (.t 71))⟩, ⟨some 73, none, [], (.idxSl 1 (.t 53) (.t 56))⟩, ⟨none, none, [], (.store 1 (.t 73) (.t 66))⟩, ⟨some 74, none, [], (.idxSl 1 (.t 57) (.t 60))⟩, ⟨none, none, [], (.store 1 (.t 74) (.t 72))⟩] true)
 (.region [⟨some 75, none, [], (.move (.t 9))⟩, ⟨some 8, none, [], (.move (.t 75))⟩] false))))))))) [.block 0] e s := by
  have kl := hL.call
  have kc := hL.cells
  have ki := hL.cell
  intro k
  induction k using Nat.strongRecOn with
  | _ k ih =>
    intro r e s g hk hlr hrn h0 h2 h3 h8 hA hI hP
    obtain ⟨m, hm⟩ := op (2 * r)
    obtain ⟨c, hc⟩ := op (m + 1)
    have u1 : wrapF .i64 (2 * (r : Int)) = (m : Int) := by rw [wrap_i64 _ (by omega) (by omega)]; omega
    have u2 : wrapF .i64 ((m : Int) + 1) = (c : Int) := by rw [wrap_i64 _ (by omega) (by omega)]; omega
    rw [go_loop]
    by_cases hch : c < hi
    · have l1 : ¬ ((hi : Int) ≤ (c : Int)) := by omega
      obtain ⟨d, hd⟩ := op (c + 1)
      obtain ⟨p, hp⟩ := op (o + c)
      obtain ⟨q, hq⟩ := op (o + d)
      obtain ⟨x, hx⟩ := op (o + r)
      have u3 : wrapF .i64 ((c : Int) + 1) = (d : Int) := by rw [wrap_i64 _ (by omega) (by omega)]; omega
      have u4 : wrapF .i64 ((o : Int) + (c : Int)) = (p : Int) := by rw [wrap_i64 _ (by omega) (by omega)]; omega
      have u5 : wrapF .i64 ((o : Int) + (d : Int)) = (q : Int) := by rw [wrap_i64 _ (by omega) (by omega)]; omega
      have u6 : wrapF .i64 ((p : Int) + 1) = (q : Int) := by rw [wrap_i64 _ (by omega) (by omega)]; omega
      have u7 : wrapF .i64 ((o : Int) + (r : Int)) = (x : Int) := by rw [wrap_i64 _ (by omega) (by omega)]; omega
      have hpn : p < n := by omega
      have hxn : x < n := by omega
      have hp1 : p + 1 ≤ n := by omega
      have hx1 : x + 1 ≤ n := by omega
      obtain ⟨lo', hlo, hrow⟩ := hA.row
      have m1 := mp_take (en := en) (f := g) hpn
      have m2 := mp_take (en := en) (f := g) hxn
      have sp1 := fun f x => mp_splice (en := en) (f := f) (x := x) hpn
      have sp2 := fun f x => mp_splice (en := en) (f := f) (x := x) hxn
      by_cases hdh : d < hi
      · have l2 : ((d : Int) < (hi : Int)) := by omega
        have hqn : q < n := by omega
        have hq1 : q + 1 ≤ n := by omega
        have m3 := mp_take (en := en) (f := g) hqn
        have sp3 := fun f x => mp_splice (en := en) (f := f) (x := x) hqn
        cases hlt : lt (g p) (g q) with
        | true =>
          -- the second child
          have hsib : ∀ y, 1 ≤ y → y < hi → (y - 1) / 2 = r → Le lt (g (o + y)) (g (o + d)) := by
            intro y y1 y2 y3
            rw [← hq]
            by_cases e1 : y = d
            · subst e1; rw [← hq]; exact ho.refl _
            · have e2 : y = c := by omega
              subst e2; rw [← hp]; exact ho.le hlt
          cases hl2 : lt (g x) (g q) with
          | false =>
            have hK := fun e => (K e s g hA (hI.done fun y y1 y2 y3 => ho.trans _ _ _ (hsib y y1 y2 y3) (by rw [← hq, ← hx]; exact hl2)) hP).2
            simp only [h0, h2, h3, h8, u1, u2, u3, u4, u5, u6, u7, l1, l2, hpn, hxn, hqn, hp1, hx1, hq1, hrow, hlo, m1, m2, m3, kl, hlt, hl2, hK, wk, wk1, wk2, Option.some.injEq, exists_eq_left', decide_true, decide_false, Nat.reduceAdd, Nat.reduceEqDiff, Nat.reduceLeDiff, Nat.reduceLT, Nat.reduceMul, Nat.reduceBEq, Int.reduceLT, Int.reduceLE, Int.reduceEq, Int.reduceAdd, Int.reduceSub, Int.reduceMul, Int.reduceMod, Int.reduceTMod, Int.reduceTDiv, Int.reduceNeg, Nat.reduceSub, Nat.reduceDiv, reduceIte, reduceCtorEq]
          | true =>
            have hA' := hA.put hB (swp g x q)
            have hI' : HeapInv lt o lo hi d (swp g x q) := by
              have := hI.step ho hlr (c := d) (by omega) hdh (by rw [← hx, ← hq]; exact hl2) hsib
              rwa [← hx, ← hq] at this
            have hP' := hP.trans (PermR.swap (f := g) (i := x) (j := q) (a := o) (b := b) (by omega) (by omega) (by omega) (by omega))
            simp only [h0, h2, h3, h8, u1, u2, u3, u4, u5, u6, u7, l1, l2, hpn, hxn, hqn, hp1, hx1, hq1, hrow, hlo, m1, m2, m3, kl, kc, ki, sp1, sp2, sp3, upd_swp, hlt, hl2, wk, wk1, wk2, Option.some.injEq, exists_eq_left', decide_true, decide_false, Nat.reduceAdd, Nat.reduceEqDiff, Nat.reduceLeDiff, Nat.reduceLT, Nat.reduceMul, Nat.reduceBEq, Int.reduceLT, Int.reduceLE, Int.reduceEq, Int.reduceAdd, Int.reduceSub, Int.reduceMul, Int.reduceMod, Int.reduceTMod, Int.reduceTDiv, Int.reduceNeg, Nat.reduceSub, Nat.reduceDiv, reduceIte, reduceCtorEq]
            refine ih (hi - d) (by omega) d _ _ _ rfl (by omega) (by omega) ?_ ?_ ?_ ?_ hA' hI' hP' <;> simp only [h0, h2, h3, h8, u1, u2, u3, u4, u5, u6, u7, wk, wk1, wk2, Option.some.injEq, exists_eq_left', decide_true, decide_false, Nat.reduceAdd, Nat.reduceEqDiff, Nat.reduceLeDiff, Nat.reduceLT, Nat.reduceMul, Nat.reduceBEq, Int.reduceLT, Int.reduceLE, Int.reduceEq, Int.reduceAdd, Int.reduceSub, Int.reduceMul, Int.reduceMod, Int.reduceTMod, Int.reduceTDiv, Int.reduceNeg, Nat.reduceSub, Nat.reduceDiv, reduceIte, reduceCtorEq]
        | false =>
          have hsib : ∀ y, 1 ≤ y → y < hi → (y - 1) / 2 = r → Le lt (g (o + y)) (g (o + c)) := by
            intro y y1 y2 y3
            rw [← hp]
            by_cases e1 : y = c
            · subst e1; rw [← hp]; exact ho.refl _
            · have e2 : y = d := by omega
              subst e2; rw [← hq]; exact hlt
          cases hl2 : lt (g x) (g p) with
          | false =>
            have hK := fun e => (K e s g hA (hI.done fun y y1 y2 y3 => ho.trans _ _ _ (hsib y y1 y2 y3) (by rw [← hp, ← hx]; exact hl2)) hP).2
            simp only [h0, h2, h3, h8, u1, u2, u3, u4, u5, u6, u7, l1, l2, hpn, hxn, hqn, hp1, hx1, hq1, hrow, hlo, m1, m2, m3, kl, hlt, hl2, hK, wk, wk1, wk2, Option.some.injEq, exists_eq_left', decide_true, decide_false, Nat.reduceAdd, Nat.reduceEqDiff, Nat.reduceLeDiff, Nat.reduceLT, Nat.reduceMul, Nat.reduceBEq, Int.reduceLT, Int.reduceLE, Int.reduceEq, Int.reduceAdd, Int.reduceSub, Int.reduceMul, Int.reduceMod, Int.reduceTMod, Int.reduceTDiv, Int.reduceNeg, Nat.reduceSub, Nat.reduceDiv, reduceIte, reduceCtorEq]
          | true =>
            have hA' := hA.put hB (swp g x p)
            have hI' : HeapInv lt o lo hi c (swp g x p) := by
              have := hI.step ho hlr (c := c) (by omega) hch (by rw [← hx, ← hp]; exact hl2) hsib
              rwa [← hx, ← hp] at this
            have hP' := hP.trans (PermR.swap (f := g) (i := x) (j := p) (a := o) (b := b) (by omega) (by omega) (by omega) (by omega))
            simp only [h0, h2, h3, h8, u1, u2, u3, u4, u5, u6, u7, l1, l2, hpn, hxn, hqn, hp1, hx1, hq1, hrow, hlo, m1, m2, m3, kl, kc, ki, sp1, sp2, sp3, upd_swp, hlt, hl2, wk, wk1, wk2, Option.some.injEq, exists_eq_left', decide_true, decide_false, Nat.reduceAdd, Nat.reduceEqDiff, Nat.reduceLeDiff, Nat.reduceLT, Nat.reduceMul, Nat.reduceBEq, Int.reduceLT, Int.reduceLE, Int.reduceEq, Int.reduceAdd, Int.reduceSub, Int.reduceMul, Int.reduceMod, Int.reduceTMod, Int.reduceTDiv, Int.reduceNeg, Nat.reduceSub, Nat.reduceDiv, reduceIte, reduceCtorEq]
            refine ih (hi - c) (by omega) c _ _ _ rfl (by omega) (by omega) ?_ ?_ ?_ ?_ hA' hI' hP' <;> simp only [h0, h2, h3, h8, u1, u2, u3, u4, u5, u6, u7, wk, wk1, wk2, Option.some.injEq, exists_eq_left', decide_true, decide_false, Nat.reduceAdd, Nat.reduceEqDiff, Nat.reduceLeDiff, Nat.reduceLT, Nat.reduceMul, Nat.reduceBEq, Int.reduceLT, Int.reduceLE, Int.reduceEq, Int.reduceAdd, Int.reduceSub, Int.reduceMul, Int.reduceMod, Int.reduceTMod, Int.reduceTDiv, Int.reduceNeg, Nat.reduceSub, Nat.reduceDiv, reduceIte, reduceCtorEq]
      · have l2 : ¬ ((d : Int) < (hi : Int)) := by omega
        have hsib : ∀ y, 1 ≤ y → y < hi → (y - 1) / 2 = r → Le lt (g (o + y)) (g (o + c)) := by
          intro y y1 y2 y3
          have e2 : y = c := by omega
          subst e2; exact ho.refl _
        cases hl2 : lt (g x) (g p) with
        | false =>
          have hK := fun e => (K e s g hA (hI.done fun y y1 y2 y3 => ho.trans _ _ _ (hsib y y1 y2 y3) (by rw [← hp, ← hx]; exact hl2)) hP).2
          simp only [h0, h2, h3, h8, u1, u2, u3, u4, u5, u6, u7, l1, l2, hpn, hxn, hp1, hx1, hrow, hlo, m1, m2, kl, hl2, hK, wk, wk1, wk2, Option.some.injEq, exists_eq_left', decide_true, decide_false, Nat.reduceAdd, Nat.reduceEqDiff, Nat.reduceLeDiff, Nat.reduceLT, Nat.reduceMul, Nat.reduceBEq, Int.reduceLT, Int.reduceLE, Int.reduceEq, Int.reduceAdd, Int.reduceSub, Int.reduceMul, Int.reduceMod, Int.reduceTMod, Int.reduceTDiv, Int.reduceNeg, Nat.reduceSub, Nat.reduceDiv, reduceIte, reduceCtorEq]
        | true =>
          have hA' := hA.put hB (swp g x p)
          have hI' : HeapInv lt o lo hi c (swp g x p) := by
            have := hI.step ho hlr (c := c) (by omega) hch (by rw [← hx, ← hp]; exact hl2) hsib
            rwa [← hx, ← hp] at this
          have hP' := hP.trans (PermR.swap (f := g) (i := x) (j := p) (a := o) (b := b) (by omega) (by omega) (by omega) (by omega))
          simp only [h0, h2, h3, h8, u1, u2, u3, u4, u5, u6, u7, l1, l2, hpn, hxn, hp1, hx1, hrow, hlo, m1, m2, kl, kc, ki, sp1, sp2, upd_swp, hl2, wk, wk1, wk2, Option.some.injEq, exists_eq_left', decide_true, decide_false, Nat.reduceAdd, Nat.reduceEqDiff, Nat.reduceLeDiff, Nat.reduceLT, Nat.reduceMul, Nat.reduceBEq, Int.reduceLT, Int.reduceLE, Int.reduceEq, Int.reduceAdd, Int.reduceSub, Int.reduceMul, Int.reduceMod, Int.reduceTMod, Int.reduceTDiv, Int.reduceNeg, Nat.reduceSub, Nat.reduceDiv, reduceIte, reduceCtorEq]
          refine ih (hi - c) (by omega) c _ _ _ rfl (by omega) (by omega) ?_ ?_ ?_ ?_ hA' hI' hP' <;> simp only [h0, h2, h3, h8, u1, u2, u3, u4, u5, u6, u7, wk, wk1, wk2, Option.some.injEq, exists_eq_left', decide_true, decide_false, Nat.reduceAdd, Nat.reduceEqDiff, Nat.reduceLeDiff, Nat.reduceLT, Nat.reduceMul, Nat.reduceBEq, Int.reduceLT, Int.reduceLE, Int.reduceEq, Int.reduceAdd, Int.reduceSub, Int.reduceMul, Int.reduceMod, Int.reduceTMod, Int.reduceTDiv, Int.reduceNeg, Nat.reduceSub, Nat.reduceDiv, reduceIte, reduceCtorEq]
    · have l1 : ((hi : Int) ≤ (c : Int)) := by omega
      have hK := fun e => (K e s g hA (hI.done fun y y1 y2 y3 => by omega) hP).1
      simp only [h0, h2, h3, h8, u1, u2, l1, hK, wk, wk1, wk2, Option.some.injEq, exists_eq_left', decide_true, decide_false, Nat.reduceAdd, Nat.reduceEqDiff, Nat.reduceLeDiff, Nat.reduceLT, Nat.reduceMul, Nat.reduceBEq, Int.reduceLT, Int.reduceLE, Int.reduceEq, Int.reduceAdd, Int.reduceSub, Int.reduceMul, Int.reduceMod, Int.reduceTMod, Int.reduceTDiv, Int.reduceNeg, Nat.reduceSub, Nat.reduceDiv, reduceIte, reduceCtorEq]

theorem sift_ran (hc : T 154 = some (.code ir154)) (hL : LessOk T 140 en lt) (ho : Ord lt) (s : St) (B inc n cap : Nat) (ex : Bool) (hB : B < s.next) (hn : n ≤ 1000000000) (o lo hi b : Nat) (hob : o + hi ≤ b) (hbn : b ≤ n) (hlo : lo ≤ n) (f : Nat → α) (hA : Aft en s B inc n f s)
    (hh : Heap lt o (lo + 1) hi f) :
    Ran T 154 [dsl B inc n cap ex, .int .i64 (lo : Int), .int .i64 (hi : Int), .int .i64 (o : Int)] s fun v s' => v = .tuple [] ∧ ∃ g, Aft en s B inc n g s' ∧ PermR o b f g ∧ Heap lt o lo hi g := by
  refine ran_code hc (Nat.le_of_ble_eq_true rfl) ?_
  generalize hQ : Fin _ _ = Q
  simp only [ir154, wk, wk1, wk2, Option.some.injEq, exists_eq_left', decide_true, decide_false, Nat.reduceAdd, Nat.reduceEqDiff, Nat.reduceLeDiff, Nat.reduceLT, Nat.reduceMul, Nat.reduceBEq, Int.reduceLT, Int.reduceLE, Int.reduceEq, Int.reduceAdd, Int.reduceSub, Int.reduceMul, Int.reduceMod, Int.reduceTMod, Int.reduceTDiv, Int.reduceNeg, Nat.reduceSub, Nat.reduceDiv, reduceIte, reduceCtorEq]
  refine sift_loop (cap := cap) (ex := ex) hL ho hB hn o lo hi b hob hbn f ?_ (hi - lo) lo _ s f rfl (Nat.le_refl _) (.inr hlo) ?_ ?_ ?_ ?_ hA hh.inv (PermR.refl _ _ _)
  · intro e s' g hA hH hP
    subst hQ
    constructor <;> simp only [ir154, wk, wk1, wk2, Option.some.injEq, exists_eq_left', decide_true, decide_false, Nat.reduceAdd, Nat.reduceEqDiff, Nat.reduceLeDiff, Nat.reduceLT, Nat.reduceMul, Nat.reduceBEq, Int.reduceLT, Int.reduceLE, Int.reduceEq, Int.reduceAdd, Int.reduceSub, Int.reduceMul, Int.reduceMod, Int.reduceTMod, Int.reduceTDiv, Int.reduceNeg, Nat.reduceSub, Nat.reduceDiv, reduceIte, reduceCtorEq] <;> exact ⟨g, hA, hP, hH⟩
  all_goals simp only [wk, wk1, wk2, Option.some.injEq, exists_eq_left', decide_true, decide_false, Nat.reduceAdd, Nat.reduceEqDiff, Nat.reduceLeDiff, Nat.reduceLT, Nat.reduceMul, Nat.reduceBEq, Int.reduceLT, Int.reduceLE, Int.reduceEq, Int.reduceAdd, Int.reduceSub, Int.reduceMul, Int.reduceMod, Int.reduceTMod, Int.reduceTDiv, Int.reduceNeg, Nat.reduceSub, Nat.reduceDiv, reduceIte, reduceCtorEq]
end
end Go.V
