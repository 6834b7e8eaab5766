/- slices.choosePivotOrdered over the small language: a place within. -/
import Derived.Test.YtlpdekocilhciaaPdqH
set_option linter.unusedVariables false
set_option linter.unusedSimpArgs false
set_option linter.unusedSectionVars false
/- slices.choosePivotOrdered over the small language: a place within. -/
namespace Go.V
open Go
set_option linter.unusedSimpArgs false
set_option linter.unusedVariables false
-- slices.order2Ordered[uint32]
def ir161 : IFunc := ⟨28, [.tmp 8, .tmp 9], (.seq (.region [⟨some 8, none, [], (.move (.c (.int .i64 0)))⟩, ⟨some 9, none, [], (.move (.c (.int .i64 0)))⟩] false)
 (.seq (.seq (.region [⟨some 10, none, [], (.move (.t 0))⟩, ⟨some 11, none, [], (.move (.t 2))⟩, ⟨some 12, none, [], (.idxSl 1 (.t 10) (.t 11))⟩, ⟨some 13, none, [], (.load false 1 (.t 12))⟩, ⟨some 14, none, [], (.move (.t 0))⟩, ⟨some 15, none, [], (.move (.t 1))⟩, ⟨some 16, none, [], (.idxSl 1 (.t 14) (.t 15))⟩, ⟨some 17, none, [], (.load false 1 (.t 16))⟩, ⟨some 18, none, [], (.call 140 [(.t 13), (.t 17)])⟩] true)
 (.cond (.t 18) (.seq (.region [⟨some 19, none, [], (.move (.t 3))⟩, ⟨some 20, none, [], (.nilCheck (.t 19))⟩, ⟨some 21, none, [], (.load false 1 (.t 20))⟩, ⟨some 22, none, [], (.bin .add (.t 21) (.c (.int .i64 1)))⟩, ⟨some 23, none, [], (.nilCheck (.t 19))⟩, ⟨none, none, [], (.store 1 (.t 23) (.t 22))⟩] false)
 (.seq (.region [⟨some 24, none, [], (.move (.t 2))⟩, ⟨some 25, none, [], (.move (.t 1))⟩, ⟨some 8, none, [], (.move (.t 24))⟩, ⟨some 9, none, [], (.move (.t 25))⟩] false)
 .ret)) .skip))
 (.seq (.region [⟨some 26, none, [], (.move (.t 1))⟩, ⟨some 27, none, [], (.move (.t 2))⟩, ⟨some 8, none, [], (.move (.t 26))⟩, ⟨some 9, none, [], (.move (.t 27))⟩] false)
 .ret)))⟩
-- slices.medianOrdered[uint32]
def ir156 : IFunc := ⟨36, [.tmp 10], (.seq (.region [⟨some 10, none, [], (.move (.c (.int .i64 0)))⟩] false)
 (.seq (.region [⟨some 12, none, [], (.move (.t 0))⟩, ⟨some 13, none, [], (.move (.t 1))⟩, ⟨some 14, none, [], (.move (.t 2))⟩, ⟨some 15, none, [], (.move (.t 4))⟩, ⟨some 16, none, [], (.call 161 [(.t 12), (.t 13), (.t 14), (.t 15)])⟩, ⟨some 11, none, [], (.move (.t 16))⟩, ⟨some 17, none, [], (.extract (.t 11) 0)⟩, ⟨some 18, none, [], (.extract (.t 11) 1)⟩, ⟨some 1, none, [], (.move (.t 17))⟩, ⟨some 2, none, [], (.move (.t 18))⟩] false)
 (.seq (.region [⟨some 20, none, [], (.move (.t 0))⟩, ⟨some 21, none, [], (.move (.t 2))⟩, ⟨some 22, none, [], (.move (.t 3))⟩, ⟨some 23, none, [], (.move (.t 4))⟩, ⟨some 24, none, [], (.call 161 [(.t 20), (.t 21), (.t 22), (.t 23)])⟩, ⟨some 19, none, [], (.move (.t 24))⟩, ⟨some 25, none, [], (.extract (.t 19) 0)⟩, ⟨some 26, none, [], (.extract (.t 19) 1)⟩, ⟨some 2, none, [], (.move (.t 25))⟩, ⟨some 3, none, [], (.move (.t 26))⟩] false)
 (.seq (.region [⟨some 28, none, [], (.move (.t 0))⟩, ⟨some 29, none, [], (.move (.t 1))⟩, ⟨some 30, none, [], (.move (.t 2))⟩, ⟨some 31, none, [], (.move (.t 4))⟩, ⟨some 32, none, [], (.call 161 [(.t 28), (.t 29), (.t 30), (.t 31)])⟩, ⟨some 27, none, [], (.move (.t 32))⟩, ⟨some 33, none, [], (.extract (.t 27) 0)⟩, ⟨some 34, none, [], (.extract (.t 27) 1)⟩, ⟨some 1, none, [], (.move (.t 33))⟩, ⟨some 2, none, [], (.move (.t 34))⟩] false)
 (.seq (.region [⟨some 35, none, [], (.move (.t 2))⟩, ⟨some 10, none, [], (.move (.t 35))⟩] false)
 .ret)))))⟩
-- slices.medianAdjacentOrdered[uint32]
def ir155 : IFunc := ⟨15, [.tmp 6], (.seq (.region [⟨some 6, none, [], (.move (.c (.int .i64 0)))⟩] false)
 (.seq (.region [⟨some 7, none, [], (.move (.t 0))⟩, ⟨some 8, none, [], (.move (.t 1))⟩, ⟨some 9, none, [], (.bin .sub (.t 8) (.c (.int .i64 1)))⟩, ⟨some 10, none, [], (.move (.t 1))⟩, ⟨some 11, none, [], (.move (.t 1))⟩, ⟨some 12, none, [], (.bin .add (.t 11) (.c (.int .i64 1)))⟩, ⟨some 13, none, [], (.move (.t 2))⟩, ⟨some 14, none, [], (.call 156 [(.t 7), (.t 9), (.t 10), (.t 12), (.t 13)])⟩, ⟨some 6, none, [], (.move (.t 14))⟩] false)
 .ret))⟩
-- slices.choosePivotOrdered[uint32]
def ir137 : IFunc := ⟨57, [.tmp 6, .tmp 7], (.seq (.region [⟨some 6, none, [], (.move (.c (.int .i64 0)))⟩, ⟨some 7, none, [], (.move (.c (.int .i64 0)))⟩] false)
 (.seq (.region [⟨some 13, none, [], (.move (.t 2))⟩, ⟨some 14, none, [], (.move (.t 1))⟩, ⟨some 15, none, [], (.bin .sub (.t 13) (.t 14))⟩, ⟨some 8, none, [], (.move (.t 15))⟩] false)
 (.seq (.region [⟨some 9, none, [], (.alloc [(.int .i64 0)])⟩] false)
 (.seq (.region [⟨some 16, none, [], (.move (.t 1))⟩, ⟨some 17, none, [], (.move (.t 8))⟩, ⟨some 18, none, [], (.bin .quo (.t 17) (.c (.int .i64 4)))⟩, ⟨some 19, none, [], (.bin .mul (.t 18) (.c (.int .i64 1)))⟩, ⟨some 20, none, [], (.bin .add (.t 16) (.t 19))⟩, ⟨some 10, none, [], (.move (.t 20))⟩] false)
 (.seq (.region [⟨some 21, none, [], (.move (.t 1))⟩, ⟨some 22, none, [], (.move (.t 8))⟩, ⟨some 23, none, [], (.bin .quo (.t 22) (.c (.int .i64 4)))⟩, ⟨some 24, none, [], (.bin .mul (.t 23) (.c (.int .i64 2)))⟩, ⟨some 25, none, [], (.bin .add (.t 21) (.t 24))⟩, ⟨some 11, none, [], (.move (.t 25))⟩] false)
 (.seq (.region [⟨some 26, none, [], (.move (.t 1))⟩, ⟨some 27, none, [], (.move (.t 8))⟩, ⟨some 28, none, [], (.bin .quo (.t 27) (.c (.int .i64 4)))⟩, ⟨some 29, none, [], (.bin .mul (.t 28) (.c (.int .i64 3)))⟩, ⟨some 30, none, [], (.bin .add (.t 26) (.t 29))⟩, ⟨some 12, none, [], (.move (.t 30))⟩] false)
 (.seq (.seq (.region [⟨some 31, none, [], (.move (.t 8))⟩, ⟨some 32, none, [], (.bin .geq (.t 31) (.c (.int .i64 8)))⟩] false)
 (.cond (.t 32) (.seq (.seq (.region [⟨some 33, none, [], (.move (.t 8))⟩, ⟨some 34, none, [], (.bin .geq (.t 33) (.c (.int .i64 50)))⟩] false)
 (.cond (.t 34) (.seq (.region [⟨some 35, none, [], (.move (.t 0))⟩, ⟨some 36, none, [], (.move (.t 10))⟩, ⟨some 37, none, [], (.call 155 [(.t 35), (.t 36), (.t 9)])⟩, ⟨some 10, none, [], (.move (.t 37))⟩] false)
 (.seq (.region [⟨some 38, none, [], (.move (.t 0))⟩, ⟨some 39, none, [], (.move (.t 11))⟩, ⟨some 40, none, [], (.call 155 [(.t 38), (.t 39), (.t 9)])⟩, ⟨some 11, none, [], (.move (.t 40))⟩] false)
 (.region [⟨some 41, none, [], (.move (.t 0))⟩, ⟨some 42, none, [], (.move (.t 12))⟩, ⟨some 43, none, [], (.call 155 [(.t 41), (.t 42), (.t 9)])⟩, ⟨some 12, none, [], (.move (.t 43))⟩] false))) .skip))
 (.region [⟨some 44, none, [], (.move (.t 0))⟩, ⟨some 45, none, [], (.move (.t 10))⟩, ⟨some 46, none, [], (.move (.t 11))⟩, ⟨some 47, none, [], (.move (.t 12))⟩, ⟨some 48, none, [], (.call 156 [(.t 44), (.t 45), (.t 46), (.t 47), (.t 9)])⟩, ⟨some 11, none, [], (.move (.t 48))⟩] false)) .skip))
 (.seq (.region [⟨some 49, none, [], (.load false 1 (.t 9))⟩] false)
 (.block 0 (.seq (.region [⟨some 52, none, [], (.bin .eql (.t 49) (.c (.int .i64 0)))⟩, ⟨some 51, none, [], (.move (.t 52))⟩] false)
 (.cond (.t 51) (.seq (.region [⟨some 53, none, [], (.move (.t 11))⟩, ⟨some 6, none, [], (.move (.t 53))⟩, ⟨some 7, none, [], (.move (.c (.int .i64 1)))⟩] false)
 .ret) (.seq (.region [⟨some 55, none, [], (.bin .eql (.t 49) (.c (.int .i64 12)))⟩, ⟨some 54, none, [], (.move (.t 55))⟩] false)
 (.cond (.t 54) (.seq (.region [⟨some 56, none, [], (.move (.t 11))⟩, ⟨some 6, none, [], (.move (.t 56))⟩, ⟨some 7, none, [], (.move (.c (.int .i64 2)))⟩] false)
 .ret) (.seq (.region [⟨some 50, none, [], (.move (.t 11))⟩, ⟨some 6, none, [], (.move (.t 50))⟩, ⟨some 7, none, [], (.move (.c (.int .i64 0)))⟩] false)
 .ret))))))))))))))⟩
section
variable {α : Type} {en : α → AV} {lt : α → α → Bool} {T : Tab}
/-- A counter of the call's own. -/
structure Bx (en : α → AV) (s0 : St) (B inc n : Nat) (f : Nat → α) (p : Nat) (s : St) : Prop where
  aft : Aft en s0 B inc n f s
  old : s0.next ≤ p
  lt : p < s.next
  box : ∃ z, s.heap.get p = some (.cells [.int .i64 z] 0 0 false)
theorem Bx.put {s0 s : St} {B inc n : Nat} {f : Nat → α} {p : Nat} (h : Bx en s0 B inc n f p s) (hB : B < s0.next) (z : Int) : Bx en s0 B inc n f p (s.put p (.cells [.int .i64 z] 0 0 false)) := by
  have := h.old
  obtain ⟨lo, h1, h2⟩ := h.aft.row
  refine ⟨⟨⟨lo, h1, by rw [put_get, if_neg (by omega)]; exact h2⟩, h.aft.wfs.put h.lt _, h.aft.next, fun id i1 i2 => by rw [put_get, if_neg (by omega)]; exact h.aft.same id i1 i2⟩, h.old, h.lt, ⟨z, by rw [put_get, if_pos rfl]⟩⟩

abbrev bxp (p : Nat) : AV := .ptr ⟨p, 0, 0, 1⟩
set_option maxHeartbeats 8000000 in
theorem order2_ran (hc : T 161 = some (.code ir161)) (hL : LessOk T 140 en lt) (s0 s : St) (B inc n cap : Nat) (ex : Bool) (hB : B < s0.next) (f : Nat → α) (p : Nat) (hX : Bx en s0 B inc n f p s) (i j : Nat) (hi : i < n) (hj : j < n) :
    Ran T 161 [dsl B inc n cap ex, .int .i64 (i : Int), .int .i64 (j : Int), bxp p] s fun v s' => Bx en s0 B inc n f p s' ∧ ∃ i' j' : Nat, v = .tuple [.int .i64 (i' : Int), .int .i64 (j' : Int)] ∧ ((i' = i ∧ j' = j) ∨ (i' = j ∧ j' = i)) := by
  refine ran_code hc (Nat.le_of_ble_eq_true rfl) ?_
  have kl := hL.call
  have hi1 : i + 1 ≤ n := hi
  have hj1 : j + 1 ≤ n := hj
  obtain ⟨lo', hlo, hrow⟩ := hX.aft.row
  obtain ⟨z, hz⟩ := hX.box
  have m1 := mp_take (en := en) (f := f) hi
  have m2 := mp_take (en := en) (f := f) hj
  generalize hQ : Fin _ _ = Q
  cases hl : lt (f j) (f i) with
  | true =>
    simp only [ir161, hi, hj, hi1, hj1, hrow, hlo, m1, m2, kl, hl, hz, wk, wk1, wk2, Option.some.injEq, exists_eq_left', decide_true, decide_false, Nat.reduceAdd, Nat.reduceEqDiff, Nat.reduceLeDiff, Nat.reduceLT, Nat.reduceMul, Nat.reduceBEq, Int.reduceLT, Int.reduceLE, Int.reduceEq, Int.reduceAdd, Int.reduceSub, Int.reduceMul, Int.reduceMod, Int.reduceTMod, Int.reduceTDiv, Int.reduceNeg, Nat.reduceSub, Nat.reduceDiv, reduceIte, reduceCtorEq]
    subst hQ
    simp only [ir161, wk, wk1, wk2, Option.some.injEq, exists_eq_left', decide_true, decide_false, Nat.reduceAdd, Nat.reduceEqDiff, Nat.reduceLeDiff, Nat.reduceLT, Nat.reduceMul, Nat.reduceBEq, Int.reduceLT, Int.reduceLE, Int.reduceEq, Int.reduceAdd, Int.reduceSub, Int.reduceMul, Int.reduceMod, Int.reduceTMod, Int.reduceTDiv, Int.reduceNeg, Nat.reduceSub, Nat.reduceDiv, reduceIte, reduceCtorEq]
    exact ⟨hX.put hB _, j, i, rfl, .inr ⟨rfl, rfl⟩⟩
  | false =>
    simp only [ir161, hi, hj, hi1, hj1, hrow, hlo, m1, m2, kl, hl, hz, wk, wk1, wk2, Option.some.injEq, exists_eq_left', decide_true, decide_false, Nat.reduceAdd, Nat.reduceEqDiff, Nat.reduceLeDiff, Nat.reduceLT, Nat.reduceMul, Nat.reduceBEq, Int.reduceLT, Int.reduceLE, Int.reduceEq, Int.reduceAdd, Int.reduceSub, Int.reduceMul, Int.reduceMod, Int.reduceTMod, Int.reduceTDiv, Int.reduceNeg, Nat.reduceSub, Nat.reduceDiv, reduceIte, reduceCtorEq]
    subst hQ
    simp only [ir161, wk, wk1, wk2, Option.some.injEq, exists_eq_left', decide_true, decide_false, Nat.reduceAdd, Nat.reduceEqDiff, Nat.reduceLeDiff, Nat.reduceLT, Nat.reduceMul, Nat.reduceBEq, Int.reduceLT, Int.reduceLE, Int.reduceEq, Int.reduceAdd, Int.reduceSub, Int.reduceMul, Int.reduceMod, Int.reduceTMod, Int.reduceTDiv, Int.reduceNeg, Nat.reduceSub, Nat.reduceDiv, reduceIte, reduceCtorEq]
    exact ⟨hX, i, j, rfl, .inl ⟨rfl, rfl⟩⟩
set_option maxHeartbeats 8000000 in
theorem median_ran (hc : T 156 = some (.code ir156)) (h2 : T 161 = some (.code ir161)) (hL : LessOk T 140 en lt) (s0 s : St) (B inc n cap : Nat) (ex : Bool) (hB : B < s0.next) (f : Nat → α) (p : Nat) (hX : Bx en s0 B inc n f p s) (i j k : Nat) (hi : i < n) (hj : j < n) (hk : k < n) :
    Ran T 156 [dsl B inc n cap ex, .int .i64 (i : Int), .int .i64 (j : Int), .int .i64 (k : Int), bxp p] s fun v s' => Bx en s0 B inc n f p s' ∧ ∃ r : Nat, v = .int .i64 (r : Int) ∧ (r = i ∨ r = j ∨ r = k) := by
  refine ran_code hc (Nat.le_of_ble_eq_true rfl) ?_
  generalize hQ : Fin _ _ = Q
  simp only [ir156, wk, wk1, wk2, Option.some.injEq, exists_eq_left', decide_true, decide_false, Nat.reduceAdd, Nat.reduceEqDiff, Nat.reduceLeDiff, Nat.reduceLT, Nat.reduceMul, Nat.reduceBEq, Int.reduceLT, Int.reduceLE, Int.reduceEq, Int.reduceAdd, Int.reduceSub, Int.reduceMul, Int.reduceMod, Int.reduceTMod, Int.reduceTDiv, Int.reduceNeg, Nat.reduceSub, Nat.reduceDiv, reduceIte, reduceCtorEq]
  refine goCall_by (order2_ran h2 hL s0 s B inc n cap ex hB f p hX i j hi hj) ?_
  rintro v s1 ⟨hX1, i1, j1, rfl, h1⟩
  have hi1 : i1 < n := by omega
  have hj1 : j1 < n := by omega
  simp only [wk, wk1, wk2, Option.some.injEq, exists_eq_left', decide_true, decide_false, Nat.reduceAdd, Nat.reduceEqDiff, Nat.reduceLeDiff, Nat.reduceLT, Nat.reduceMul, Nat.reduceBEq, Int.reduceLT, Int.reduceLE, Int.reduceEq, Int.reduceAdd, Int.reduceSub, Int.reduceMul, Int.reduceMod, Int.reduceTMod, Int.reduceTDiv, Int.reduceNeg, Nat.reduceSub, Nat.reduceDiv, reduceIte, reduceCtorEq]
  refine goCall_by (order2_ran h2 hL s0 s1 B inc n cap ex hB f p hX1 j1 k hj1 hk) ?_
  rintro v s2 ⟨hX2, j2, k2, rfl, h2'⟩
  have hj2 : j2 < n := by omega
  simp only [wk, wk1, wk2, Option.some.injEq, exists_eq_left', decide_true, decide_false, Nat.reduceAdd, Nat.reduceEqDiff, Nat.reduceLeDiff, Nat.reduceLT, Nat.reduceMul, Nat.reduceBEq, Int.reduceLT, Int.reduceLE, Int.reduceEq, Int.reduceAdd, Int.reduceSub, Int.reduceMul, Int.reduceMod, Int.reduceTMod, Int.reduceTDiv, Int.reduceNeg, Nat.reduceSub, Nat.reduceDiv, reduceIte, reduceCtorEq]
  refine goCall_by (order2_ran h2 hL s0 s2 B inc n cap ex hB f p hX2 i1 j2 hi1 hj2) ?_
  rintro v s3 ⟨hX3, i3, j3, rfl, h3⟩
  subst hQ
  simp only [ir156, wk, wk1, wk2, Option.some.injEq, exists_eq_left', decide_true, decide_false, Nat.reduceAdd, Nat.reduceEqDiff, Nat.reduceLeDiff, Nat.reduceLT, Nat.reduceMul, Nat.reduceBEq, Int.reduceLT, Int.reduceLE, Int.reduceEq, Int.reduceAdd, Int.reduceSub, Int.reduceMul, Int.reduceMod, Int.reduceTMod, Int.reduceTDiv, Int.reduceNeg, Nat.reduceSub, Nat.reduceDiv, reduceIte, reduceCtorEq]
  exact ⟨hX3, j3, rfl, by omega⟩
set_option maxHeartbeats 8000000 in
theorem medAdj_ran (hc : T 155 = some (.code ir155)) (hm : T 156 = some (.code ir156)) (h2 : T 161 = some (.code ir161)) (hL : LessOk T 140 en lt) (s0 s : St) (B inc n cap : Nat) (ex : Bool) (hB : B < s0.next) (hn : n ≤ 1000000000) (f : Nat → α) (p : Nat) (hX : Bx en s0 B inc n f p s) (i : Nat) (hi : 1 ≤ i) (hi1 : i + 1 < n) :
    Ran T 155 [dsl B inc n cap ex, .int .i64 (i : Int), bxp p] s fun v s' => Bx en s0 B inc n f p s' ∧ ∃ r : Nat, v = .int .i64 (r : Int) ∧ i ≤ r + 1 ∧ r ≤ i + 1 := by
  refine ran_code hc (Nat.le_of_ble_eq_true rfl) ?_
  have u1 : wrapF .i64 ((i : Int) - 1) = ((i - 1 : Nat) : Int) := i64_sub1 (by omega) hi
  have u2 : wrapF .i64 ((i : Int) + 1) = ((i + 1 : Nat) : Int) := i64_add1 (by omega)
  generalize hQ : Fin _ _ = Q
  simp only [ir155, u1, u2, wk, wk1, wk2, Option.some.injEq, exists_eq_left', decide_true, decide_false, Nat.reduceAdd, Nat.reduceEqDiff, Nat.reduceLeDiff, Nat.reduceLT, Nat.reduceMul, Nat.reduceBEq, Int.reduceLT, Int.reduceLE, Int.reduceEq, Int.reduceAdd, Int.reduceSub, Int.reduceMul, Int.reduceMod, Int.reduceTMod, Int.reduceTDiv, Int.reduceNeg, Nat.reduceSub, Nat.reduceDiv, reduceIte, reduceCtorEq]
  refine goCall_by (median_ran hm h2 hL s0 s B inc n cap ex hB f p hX (i - 1) i (i + 1) (by omega) (by omega) hi1) ?_
  rintro v s1 ⟨hX1, r, rfl, hr⟩
  subst hQ
  simp only [ir155, wk, wk1, wk2, Option.some.injEq, exists_eq_left', decide_true, decide_false, Nat.reduceAdd, Nat.reduceEqDiff, Nat.reduceLeDiff, Nat.reduceLT, Nat.reduceMul, Nat.reduceBEq, Int.reduceLT, Int.reduceLE, Int.reduceEq, Int.reduceAdd, Int.reduceSub, Int.reduceMul, Int.reduceMod, Int.reduceTMod, Int.reduceTDiv, Int.reduceNeg, Nat.reduceSub, Nat.reduceDiv, reduceIte, reduceCtorEq]
  exact ⟨hX1, r, rfl, by omega⟩

theorem Bx.new {s : St} {B inc n : Nat} {f : Nat → α} (h : Aft en s B inc n f s) (hB : B < s.next) : Bx en s B inc n f s.next (s.add (.cells [.int .i64 0] 0 0 false)) := by
  obtain ⟨lo, h1, h2⟩ := h.row
  exact ⟨⟨⟨lo, h1, by rw [add_get, if_neg (by omega)]; exact h2⟩, h.wfs.add _, by rw [add_next]; omega, fun id i1 _ => by rw [add_get, if_neg (by omega)]⟩, Nat.le_refl _, by rw [add_next]; omega, ⟨0, by rw [add_get, if_pos rfl]⟩⟩

set_option maxHeartbeats 16000000 in
theorem pivot_ran (hc : T 137 = some (.code ir137)) (ha : T 155 = some (.code ir155)) (hm : T 156 = some (.code ir156)) (h2 : T 161 = some (.code ir161)) (hL : LessOk T 140 en lt) (s : St) (B inc n cap : Nat) (ex : Bool) (hB : B < s.next) (hn : n ≤ 1000000000) (a b : Nat) (hab : a + 13 ≤ b) (hbn : b ≤ n) (f : Nat → α) (hA : Aft en s B inc n f s) :
    Ran T 137 [dsl B inc n cap ex, .int .i64 (a : Int), .int .i64 (b : Int)] s fun v s' => Aft en s B inc n f s' ∧ ∃ (r : Nat) (h : Int), v = .tuple [.int .i64 (r : Int), .int .i64 h] ∧ a ≤ r ∧ r < b := by
  refine ran_code hc (Nat.le_of_ble_eq_true rfl) ?_
  obtain ⟨l, hl⟩ := op (b - a)
  obtain ⟨q, hq⟩ := op (l / 4)
  obtain ⟨i, hi⟩ := op (a + q)
  obtain ⟨j, hj⟩ := op (a + q * 2)
  obtain ⟨k, hk⟩ := op (a + q * 3)
  have u1 : wrapF .i64 ((b : Int) - (a : Int)) = (l : Int) := by rw [wrap_i64 _ (by omega) (by omega)]; omega
  have u2 : wrapF .i64 (Int.tdiv (l : Int) 4) = (q : Int) := by
    have : Int.tdiv (l : Int) 4 = (l : Int) / 4 := Int.tdiv_eq_ediv_of_nonneg (by omega)
    rw [this, wrap_i64 _ (by omega) (by omega)]; omega
  have u3 : wrapF .i64 ((q : Int) * 1) = (q : Int) := by rw [wrap_i64 _ (by omega) (by omega)]; omega
  have u3' : wrapF .i64 ((q : Int)) = (q : Int) := by rw [wrap_i64 _ (by omega) (by omega)]
  have u4 : wrapF .i64 ((a : Int) + (q : Int)) = (i : Int) := by rw [wrap_i64 _ (by omega) (by omega)]; omega
  have u5 : wrapF .i64 ((q : Int) * 2) = ((q * 2 : Nat) : Int) := by rw [wrap_i64 _ (by omega) (by omega)]; omega
  have u6 : wrapF .i64 ((a : Int) + ((q * 2 : Nat) : Int)) = (j : Int) := by rw [wrap_i64 _ (by omega) (by omega)]; omega
  have u7 : wrapF .i64 ((q : Int) * 3) = ((q * 3 : Nat) : Int) := by rw [wrap_i64 _ (by omega) (by omega)]; omega
  have u8 : wrapF .i64 ((a : Int) + ((q * 3 : Nat) : Int)) = (k : Int) := by rw [wrap_i64 _ (by omega) (by omega)]; omega
  have l8 : (8 : Int) ≤ (l : Int) := by omega
  have hX := Bx.new hA hB
  -- the end: the counter is looked at
  generalize hQ : Fin _ _ = Q
  have fin : ∀ (e : Env) (s' : St) (r : Nat) (dst : Option Nat), a ≤ r → r < b → opd e (.t 9) = bxp s.next → opd e (.t 11) = .int .i64 (r : Int) → Bx en s B inc n f s.next s' →
      Go T Q ((.seq (.region [⟨some 49, none, [], (.load false 1 (.t 9))⟩] false)
 (.block 0 (.seq (.region [⟨some 52, none, [], (.bin .eql (.t 49) (.c (.int .i64 0)))⟩, ⟨some 51, none, [], (.move (.t 52))⟩] false)
 (.cond (.t 51) (.seq (.region [⟨some 53, none, [], (.move (.t 11))⟩, ⟨some 6, none, [], (.move (.t 53))⟩, ⟨some 7, none, [], (.move (.c (.int .i64 1)))⟩] false)
 .ret) (.seq (.region [⟨some 55, none, [], (.bin .eql (.t 49) (.c (.int .i64 12)))⟩, ⟨some 54, none, [], (.move (.t 55))⟩] false)
 (.cond (.t 54) (.seq (.region [⟨some 56, none, [], (.move (.t 11))⟩, ⟨some 6, none, [], (.move (.t 56))⟩, ⟨some 7, none, [], (.move (.c (.int .i64 2)))⟩] false)
 .ret) (.seq (.region [⟨some 50, none, [], (.move (.t 11))⟩, ⟨some 6, none, [], (.move (.t 50))⟩, ⟨some 7, none, [], (.move (.c (.int .i64 0)))⟩] false)
 .ret)))))))) [] e s' := by
    intro e s' r dst r1 r2 h9 h11 hX'
    obtain ⟨z, hz⟩ := hX'.box
    by_cases z0 : z = 0
    · subst z0
      simp only [h9, h11, hz, wk, wk1, wk2, Option.some.injEq, exists_eq_left', decide_true, decide_false, Nat.reduceAdd, Nat.reduceEqDiff, Nat.reduceLeDiff, Nat.reduceLT, Nat.reduceMul, Nat.reduceBEq, Int.reduceLT, Int.reduceLE, Int.reduceEq, Int.reduceAdd, Int.reduceSub, Int.reduceMul, Int.reduceMod, Int.reduceTMod, Int.reduceTDiv, Int.reduceNeg, Nat.reduceSub, Nat.reduceDiv, reduceIte, reduceCtorEq]
      subst hQ
      simp only [ir137, h9, h11, wk, wk1, wk2, Option.some.injEq, exists_eq_left', decide_true, decide_false, Nat.reduceAdd, Nat.reduceEqDiff, Nat.reduceLeDiff, Nat.reduceLT, Nat.reduceMul, Nat.reduceBEq, Int.reduceLT, Int.reduceLE, Int.reduceEq, Int.reduceAdd, Int.reduceSub, Int.reduceMul, Int.reduceMod, Int.reduceTMod, Int.reduceTDiv, Int.reduceNeg, Nat.reduceSub, Nat.reduceDiv, reduceIte, reduceCtorEq]
      exact ⟨hX'.aft, r, _, rfl, r1, r2⟩
    · by_cases z12 : z = 12
      · subst z12
        simp only [h9, h11, hz, wk, wk1, wk2, Option.some.injEq, exists_eq_left', decide_true, decide_false, Nat.reduceAdd, Nat.reduceEqDiff, Nat.reduceLeDiff, Nat.reduceLT, Nat.reduceMul, Nat.reduceBEq, Int.reduceLT, Int.reduceLE, Int.reduceEq, Int.reduceAdd, Int.reduceSub, Int.reduceMul, Int.reduceMod, Int.reduceTMod, Int.reduceTDiv, Int.reduceNeg, Nat.reduceSub, Nat.reduceDiv, reduceIte, reduceCtorEq]
        subst hQ
        simp only [ir137, h9, h11, wk, wk1, wk2, Option.some.injEq, exists_eq_left', decide_true, decide_false, Nat.reduceAdd, Nat.reduceEqDiff, Nat.reduceLeDiff, Nat.reduceLT, Nat.reduceMul, Nat.reduceBEq, Int.reduceLT, Int.reduceLE, Int.reduceEq, Int.reduceAdd, Int.reduceSub, Int.reduceMul, Int.reduceMod, Int.reduceTMod, Int.reduceTDiv, Int.reduceNeg, Nat.reduceSub, Nat.reduceDiv, reduceIte, reduceCtorEq]
        exact ⟨hX'.aft, r, _, rfl, r1, r2⟩
      · simp only [h9, h11, hz, z0, z12, wk, wk1, wk2, Option.some.injEq, exists_eq_left', decide_true, decide_false, Nat.reduceAdd, Nat.reduceEqDiff, Nat.reduceLeDiff, Nat.reduceLT, Nat.reduceMul, Nat.reduceBEq, Int.reduceLT, Int.reduceLE, Int.reduceEq, Int.reduceAdd, Int.reduceSub, Int.reduceMul, Int.reduceMod, Int.reduceTMod, Int.reduceTDiv, Int.reduceNeg, Nat.reduceSub, Nat.reduceDiv, reduceIte, reduceCtorEq]
        subst hQ
        simp only [ir137, h9, h11, wk, wk1, wk2, Option.some.injEq, exists_eq_left', decide_true, decide_false, Nat.reduceAdd, Nat.reduceEqDiff, Nat.reduceLeDiff, Nat.reduceLT, Nat.reduceMul, Nat.reduceBEq, Int.reduceLT, Int.reduceLE, Int.reduceEq, Int.reduceAdd, Int.reduceSub, Int.reduceMul, Int.reduceMod, Int.reduceTMod, Int.reduceTDiv, Int.reduceNeg, Nat.reduceSub, Nat.reduceDiv, reduceIte, reduceCtorEq]
        exact ⟨hX'.aft, r, _, rfl, r1, r2⟩
  have mid : ∀ (e : Env) (s' : St) (i' j' k' : Nat), (a ≤ i' ∧ i' < b) → (a ≤ j' ∧ j' < b) → (a ≤ k' ∧ k' < b) → opd e (.t 0) = dsl B inc n cap ex → opd e (.t 9) = bxp s.next → opd e (.t 10) = .int .i64 (i' : Int) → opd e (.t 11) = .int .i64 (j' : Int) → opd e (.t 12) = .int .i64 (k' : Int) → Bx en s B inc n f s.next s' →
      Go T Q ((.region [⟨some 44, none, [], (.move (.t 0))⟩, ⟨some 45, none, [], (.move (.t 10))⟩, ⟨some 46, none, [], (.move (.t 11))⟩, ⟨some 47, none, [], (.move (.t 12))⟩, ⟨some 48, none, [], (.call 156 [(.t 44), (.t 45), (.t 46), (.t 47), (.t 9)])⟩, ⟨some 11, none, [], (.move (.t 48))⟩] false)) [.seq ((.seq (.region [⟨some 49, none, [], (.load false 1 (.t 9))⟩] false)
 (.block 0 (.seq (.region [⟨some 52, none, [], (.bin .eql (.t 49) (.c (.int .i64 0)))⟩, ⟨some 51, none, [], (.move (.t 52))⟩] false)
 (.cond (.t 51) (.seq (.region [⟨some 53, none, [], (.move (.t 11))⟩, ⟨some 6, none, [], (.move (.t 53))⟩, ⟨some 7, none, [], (.move (.c (.int .i64 1)))⟩] false)
 .ret) (.seq (.region [⟨some 55, none, [], (.bin .eql (.t 49) (.c (.int .i64 12)))⟩, ⟨some 54, none, [], (.move (.t 55))⟩] false)
 (.cond (.t 54) (.seq (.region [⟨some 56, none, [], (.move (.t 11))⟩, ⟨some 6, none, [], (.move (.t 56))⟩, ⟨some 7, none, [], (.move (.c (.int .i64 2)))⟩] false)
 .ret) (.seq (.region [⟨some 50, none, [], (.move (.t 11))⟩, ⟨some 6, none, [], (.move (.t 50))⟩, ⟨some 7, none, [], (.move (.c (.int .i64 0)))⟩] false)
 .ret))))))))] e s' := by
    intro e s' i' j' k' hi' hj' hk' h0 h9 h10 h11 h12 hX'
    generalize hRC : (((.seq (.region [⟨some 49, none, [], (.load false 1 (.t 9))⟩] false)
 (.block 0 (.seq (.region [⟨some 52, none, [], (.bin .eql (.t 49) (.c (.int .i64 0)))⟩, ⟨some 51, none, [], (.move (.t 52))⟩] false)
 (.cond (.t 51) (.seq (.region [⟨some 53, none, [], (.move (.t 11))⟩, ⟨some 6, none, [], (.move (.t 53))⟩, ⟨some 7, none, [], (.move (.c (.int .i64 1)))⟩] false)
 .ret) (.seq (.region [⟨some 55, none, [], (.bin .eql (.t 49) (.c (.int .i64 12)))⟩, ⟨some 54, none, [], (.move (.t 55))⟩] false)
 (.cond (.t 54) (.seq (.region [⟨some 56, none, [], (.move (.t 11))⟩, ⟨some 6, none, [], (.move (.t 56))⟩, ⟨some 7, none, [], (.move (.c (.int .i64 2)))⟩] false)
 .ret) (.seq (.region [⟨some 50, none, [], (.move (.t 11))⟩, ⟨some 6, none, [], (.move (.t 50))⟩, ⟨some 7, none, [], (.move (.c (.int .i64 0)))⟩] false)
 .ret)))))))) : ICode) = RC at *
    simp only [h0, h9, h10, h11, h12, wk, wk1, wk2, Option.some.injEq, exists_eq_left', decide_true, decide_false, Nat.reduceAdd, Nat.reduceEqDiff, Nat.reduceLeDiff, Nat.reduceLT, Nat.reduceMul, Nat.reduceBEq, Int.reduceLT, Int.reduceLE, Int.reduceEq, Int.reduceAdd, Int.reduceSub, Int.reduceMul, Int.reduceMod, Int.reduceTMod, Int.reduceTDiv, Int.reduceNeg, Nat.reduceSub, Nat.reduceDiv, reduceIte, reduceCtorEq]
    refine goCall_by (median_ran hm h2 hL s s' B inc n cap ex hB f s.next hX' i' j' k' (by omega) (by omega) (by omega)) ?_
    rintro v s1 ⟨hX1, r, rfl, hr⟩
    simp only [h0, h9, h10, h11, h12, wk, wk1, wk2, Option.some.injEq, exists_eq_left', decide_true, decide_false, Nat.reduceAdd, Nat.reduceEqDiff, Nat.reduceLeDiff, Nat.reduceLT, Nat.reduceMul, Nat.reduceBEq, Int.reduceLT, Int.reduceLE, Int.reduceEq, Int.reduceAdd, Int.reduceSub, Int.reduceMul, Int.reduceMod, Int.reduceTMod, Int.reduceTDiv, Int.reduceNeg, Nat.reduceSub, Nat.reduceDiv, reduceIte, reduceCtorEq]
    exact fin _ s1 r none (by omega) (by omega) (by simp only [h9, wk, wk1, wk2, Option.some.injEq, exists_eq_left', decide_true, decide_false, Nat.reduceAdd, Nat.reduceEqDiff, Nat.reduceLeDiff, Nat.reduceLT, Nat.reduceMul, Nat.reduceBEq, Int.reduceLT, Int.reduceLE, Int.reduceEq, Int.reduceAdd, Int.reduceSub, Int.reduceMul, Int.reduceMod, Int.reduceTMod, Int.reduceTDiv, Int.reduceNeg, Nat.reduceSub, Nat.reduceDiv, reduceIte, reduceCtorEq]) (by simp only [wk, wk1, wk2, Option.some.injEq, exists_eq_left', decide_true, decide_false, Nat.reduceAdd, Nat.reduceEqDiff, Nat.reduceLeDiff, Nat.reduceLT, Nat.reduceMul, Nat.reduceBEq, Int.reduceLT, Int.reduceLE, Int.reduceEq, Int.reduceAdd, Int.reduceSub, Int.reduceMul, Int.reduceMod, Int.reduceTMod, Int.reduceTDiv, Int.reduceNeg, Nat.reduceSub, Nat.reduceDiv, reduceIte, reduceCtorEq]) hX1
  generalize hRC : (((.seq (.region [⟨some 49, none, [], (.load false 1 (.t 9))⟩] false)
 (.block 0 (.seq (.region [⟨some 52, none, [], (.bin .eql (.t 49) (.c (.int .i64 0)))⟩, ⟨some 51, none, [], (.move (.t 52))⟩] false)
 (.cond (.t 51) (.seq (.region [⟨some 53, none, [], (.move (.t 11))⟩, ⟨some 6, none, [], (.move (.t 53))⟩, ⟨some 7, none, [], (.move (.c (.int .i64 1)))⟩] false)
 .ret) (.seq (.region [⟨some 55, none, [], (.bin .eql (.t 49) (.c (.int .i64 12)))⟩, ⟨some 54, none, [], (.move (.t 55))⟩] false)
 (.cond (.t 54) (.seq (.region [⟨some 56, none, [], (.move (.t 11))⟩, ⟨some 6, none, [], (.move (.t 56))⟩, ⟨some 7, none, [], (.move (.c (.int .i64 2)))⟩] false)
 .ret) (.seq (.region [⟨some 50, none, [], (.move (.t 11))⟩, ⟨some 6, none, [], (.move (.t 50))⟩, ⟨some 7, none, [], (.move (.c (.int .i64 0)))⟩] false)
 .ret)))))))) : ICode) = RC at *
  generalize hRM : (((.region [⟨some 44, none, [], (.move (.t 0))⟩, ⟨some 45, none, [], (.move (.t 10))⟩, ⟨some 46, none, [], (.move (.t 11))⟩, ⟨some 47, none, [], (.move (.t 12))⟩, ⟨some 48, none, [], (.call 156 [(.t 44), (.t 45), (.t 46), (.t 47), (.t 9)])⟩, ⟨some 11, none, [], (.move (.t 48))⟩] false)) : ICode) = RM at *
  by_cases h50 : 50 ≤ l
  · have l50 : (50 : Int) ≤ (l : Int) := by omega
    simp only [ir137, hRC, hRM, u1, u2, u3, u3', u4, u5, u6, u7, u8, l8, l50, wk, wk1, wk2, Option.some.injEq, exists_eq_left', decide_true, decide_false, Nat.reduceAdd, Nat.reduceEqDiff, Nat.reduceLeDiff, Nat.reduceLT, Nat.reduceMul, Nat.reduceBEq, Int.reduceLT, Int.reduceLE, Int.reduceEq, Int.reduceAdd, Int.reduceSub, Int.reduceMul, Int.reduceMod, Int.reduceTMod, Int.reduceTDiv, Int.reduceNeg, Nat.reduceSub, Nat.reduceDiv, reduceIte, reduceCtorEq]
    refine goCall_by (medAdj_ran ha hm h2 hL s _ B inc n cap ex hB hn f s.next hX i (by omega) (by omega)) ?_
    rintro v s1 ⟨hX1, r1, rfl, q1, q2⟩
    simp only [wk, wk1, wk2, Option.some.injEq, exists_eq_left', decide_true, decide_false, Nat.reduceAdd, Nat.reduceEqDiff, Nat.reduceLeDiff, Nat.reduceLT, Nat.reduceMul, Nat.reduceBEq, Int.reduceLT, Int.reduceLE, Int.reduceEq, Int.reduceAdd, Int.reduceSub, Int.reduceMul, Int.reduceMod, Int.reduceTMod, Int.reduceTDiv, Int.reduceNeg, Nat.reduceSub, Nat.reduceDiv, reduceIte, reduceCtorEq]
    refine goCall_by (medAdj_ran ha hm h2 hL s _ B inc n cap ex hB hn f s.next hX1 j (by omega) (by omega)) ?_
    rintro v s2 ⟨hX2, r2, rfl, q3, q4⟩
    simp only [wk, wk1, wk2, Option.some.injEq, exists_eq_left', decide_true, decide_false, Nat.reduceAdd, Nat.reduceEqDiff, Nat.reduceLeDiff, Nat.reduceLT, Nat.reduceMul, Nat.reduceBEq, Int.reduceLT, Int.reduceLE, Int.reduceEq, Int.reduceAdd, Int.reduceSub, Int.reduceMul, Int.reduceMod, Int.reduceTMod, Int.reduceTDiv, Int.reduceNeg, Nat.reduceSub, Nat.reduceDiv, reduceIte, reduceCtorEq]
    refine goCall_by (medAdj_ran ha hm h2 hL s _ B inc n cap ex hB hn f s.next hX2 k (by omega) (by omega)) ?_
    rintro v s3 ⟨hX3, r3, rfl, q5, q6⟩
    simp only [wk, wk1, wk2, Option.some.injEq, exists_eq_left', decide_true, decide_false, Nat.reduceAdd, Nat.reduceEqDiff, Nat.reduceLeDiff, Nat.reduceLT, Nat.reduceMul, Nat.reduceBEq, Int.reduceLT, Int.reduceLE, Int.reduceEq, Int.reduceAdd, Int.reduceSub, Int.reduceMul, Int.reduceMod, Int.reduceTMod, Int.reduceTDiv, Int.reduceNeg, Nat.reduceSub, Nat.reduceDiv, reduceIte, reduceCtorEq]
    refine mid _ s3 r1 r2 r3 (by omega) (by omega) (by omega) ?_ ?_ ?_ ?_ ?_ hX3 <;> simp only [wk, wk1, wk2, Option.some.injEq, exists_eq_left', decide_true, decide_false, Nat.reduceAdd, Nat.reduceEqDiff, Nat.reduceLeDiff, Nat.reduceLT, Nat.reduceMul, Nat.reduceBEq, Int.reduceLT, Int.reduceLE, Int.reduceEq, Int.reduceAdd, Int.reduceSub, Int.reduceMul, Int.reduceMod, Int.reduceTMod, Int.reduceTDiv, Int.reduceNeg, Nat.reduceSub, Nat.reduceDiv, reduceIte, reduceCtorEq]
  · have l50 : ¬ (50 : Int) ≤ (l : Int) := by omega
    simp only [ir137, hRC, hRM, u1, u2, u3, u3', u4, u5, u6, u7, u8, l8, l50, wk, wk1, wk2, Option.some.injEq, exists_eq_left', decide_true, decide_false, Nat.reduceAdd, Nat.reduceEqDiff, Nat.reduceLeDiff, Nat.reduceLT, Nat.reduceMul, Nat.reduceBEq, Int.reduceLT, Int.reduceLE, Int.reduceEq, Int.reduceAdd, Int.reduceSub, Int.reduceMul, Int.reduceMod, Int.reduceTMod, Int.reduceTDiv, Int.reduceNeg, Nat.reduceSub, Nat.reduceDiv, reduceIte, reduceCtorEq]
    refine mid _ _ i j k (by omega) (by omega) (by omega) ?_ ?_ ?_ ?_ ?_ hX <;> simp only [wk, wk1, wk2, Option.some.injEq, exists_eq_left', decide_true, decide_false, Nat.reduceAdd, Nat.reduceEqDiff, Nat.reduceLeDiff, Nat.reduceLT, Nat.reduceMul, Nat.reduceBEq, Int.reduceLT, Int.reduceLE, Int.reduceEq, Int.reduceAdd, Int.reduceSub, Int.reduceMul, Int.reduceMod, Int.reduceTMod, Int.reduceTDiv, Int.reduceNeg, Nat.reduceSub, Nat.reduceDiv, reduceIte, reduceCtorEq]
end
end Go.V
