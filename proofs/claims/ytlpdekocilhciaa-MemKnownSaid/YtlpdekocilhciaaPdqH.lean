/- slices.heapSortOrdered over the small language. -/
import Derived.Test.YtlpdekocilhciaaPdqR
set_option linter.unusedVariables false
set_option linter.unusedSimpArgs false
set_option linter.unusedSectionVars false
/- slices.heapSortOrdered over the small language. -/
namespace Go.V
open Go
set_option linter.unusedSimpArgs false
set_option linter.unusedVariables false
section
variable {α : Type} {en : α → AV} {lt : α → α → Bool} {T : Tab}
structure HS (lt : α → α → Bool) (a m b : Nat) (g : Nat → α) : Prop where
  heap : Heap lt a 0 m g
  srt : Srt lt (a + m) b g
  cross : ∀ p q, a ≤ p → p < a + m → a + m ≤ q → q < b → Le lt (g p) (g q)
theorem HS.swapped {a m b : Nat} {g : Nat → α} (h : HS lt a (m + 1) b g) : Heap lt a 1 m (swp g a (a + m)) := by
  intro c h1 h2 h3
  unfold swp
  rw [if_neg (by omega), if_neg (by omega), if_neg (by omega), if_neg (by omega)]
  exact h.heap c h1 (by omega) (Nat.zero_le _)
theorem HS.step (ho : Ord lt) {a m b : Nat} {g g2 : Nat → α} (h : HS lt a (m + 1) b g) (hmb : a + m < b) (hp : PermR a (a + m) (swp g a (a + m)) g2) (hh : Heap lt a 0 m g2) : HS lt a m b g2 := by
  have out : ∀ q, a + m ≤ q → g2 q = swp g a (a + m) q := fun q hq => hp.out (by omega)
  have top : g2 (a + m) = g a := by
    rw [out _ (Nat.le_refl _)]
    unfold swp
    by_cases hm : a + m = a
    · rw [if_pos hm, hm]
    · rw [if_neg hm, if_pos rfl]
  have far : ∀ q, a + m < q → g2 q = g q := fun q hq => by
    rw [out q (by omega)]
    unfold swp
    rw [if_neg (by omega), if_neg (by omega)]
  have low : ∀ p, a ≤ p → p < a + m → ∃ p', a ≤ p' ∧ p' ≤ a + m ∧ swp g a (a + m) p = g p' := by
    intro p h1 h2
    unfold swp
    by_cases e : p = a
    · exact ⟨a + m, by omega, by omega, by rw [if_pos e]⟩
    · exact ⟨p, h1, by omega, by rw [if_neg e, if_neg (by omega)]⟩
  have ltop : ∀ p', a ≤ p' → p' ≤ a + m → Le lt (g p') (g a) := by
    intro p' h1 h2
    have := h.heap.top ho (p' - a) (by omega)
    have e : a + (p' - a) = p' := by omega
    rwa [e] at this
  refine ⟨hh, ?_, ?_⟩
  · intro i j h1 h2 h3
    rw [far j (by omega)]
    by_cases e : i = a + m
    · subst e; rw [top]; exact h.cross a j (Nat.le_refl _) (by omega) (by omega) h3
    · rw [far i (by omega)]; exact h.srt i j (by omega) h2 h3
  · intro p q h1 h2 h3 h4
    refine hp.all (P := fun x => Le lt x (g2 q)) (fun i i1 i2 => ?_) p h1 h2
    obtain ⟨p', q1, q2, q3⟩ := low i i1 i2
    show Le lt (swp g a (a + m) i) (g2 q)
    rw [q3]
    by_cases e : q = a + m
    · subst e; rw [top]; exact ltop p' q1 q2
    · rw [far q (by omega)]; exact h.cross p' q q1 (by omega) (by omega) h4

set_option maxHeartbeats 8000000 in
theorem heap_loop1 (hs : T 154 = some (.code ir154)) (hL : LessOk T 140 en lt) (ho : Ord lt) {Q : Post} {s0 : St} {B inc n cap : Nat} {ex : Bool} (hB : B < s0.next) (hn : n ≤ 1000000000) (a b hi : Nat) (hhi : a + hi = b) (hbn : b ≤ n) (f0 : Nat → α)
    (K : ∀ (e : Env) (s : St) (g : Nat → α), opd e (.t 0) = dsl B inc n cap ex → opd e (.t 6) = .int .i64 (a : Int) → opd e (.t 7) = .int .i64 0 → opd e (.t 8) = .int .i64 (hi : Int) → Aft en s0 B inc n g s → Heap lt a 0 hi g → PermR a b f0 g → Ret T Q [.seq (.seq (.region [⟨some 27, none, [], (.move (.t 8))⟩, ⟨some 28, none, [], (.bin .sub (.t 27) (.c (.int .i64 1)))⟩, ⟨some 10, none, [], (.move (.t 28))⟩] false)
 (.block 2 (.loop (.seq (.seq (.region [⟨some 29, none, [], (.move (.t 10))⟩, ⟨some 30, none, [], (.bin .geq (.t 29) (.c (.int .i64 0)))⟩] false)
 (.cond (.t 30) .skip (.exit 2)))
 (.seq (.block 3 (.seq (.region [⟨some 33, none, [], (.move (.t 0))⟩, ⟨some 34, none, [], (.move (.t 6))⟩, ⟨some 35, none, [], (.move (.t 0))⟩, ⟨some 36, none, [], (.move (.t 6))⟩, ⟨some 37, none, [], (.move (.t 10))⟩, ⟨some 38, none, [], (.bin .add (.t 36) (.t 37))⟩, ⟨some 39, none, [], (.move (.t 0))⟩, ⟨some 40, none, [], (.move (.t 6))⟩, ⟨some 41, none, [], (.move (.t 10))⟩, ⟨some 42, none, [], (.bin .add (.t 40) (.t 41))⟩, ⟨some 43, none, [], (.idxSl 1 (.t 39) (.t 42))⟩, ⟨some 44, none, [], (.load false 1 (.t 43))⟩, ⟨some 45, none, [], (.move (.t 0))⟩, ⟨some 46, none, [], (.move (.t 6))⟩, ⟨some 47, none, [], (.idxSl 1 (.t 45) (.t 46))⟩, ⟨some 48, none, [], (.load false 1 (.t 47))⟩, ⟨some 49, none, [], (.idxSl 1 (.t 33) (.t 34))⟩, ⟨none, none, [], (.store 1 (.t 49) (.t 44))⟩, ⟨some 50, none, [], (.idxSl 1 (.t 35) (.t 38))⟩, ⟨none, none, [], (.store 1 (.t 50) (.t 48))⟩] true)
 (.region [⟨some 51, none, [], (.move (.t 0))⟩, ⟨some 52, none, [], (.move (.t 7))⟩, ⟨some 53, none, [], (.move (.t 10))⟩, ⟨some 54, none, [], (.move (.t 6))⟩, ⟨some 55, none, [], (.call 154 [(.t 51), (.t 52), (.t 53), (.t 54)])⟩] false)))
 (.region [⟨some 31, none, [], (.move (.t 10))⟩, ⟨some 32, none, [], (.bin .sub (.t 31) (.c (.int .i64 1)))⟩, ⟨some 10, none, [], (.move (.t 32))⟩] false))))))] .normal e s) :
    ∀ (k : Nat) (z : Int) (e : Env) (s : St) (g : Nat → α), z = (k : Int) - 1 → k ≤ n → opd e (.t 0) = dsl B inc n cap ex → opd e (.t 6) = .int .i64 (a : Int) → opd e (.t 7) = .int .i64 0 → opd e (.t 8) = .int .i64 (hi : Int) → opd e (.t 9) = .int .i64 z → Aft en s0 B inc n g s → Heap lt a k hi g → PermR a b f0 g →
      Go T Q ((.loop (.seq (.seq (.region [⟨some 18, none, [], (.move (.t 9))⟩, ⟨some 19, none, [], (.bin .geq (.t 18) (.c (.int .i64 0)))⟩] false)
 (.cond (.t 19) .skip (.exit 0)))
 (.seq (.block 1 (.region [⟨some 22, none, [], (.move (.t 0))⟩, ⟨some 23, none, [], (.move (.t 9))⟩, ⟨some 24, none, [], (.move (.t 8))⟩, ⟨some 25, none, [], (.move (.t 6))⟩, ⟨some 26, none, [], (.call 154 [(.t 22), (.t 23), (.t 24), (.t 25)])⟩] false))
 (.region [⟨some 20, none, [], (.move (.t 9))⟩, ⟨some 21, none, [], (.bin .sub (.t 20) (.c (.int .i64 1)))⟩, ⟨some 9, none, [], (.move (.t 21))⟩] false))))) [.block 0, .seq (.seq (.region [⟨some 27, none, [], (.move (.t 8))⟩, ⟨some 28, none, [], (.bin .sub (.t 27) (.c (.int .i64 1)))⟩, ⟨some 10, none, [], (.move (.t 28))⟩] false)
 (.block 2 (.loop (.seq (.seq (.region [⟨some 29, none, [], (.move (.t 10))⟩, ⟨some 30, none, [], (.bin .geq (.t 29) (.c (.int .i64 0)))⟩] false)
 (.cond (.t 30) .skip (.exit 2)))
 (.seq (.block 3 (.seq (.region [⟨some 33, none, [], (.move (.t 0))⟩, ⟨some 34, none, [], (.move (.t 6))⟩, ⟨some 35, none, [], (.move (.t 0))⟩, ⟨some 36, none, [], (.move (.t 6))⟩, ⟨some 37, none, [], (.move (.t 10))⟩, ⟨some 38, none, [], (.bin .add (.t 36) (.t 37))⟩, ⟨some 39, none, [], (.move (.t 0))⟩, ⟨some 40, none, [], (.move (.t 6))⟩, ⟨some 41, none, [], (.move (.t 10))⟩, ⟨some 42, none, [], (.bin .add (.t 40) (.t 41))⟩, ⟨some 43, none, [], (.idxSl 1 (.t 39) (.t 42))⟩, ⟨some 44, none, [], (.load false 1 (.t 43))⟩, ⟨some 45, none, [], (.move (.t 0))⟩, ⟨some 46, none, [], (.move (.t 6))⟩, ⟨some 47, none, [], (.idxSl 1 (.t 45) (.t 46))⟩, ⟨some 48, none, [], (.load false 1 (.t 47))⟩, ⟨some 49, none, [], (.idxSl 1 (.t 33) (.t 34))⟩, ⟨none, none, [], (.store 1 (.t 49) (.t 44))⟩, ⟨some 50, none, [], (.idxSl 1 (.t 35) (.t 38))⟩, ⟨none, none, [], (.store 1 (.t 50) (.t 48))⟩] true)
 (.region [⟨some 51, none, [], (.move (.t 0))⟩, ⟨some 52, none, [], (.move (.t 7))⟩, ⟨some 53, none, [], (.move (.t 10))⟩, ⟨some 54, none, [], (.move (.t 6))⟩, ⟨some 55, none, [], (.call 154 [(.t 51), (.t 52), (.t 53), (.t 54)])⟩] false)))
 (.region [⟨some 31, none, [], (.move (.t 10))⟩, ⟨some 32, none, [], (.bin .sub (.t 31) (.c (.int .i64 1)))⟩, ⟨some 10, none, [], (.move (.t 32))⟩] false))))))] e s := by
  intro k
  induction k with
  | zero =>
    intro z e s g hz hkn h0 h6 h7 h8 h9 hA hH hP
    have hc : ¬ (0 ≤ z) := by omega
    have hK := fun e h0 h6 h7 h8 => K e s g h0 h6 h7 h8 hA hH hP
    rw [go_loop]
    generalize ([.seq (.seq (.region [⟨some 27, none, [], (.move (.t 8))⟩, ⟨some 28, none, [], (.bin .sub (.t 27) (.c (.int .i64 1)))⟩, ⟨some 10, none, [], (.move (.t 28))⟩] false)
 (.block 2 (.loop (.seq (.seq (.region [⟨some 29, none, [], (.move (.t 10))⟩, ⟨some 30, none, [], (.bin .geq (.t 29) (.c (.int .i64 0)))⟩] false)
 (.cond (.t 30) .skip (.exit 2)))
 (.seq (.block 3 (.seq (.region [⟨some 33, none, [], (.move (.t 0))⟩, ⟨some 34, none, [], (.move (.t 6))⟩, ⟨some 35, none, [], (.move (.t 0))⟩, ⟨some 36, none, [], (.move (.t 6))⟩, ⟨some 37, none, [], (.move (.t 10))⟩, ⟨some 38, none, [], (.bin .add (.t 36) (.t 37))⟩, ⟨some 39, none, [], (.move (.t 0))⟩, ⟨some 40, none, [], (.move (.t 6))⟩, ⟨some 41, none, [], (.move (.t 10))⟩, ⟨some 42, none, [], (.bin .add (.t 40) (.t 41))⟩, ⟨some 43, none, [], (.idxSl 1 (.t 39) (.t 42))⟩, ⟨some 44, none, [], (.load false 1 (.t 43))⟩, ⟨some 45, none, [], (.move (.t 0))⟩, ⟨some 46, none, [], (.move (.t 6))⟩, ⟨some 47, none, [], (.idxSl 1 (.t 45) (.t 46))⟩, ⟨some 48, none, [], (.load false 1 (.t 47))⟩, ⟨some 49, none, [], (.idxSl 1 (.t 33) (.t 34))⟩, ⟨none, none, [], (.store 1 (.t 49) (.t 44))⟩, ⟨some 50, none, [], (.idxSl 1 (.t 35) (.t 38))⟩, ⟨none, none, [], (.store 1 (.t 50) (.t 48))⟩] true)
 (.region [⟨some 51, none, [], (.move (.t 0))⟩, ⟨some 52, none, [], (.move (.t 7))⟩, ⟨some 53, none, [], (.move (.t 10))⟩, ⟨some 54, none, [], (.move (.t 6))⟩, ⟨some 55, none, [], (.call 154 [(.t 51), (.t 52), (.t 53), (.t 54)])⟩] false)))
 (.region [⟨some 31, none, [], (.move (.t 10))⟩, ⟨some 32, none, [], (.bin .sub (.t 31) (.c (.int .i64 1)))⟩, ⟨some 10, none, [], (.move (.t 32))⟩] false))))))] : List Fr) = FF at *
    simp only [h0, h6, h7, h8, h9, hc, wk, wk1, wk2, Option.some.injEq, exists_eq_left', decide_true, decide_false, Nat.reduceAdd, Nat.reduceEqDiff, Nat.reduceLeDiff, Nat.reduceLT, Nat.reduceMul, Nat.reduceBEq, Int.reduceLT, Int.reduceLE, Int.reduceEq, Int.reduceAdd, Int.reduceSub, Int.reduceMul, Int.reduceMod, Int.reduceTMod, Int.reduceTDiv, Int.reduceNeg, Nat.reduceSub, Nat.reduceDiv, reduceIte, reduceCtorEq]
    refine hK _ ?_ ?_ ?_ ?_ <;> simp only [h0, h6, h7, h8, wk, wk1, wk2, Option.some.injEq, exists_eq_left', decide_true, decide_false, Nat.reduceAdd, Nat.reduceEqDiff, Nat.reduceLeDiff, Nat.reduceLT, Nat.reduceMul, Nat.reduceBEq, Int.reduceLT, Int.reduceLE, Int.reduceEq, Int.reduceAdd, Int.reduceSub, Int.reduceMul, Int.reduceMod, Int.reduceTMod, Int.reduceTDiv, Int.reduceNeg, Nat.reduceSub, Nat.reduceDiv, reduceIte, reduceCtorEq]
  | succ k ih =>
    intro z e s g hz hkn h0 h6 h7 h8 h9 hA hH hP
    have hz2 : z = (k : Int) := by omega
    subst hz2
    have hc : (0 : Int) ≤ (k : Int) := by omega
    have u1 : wrapF .i64 ((k : Int) - 1) = (k : Int) - 1 := wrap_i64 _ (by omega) (by omega)
    rw [go_loop]
    simp only [h0, h6, h7, h8, h9, hc, u1, wk, wk1, wk2, Option.some.injEq, exists_eq_left', decide_true, decide_false, Nat.reduceAdd, Nat.reduceEqDiff, Nat.reduceLeDiff, Nat.reduceLT, Nat.reduceMul, Nat.reduceBEq, Int.reduceLT, Int.reduceLE, Int.reduceEq, Int.reduceAdd, Int.reduceSub, Int.reduceMul, Int.reduceMod, Int.reduceTMod, Int.reduceTDiv, Int.reduceNeg, Nat.reduceSub, Nat.reduceDiv, reduceIte, reduceCtorEq]
    refine goCall_by (sift_ran hs hL ho s B inc n cap ex (Nat.lt_of_lt_of_le hB hA.next) hn a k hi b (by omega) hbn (by omega) g (Aft.refl hA.wfs hA.row) hH) ?_
    rintro v s' ⟨rfl, g2, hA2, hP2, hH2⟩
    simp only [h0, h6, h7, h8, h9, hc, u1, wk, wk1, wk2, Option.some.injEq, exists_eq_left', decide_true, decide_false, Nat.reduceAdd, Nat.reduceEqDiff, Nat.reduceLeDiff, Nat.reduceLT, Nat.reduceMul, Nat.reduceBEq, Int.reduceLT, Int.reduceLE, Int.reduceEq, Int.reduceAdd, Int.reduceSub, Int.reduceMul, Int.reduceMod, Int.reduceTMod, Int.reduceTDiv, Int.reduceNeg, Nat.reduceSub, Nat.reduceDiv, reduceIte, reduceCtorEq]
    refine ih _ _ s' g2 rfl (by omega) ?_ ?_ ?_ ?_ ?_ (hA.trans hA2) hH2 (hP.trans hP2) <;> simp only [h0, h6, h7, h8, h9, u1, wk, wk1, wk2, Option.some.injEq, exists_eq_left', decide_true, decide_false, Nat.reduceAdd, Nat.reduceEqDiff, Nat.reduceLeDiff, Nat.reduceLT, Nat.reduceMul, Nat.reduceBEq, Int.reduceLT, Int.reduceLE, Int.reduceEq, Int.reduceAdd, Int.reduceSub, Int.reduceMul, Int.reduceMod, Int.reduceTMod, Int.reduceTDiv, Int.reduceNeg, Nat.reduceSub, Nat.reduceDiv, reduceIte, reduceCtorEq]

set_option maxHeartbeats 8000000 in
theorem heap_loop2 (hs : T 154 = some (.code ir154)) (hL : LessOk T 140 en lt) (ho : Ord lt) {Q : Post} {s0 : St} {B inc n cap : Nat} {ex : Bool} (hB : B < s0.next) (hn : n ≤ 1000000000) (a b : Nat) (hbn : b ≤ n) (f0 : Nat → α)
    (K : ∀ (e : Env) (s : St) (g : Nat → α), Aft en s0 B inc n g s → Srt lt a b g → PermR a b f0 g → Q .normal e s) :
    ∀ (k : Nat) (z : Int) (e : Env) (s : St) (g : Nat → α), z = (k : Int) - 1 → a + k ≤ b → opd e (.t 0) = dsl B inc n cap ex → opd e (.t 6) = .int .i64 (a : Int) → opd e (.t 7) = .int .i64 0 → opd e (.t 10) = .int .i64 z → Aft en s0 B inc n g s → HS lt a k b g → PermR a b f0 g →
      Go T Q ((.loop (.seq (.seq (.region [⟨some 29, none, [], (.move (.t 10))⟩, ⟨some 30, none, [], (.bin .geq (.t 29) (.c (.int .i64 0)))⟩] false)
 (.cond (.t 30) .skip (.exit 2)))
 (.seq (.block 3 (.seq (.region [⟨some 33, none, [], (.move (.t 0))⟩, ⟨some 34, none, [], (.move (.t 6))⟩, ⟨some 35, none, [], (.move (.t 0))⟩, ⟨some 36, none, [], (.move (.t 6))⟩, ⟨some 37, none, [], (.move (.t 10))⟩, ⟨some 38, none, [], (.bin .add (.t 36) (.t 37))⟩, ⟨some 39, none, [], (.move (.t 0))⟩, ⟨some 40, none, [], (.move (.t 6))⟩, ⟨some 41, none, [], (.move (.t 10))⟩, ⟨some 42, none, [], (.bin .add (.t 40) (.t 41))⟩, ⟨some 43, none, [], (.idxSl 1 (.t 39) (.t 42))⟩, ⟨some 44, none, [], (.load false 1 (.t 43))⟩, ⟨some 45, none, [], (.move (.t 0))⟩, ⟨some 46, none, [], (.move (.t 6))⟩, ⟨some 47, none, [], (.idxSl 1 (.t 45) (.t 46))⟩, ⟨some 48, none, [], (.load false 1 (.t 47))⟩, ⟨some 49, none, [], (.idxSl 1 (.t 33) (.t 34))⟩, ⟨none, none, [], (.store 1 (.t 49) (.t 44))⟩, ⟨some 50, none, [], (.idxSl 1 (.t 35) (.t 38))⟩, ⟨none, none, [], (.store 1 (.t 50) (.t 48))⟩] true)
 (.region [⟨some 51, none, [], (.move (.t 0))⟩, ⟨some 52, none, [], (.move (.t 7))⟩, ⟨some 53, none, [], (.move (.t 10))⟩, ⟨some 54, none, [], (.move (.t 6))⟩, ⟨some 55, none, [], (.call 154 [(.t 51), (.t 52), (.t 53), (.t 54)])⟩] false)))
 (.region [⟨some 31, none, [], (.move (.t 10))⟩, ⟨some 32, none, [], (.bin .sub (.t 31) (.c (.int .i64 1)))⟩, ⟨some 10, none, [], (.move (.t 32))⟩] false))))) [.block 2] e s := by
  have kc := hL.cells
  have ki := hL.cell
  intro k
  induction k with
  | zero =>
    intro z e s g hz hkn h0 h6 h7 h9 hA hH hP
    have hc : ¬ (0 ≤ z) := by omega
    have hK := fun e => K e s g hA hH.srt hP
    rw [go_loop]
    simp only [h0, h6, h7, h9, hc, hK, wk, wk1, wk2, Option.some.injEq, exists_eq_left', decide_true, decide_false, Nat.reduceAdd, Nat.reduceEqDiff, Nat.reduceLeDiff, Nat.reduceLT, Nat.reduceMul, Nat.reduceBEq, Int.reduceLT, Int.reduceLE, Int.reduceEq, Int.reduceAdd, Int.reduceSub, Int.reduceMul, Int.reduceMod, Int.reduceTMod, Int.reduceTDiv, Int.reduceNeg, Nat.reduceSub, Nat.reduceDiv, reduceIte, reduceCtorEq]
  | succ k ih =>
    intro z e s g hz hkn h0 h6 h7 h9 hA hH hP
    have hz2 : z = (k : Int) := by omega
    subst hz2
    have hc : (0 : Int) ≤ (k : Int) := by omega
    have u1 : wrapF .i64 ((k : Int) - 1) = (k : Int) - 1 := wrap_i64 _ (by omega) (by omega)
    obtain ⟨x, hx⟩ := op (a + k)
    have u2 : wrapF .i64 ((a : Int) + (k : Int)) = (x : Int) := by rw [wrap_i64 _ (by omega) (by omega)]; omega
    have han : a < n := by omega
    have hxn : x < n := by omega
    have ha1 : a + 1 ≤ n := by omega
    have hx1 : x + 1 ≤ n := by omega
    obtain ⟨lo', hlo, hrow⟩ := hA.row
    have m1 := mp_take (en := en) (f := g) han
    have m2 := mp_take (en := en) (f := g) hxn
    have sp1 := fun f y => mp_splice (en := en) (f := f) (x := y) han
    have sp2 := fun f y => mp_splice (en := en) (f := f) (x := y) hxn
    have hA1 := hA.put hB (swp g a x)
    have hP1 := hP.trans (PermR.swap (f := g) (i := a) (j := x) (a := a) (b := b) (by omega) (by omega) (by omega) (by omega))
    have hH1 := hH.swapped
    rw [← hx] at hH1
    have hS : ∀ g2, PermR a x (swp g a x) g2 → Heap lt a 0 k g2 → HS lt a k b g2 := by
      intro g2 q1 q2
      rw [hx] at q1
      exact hH.step ho (by omega) q1 q2
    have c0 : (0 : Int) = ((0 : Nat) : Int) := rfl
    rw [go_loop]
    simp only [h0, h6, h7, h9, hc, u1, u2, han, hxn, ha1, hx1, hrow, hlo, m1, m2, kc, ki, sp1, sp2, upd_swp, wk, wk1, wk2, Option.some.injEq, exists_eq_left', decide_true, decide_false, Nat.reduceAdd, Nat.reduceEqDiff, Nat.reduceLeDiff, Nat.reduceLT, Nat.reduceMul, Nat.reduceBEq, Int.reduceLT, Int.reduceLE, Int.reduceEq, Int.reduceAdd, Int.reduceSub, Int.reduceMul, Int.reduceMod, Int.reduceTMod, Int.reduceTDiv, Int.reduceNeg, Nat.reduceSub, Nat.reduceDiv, reduceIte, reduceCtorEq]
    have key := sift_ran hs hL ho _ B inc n cap ex (Nat.lt_of_lt_of_le hB hA1.next) hn a 0 k x (by omega) (by omega) (by omega) (swp g a x) (Aft.refl hA1.wfs hA1.row) hH1
    refine goCall_by key ?_
    rintro v s' ⟨rfl, g2, hA2, hP2, hH2⟩
    simp only [h0, h6, h7, h9, hc, u1, wk, wk1, wk2, Option.some.injEq, exists_eq_left', decide_true, decide_false, Nat.reduceAdd, Nat.reduceEqDiff, Nat.reduceLeDiff, Nat.reduceLT, Nat.reduceMul, Nat.reduceBEq, Int.reduceLT, Int.reduceLE, Int.reduceEq, Int.reduceAdd, Int.reduceSub, Int.reduceMul, Int.reduceMod, Int.reduceTMod, Int.reduceTDiv, Int.reduceNeg, Nat.reduceSub, Nat.reduceDiv, reduceIte, reduceCtorEq]
    refine ih _ _ s' g2 rfl (by omega) ?_ ?_ ?_ ?_ (hA1.trans hA2) (hS g2 hP2 hH2) (hP1.trans (hP2.wide (Nat.le_refl _) (by omega))) <;> simp only [h0, h6, h7, h9, u1, wk, wk1, wk2, Option.some.injEq, exists_eq_left', decide_true, decide_false, Nat.reduceAdd, Nat.reduceEqDiff, Nat.reduceLeDiff, Nat.reduceLT, Nat.reduceMul, Nat.reduceBEq, Int.reduceLT, Int.reduceLE, Int.reduceEq, Int.reduceAdd, Int.reduceSub, Int.reduceMul, Int.reduceMod, Int.reduceTMod, Int.reduceTDiv, Int.reduceNeg, Nat.reduceSub, Nat.reduceDiv, reduceIte, reduceCtorEq]

set_option maxHeartbeats 8000000 in
theorem heap_ran (hc : T 135 = some (.code ir135)) (hs : T 154 = some (.code ir154)) (hL : LessOk T 140 en lt) (ho : Ord lt) (s : St) (B inc n cap : Nat) (ex : Bool) (hB : B < s.next) (hn : n ≤ 1000000000) (a b : Nat) (hab : a < b) (hbn : b ≤ n) (f : Nat → α) (hA : Aft en s B inc n f s) :
    Ran T 135 [dsl B inc n cap ex, .int .i64 (a : Int), .int .i64 (b : Int)] s fun v s' => v = .tuple [] ∧ ∃ g, Aft en s B inc n g s' ∧ PermR a b f g ∧ Srt lt a b g := by
  refine ran_code hc (Nat.le_of_ble_eq_true rfl) ?_
  obtain ⟨hi, hhi⟩ := op (b - a)
  have u1 : wrapF .i64 ((b : Int) - (a : Int)) = (hi : Int) := by rw [wrap_i64 _ (by omega) (by omega)]; omega
  obtain ⟨k, hk⟩ := op ((hi - 1) / 2)
  have u2 : wrapF .i64 ((hi : Int) - 1) = ((hi - 1 : Nat) : Int) := i64_sub1 (by omega) (by omega)
  have u3 : wrapF .i64 (Int.tdiv ((hi - 1 : Nat) : Int) 2) = (k : Int) := by
    have : Int.tdiv ((hi - 1 : Nat) : Int) 2 = ((hi - 1 : Nat) : Int) / 2 := Int.tdiv_eq_ediv_of_nonneg (by omega)
    rw [this, wrap_i64 _ (by omega) (by omega)]; omega
  generalize hQ : Fin _ _ = Q
  simp only [ir135, u1, u2, u3, wk, wk1, wk2, Option.some.injEq, exists_eq_left', decide_true, decide_false, Nat.reduceAdd, Nat.reduceEqDiff, Nat.reduceLeDiff, Nat.reduceLT, Nat.reduceMul, Nat.reduceBEq, Int.reduceLT, Int.reduceLE, Int.reduceEq, Int.reduceAdd, Int.reduceSub, Int.reduceMul, Int.reduceMod, Int.reduceTMod, Int.reduceTDiv, Int.reduceNeg, Nat.reduceSub, Nat.reduceDiv, reduceIte, reduceCtorEq]
  refine heap_loop1 (cap := cap) (ex := ex) hs hL ho hB hn a b hi (by omega) hbn f ?_ (k + 1) (k : Int) _ s f (by omega) (by omega) ?_ ?_ ?_ ?_ ?_ hA (fun c c1 c2 c3 => by omega) (PermR.refl _ _ _)
  · intro e s' g h0 h6 h7 h8 hA' hH' hP'
    simp only [h0, h6, h7, h8, u2, wk, wk1, wk2, Option.some.injEq, exists_eq_left', decide_true, decide_false, Nat.reduceAdd, Nat.reduceEqDiff, Nat.reduceLeDiff, Nat.reduceLT, Nat.reduceMul, Nat.reduceBEq, Int.reduceLT, Int.reduceLE, Int.reduceEq, Int.reduceAdd, Int.reduceSub, Int.reduceMul, Int.reduceMod, Int.reduceTMod, Int.reduceTDiv, Int.reduceNeg, Nat.reduceSub, Nat.reduceDiv, reduceIte, reduceCtorEq]
    refine heap_loop2 (cap := cap) (ex := ex) hs hL ho hB hn a b hbn f ?_ hi ((hi - 1 : Nat) : Int) _ s' g (by omega) (by omega) ?_ ?_ ?_ ?_ hA' ⟨hH', fun i j x y z => by omega, fun p q x y z w => by omega⟩ hP'
    · intro e s' g hA hS hP
      subst hQ
      simp only [ir135, wk, wk1, wk2, Option.some.injEq, exists_eq_left', decide_true, decide_false, Nat.reduceAdd, Nat.reduceEqDiff, Nat.reduceLeDiff, Nat.reduceLT, Nat.reduceMul, Nat.reduceBEq, Int.reduceLT, Int.reduceLE, Int.reduceEq, Int.reduceAdd, Int.reduceSub, Int.reduceMul, Int.reduceMod, Int.reduceTMod, Int.reduceTDiv, Int.reduceNeg, Nat.reduceSub, Nat.reduceDiv, reduceIte, reduceCtorEq]
      exact ⟨g, hA, hP, hS⟩
    all_goals simp only [h0, h6, h7, h8, u2, wk, wk1, wk2, Option.some.injEq, exists_eq_left', decide_true, decide_false, Nat.reduceAdd, Nat.reduceEqDiff, Nat.reduceLeDiff, Nat.reduceLT, Nat.reduceMul, Nat.reduceBEq, Int.reduceLT, Int.reduceLE, Int.reduceEq, Int.reduceAdd, Int.reduceSub, Int.reduceMul, Int.reduceMod, Int.reduceTMod, Int.reduceTDiv, Int.reduceNeg, Nat.reduceSub, Nat.reduceDiv, reduceIte, reduceCtorEq]
  all_goals simp only [u1, u2, u3, wk, wk1, wk2, Option.some.injEq, exists_eq_left', decide_true, decide_false, Nat.reduceAdd, Nat.reduceEqDiff, Nat.reduceLeDiff, Nat.reduceLT, Nat.reduceMul, Nat.reduceBEq, Int.reduceLT, Int.reduceLE, Int.reduceEq, Int.reduceAdd, Int.reduceSub, Int.reduceMul, Int.reduceMod, Int.reduceTMod, Int.reduceTDiv, Int.reduceNeg, Nat.reduceSub, Nat.reduceDiv, reduceIte, reduceCtorEq]
end
end Go.V
