/- slices.insertionSortOrdered over the small language. -/
import Derived.Test.YtlpdekocilhciaaPdqB
set_option linter.unusedVariables false
set_option linter.unusedSimpArgs false
set_option linter.unusedSectionVars false
/- slices.insertionSortOrdered over the small language. -/
namespace Go.V
open Go
set_option linter.unusedSimpArgs false
set_option linter.unusedVariables false
-- slices.insertionSortOrdered[uint32]
def ir134 : IFunc := ⟨49, [], (.seq (.region [⟨some 8, none, [], (.move (.t 1))⟩, ⟨some 9, none, [], (.bin .add (.t 8) (.c (.int .i64 1)))⟩, ⟨some 6, none, [], (.move (.t 9))⟩] false)
 (.block 0 (.loop (.seq (.seq (.region [⟨some 10, none, [], (.move (.t 6))⟩, ⟨some 11, none, [], (.move (.t 2))⟩, ⟨some 12, none, [], (.bin .lss (.t 10) (.t 11))⟩] false)
 (.cond (.t 12) .skip (.exit 0)))
 (.seq (.block 1 (.seq (.region [⟨some 15, none, [], (.move (.t 6))⟩, ⟨some 7, none, [], (.move (.t 15))⟩] false)
 (.block 2 (.loop (.seq (.seq (.region [⟨some 16, none, [], (.move (.t 7))⟩, ⟨some 17, none, [], (.move (.t 1))⟩, ⟨some 18, none, [], (.bin .gtr (.t 16) (.t 17))⟩, ⟨some 19, none, [], (.move (.t 18))⟩, ⟨some 20, some (19, true), [], (.move (.t 0))⟩, ⟨some 21, some (19, true), [], (.move (.t 7))⟩, ⟨some 22, some (19, true), [], (.idxSl 1 (.t 20) (.t 21))⟩, ⟨some 23, some (19, true), [], (.load false 1 (.t 22))⟩, ⟨some 24, some (19, true), [], (.move (.t 0))⟩, ⟨some 25, some (19, true), [], (.move (.t 7))⟩, ⟨some 26, some (19, true), [], (.bin .sub (.t 25) (.c (.int .i64 1)))⟩, ⟨some 27, some (19, true), [], (.idxSl 1 (.t 24) (.t 26))⟩, ⟨some 28, some (19, true), [], (.load false 1 (.t 27))⟩, ⟨some 29, some (19, true), [], (.call 140 [(.t 23), (.t 28)])⟩, ⟨some 30, none, [], (.pick (.t 19) (.t 29) (.c (.bool false)))⟩] true)
 (.cond (.t 30) .skip (.exit 2)))
 (.seq (.block 3 (.region [⟨some 33, none, [], (.move (.t 0))⟩, ⟨some 34, none, [], (.move (.t 7))⟩, ⟨some 35, none, [], (.move (.t 0))⟩, ⟨some 36, none, [], (.move (.t 7))⟩, ⟨some 37, none, [], (.bin .sub (.t 36) (.c (.int .i64 1)))⟩, ⟨some 38, none, [], (.move (.t 0))⟩, ⟨some 39, none, [], (.move (.t 7))⟩, ⟨some 40, none, [], (.bin .sub (.t 39) (.c (.int .i64 1)))⟩, ⟨some 41, none, [], (.idxSl 1 (.t 38) (.t 40))⟩, ⟨some 42, none, [], (.load false 1 (.t 41))⟩, ⟨some 43, none, [], (.move (.t 0))⟩, ⟨some 44, none, [], (.move (.t 7))⟩, ⟨some 45, none, [], (.idxSl 1 (.t 43) (.t 44))⟩, ⟨some 46, none, [], (.load false 1 (.t 45))⟩, ⟨some 47, none, [], (.idxSl 1 (.t 33) (.t 34))⟩, ⟨none, none, [], (.store 1 (.t 47) (.t 42))⟩, ⟨some 48, none, [], (.idxSl 1 (.t 35) (.t 37))⟩, ⟨none, none, [], (.store 1 (.t 48) (.t 46))⟩] true))
 (.region [⟨some 31, none, [], (.move (.t 7))⟩, ⟨some 32, none, [], (.bin .sub (.t 31) (.c (.int .i64 1)))⟩, ⟨some 7, none, [], (.move (.t 32))⟩] false)))))))
 (.region [⟨some 13, none, [], (.move (.t 6))⟩, ⟨some 14, none, [], (.bin .add (.t 13) (.c (.int .i64 1)))⟩, ⟨some 6, none, [], (.move (.t 14))⟩] false))))))⟩
section
variable {α : Type} {en : α → AV} {lt : α → α → Bool} {T : Tab}
/-- How two are compared. -/
structure LessOk (T : Tab) (f : FuncId) (en : α → AV) (lt : α → α → Bool) : Prop where
  cells : ∀ x, AV.cells (en x) = [en x]
  cell : ∀ x, AV.isCell (en x) = true
  call : ∀ (Q : Post) (d : Bool) (dst : Option Nat) (x y : α) (l : List IOp) (fs : List Fr) (e : Env) (s : St), GoCall T Q d dst [] f [en x, en y] l fs e s ↔ GoOps T Q d l fs (putV e dst (.bool (lt x y))) s

abbrev dsl (B inc n cap : Nat) (ex : Bool) : AV := .slice ⟨B, 0, inc, n⟩ n cap ex 1

/-- Rising but for place j, which is at most what stands behind it. -/
def InsInv (lt : α → α → Bool) (a i j : Nat) (g : Nat → α) : Prop := ∀ p q, a ≤ p → p < q → q ≤ i → q ≠ j → Le lt (g p) (g q)
theorem InsInv.step (ho : Ord lt) {a i j : Nat} {g : Nat → α} (h : InsInv lt a i j g) (haj : a < j) (hji : j ≤ i) (hl : lt (g j) (g (j - 1)) = true) : InsInv lt a i (j - 1) (swp g j (j - 1)) := by
  intro p q h1 h2 h3 h4
  unfold swp
  by_cases q1 : q = j
  · subst q1
    rw [if_pos rfl, if_neg (by omega)]
    by_cases p1 : p = q - 1
    · subst p1; rw [if_pos rfl]; exact ho.le hl
    · rw [if_neg p1]; exact h p (q - 1) h1 (by omega) (by omega) (by omega)
  · rw [if_neg q1, if_neg h4]
    by_cases p1 : p = j
    · subst p1; rw [if_pos rfl]; exact h (p - 1) q (by omega) (by omega) h3 q1
    · rw [if_neg p1]
      by_cases p2 : p = j - 1
      · subst p2; rw [if_pos rfl]; exact h j q (by omega) (by omega) h3 q1
      · rw [if_neg p2]; exact h p q h1 h2 h3 q1
theorem InsInv.done (ho : Ord lt) {a i j : Nat} {g : Nat → α} (h : InsInv lt a i j g) (hji : j ≤ i) (hl : a < j → lt (g j) (g (j - 1)) = false) : Srt lt a (i + 1) g := by
  intro p q h1 h2 h3
  by_cases q1 : q = j
  · subst q1
    have h4 := hl (by omega)
    by_cases p1 : p = q - 1
    · subst p1; exact h4
    · exact ho.trans _ _ _ (h p (q - 1) h1 (by omega) (by omega) (by omega)) h4
  · exact h p q h1 h2 (by omega) q1

set_option maxHeartbeats 4000000 in
theorem ins_inner (hL : LessOk T 140 en lt) (ho : Ord lt) {Q : Post} {s0 : St} {B inc n cap : Nat} {ex : Bool} (hB : B < s0.next) (hn : n ≤ 1000000000) (a b i : Nat) (hai : a ≤ i) (hib : i < b) (hbn : b ≤ n) (f0 : Nat → α)
    (K : ∀ (e : Env) (s : St) (g : Nat → α), opd e (.t 0) = dsl B inc n cap ex → opd e (.t 1) = .int .i64 (a : Int) → opd e (.t 2) = .int .i64 (b : Int) → opd e (.t 6) = .int .i64 (((i + 1 : Nat)) : Int) → Aft en s0 B inc n g s → Srt lt a (i + 1) g → PermR a b f0 g →
      Go T Q ((.loop (.seq (.seq (.region [⟨some 10, none, [], (.move (.t 6))⟩, ⟨some 11, none, [], (.move (.t 2))⟩, ⟨some 12, none, [], (.bin .lss (.t 10) (.t 11))⟩] false)
 (.cond (.t 12) .skip (.exit 0)))
 (.seq (.block 1 (.seq (.region [⟨some 15, none, [], (.move (.t 6))⟩, ⟨some 7, none, [], (.move (.t 15))⟩] false)
 (.block 2 (.loop (.seq (.seq (.region [⟨some 16, none, [], (.move (.t 7))⟩, ⟨some 17, none, [], (.move (.t 1))⟩, ⟨some 18, none, [], (.bin .gtr (.t 16) (.t 17))⟩, ⟨some 19, none, [], (.move (.t 18))⟩, ⟨some 20, some (19, true), [], (.move (.t 0))⟩, ⟨some 21, some (19, true), [], (.move (.t 7))⟩, ⟨some 22, some (19, true), [], (.idxSl 1 (.t 20) (.t 21))⟩, ⟨some 23, some (19, true), [], (.load false 1 (.t 22))⟩, ⟨some 24, some (19, true), [], (.move (.t 0))⟩, ⟨some 25, some (19, true), [], (.move (.t 7))⟩, ⟨some 26, some (19, true), [], (.bin .sub (.t 25) (.c (.int .i64 1)))⟩, ⟨some 27, some (19, true), [], (.idxSl 1 (.t 24) (.t 26))⟩, ⟨some 28, some (19, true), [], (.load false 1 (.t 27))⟩, ⟨some 29, some (19, true), [], (.call 140 [(.t 23), (.t 28)])⟩, ⟨some 30, none, [], (.pick (.t 19) (.t 29) (.c (.bool false)))⟩] true)
 (.cond (.t 30) .skip (.exit 2)))
 (.seq (.block 3 (.region [⟨some 33, none, [], (.move (.t 0))⟩, ⟨some 34, none, [], (.move (.t 7))⟩, ⟨some 35, none, [], (.move (.t 0))⟩, ⟨some 36, none, [], (.move (.t 7))⟩, ⟨some 37, none, [], (.bin .sub (.t 36) (.c (.int .i64 1)))⟩, ⟨some 38, none, [], (.move (.t 0))⟩, ⟨some 39, none, [], (.move (.t 7))⟩, ⟨some 40, none, [], (.bin .sub (.t 39) (.c (.int .i64 1)))⟩, ⟨some 41, none, [], (.idxSl 1 (.t 38) (.t 40))⟩, ⟨some 42, none, [], (.load false 1 (.t 41))⟩, ⟨some 43, none, [], (.move (.t 0))⟩, ⟨some 44, none, [], (.move (.t 7))⟩, ⟨some 45, none, [], (.idxSl 1 (.t 43) (.t 44))⟩, ⟨some 46, none, [], (.load false 1 (.t 45))⟩, ⟨some 47, none, [], (.idxSl 1 (.t 33) (.t 34))⟩, ⟨none, none, [], (.store 1 (.t 47) (.t 42))⟩, ⟨some 48, none, [], (.idxSl 1 (.t 35) (.t 37))⟩, ⟨none, none, [], (.store 1 (.t 48) (.t 46))⟩] true))
 (.region [⟨some 31, none, [], (.move (.t 7))⟩, ⟨some 32, none, [], (.bin .sub (.t 31) (.c (.int .i64 1)))⟩, ⟨some 7, none, [], (.move (.t 32))⟩] false)))))))
 (.region [⟨some 13, none, [], (.move (.t 6))⟩, ⟨some 14, none, [], (.bin .add (.t 13) (.c (.int .i64 1)))⟩, ⟨some 6, none, [], (.move (.t 14))⟩] false))))) [.block 0] e s) :
    ∀ (k j : Nat) (e : Env) (s : St) (g : Nat → α), j = a + k → j ≤ i → opd e (.t 0) = dsl B inc n cap ex → opd e (.t 1) = .int .i64 (a : Int) → opd e (.t 2) = .int .i64 (b : Int) → opd e (.t 6) = .int .i64 (i : Int) → opd e (.t 7) = .int .i64 (j : Int) → Aft en s0 B inc n g s → InsInv lt a i j g → PermR a b f0 g →
      Go T Q ((.loop (.seq (.seq (.region [⟨some 16, none, [], (.move (.t 7))⟩, ⟨some 17, none, [], (.move (.t 1))⟩, ⟨some 18, none, [], (.bin .gtr (.t 16) (.t 17))⟩, ⟨some 19, none, [], (.move (.t 18))⟩, ⟨some 20, some (19, true), [], (.move (.t 0))⟩, ⟨some 21, some (19, true), [], (.move (.t 7))⟩, ⟨some 22, some (19, true), [], (.idxSl 1 (.t 20) (.t 21))⟩, ⟨some 23, some (19, true), [], (.load false 1 (.t 22))⟩, ⟨some 24, some (19, true), [], (.move (.t 0))⟩, ⟨some 25, some (19, true), [], (.move (.t 7))⟩, ⟨some 26, some (19, true), [], (.bin .sub (.t 25) (.c (.int .i64 1)))⟩, ⟨some 27, some (19, true), [], (.idxSl 1 (.t 24) (.t 26))⟩, ⟨some 28, some (19, true), [], (.load false 1 (.t 27))⟩, ⟨some 29, some (19, true), [], (.call 140 [(.t 23), (.t 28)])⟩, ⟨some 30, none, [], (.pick (.t 19) (.t 29) (.c (.bool false)))⟩] true)
 (.cond (.t 30) .skip (.exit 2)))
 (.seq (.block 3 (.region [⟨some 33, none, [], (.move (.t 0))⟩, ⟨some 34, none, [], (.move (.t 7))⟩, ⟨some 35, none, [], (.move (.t 0))⟩, ⟨some 36, none, [], (.move (.t 7))⟩, ⟨some 37, none, [], (.bin .sub (.t 36) (.c (.int .i64 1)))⟩, ⟨some 38, none, [], (.move (.t 0))⟩, ⟨some 39, none, [], (.move (.t 7))⟩, ⟨some 40, none, [], (.bin .sub (.t 39) (.c (.int .i64 1)))⟩, ⟨some 41, none, [], (.idxSl 1 (.t 38) (.t 40))⟩, ⟨some 42, none, [], (.load false 1 (.t 41))⟩, ⟨some 43, none, [], (.move (.t 0))⟩, ⟨some 44, none, [], (.move (.t 7))⟩, ⟨some 45, none, [], (.idxSl 1 (.t 43) (.t 44))⟩, ⟨some 46, none, [], (.load false 1 (.t 45))⟩, ⟨some 47, none, [], (.idxSl 1 (.t 33) (.t 34))⟩, ⟨none, none, [], (.store 1 (.t 47) (.t 42))⟩, ⟨some 48, none, [], (.idxSl 1 (.t 35) (.t 37))⟩, ⟨none, none, [], (.store 1 (.t 48) (.t 46))⟩] true))
 (.region [⟨some 31, none, [], (.move (.t 7))⟩, ⟨some 32, none, [], (.bin .sub (.t 31) (.c (.int .i64 1)))⟩, ⟨some 7, none, [], (.move (.t 32))⟩] false))))) [.block 2, .block 1, .seq (.region [⟨some 13, none, [], (.move (.t 6))⟩, ⟨some 14, none, [], (.bin .add (.t 13) (.c (.int .i64 1)))⟩, ⟨some 6, none, [], (.move (.t 14))⟩] false), .loop (.seq (.seq (.region [⟨some 10, none, [], (.move (.t 6))⟩, ⟨some 11, none, [], (.move (.t 2))⟩, ⟨some 12, none, [], (.bin .lss (.t 10) (.t 11))⟩] false)
 (.cond (.t 12) .skip (.exit 0)))
 (.seq (.block 1 (.seq (.region [⟨some 15, none, [], (.move (.t 6))⟩, ⟨some 7, none, [], (.move (.t 15))⟩] false)
 (.block 2 (.loop (.seq (.seq (.region [⟨some 16, none, [], (.move (.t 7))⟩, ⟨some 17, none, [], (.move (.t 1))⟩, ⟨some 18, none, [], (.bin .gtr (.t 16) (.t 17))⟩, ⟨some 19, none, [], (.move (.t 18))⟩, ⟨some 20, some (19, true), [], (.move (.t 0))⟩, ⟨some 21, some (19, true), [], (.move (.t 7))⟩, ⟨some 22, some (19, true), [], (.idxSl 1 (.t 20) (.t 21))⟩, ⟨some 23, some (19, true), [], (.load false 1 (.t 22))⟩, ⟨some 24, some (19, true), [], (.move (.t 0))⟩, ⟨some 25, some (19, true), [], (.move (.t 7))⟩, ⟨some 26, some (19, true), [], (.bin .sub (.t 25) (.c (.int .i64 1)))⟩, ⟨some 27, some (19, true), [], (.idxSl 1 (.t 24) (.t 26))⟩, ⟨some 28, some (19, true), [], (.load false 1 (.t 27))⟩, ⟨some 29, some (19, true), [], (.call 140 [(.t 23), (.t 28)])⟩, ⟨some 30, none, [], (.pick (.t 19) (.t 29) (.c (.bool false)))⟩] true)
 (.cond (.t 30) .skip (.exit 2)))
 (.seq (.block 3 (.region [⟨some 33, none, [], (.move (.t 0))⟩, ⟨some 34, none, [], (.move (.t 7))⟩, ⟨some 35, none, [], (.move (.t 0))⟩, ⟨some 36, none, [], (.move (.t 7))⟩, ⟨some 37, none, [], (.bin .sub (.t 36) (.c (.int .i64 1)))⟩, ⟨some 38, none, [], (.move (.t 0))⟩, ⟨some 39, none, [], (.move (.t 7))⟩, ⟨some 40, none, [], (.bin .sub (.t 39) (.c (.int .i64 1)))⟩, ⟨some 41, none, [], (.idxSl 1 (.t 38) (.t 40))⟩, ⟨some 42, none, [], (.load false 1 (.t 41))⟩, ⟨some 43, none, [], (.move (.t 0))⟩, ⟨some 44, none, [], (.move (.t 7))⟩, ⟨some 45, none, [], (.idxSl 1 (.t 43) (.t 44))⟩, ⟨some 46, none, [], (.load false 1 (.t 45))⟩, ⟨some 47, none, [], (.idxSl 1 (.t 33) (.t 34))⟩, ⟨none, none, [], (.store 1 (.t 47) (.t 42))⟩, ⟨some 48, none, [], (.idxSl 1 (.t 35) (.t 37))⟩, ⟨none, none, [], (.store 1 (.t 48) (.t 46))⟩] true))
 (.region [⟨some 31, none, [], (.move (.t 7))⟩, ⟨some 32, none, [], (.bin .sub (.t 31) (.c (.int .i64 1)))⟩, ⟨some 7, none, [], (.move (.t 32))⟩] false)))))))
 (.region [⟨some 13, none, [], (.move (.t 6))⟩, ⟨some 14, none, [], (.bin .add (.t 13) (.c (.int .i64 1)))⟩, ⟨some 6, none, [], (.move (.t 14))⟩] false))), .block 0] e s := by
  have kl := hL.call
  have kc := hL.cells
  have ki := hL.cell
  intro k
  induction k with
  | zero =>
    intro j e s g hj hji h0 h1 h2 h6 h7 hA hI hP
    have hc : ¬ ((a : Int) < (j : Int)) := by omega
    have hw : wrapF .i64 ((i : Int) + 1) = ((i + 1 : Nat) : Int) := i64_add1 (by omega)
    have hK := fun (e : Env) h0 h1 h2 h6 => K e s g h0 h1 h2 h6 hA (hI.done ho hji (by omega)) hP
    rw [go_loop]
    simp only [h0, h1, h2, h6, h7, hc, hw, wk, wk1, wk2, Option.some.injEq, exists_eq_left', decide_true, decide_false, Nat.reduceAdd, Nat.reduceEqDiff, Nat.reduceLeDiff, Nat.reduceLT, Nat.reduceMul, Nat.reduceBEq, Int.reduceLT, Int.reduceLE, Int.reduceEq, Int.reduceAdd, Int.reduceSub, Int.reduceMul, Int.reduceMod, Int.reduceTMod, Int.reduceTDiv, Int.reduceNeg, Nat.reduceSub, Nat.reduceDiv, reduceIte, reduceCtorEq]
    refine hK _ ?_ ?_ ?_ ?_ <;> simp only [h0, h1, h2, h6, hw, wk, wk1, wk2, Option.some.injEq, exists_eq_left', decide_true, decide_false, Nat.reduceAdd, Nat.reduceEqDiff, Nat.reduceLeDiff, Nat.reduceLT, Nat.reduceMul, Nat.reduceBEq, Int.reduceLT, Int.reduceLE, Int.reduceEq, Int.reduceAdd, Int.reduceSub, Int.reduceMul, Int.reduceMod, Int.reduceTMod, Int.reduceTDiv, Int.reduceNeg, Nat.reduceSub, Nat.reduceDiv, reduceIte, reduceCtorEq]
  | succ k ih =>
    intro j e s g hj hji h0 h1 h2 h6 h7 hA hI hP
    have hc : ((a : Int) < (j : Int)) := by omega
    have hw : wrapF .i64 ((i : Int) + 1) = ((i + 1 : Nat) : Int) := i64_add1 (by omega)
    have hwj : wrapF .i64 ((j : Int) - 1) = ((j - 1 : Nat) : Int) := i64_sub1 (by omega) (by omega)
    have hjn : j < n := by omega
    have hjn' : j - 1 < n := by omega
    have hj1 : j + 1 ≤ n := by omega
    have hj1' : j - 1 + 1 ≤ n := by omega
    obtain ⟨lo, hlo, hrow⟩ := hA.row
    have m1 := mp_take (en := en) (f := g) hjn
    have m2 := mp_take (en := en) (f := g) hjn'
    have sp1 := fun x => mp_splice (en := en) (f := g) (x := x) hjn
    have sp2 := fun f x => mp_splice (en := en) (f := f) (x := x) hjn'
    rw [go_loop]
    cases hlt : lt (g j) (g (j - 1)) with
    | false =>
      have hK := fun (e : Env) h0 h1 h2 h6 => K e s g h0 h1 h2 h6 hA (hI.done ho hji (fun _ => hlt)) hP
      simp only [h0, h1, h2, h6, h7, hc, hw, hwj, hjn, hjn', hj1, hj1', hrow, hlo, m1, m2, kl, hlt, wk, wk1, wk2, Option.some.injEq, exists_eq_left', decide_true, decide_false, Nat.reduceAdd, Nat.reduceEqDiff, Nat.reduceLeDiff, Nat.reduceLT, Nat.reduceMul, Nat.reduceBEq, Int.reduceLT, Int.reduceLE, Int.reduceEq, Int.reduceAdd, Int.reduceSub, Int.reduceMul, Int.reduceMod, Int.reduceTMod, Int.reduceTDiv, Int.reduceNeg, Nat.reduceSub, Nat.reduceDiv, reduceIte, reduceCtorEq]
      refine hK _ ?_ ?_ ?_ ?_ <;> simp only [h0, h1, h2, h6, hw, wk, wk1, wk2, Option.some.injEq, exists_eq_left', decide_true, decide_false, Nat.reduceAdd, Nat.reduceEqDiff, Nat.reduceLeDiff, Nat.reduceLT, Nat.reduceMul, Nat.reduceBEq, Int.reduceLT, Int.reduceLE, Int.reduceEq, Int.reduceAdd, Int.reduceSub, Int.reduceMul, Int.reduceMod, Int.reduceTMod, Int.reduceTDiv, Int.reduceNeg, Nat.reduceSub, Nat.reduceDiv, reduceIte, reduceCtorEq]
    | true =>
      have hA' := hA.put hB (swp g j (j - 1))
      have hI' := hI.step ho (by omega) hji hlt
      have hP' := hP.trans (PermR.swap (f := g) (i := j) (j := j - 1) (a := a) (b := b) (by omega) (by omega) (by omega) (by omega))
      simp only [h0, h1, h2, h6, h7, hc, hw, hwj, hjn, hjn', hj1, hj1', hrow, hlo, m1, m2, kl, hlt, kc, ki, sp1, sp2, upd_swp, wk, wk1, wk2, Option.some.injEq, exists_eq_left', decide_true, decide_false, Nat.reduceAdd, Nat.reduceEqDiff, Nat.reduceLeDiff, Nat.reduceLT, Nat.reduceMul, Nat.reduceBEq, Int.reduceLT, Int.reduceLE, Int.reduceEq, Int.reduceAdd, Int.reduceSub, Int.reduceMul, Int.reduceMod, Int.reduceTMod, Int.reduceTDiv, Int.reduceNeg, Nat.reduceSub, Nat.reduceDiv, reduceIte, reduceCtorEq]
      refine ih (j - 1) _ _ _ (by omega) (by omega) ?_ ?_ ?_ ?_ ?_ hA' hI' hP' <;> simp only [h0, h1, h2, h6, h7, hwj, wk, wk1, wk2, Option.some.injEq, exists_eq_left', decide_true, decide_false, Nat.reduceAdd, Nat.reduceEqDiff, Nat.reduceLeDiff, Nat.reduceLT, Nat.reduceMul, Nat.reduceBEq, Int.reduceLT, Int.reduceLE, Int.reduceEq, Int.reduceAdd, Int.reduceSub, Int.reduceMul, Int.reduceMod, Int.reduceTMod, Int.reduceTDiv, Int.reduceNeg, Nat.reduceSub, Nat.reduceDiv, reduceIte, reduceCtorEq]

set_option maxHeartbeats 4000000 in
theorem ins_outer (hL : LessOk T 140 en lt) (ho : Ord lt) {Q : Post} {s0 : St} {B inc n cap : Nat} {ex : Bool} (hB : B < s0.next) (hn : n ≤ 1000000000) (a b : Nat) (hbn : b ≤ n) (f0 : Nat → α)
    (K : ∀ (e : Env) (s : St) (g : Nat → α), Aft en s0 B inc n g s → Srt lt a b g → PermR a b f0 g → Ret T Q [] .normal e s) :
    ∀ (k i : Nat) (e : Env) (s : St) (g : Nat → α), k = b - i → a < i → i ≤ a + 1 ∨ i ≤ b → opd e (.t 0) = dsl B inc n cap ex → opd e (.t 1) = .int .i64 (a : Int) → opd e (.t 2) = .int .i64 (b : Int) → opd e (.t 6) = .int .i64 (i : Int) → Aft en s0 B inc n g s → Srt lt a i g → PermR a b f0 g →
      Go T Q ((.loop (.seq (.seq (.region [⟨some 10, none, [], (.move (.t 6))⟩, ⟨some 11, none, [], (.move (.t 2))⟩, ⟨some 12, none, [], (.bin .lss (.t 10) (.t 11))⟩] false)
 (.cond (.t 12) .skip (.exit 0)))
 (.seq (.block 1 (.seq (.region [⟨some 15, none, [], (.move (.t 6))⟩, ⟨some 7, none, [], (.move (.t 15))⟩] false)
 (.block 2 (.loop (.seq (.seq (.region [⟨some 16, none, [], (.move (.t 7))⟩, ⟨some 17, none, [], (.move (.t 1))⟩, ⟨some 18, none, [], (.bin .gtr (.t 16) (.t 17))⟩, ⟨some 19, none, [], (.move (.t 18))⟩, ⟨some 20, some (19, true), [], (.move (.t 0))⟩, ⟨some 21, some (19, true), [], (.move (.t 7))⟩, ⟨some 22, some (19, true), [], (.idxSl 1 (.t 20) (.t 21))⟩, ⟨some 23, some (19, true), [], (.load false 1 (.t 22))⟩, ⟨some 24, some (19, true), [], (.move (.t 0))⟩, ⟨some 25, some (19, true), [], (.move (.t 7))⟩, ⟨some 26, some (19, true), [], (.bin .sub (.t 25) (.c (.int .i64 1)))⟩, ⟨some 27, some (19, true), [], (.idxSl 1 (.t 24) (.t 26))⟩, ⟨some 28, some (19, true), [], (.load false 1 (.t 27))⟩, ⟨some 29, some (19, true), [], (.call 140 [(.t 23), (.t 28)])⟩, ⟨some 30, none, [], (.pick (.t 19) (.t 29) (.c (.bool false)))⟩] true)
 (.cond (.t 30) .skip (.exit 2)))
 (.seq (.block 3 (.region [⟨some 33, none, [], (.move (.t 0))⟩, ⟨some 34, none, [], (.move (.t 7))⟩, ⟨some 35, none, [], (.move (.t 0))⟩, ⟨some 36, none, [], (.move (.t 7))⟩, ⟨some 37, none, [], (.bin .sub (.t 36) (.c (.int .i64 1)))⟩, ⟨some 38, none, [], (.move (.t 0))⟩, ⟨some 39, none, [], (.move (.t 7))⟩, ⟨some 40, none, [], (.bin .sub (.t 39) (.c (.int .i64 1)))⟩, ⟨some 41, none, [], (.idxSl 1 (.t 38) (.t 40))⟩, ⟨some 42, none, [], (.load false 1 (.t 41))⟩, ⟨some 43, none, [], (.move (.t 0))⟩, ⟨some 44, none, [], (.move (.t 7))⟩, ⟨some 45, none, [], (.idxSl 1 (.t 43) (.t 44))⟩, ⟨some 46, none, [], (.load false 1 (.t 45))⟩, ⟨some 47, none, [], (.idxSl 1 (.t 33) (.t 34))⟩, ⟨none, none, [], (.store 1 (.t 47) (.t 42))⟩, ⟨some 48, none, [], (.idxSl 1 (.t 35) (.t 37))⟩, ⟨none, none, [], (.store 1 (.t 48) (.t 46))⟩] true))
 (.region [⟨some 31, none, [], (.move (.t 7))⟩, ⟨some 32, none, [], (.bin .sub (.t 31) (.c (.int .i64 1)))⟩, ⟨some 7, none, [], (.move (.t 32))⟩] false)))))))
 (.region [⟨some 13, none, [], (.move (.t 6))⟩, ⟨some 14, none, [], (.bin .add (.t 13) (.c (.int .i64 1)))⟩, ⟨some 6, none, [], (.move (.t 14))⟩] false))))) [.block 0] e s := by
  intro k
  induction k with
  | zero =>
    intro i e s g hk hai hi h0 h1 h2 h6 hA hS hP
    have hc : ¬ ((i : Int) < (b : Int)) := by omega
    rw [go_loop]
    have hK := fun e => K e s g hA (fun p q x y z => hS p q x y (by omega)) hP
    have hK' := fun e => (ret_nil (T := T)).1 (hK e)
    simp only [h0, h1, h2, h6, hc, hK', wk, wk1, wk2, Option.some.injEq, exists_eq_left', decide_true, decide_false, Nat.reduceAdd, Nat.reduceEqDiff, Nat.reduceLeDiff, Nat.reduceLT, Nat.reduceMul, Nat.reduceBEq, Int.reduceLT, Int.reduceLE, Int.reduceEq, Int.reduceAdd, Int.reduceSub, Int.reduceMul, Int.reduceMod, Int.reduceTMod, Int.reduceTDiv, Int.reduceNeg, Nat.reduceSub, Nat.reduceDiv, reduceIte, reduceCtorEq]
  | succ k ih =>
    intro i e s g hk hai hi h0 h1 h2 h6 hA hS hP
    have hc : ((i : Int) < (b : Int)) := by omega
    rw [go_loop]
    simp only [h0, h1, h2, h6, hc, wk, wk1, wk2, Option.some.injEq, exists_eq_left', decide_true, decide_false, Nat.reduceAdd, Nat.reduceEqDiff, Nat.reduceLeDiff, Nat.reduceLT, Nat.reduceMul, Nat.reduceBEq, Int.reduceLT, Int.reduceLE, Int.reduceEq, Int.reduceAdd, Int.reduceSub, Int.reduceMul, Int.reduceMod, Int.reduceTMod, Int.reduceTDiv, Int.reduceNeg, Nat.reduceSub, Nat.reduceDiv, reduceIte, reduceCtorEq]
    refine ins_inner (cap := cap) (ex := ex) hL ho hB hn a b i (by omega) (by omega) hbn f0 ?_ (i - a) i _ s g (by omega) (Nat.le_refl _) ?_ ?_ ?_ ?_ ?_ hA ?_ hP
    · intro e s g h0 h1 h2 h6 hA hS hP
      exact ih (i + 1) e s g (by omega) (by omega) (by omega) h0 h1 h2 h6 hA hS hP
    all_goals (try simp only [h0, h1, h2, h6, wk, wk1, wk2, Option.some.injEq, exists_eq_left', decide_true, decide_false, Nat.reduceAdd, Nat.reduceEqDiff, Nat.reduceLeDiff, Nat.reduceLT, Nat.reduceMul, Nat.reduceBEq, Int.reduceLT, Int.reduceLE, Int.reduceEq, Int.reduceAdd, Int.reduceSub, Int.reduceMul, Int.reduceMod, Int.reduceTMod, Int.reduceTDiv, Int.reduceNeg, Nat.reduceSub, Nat.reduceDiv, reduceIte, reduceCtorEq])
    intro p q x y z w
    exact hS p q x y (by omega)

theorem ins_ran (hc : T 134 = some (.code ir134)) (hL : LessOk T 140 en lt) (ho : Ord lt) (s : St) (B inc n cap : Nat) (ex : Bool) (hB : B < s.next) (hn : n ≤ 1000000000) (a b : Nat) (hab : a ≤ b) (hbn : b ≤ n) (f : Nat → α) (hA : Aft en s B inc n f s) :
    Ran T 134 [dsl B inc n cap ex, .int .i64 (a : Int), .int .i64 (b : Int)] s fun v s' => v = .tuple [] ∧ ∃ g, Aft en s B inc n g s' ∧ PermR a b f g ∧ Srt lt a b g := by
  refine ran_code hc (Nat.le_of_ble_eq_true rfl) ?_
  have hw : wrapF .i64 ((a : Int) + 1) = ((a + 1 : Nat) : Int) := i64_add1 (by omega)
  generalize hQ : Fin _ _ = Q
  simp only [ir134, hw, wk, wk1, wk2, Option.some.injEq, exists_eq_left', decide_true, decide_false, Nat.reduceAdd, Nat.reduceEqDiff, Nat.reduceLeDiff, Nat.reduceLT, Nat.reduceMul, Nat.reduceBEq, Int.reduceLT, Int.reduceLE, Int.reduceEq, Int.reduceAdd, Int.reduceSub, Int.reduceMul, Int.reduceMod, Int.reduceTMod, Int.reduceTDiv, Int.reduceNeg, Nat.reduceSub, Nat.reduceDiv, reduceIte, reduceCtorEq]
  refine ins_outer (cap := cap) (ex := ex) hL ho hB hn a b hbn f ?_ (b - (a + 1)) (a + 1) _ s f rfl (by omega) (by omega) ?_ ?_ ?_ ?_ hA (fun i j x y z => by omega) (PermR.refl _ _ _)
  · intro e s' g hA hS hP
    subst hQ
    simp only [ir134, wk, wk1, wk2, Option.some.injEq, exists_eq_left', decide_true, decide_false, Nat.reduceAdd, Nat.reduceEqDiff, Nat.reduceLeDiff, Nat.reduceLT, Nat.reduceMul, Nat.reduceBEq, Int.reduceLT, Int.reduceLE, Int.reduceEq, Int.reduceAdd, Int.reduceSub, Int.reduceMul, Int.reduceMod, Int.reduceTMod, Int.reduceTDiv, Int.reduceNeg, Nat.reduceSub, Nat.reduceDiv, reduceIte, reduceCtorEq]
    exact ⟨g, hA, hP, hS⟩
  all_goals simp only [wk, wk1, wk2, Option.some.injEq, exists_eq_left', decide_true, decide_false, Nat.reduceAdd, Nat.reduceEqDiff, Nat.reduceLeDiff, Nat.reduceLT, Nat.reduceMul, Nat.reduceBEq, Int.reduceLT, Int.reduceLE, Int.reduceEq, Int.reduceAdd, Int.reduceSub, Int.reduceMul, Int.reduceMod, Int.reduceTMod, Int.reduceTDiv, Int.reduceNeg, Nat.reduceSub, Nat.reduceDiv, reduceIte, reduceCtorEq]
end
end Go.V
