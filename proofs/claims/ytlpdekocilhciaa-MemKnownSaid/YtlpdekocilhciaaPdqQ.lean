/- slices.partitionEqualOrdered, partitionOrdered over the small language: whole. -/
import Derived.Test.YtlpdekocilhciaaPdqP
set_option linter.unusedVariables false
set_option linter.unusedSimpArgs false
set_option linter.unusedSectionVars false
/- slices.partitionEqualOrdered, partitionOrdered over the small language: whole. -/
namespace Go.V
open Go
set_option linter.unusedSimpArgs false
set_option linter.unusedVariables false
section
variable {α : Type} {en : α → AV} {lt : α → α → Bool} {T : Tab}
set_option maxHeartbeats 8000000 in
theorem pe_outer (hL : LessOk T 140 en lt) {Q : Post} {s0 : St} {B inc n cap : Nat} {ex : Bool} (hB : B < s0.next) (hn : n ≤ 1000000000) (a b : Nat) (hab : a < b) (hbn : b ≤ n) (f0 : Nat → α) (pv : α)
    (K : ∀ (e : Env) (s : St) (g : Nat → α) (i : Nat), a < i → i ≤ b → (∀ x, a < x → x < i → lt (g a) (g x) = false) → (∀ x, i ≤ x → x < b → lt (g a) (g x) = true) → Aft en s0 B inc n g s → PermR a b f0 g → opd e (.t 9) = .int .i64 (i : Int) → g a = pv → Ret T Q [.seq (.seq (.region [⟨some 83, none, [], (.move (.t 9))⟩, ⟨some 8, none, [], (.move (.t 83))⟩] false)
 .ret)] .normal e s) :
    ∀ (k i j : Nat) (e : Env) (s : St) (g : Nat → α), k = j + 1 - i → a < i → i ≤ j + 1 → j < b → (∀ x, a < x → x < i → lt (g a) (g x) = false) → (∀ x, j < x → x < b → lt (g a) (g x) = true) → opd e (.t 0) = dsl B inc n cap ex → opd e (.t 1) = .int .i64 (a : Int) → opd e (.t 9) = .int .i64 (i : Int) → opd e (.t 10) = .int .i64 (j : Int) → Aft en s0 B inc n g s → PermR a b f0 g → g a = pv →
      Go T Q ((.loop (.block 1 (.seq (.block 2 (.loop (.seq (.seq (.region [⟨some 29, none, [], (.move (.t 9))⟩, ⟨some 30, none, [], (.move (.t 10))⟩, ⟨some 31, none, [], (.bin .leq (.t 29) (.t 30))⟩, ⟨some 32, none, [], (.move (.t 31))⟩, ⟨some 33, some (32, true), [], (.move (.t 0))⟩, ⟨some 34, some (32, true), [], (.move (.t 1))⟩, ⟨some 35, some (32, true), [], (.idxSl 1 (.t 33) (.t 34))⟩, ⟨some 36, some (32, true), [], (.load false 1 (.t 35))⟩, ⟨some 37, some (32, true), [], (.move (.t 0))⟩, ⟨some 38, some (32, true), [], (.move (.t 9))⟩, ⟨some 39, some (32, true), [], (.idxSl 1 (.t 37) (.t 38))⟩, ⟨some 40, some (32, true), [], (.load false 1 (.t 39))⟩, ⟨some 41, some (32, true), [], (.call 140 [(.t 36), (.t 40)])⟩, ⟨some 42, some (32, true), [], (.un .not (.t 41))⟩, ⟨some 43, none, [], (.pick (.t 32) (.t 42) (.c (.bool false)))⟩] true)
 (.cond (.t 43) .skip (.exit 2)))
 (.block 3 (.region [⟨some 44, none, [], (.move (.t 9))⟩, ⟨some 45, none, [], (.bin .add (.t 44) (.c (.int .i64 1)))⟩, ⟨some 9, none, [], (.move (.t 45))⟩] false)))))
 (.seq (.block 4 (.loop (.seq (.seq (.region [⟨some 46, none, [], (.move (.t 9))⟩, ⟨some 47, none, [], (.move (.t 10))⟩, ⟨some 48, none, [], (.bin .leq (.t 46) (.t 47))⟩, ⟨some 49, none, [], (.move (.t 48))⟩, ⟨some 50, some (49, true), [], (.move (.t 0))⟩, ⟨some 51, some (49, true), [], (.move (.t 1))⟩, ⟨some 52, some (49, true), [], (.idxSl 1 (.t 50) (.t 51))⟩, ⟨some 53, some (49, true), [], (.load false 1 (.t 52))⟩, ⟨some 54, some (49, true), [], (.move (.t 0))⟩, ⟨some 55, some (49, true), [], (.move (.t 10))⟩, ⟨some 56, some (49, true), [], (.idxSl 1 (.t 54) (.t 55))⟩, ⟨some 57, some (49, true), [], (.load false 1 (.t 56))⟩, ⟨some 58, some (49, true), [], (.call 140 [(.t 53), (.t 57)])⟩, ⟨some 59, none, [], (.pick (.t 49) (.t 58) (.c (.bool false)))⟩] true)
 (.cond (.t 59) .skip (.exit 4)))
 (.block 5 (.region [⟨some 60, none, [], (.move (.t 10))⟩, ⟨some 61, none, [], (.bin .sub (.t 60) (.c (.int .i64 1)))⟩, ⟨some 10, none, [], (.move (.t 61))⟩] false)))))
 (.seq (.seq (.region [⟨some 62, none, [], (.move (.t 9))⟩, ⟨some 63, none, [], (.move (.t 10))⟩, ⟨some 64, none, [], (.bin .gtr (.t 62) (.t 63))⟩] false)
 (.cond (.t 64) (.exit 0) .skip))
 (.seq (.region [⟨some 65, none, [], (.move (.t 0))⟩, ⟨some 66, none, [], (.move (.t 9))⟩, ⟨some 67, none, [], (.move (.t 0))⟩, ⟨some 68, none, [], (.move (.t 10))⟩, ⟨some 69, none, [], (.move (.t 0))⟩, ⟨some 70, none, [], (.move (.t 10))⟩, ⟨some 71, none, [], (.idxSl 1 (.t 69) (.t 70))⟩, ⟨some 72, none, [], (.load false 1 (.t 71))⟩, ⟨some 73, none, [], (.move (.t 0))⟩, ⟨some 74, none, [], (.move (.t 9))⟩, ⟨some 75, none, [], (.idxSl 1 (.t 73) (.t 74))⟩, ⟨some 76, none, [], (.load false 1 (.t 75))⟩, ⟨some 77, none, [], (.idxSl 1 (.t 65) (.t 66))⟩, ⟨none, none, [], (.store 1 (.t 77) (.t 72))⟩, ⟨some 78, none, [], (.idxSl 1 (.t 67) (.t 68))⟩, ⟨none, none, [], (.store 1 (.t 78) (.t 76))⟩] true)
 (.seq (.region [⟨some 79, none, [], (.move (.t 9))⟩, ⟨some 80, none, [], (.bin .add (.t 79) (.c (.int .i64 1)))⟩, ⟨some 9, none, [], (.move (.t 80))⟩] false)
 (.region [⟨some 81, none, [], (.move (.t 10))⟩, ⟨some 82, none, [], (.bin .sub (.t 81) (.c (.int .i64 1)))⟩, ⟨some 10, none, [], (.move (.t 82))⟩] false))))))))) [.block 0, .seq (.seq (.region [⟨some 83, none, [], (.move (.t 9))⟩, ⟨some 8, none, [], (.move (.t 83))⟩] false)
 .ret)] e s := by
  have kc := hL.cells
  have ki := hL.cell
  intro k
  induction k using Nat.strongRecOn with
  | _ k ih =>
    intro i j e s g hk hai hij hjb hlo hhi h0 h1 h9 h10 hA hP hpv
    rw [go_loop]
    simp only [wk, wk1, wk2, Option.some.injEq, exists_eq_left', decide_true, decide_false, Nat.reduceAdd, Nat.reduceEqDiff, Nat.reduceLeDiff, Nat.reduceLT, Nat.reduceMul, Nat.reduceBEq, Int.reduceLT, Int.reduceLE, Int.reduceEq, Int.reduceAdd, Int.reduceSub, Int.reduceMul, Int.reduceMod, Int.reduceTMod, Int.reduceTDiv, Int.reduceNeg, Nat.reduceSub, Nat.reduceDiv, reduceIte, reduceCtorEq]
    refine pe_up (cap := cap) (ex := ex) hL hn a g hA e i j (by omega) (by omega) ?_ (j + 1 - i) i e (by omega) (Nat.le_refl _) (fun x x1 x2 => by omega) h0 h1 rfl h9 h10
    intro e m m1 m2 hs1 hst1 h0 h1 h2 h9 h10
    simp only [wk, wk1, wk2, Option.some.injEq, exists_eq_left', decide_true, decide_false, Nat.reduceAdd, Nat.reduceEqDiff, Nat.reduceLeDiff, Nat.reduceLT, Nat.reduceMul, Nat.reduceBEq, Int.reduceLT, Int.reduceLE, Int.reduceEq, Int.reduceAdd, Int.reduceSub, Int.reduceMul, Int.reduceMod, Int.reduceTMod, Int.reduceTDiv, Int.reduceNeg, Nat.reduceSub, Nat.reduceDiv, reduceIte, reduceCtorEq]
    refine pe_dn (cap := cap) (ex := ex) hL hn a g hA e m j (by omega) (by omega) (by omega) ?_ (j + 1 - m) j e (by omega) (Nat.le_refl _) (fun x x1 x2 => by omega) h0 h1 rfl h9 h10
    intro e l l1 l2 hs2 hst2 h0 h1 h2' h9 h10
    have lowr : ∀ x, a < x → x < m → lt (g a) (g x) = false := fun x x1 x2 => by
      by_cases hx : x < i
      · exact hlo x x1 hx
      · exact hs1 x (by omega) x2
    have highr : ∀ x, l < x → x < b → lt (g a) (g x) = true := fun x x1 x2 => by
      by_cases hx : j < x
      · exact hhi x hx x2
      · exact hs2 x x1 (by omega)
    by_cases hml : m ≤ l
    · have hc : ¬ ((l : Int) < (m : Int)) := by omega
      have q1 := hst1 (by omega)
      have q2 := hst2 hml
      have hne : m ≠ l := by intro he; subst he; rw [q1] at q2; cases q2
      have u1 : wrapF .i64 ((m : Int) + 1) = ((m + 1 : Nat) : Int) := i64_add1 (by omega)
      have u2 : wrapF .i64 ((l : Int) - 1) = ((l - 1 : Nat) : Int) := i64_sub1 (by omega) (by omega)
      have hmn : m < n := by omega
      have hln : l < n := by omega
      have hm1 : m + 1 ≤ n := hmn
      have hl1 : l + 1 ≤ n := hln
      obtain ⟨lo', hlo', hrow⟩ := hA.row
      have r1 := mp_take (en := en) (f := g) hmn
      have r2 := mp_take (en := en) (f := g) hln
      have sp1 := fun f y => mp_splice (en := en) (f := f) (x := y) hmn
      have sp2 := fun f y => mp_splice (en := en) (f := f) (x := y) hln
      have hA1 := hA.put hB (swp g m l)
      have hP1 := hP.trans (PermR.swap (f := g) (i := m) (j := l) (a := a) (b := b) (by omega) (by omega) (by omega) (by omega))
      have ga : swp g m l a = g a := by unfold swp; rw [if_neg (by omega), if_neg (by omega)]
      simp only [h0, h1, h9, h10, hc, u1, u2, hmn, hln, hm1, hl1, hrow, hlo', r1, r2, kc, ki, sp1, sp2, upd_swp, wk, wk1, wk2, Option.some.injEq, exists_eq_left', decide_true, decide_false, Nat.reduceAdd, Nat.reduceEqDiff, Nat.reduceLeDiff, Nat.reduceLT, Nat.reduceMul, Nat.reduceBEq, Int.reduceLT, Int.reduceLE, Int.reduceEq, Int.reduceAdd, Int.reduceSub, Int.reduceMul, Int.reduceMod, Int.reduceTMod, Int.reduceTDiv, Int.reduceNeg, Nat.reduceSub, Nat.reduceDiv, reduceIte, reduceCtorEq]
      refine ih (l - 1 + 1 - (m + 1)) (by omega) (m + 1) (l - 1) _ _ _ rfl (by omega) (by omega) (by omega) ?_ ?_ ?_ ?_ ?_ ?_ hA1 hP1 (ga.trans hpv)
      · intro x x1 x2
        rw [ga]; unfold swp
        by_cases e1 : x = m
        · rw [if_pos e1]; exact q2
        · rw [if_neg e1, if_neg (by omega)]; exact lowr x x1 (by omega)
      · intro x x1 x2
        rw [ga]; unfold swp
        by_cases e1 : x = l
        · rw [if_neg (by omega), if_pos e1]; exact q1
        · rw [if_neg (by omega), if_neg e1]; exact highr x (by omega) x2
      all_goals simp only [h0, h1, h9, h10, u1, u2, wk, wk1, wk2, Option.some.injEq, exists_eq_left', decide_true, decide_false, Nat.reduceAdd, Nat.reduceEqDiff, Nat.reduceLeDiff, Nat.reduceLT, Nat.reduceMul, Nat.reduceBEq, Int.reduceLT, Int.reduceLE, Int.reduceEq, Int.reduceAdd, Int.reduceSub, Int.reduceMul, Int.reduceMod, Int.reduceTMod, Int.reduceTDiv, Int.reduceNeg, Nat.reduceSub, Nat.reduceDiv, reduceIte, reduceCtorEq]
    · have hc : ((l : Int) < (m : Int)) := by omega
      have hK := fun e h9 => K e s g m (by omega) (by omega) lowr (fun x x1 x2 => highr x (by omega) x2) hA hP h9 hpv
      generalize ([.seq (.seq (.region [⟨some 83, none, [], (.move (.t 9))⟩, ⟨some 8, none, [], (.move (.t 83))⟩] false)
 .ret)] : List Fr) = FF at *
      simp only [h0, h1, h9, h10, hc, wk, wk1, wk2, Option.some.injEq, exists_eq_left', decide_true, decide_false, Nat.reduceAdd, Nat.reduceEqDiff, Nat.reduceLeDiff, Nat.reduceLT, Nat.reduceMul, Nat.reduceBEq, Int.reduceLT, Int.reduceLE, Int.reduceEq, Int.reduceAdd, Int.reduceSub, Int.reduceMul, Int.reduceMod, Int.reduceTMod, Int.reduceTDiv, Int.reduceNeg, Nat.reduceSub, Nat.reduceDiv, reduceIte, reduceCtorEq]
      refine hK _ ?_
      simp only [h9, wk, wk1, wk2, Option.some.injEq, exists_eq_left', decide_true, decide_false, Nat.reduceAdd, Nat.reduceEqDiff, Nat.reduceLeDiff, Nat.reduceLT, Nat.reduceMul, Nat.reduceBEq, Int.reduceLT, Int.reduceLE, Int.reduceEq, Int.reduceAdd, Int.reduceSub, Int.reduceMul, Int.reduceMod, Int.reduceTMod, Int.reduceTDiv, Int.reduceNeg, Nat.reduceSub, Nat.reduceDiv, reduceIte, reduceCtorEq]

set_option maxHeartbeats 8000000 in
theorem pe_ran (hc : T 141 = some (.code ir141)) (hL : LessOk T 140 en lt) (s : St) (B inc n cap : Nat) (ex : Bool) (hB : B < s.next) (hn : n ≤ 1000000000) (a b p : Nat) (hap : a ≤ p) (hpb : p < b) (hbn : b ≤ n) (f : Nat → α) (hA : Aft en s B inc n f s) :
    Ran T 141 [dsl B inc n cap ex, .int .i64 (a : Int), .int .i64 (b : Int), .int .i64 (p : Int)] s fun v s' => ∃ (m : Nat) (g : Nat → α), v = .int .i64 (m : Int) ∧ Aft en s B inc n g s' ∧ PermR a b f g ∧ a < m ∧ m ≤ b ∧ g a = f p ∧ (∀ x, a < x → x < m → lt (g a) (g x) = false) ∧ ∀ x, m ≤ x → x < b → lt (g a) (g x) = true := by
  refine ran_code hc (Nat.le_of_ble_eq_true rfl) ?_
  have kc := hL.cells
  have ki := hL.cell
  have u1 : wrapF .i64 ((a : Int) + 1) = ((a + 1 : Nat) : Int) := i64_add1 (by omega)
  have u2 : wrapF .i64 ((b : Int) - 1) = ((b - 1 : Nat) : Int) := i64_sub1 (by omega) (by omega)
  have han : a < n := by omega
  have hpn : p < n := by omega
  have ha1 : a + 1 ≤ n := han
  have hp1 : p + 1 ≤ n := hpn
  obtain ⟨lo', hlo', hrow⟩ := hA.row
  have r1 := mp_take (en := en) (f := f) han
  have r2 := mp_take (en := en) (f := f) hpn
  have sp1 := fun f y => mp_splice (en := en) (f := f) (x := y) han
  have sp2 := fun f y => mp_splice (en := en) (f := f) (x := y) hpn
  have hA1 := hA.put hB (swp f a p)
  have hP1 := PermR.swap (f := f) (i := a) (j := p) (a := a) (b := b) (Nat.le_refl _) (by omega) hap hpb
  have ga : swp f a p a = f p := by unfold swp; rw [if_pos rfl]
  generalize hQ : Fin _ _ = Q
  simp only [ir141, u1, u2, han, hpn, ha1, hp1, hrow, hlo', r1, r2, kc, ki, sp1, sp2, upd_swp, wk, wk1, wk2, Option.some.injEq, exists_eq_left', decide_true, decide_false, Nat.reduceAdd, Nat.reduceEqDiff, Nat.reduceLeDiff, Nat.reduceLT, Nat.reduceMul, Nat.reduceBEq, Int.reduceLT, Int.reduceLE, Int.reduceEq, Int.reduceAdd, Int.reduceSub, Int.reduceMul, Int.reduceMod, Int.reduceTMod, Int.reduceTDiv, Int.reduceNeg, Nat.reduceSub, Nat.reduceDiv, reduceIte, reduceCtorEq]
  refine pe_outer (s0 := s) (cap := cap) (ex := ex) hL hB hn a b (by omega) hbn (swp f a p) (f p) ?_ (b - 1 + 1 - (a + 1)) (a + 1) (b - 1) _ _ (swp f a p) rfl (by omega) (by omega) (by omega) (fun x x1 x2 => by omega) (fun x x1 x2 => by omega) ?_ ?_ ?_ ?_ hA1 (PermR.refl _ _ _) ga
  · intro e s' g i i1 i2 q1 q2 hA2 hP2 h9 hpv
    subst hQ
    simp only [ir141, h9, wk, wk1, wk2, Option.some.injEq, exists_eq_left', decide_true, decide_false, Nat.reduceAdd, Nat.reduceEqDiff, Nat.reduceLeDiff, Nat.reduceLT, Nat.reduceMul, Nat.reduceBEq, Int.reduceLT, Int.reduceLE, Int.reduceEq, Int.reduceAdd, Int.reduceSub, Int.reduceMul, Int.reduceMod, Int.reduceTMod, Int.reduceTDiv, Int.reduceNeg, Nat.reduceSub, Nat.reduceDiv, reduceIte, reduceCtorEq]
    refine ⟨i, g, rfl, hA2, hP1.trans hP2, i1, i2, hpv, q1, q2⟩
  all_goals simp only [u1, u2, wk, wk1, wk2, Option.some.injEq, exists_eq_left', decide_true, decide_false, Nat.reduceAdd, Nat.reduceEqDiff, Nat.reduceLeDiff, Nat.reduceLT, Nat.reduceMul, Nat.reduceBEq, Int.reduceLT, Int.reduceLE, Int.reduceEq, Int.reduceAdd, Int.reduceSub, Int.reduceMul, Int.reduceMod, Int.reduceTMod, Int.reduceTDiv, Int.reduceNeg, Nat.reduceSub, Nat.reduceDiv, reduceIte, reduceCtorEq]
set_option maxHeartbeats 8000000 in
theorem po_outer (hL : LessOk T 140 en lt) {Q : Post} {s0 : St} {B inc n cap : Nat} {ex : Bool} (hB : B < s0.next) (hn : n ≤ 1000000000) (a b : Nat) (hab : a < b) (hbn : b ≤ n) (f0 : Nat → α) (pv : α)
    (K : ∀ (e : Env) (s : St) (g : Nat → α) (i : Nat), a < i → i ≤ b → (∀ x, a < x → x < i → lt (g x) (g a) = true) → (∀ x, i ≤ x → x < b → lt (g x) (g a) = false) → Aft en s0 B inc n g s → PermR a b f0 g → opd e (.t 0) = dsl B inc n cap ex → opd e (.t 1) = .int .i64 (a : Int) → opd e (.t 11) = .int .i64 ((i - 1 : Nat) : Int) → g a = pv → Ret T Q [.seq (.seq (.region [⟨some 153, none, [], (.move (.t 0))⟩, ⟨some 154, none, [], (.move (.t 11))⟩, ⟨some 155, none, [], (.move (.t 0))⟩, ⟨some 156, none, [], (.move (.t 1))⟩, ⟨some 157, none, [], (.move (.t 0))⟩, ⟨some 158, none, [], (.move (.t 1))⟩, ⟨some 159, none, [], (.idxSl 1 (.t 157) (.t 158))⟩, ⟨some 160, none, [], (.load false 1 (.t 159))⟩, ⟨some 161, none, [], (.move (.t 0))⟩, ⟨some 162, none, [], (.move (.t 11))⟩, ⟨some 163, none, [], (.idxSl 1 (.t 161) (.t 162))⟩, ⟨some 164, none, [], (.load false 1 (.t 163))⟩, ⟨some 165, none, [], (.idxSl 1 (.t 153) (.t 154))⟩, ⟨none, none, [], (.store 1 (.t 165) (.t 160))⟩, ⟨some 166, none, [], (.idxSl 1 (.t 155) (.t 156))⟩, ⟨none, none, [], (.store 1 (.t 166) (.t 164))⟩] true)
 (.seq (.region [⟨some 167, none, [], (.move (.t 11))⟩, ⟨some 8, none, [], (.move (.t 167))⟩, ⟨some 9, none, [], (.move (.c (.bool false)))⟩] false)
 .ret))] .normal e s) :
    ∀ (k i j : Nat) (e : Env) (s : St) (g : Nat → α), k = j + 1 - i → a < i → i ≤ j + 1 → j < b → (∀ x, a < x → x < i → lt (g x) (g a) = true) → (∀ x, j < x → x < b → lt (g x) (g a) = false) → opd e (.t 0) = dsl B inc n cap ex → opd e (.t 1) = .int .i64 (a : Int) → opd e (.t 10) = .int .i64 (i : Int) → opd e (.t 11) = .int .i64 (j : Int) → Aft en s0 B inc n g s → PermR a b f0 g → g a = pv →
      Go T Q ((.loop (.block 5 (.seq (.block 6 (.loop (.seq (.seq (.region [⟨some 99, none, [], (.move (.t 10))⟩, ⟨some 100, none, [], (.move (.t 11))⟩, ⟨some 101, none, [], (.bin .leq (.t 99) (.t 100))⟩, ⟨some 102, none, [], (.move (.t 101))⟩, ⟨some 103, some (102, true), [], (.move (.t 0))⟩, ⟨some 104, some (102, true), [], (.move (.t 10))⟩, ⟨some 105, some (102, true), [], (.idxSl 1 (.t 103) (.t 104))⟩, ⟨some 106, some (102, true), [], (.load false 1 (.t 105))⟩, ⟨some 107, some (102, true), [], (.move (.t 0))⟩, ⟨some 108, some (102, true), [], (.move (.t 1))⟩, ⟨some 109, some (102, true), [], (.idxSl 1 (.t 107) (.t 108))⟩, ⟨some 110, some (102, true), [], (.load false 1 (.t 109))⟩, ⟨some 111, some (102, true), [], (.call 140 [(.t 106), (.t 110)])⟩, ⟨some 112, none, [], (.pick (.t 102) (.t 111) (.c (.bool false)))⟩] true)
 (.cond (.t 112) .skip (.exit 6)))
 (.block 7 (.region [⟨some 113, none, [], (.move (.t 10))⟩, ⟨some 114, none, [], (.bin .add (.t 113) (.c (.int .i64 1)))⟩, ⟨some 10, none, [], (.move (.t 114))⟩] false)))))
 (.seq (.block 8 (.loop (.seq (.seq (.region [⟨some 115, none, [], (.move (.t 10))⟩, ⟨some 116, none, [], (.move (.t 11))⟩, ⟨some 117, none, [], (.bin .leq (.t 115) (.t 116))⟩, ⟨some 118, none, [], (.move (.t 117))⟩, ⟨some 119, some (118, true), [], (.move (.t 0))⟩, ⟨some 120, some (118, true), [], (.move (.t 11))⟩, ⟨some 121, some (118, true), [], (.idxSl 1 (.t 119) (.t 120))⟩, ⟨some 122, some (118, true), [], (.load false 1 (.t 121))⟩, ⟨some 123, some (118, true), [], (.move (.t 0))⟩, ⟨some 124, some (118, true), [], (.move (.t 1))⟩, ⟨some 125, some (118, true), [], (.idxSl 1 (.t 123) (.t 124))⟩, ⟨some 126, some (118, true), [], (.load false 1 (.t 125))⟩, ⟨some 127, some (118, true), [], (.call 140 [(.t 122), (.t 126)])⟩, ⟨some 128, some (118, true), [], (.un .not (.t 127))⟩, ⟨some 129, none, [], (.pick (.t 118) (.t 128) (.c (.bool false)))⟩] true)
 (.cond (.t 129) .skip (.exit 8)))
 (.block 9 (.region [⟨some 130, none, [], (.move (.t 11))⟩, ⟨some 131, none, [], (.bin .sub (.t 130) (.c (.int .i64 1)))⟩, ⟨some 11, none, [], (.move (.t 131))⟩] false)))))
 (.seq (.seq (.region [⟨some 132, none, [], (.move (.t 10))⟩, ⟨some 133, none, [], (.move (.t 11))⟩, ⟨some 134, none, [], (.bin .gtr (.t 132) (.t 133))⟩] false)
 (.cond (.t 134) (.exit 4) .skip))
 (.seq (.region [⟨some 135, none, [], (.move (.t 0))⟩, ⟨some 136, none, [], (.move (.t 10))⟩, ⟨some 137, none, [], (.move (.t 0))⟩, ⟨some 138, none, [], (.move (.t 11))⟩, ⟨some 139, none, [], (.move (.t 0))⟩, ⟨some 140, none, [], (.move (.t 11))⟩, ⟨some 141, none, [], (.idxSl 1 (.t 139) (.t 140))⟩, ⟨some 142, none, [], (.load false 1 (.t 141))⟩, ⟨some 143, none, [], (.move (.t 0))⟩, ⟨some 144, none, [], (.move (.t 10))⟩, ⟨some 145, none, [], (.idxSl 1 (.t 143) (.t 144))⟩, ⟨some 146, none, [], (.load false 1 (.t 145))⟩, ⟨some 147, none, [], (.idxSl 1 (.t 135) (.t 136))⟩, ⟨none, none, [], (.store 1 (.t 147) (.t 142))⟩, ⟨some 148, none, [], (.idxSl 1 (.t 137) (.t 138))⟩, ⟨none, none, [], (.store 1 (.t 148) (.t 146))⟩] true)
 (.seq (.region [⟨some 149, none, [], (.move (.t 10))⟩, ⟨some 150, none, [], (.bin .add (.t 149) (.c (.int .i64 1)))⟩, ⟨some 10, none, [], (.move (.t 150))⟩] false)
 (.region [⟨some 151, none, [], (.move (.t 11))⟩, ⟨some 152, none, [], (.bin .sub (.t 151) (.c (.int .i64 1)))⟩, ⟨some 11, none, [], (.move (.t 152))⟩] false))))))))) [.block 4, .seq (.seq (.region [⟨some 153, none, [], (.move (.t 0))⟩, ⟨some 154, none, [], (.move (.t 11))⟩, ⟨some 155, none, [], (.move (.t 0))⟩, ⟨some 156, none, [], (.move (.t 1))⟩, ⟨some 157, none, [], (.move (.t 0))⟩, ⟨some 158, none, [], (.move (.t 1))⟩, ⟨some 159, none, [], (.idxSl 1 (.t 157) (.t 158))⟩, ⟨some 160, none, [], (.load false 1 (.t 159))⟩, ⟨some 161, none, [], (.move (.t 0))⟩, ⟨some 162, none, [], (.move (.t 11))⟩, ⟨some 163, none, [], (.idxSl 1 (.t 161) (.t 162))⟩, ⟨some 164, none, [], (.load false 1 (.t 163))⟩, ⟨some 165, none, [], (.idxSl 1 (.t 153) (.t 154))⟩, ⟨none, none, [], (.store 1 (.t 165) (.t 160))⟩, ⟨some 166, none, [], (.idxSl 1 (.t 155) (.t 156))⟩, ⟨none, none, [], (.store 1 (.t 166) (.t 164))⟩] true)
 (.seq (.region [⟨some 167, none, [], (.move (.t 11))⟩, ⟨some 8, none, [], (.move (.t 167))⟩, ⟨some 9, none, [], (.move (.c (.bool false)))⟩] false)
 .ret))] e s := by
  have kc := hL.cells
  have ki := hL.cell
  intro k
  induction k using Nat.strongRecOn with
  | _ k ih =>
    intro i j e s g hk hai hij hjb hlo hhi h0 h1 h9 h10 hA hP hpv
    rw [go_loop]
    simp only [wk, wk1, wk2, Option.some.injEq, exists_eq_left', decide_true, decide_false, Nat.reduceAdd, Nat.reduceEqDiff, Nat.reduceLeDiff, Nat.reduceLT, Nat.reduceMul, Nat.reduceBEq, Int.reduceLT, Int.reduceLE, Int.reduceEq, Int.reduceAdd, Int.reduceSub, Int.reduceMul, Int.reduceMod, Int.reduceTMod, Int.reduceTDiv, Int.reduceNeg, Nat.reduceSub, Nat.reduceDiv, reduceIte, reduceCtorEq]
    refine po_up2 (cap := cap) (ex := ex) hL hn a g hA e i j (by omega) (by omega) ?_ (j + 1 - i) i e (by omega) (Nat.le_refl _) (fun x x1 x2 => by omega) h0 h1 rfl h9 h10
    intro e m m1 m2 hs1 hst1 h0 h1 h2 h9 h10
    simp only [wk, wk1, wk2, Option.some.injEq, exists_eq_left', decide_true, decide_false, Nat.reduceAdd, Nat.reduceEqDiff, Nat.reduceLeDiff, Nat.reduceLT, Nat.reduceMul, Nat.reduceBEq, Int.reduceLT, Int.reduceLE, Int.reduceEq, Int.reduceAdd, Int.reduceSub, Int.reduceMul, Int.reduceMod, Int.reduceTMod, Int.reduceTDiv, Int.reduceNeg, Nat.reduceSub, Nat.reduceDiv, reduceIte, reduceCtorEq]
    refine po_dn2 (cap := cap) (ex := ex) hL hn a g hA e m j (by omega) (by omega) (by omega) ?_ (j + 1 - m) j e (by omega) (Nat.le_refl _) (fun x x1 x2 => by omega) h0 h1 rfl h9 h10
    intro e l l1 l2 hs2 hst2 h0 h1 h2' h9 h10
    have lowr : ∀ x, a < x → x < m → lt (g x) (g a) = true := fun x x1 x2 => by
      by_cases hx : x < i
      · exact hlo x x1 hx
      · exact hs1 x (by omega) x2
    have highr : ∀ x, l < x → x < b → lt (g x) (g a) = false := fun x x1 x2 => by
      by_cases hx : j < x
      · exact hhi x hx x2
      · exact hs2 x x1 (by omega)
    by_cases hml : m ≤ l
    · have hc : ¬ ((l : Int) < (m : Int)) := by omega
      have q1 := hst1 (by omega)
      have q2 := hst2 hml
      have hne : m ≠ l := by intro he; subst he; rw [q1] at q2; cases q2
      have u1 : wrapF .i64 ((m : Int) + 1) = ((m + 1 : Nat) : Int) := i64_add1 (by omega)
      have u2 : wrapF .i64 ((l : Int) - 1) = ((l - 1 : Nat) : Int) := i64_sub1 (by omega) (by omega)
      have hmn : m < n := by omega
      have hln : l < n := by omega
      have hm1 : m + 1 ≤ n := hmn
      have hl1 : l + 1 ≤ n := hln
      obtain ⟨lo', hlo', hrow⟩ := hA.row
      have r1 := mp_take (en := en) (f := g) hmn
      have r2 := mp_take (en := en) (f := g) hln
      have sp1 := fun f y => mp_splice (en := en) (f := f) (x := y) hmn
      have sp2 := fun f y => mp_splice (en := en) (f := f) (x := y) hln
      have hA1 := hA.put hB (swp g m l)
      have hP1 := hP.trans (PermR.swap (f := g) (i := m) (j := l) (a := a) (b := b) (by omega) (by omega) (by omega) (by omega))
      have ga : swp g m l a = g a := by unfold swp; rw [if_neg (by omega), if_neg (by omega)]
      simp only [h0, h1, h9, h10, hc, u1, u2, hmn, hln, hm1, hl1, hrow, hlo', r1, r2, kc, ki, sp1, sp2, upd_swp, wk, wk1, wk2, Option.some.injEq, exists_eq_left', decide_true, decide_false, Nat.reduceAdd, Nat.reduceEqDiff, Nat.reduceLeDiff, Nat.reduceLT, Nat.reduceMul, Nat.reduceBEq, Int.reduceLT, Int.reduceLE, Int.reduceEq, Int.reduceAdd, Int.reduceSub, Int.reduceMul, Int.reduceMod, Int.reduceTMod, Int.reduceTDiv, Int.reduceNeg, Nat.reduceSub, Nat.reduceDiv, reduceIte, reduceCtorEq]
      refine ih (l - 1 + 1 - (m + 1)) (by omega) (m + 1) (l - 1) _ _ _ rfl (by omega) (by omega) (by omega) ?_ ?_ ?_ ?_ ?_ ?_ hA1 hP1 (ga.trans hpv)
      · intro x x1 x2
        rw [ga]; unfold swp
        by_cases e1 : x = m
        · rw [if_pos e1]; exact q2
        · rw [if_neg e1, if_neg (by omega)]; exact lowr x x1 (by omega)
      · intro x x1 x2
        rw [ga]; unfold swp
        by_cases e1 : x = l
        · rw [if_neg (by omega), if_pos e1]; exact q1
        · rw [if_neg (by omega), if_neg e1]; exact highr x (by omega) x2
      all_goals simp only [h0, h1, h9, h10, u1, u2, wk, wk1, wk2, Option.some.injEq, exists_eq_left', decide_true, decide_false, Nat.reduceAdd, Nat.reduceEqDiff, Nat.reduceLeDiff, Nat.reduceLT, Nat.reduceMul, Nat.reduceBEq, Int.reduceLT, Int.reduceLE, Int.reduceEq, Int.reduceAdd, Int.reduceSub, Int.reduceMul, Int.reduceMod, Int.reduceTMod, Int.reduceTDiv, Int.reduceNeg, Nat.reduceSub, Nat.reduceDiv, reduceIte, reduceCtorEq]
    · have hc : ((l : Int) < (m : Int)) := by omega
      have hlm : l = m - 1 := by omega
      have hK := fun e h0 h1 h9 => K e s g m (by omega) (by omega) lowr (fun x x1 x2 => highr x (by omega) x2) hA hP h0 h1 h9 hpv
      generalize ([.seq (.seq (.region [⟨some 153, none, [], (.move (.t 0))⟩, ⟨some 154, none, [], (.move (.t 11))⟩, ⟨some 155, none, [], (.move (.t 0))⟩, ⟨some 156, none, [], (.move (.t 1))⟩, ⟨some 157, none, [], (.move (.t 0))⟩, ⟨some 158, none, [], (.move (.t 1))⟩, ⟨some 159, none, [], (.idxSl 1 (.t 157) (.t 158))⟩, ⟨some 160, none, [], (.load false 1 (.t 159))⟩, ⟨some 161, none, [], (.move (.t 0))⟩, ⟨some 162, none, [], (.move (.t 11))⟩, ⟨some 163, none, [], (.idxSl 1 (.t 161) (.t 162))⟩, ⟨some 164, none, [], (.load false 1 (.t 163))⟩, ⟨some 165, none, [], (.idxSl 1 (.t 153) (.t 154))⟩, ⟨none, none, [], (.store 1 (.t 165) (.t 160))⟩, ⟨some 166, none, [], (.idxSl 1 (.t 155) (.t 156))⟩, ⟨none, none, [], (.store 1 (.t 166) (.t 164))⟩] true)
 (.seq (.region [⟨some 167, none, [], (.move (.t 11))⟩, ⟨some 8, none, [], (.move (.t 167))⟩, ⟨some 9, none, [], (.move (.c (.bool false)))⟩] false)
 .ret))] : List Fr) = false at *
      simp only [h0, h1, h9, h10, hc, wk, wk1, wk2, Option.some.injEq, exists_eq_left', decide_true, decide_false, Nat.reduceAdd, Nat.reduceEqDiff, Nat.reduceLeDiff, Nat.reduceLT, Nat.reduceMul, Nat.reduceBEq, Int.reduceLT, Int.reduceLE, Int.reduceEq, Int.reduceAdd, Int.reduceSub, Int.reduceMul, Int.reduceMod, Int.reduceTMod, Int.reduceTDiv, Int.reduceNeg, Nat.reduceSub, Nat.reduceDiv, reduceIte, reduceCtorEq]
      refine hK _ ?_ ?_ ?_ <;> simp only [h0, h1, h10, hlm, wk, wk1, wk2, Option.some.injEq, exists_eq_left', decide_true, decide_false, Nat.reduceAdd, Nat.reduceEqDiff, Nat.reduceLeDiff, Nat.reduceLT, Nat.reduceMul, Nat.reduceBEq, Int.reduceLT, Int.reduceLE, Int.reduceEq, Int.reduceAdd, Int.reduceSub, Int.reduceMul, Int.reduceMod, Int.reduceTMod, Int.reduceTDiv, Int.reduceNeg, Nat.reduceSub, Nat.reduceDiv, reduceIte, reduceCtorEq]


/-- The last swap: the pivot comes between. -/
theorem po_end {a b i : Nat} {g : Nat → α} (hai : a < i) (hib : i ≤ b) (h1 : ∀ x, a < x → x < i → lt (g x) (g a) = true) (h2 : ∀ x, i ≤ x → x < b → lt (g x) (g a) = false) :
    swp g (i - 1) a (i - 1) = g a ∧ (∀ x, a ≤ x → x < i - 1 → lt (swp g (i - 1) a x) (g a) = true) ∧ ∀ x, i - 1 < x → x < b → lt (swp g (i - 1) a x) (g a) = false := by
  refine ⟨by unfold swp; rw [if_pos rfl], fun x x1 x2 => ?_, fun x x1 x2 => ?_⟩
  · unfold swp
    rw [if_neg (by omega)]
    by_cases e : x = a
    · rw [if_pos e]; exact h1 (i - 1) (by omega) (by omega)
    · rw [if_neg e]; exact h1 x (by omega) (by omega)
  · unfold swp
    rw [if_neg (by omega), if_neg (by omega)]
    exact h2 x (by omega) x2
set_option maxHeartbeats 16000000 in
theorem po_ran (hc : T 142 = some (.code ir142)) (hL : LessOk T 140 en lt) (s : St) (B inc n cap : Nat) (ex : Bool) (hB : B < s.next) (hn : n ≤ 1000000000) (a b p : Nat) (hap : a ≤ p) (hpb : p < b) (hbn : b ≤ n) (f : Nat → α) (hA : Aft en s B inc n f s) :
    Ran T 142 [dsl B inc n cap ex, .int .i64 (a : Int), .int .i64 (b : Int), .int .i64 (p : Int)] s fun v s' => ∃ (m : Nat) (g : Nat → α) (al : Bool), v = .tuple [.int .i64 (m : Int), .bool al] ∧ Aft en s B inc n g s' ∧ PermR a b f g ∧ a ≤ m ∧ m < b ∧ (∀ x, a ≤ x → x < m → lt (g x) (g m) = true) ∧ ∀ x, m < x → x < b → lt (g x) (g m) = false := by
  refine ran_code hc (Nat.le_of_ble_eq_true rfl) ?_
  have kc := hL.cells
  have ki := hL.cell
  have u1 : wrapF .i64 ((a : Int) + 1) = ((a + 1 : Nat) : Int) := i64_add1 (by omega)
  have u2 : wrapF .i64 ((b : Int) - 1) = ((b - 1 : Nat) : Int) := i64_sub1 (by omega) (by omega)
  have han : a < n := by omega
  have hpn : p < n := by omega
  have ha1 : a + 1 ≤ n := han
  have hp1 : p + 1 ≤ n := hpn
  obtain ⟨lo', hlo', hrow⟩ := hA.row
  have r1 := mp_take (en := en) (f := f) han
  have r2 := mp_take (en := en) (f := f) hpn
  have sp1 := fun f y => mp_splice (en := en) (f := f) (x := y) han
  have sp2 := fun f y => mp_splice (en := en) (f := f) (x := y) hpn
  have hA1 := hA.put hB (swp f a p)
  have hP1 := PermR.swap (f := f) (i := a) (j := p) (a := a) (b := b) (Nat.le_refl _) (by omega) hap hpb
  generalize hQ : Fin _ _ = Q
  simp only [ir142, u1, u2, han, hpn, ha1, hp1, hrow, hlo', r1, r2, kc, ki, sp1, sp2, upd_swp, wk, wk1, wk2, Option.some.injEq, exists_eq_left', decide_true, decide_false, Nat.reduceAdd, Nat.reduceEqDiff, Nat.reduceLeDiff, Nat.reduceLT, Nat.reduceMul, Nat.reduceBEq, Int.reduceLT, Int.reduceLE, Int.reduceEq, Int.reduceAdd, Int.reduceSub, Int.reduceMul, Int.reduceMod, Int.reduceTMod, Int.reduceTDiv, Int.reduceNeg, Nat.reduceSub, Nat.reduceDiv, reduceIte, reduceCtorEq]
  refine po_up (s0 := s) (cap := cap) (ex := ex) hL hn a (swp f a p) hA1 _ (a + 1) (b - 1) (by omega) (by omega) ?_ (b - 1 + 1 - (a + 1)) (a + 1) _ (by omega) (Nat.le_refl _) (fun x x1 x2 => by omega) ?_ ?_ rfl ?_ ?_
  · intro e m m1 m2 hs1 hst1 h0 h1 h2 h10 h11
    simp only [wk, wk1, wk2, Option.some.injEq, exists_eq_left', decide_true, decide_false, Nat.reduceAdd, Nat.reduceEqDiff, Nat.reduceLeDiff, Nat.reduceLT, Nat.reduceMul, Nat.reduceBEq, Int.reduceLT, Int.reduceLE, Int.reduceEq, Int.reduceAdd, Int.reduceSub, Int.reduceMul, Int.reduceMod, Int.reduceTMod, Int.reduceTDiv, Int.reduceNeg, Nat.reduceSub, Nat.reduceDiv, reduceIte, reduceCtorEq]
    refine po_dn (s0 := s) (cap := cap) (ex := ex) hL hn a (swp f a p) hA1 e m (b - 1) (by omega) (by omega) (by omega) ?_ (b - 1 + 1 - m) (b - 1) e (by omega) (Nat.le_refl _) (fun x x1 x2 => by omega) h0 h1 rfl h10 h11
    intro e l l1 l2 hs2 hst2 h0 h1 h2' h10 h11
    generalize swp f a p = g at *
    have lowr : ∀ x, a < x → x < m → lt (g x) (g a) = true := fun x x1 x2 => hs1 x (by omega) x2
    have highr : ∀ x, l < x → x < b → lt (g x) (g a) = false := fun x x1 x2 => hs2 x x1 (by omega)
    by_cases hml : m ≤ l
    · have hc : ¬ ((l : Int) < (m : Int)) := by omega
      have q1 := hst1 (by omega)
      have q2 := hst2 hml
      have hne : m ≠ l := by intro he; subst he; rw [q1] at q2; cases q2
      have v1 : wrapF .i64 ((m : Int) + 1) = ((m + 1 : Nat) : Int) := i64_add1 (by omega)
      have v2 : wrapF .i64 ((l : Int) - 1) = ((l - 1 : Nat) : Int) := i64_sub1 (by omega) (by omega)
      have hmn : m < n := by omega
      have hln : l < n := by omega
      have hm1 : m + 1 ≤ n := hmn
      have hl1 : l + 1 ≤ n := hln
      obtain ⟨lo2, hlo2, hrow2⟩ := hA1.row
      have t1 := mp_take (en := en) (f := g) hmn
      have t2 := mp_take (en := en) (f := g) hln
      have tp1 := fun f y => mp_splice (en := en) (f := f) (x := y) hmn
      have tp2 := fun f y => mp_splice (en := en) (f := f) (x := y) hln
      have hA2 := hA1.put hB (swp g m l)
      have hP2 := hP1.trans (PermR.swap (f := g) (i := m) (j := l) (a := a) (b := b) (by omega) (by omega) (by omega) (by omega))
      have ga : swp g m l a = g a := by unfold swp; rw [if_neg (by omega), if_neg (by omega)]
      obtain ⟨σ, hσ⟩ : ∃ σ : St, σ = s.put B (.cells (mp en n g) inc inc false) := ⟨_, rfl⟩
      rw [← hσ] at hA1 hA2 hrow2 ⊢
      simp only [h0, h1, h10, h11, hc, v1, v2, hmn, hln, hm1, hl1, hrow2, hlo2, t1, t2, kc, ki, tp1, tp2, upd_swp, wk, wk1, wk2, Option.some.injEq, exists_eq_left', decide_true, decide_false, Nat.reduceAdd, Nat.reduceEqDiff, Nat.reduceLeDiff, Nat.reduceLT, Nat.reduceMul, Nat.reduceBEq, Int.reduceLT, Int.reduceLE, Int.reduceEq, Int.reduceAdd, Int.reduceSub, Int.reduceMul, Int.reduceMod, Int.reduceTMod, Int.reduceTDiv, Int.reduceNeg, Nat.reduceSub, Nat.reduceDiv, reduceIte, reduceCtorEq]
      refine po_outer (s0 := s) (cap := cap) (ex := ex) hL hB hn a b (by omega) hbn f (g a) ?_ (l - 1 + 1 - (m + 1)) (m + 1) (l - 1) _ _ (swp g m l) rfl (by omega) (by omega) (by omega) ?_ ?_ ?_ ?_ ?_ ?_ hA2 hP2 ga
      · intro e s' g2 i i1 i2 q1 q2 hA3 hP3 h0 h1 h11 hpv
        obtain ⟨z1, z2, z3⟩ := po_end (a := a) (b := b) (i := i) (g := g2) (lt := lt) i1 i2 q1 q2
        have hin : i - 1 < n := by omega
        have hi1 : i - 1 + 1 ≤ n := hin
        obtain ⟨lo3, hlo3, hrow3⟩ := hA3.row
        have w1' := mp_take (en := en) (f := g2) hin
        have w2' := mp_take (en := en) (f := g2) han
        have wp1 := fun f y => mp_splice (en := en) (f := f) (x := y) hin
        have hA4 := hA3.put hB (swp g2 (i - 1) a)
        have hP4 := hP3.trans (PermR.swap (f := g2) (i := i - 1) (j := a) (a := a) (b := b) (by omega) (by omega) (by omega) (by omega))
        simp only [h0, h1, h11, han, ha1, hin, hi1, hrow3, hlo3, w1', w2', kc, ki, sp1, wp1, upd_swp, wk, wk1, wk2, Option.some.injEq, exists_eq_left', decide_true, decide_false, Nat.reduceAdd, Nat.reduceEqDiff, Nat.reduceLeDiff, Nat.reduceLT, Nat.reduceMul, Nat.reduceBEq, Int.reduceLT, Int.reduceLE, Int.reduceEq, Int.reduceAdd, Int.reduceSub, Int.reduceMul, Int.reduceMod, Int.reduceTMod, Int.reduceTDiv, Int.reduceNeg, Nat.reduceSub, Nat.reduceDiv, reduceIte, reduceCtorEq]
        subst hQ
        simp only [ir142, h11, wk, wk1, wk2, Option.some.injEq, exists_eq_left', decide_true, decide_false, Nat.reduceAdd, Nat.reduceEqDiff, Nat.reduceLeDiff, Nat.reduceLT, Nat.reduceMul, Nat.reduceBEq, Int.reduceLT, Int.reduceLE, Int.reduceEq, Int.reduceAdd, Int.reduceSub, Int.reduceMul, Int.reduceMod, Int.reduceTMod, Int.reduceTDiv, Int.reduceNeg, Nat.reduceSub, Nat.reduceDiv, reduceIte, reduceCtorEq]
        refine ⟨i - 1, _, false, rfl, hA4, hP4, by omega, by omega, ?_, ?_⟩
        · intro x x1 x2; rw [z1]; exact z2 x x1 x2
        · intro x x1 x2; rw [z1]; exact z3 x x1 x2
      · intro x x1 x2
        rw [ga]; unfold swp
        by_cases e1 : x = m
        · rw [if_pos e1]; exact q2
        · rw [if_neg e1, if_neg (by omega)]; exact lowr x x1 (by omega)
      · intro x x1 x2
        rw [ga]; unfold swp
        by_cases e1 : x = l
        · rw [if_neg (by omega), if_pos e1]; exact q1
        · rw [if_neg (by omega), if_neg e1]; exact highr x (by omega) x2
      all_goals simp only [h0, h1, h10, h11, v1, v2, wk, wk1, wk2, Option.some.injEq, exists_eq_left', decide_true, decide_false, Nat.reduceAdd, Nat.reduceEqDiff, Nat.reduceLeDiff, Nat.reduceLT, Nat.reduceMul, Nat.reduceBEq, Int.reduceLT, Int.reduceLE, Int.reduceEq, Int.reduceAdd, Int.reduceSub, Int.reduceMul, Int.reduceMod, Int.reduceTMod, Int.reduceTDiv, Int.reduceNeg, Nat.reduceSub, Nat.reduceDiv, reduceIte, reduceCtorEq]
    · have hc : ((l : Int) < (m : Int)) := by omega
      have hlm : l = m - 1 := by omega
      subst hlm
      obtain ⟨z1, z2, z3⟩ := po_end (a := a) (b := b) (i := m) (g := g) (lt := lt) (by omega) (by omega) lowr (fun x x1 x2 => highr x (by omega) x2)
      have hin : m - 1 < n := by omega
      have hi1 : m - 1 + 1 ≤ n := hin
      obtain ⟨lo2, hlo2, hrow2⟩ := hA1.row
      obtain ⟨σ, hσ⟩ : ∃ σ : St, σ = s.put B (.cells (mp en n g) inc inc false) := ⟨_, rfl⟩
      rw [← hσ] at hA1 hrow2 ⊢
      have w1' := mp_take (en := en) (f := g) hin
      have w2' := mp_take (en := en) (f := g) han
      have wp1 := fun f y => mp_splice (en := en) (f := f) (x := y) hin
      have hA4 := hA1.put hB (swp g (m - 1) a)
      have hP4 := hP1.trans (PermR.swap (f := g) (i := m - 1) (j := a) (a := a) (b := b) (by omega) (by omega) (by omega) (by omega))
      simp only [h0, h1, h10, h11, hc, han, ha1, hin, hi1, hrow2, hlo2, w1', w2', kc, ki, sp1, wp1, upd_swp, wk, wk1, wk2, Option.some.injEq, exists_eq_left', decide_true, decide_false, Nat.reduceAdd, Nat.reduceEqDiff, Nat.reduceLeDiff, Nat.reduceLT, Nat.reduceMul, Nat.reduceBEq, Int.reduceLT, Int.reduceLE, Int.reduceEq, Int.reduceAdd, Int.reduceSub, Int.reduceMul, Int.reduceMod, Int.reduceTMod, Int.reduceTDiv, Int.reduceNeg, Nat.reduceSub, Nat.reduceDiv, reduceIte, reduceCtorEq]
      subst hQ
      simp only [ir142, h11, wk, wk1, wk2, Option.some.injEq, exists_eq_left', decide_true, decide_false, Nat.reduceAdd, Nat.reduceEqDiff, Nat.reduceLeDiff, Nat.reduceLT, Nat.reduceMul, Nat.reduceBEq, Int.reduceLT, Int.reduceLE, Int.reduceEq, Int.reduceAdd, Int.reduceSub, Int.reduceMul, Int.reduceMod, Int.reduceTMod, Int.reduceTDiv, Int.reduceNeg, Nat.reduceSub, Nat.reduceDiv, reduceIte, reduceCtorEq]
      refine ⟨m - 1, _, true, rfl, hA4, hP4, by omega, by omega, ?_, ?_⟩
      · intro x x1 x2; rw [z1]; exact z2 x x1 x2
      · intro x x1 x2; rw [z1]; exact z3 x x1 x2
  all_goals simp only [u1, u2, wk, wk1, wk2, Option.some.injEq, exists_eq_left', decide_true, decide_false, Nat.reduceAdd, Nat.reduceEqDiff, Nat.reduceLeDiff, Nat.reduceLT, Nat.reduceMul, Nat.reduceBEq, Int.reduceLT, Int.reduceLE, Int.reduceEq, Int.reduceAdd, Int.reduceSub, Int.reduceMul, Int.reduceMod, Int.reduceTMod, Int.reduceTDiv, Int.reduceNeg, Nat.reduceSub, Nat.reduceDiv, reduceIte, reduceCtorEq]
end
end Go.V
