/- slices.partialInsertionSortOrdered over the small language: whole. -/
import Derived.Test.YtlpdekocilhciaaPdqS
set_option linter.unusedVariables false
set_option linter.unusedSimpArgs false
set_option linter.unusedSectionVars false
/- slices.partialInsertionSortOrdered over the small language: whole. -/
namespace Go.V
open Go
set_option linter.unusedSimpArgs false
set_option linter.unusedVariables false
section
variable {α : Type} {en : α → AV} {lt : α → α → Bool} {T : Tab}
set_option maxHeartbeats 16000000 in
theorem ps_outer (hL : LessOk T 140 en lt) (ho : Ord lt) {Q : Post} {s0 : St} {B inc n cap : Nat} {ex : Bool} (hB : B < s0.next) (hn : n ≤ 1000000000) (a b : Nat) (hbn : b ≤ n) (f0 : Nat → α) (hpre : PreA lt a b f0)
    (K : ∀ (e : Env) (s : St) (g : Nat → α) (r : Bool), PermR a b f0 g → Aft en s0 B inc n g s → (r = true → Srt lt a b g) → opd e (.t 6) = .bool r → Q .ret e s)
    (K2 : ∀ (e : Env) (s : St) (g : Nat → α), PermR a b f0 g → Aft en s0 B inc n g s → Ret T Q [.seq (.seq (.region [⟨some 6, none, [], (.move (.c (.bool false)))⟩] false) .ret)] .normal e s) :
    ∀ (k c i : Nat) (e : Env) (s : St) (g : Nat → α), k + c = 5 → a < i → i ≤ b → Srt lt a i g → PermR a b f0 g → Aft en s0 B inc n g s → PsE B inc n cap ex a b c i e →
      Go T Q (.loop ir139c33) [.block 0, .seq (.seq (.region [⟨some 6, none, [], (.move (.c (.bool false)))⟩] false) .ret)] e s := by
  have kc := hL.cells
  have ki := hL.cell
  intro k
  induction k with
  | zero =>
    intro c i e s g hk hai hib hS hP hA hE
    obtain ⟨h0, h1, h2, h7, h8⟩ := hE
    have hc : ¬ ((c : Int) < 5) := by omega
    have hK := fun e => K2 e s g hP hA
    rw [go_loop]
    generalize ([.seq (.seq (.region [⟨some 6, none, [], (.move (.c (.bool false)))⟩] false) .ret)] : List Fr) = FF at *
    simp only [g139c1, g139c2, g139c3, g139c4, g139c5, g139c6, g139c7, g139c8, g139c9, g139c10, g139c11, g139c12, g139c13, g139c14, g139c15, g139c16, g139c17, g139c18, g139c19, g139c20, g139c21, g139c22, g139c23, g139c24, g139c25, g139c26, g139c27, g139c28, g139c29, g139c30, g139c31, g139c32, g139c33, g139c34, g139c35, g139c36, g139c37, h0, h1, h2, h7, h8, hc, hK, wk, wk1, wk2, Option.some.injEq, exists_eq_left', decide_true, decide_false, Nat.reduceAdd, Nat.reduceEqDiff, Nat.reduceLeDiff, Nat.reduceLT, Nat.reduceMul, Nat.reduceBEq, Int.reduceLT, Int.reduceLE, Int.reduceEq, Int.reduceAdd, Int.reduceSub, Int.reduceMul, Int.reduceMod, Int.reduceTMod, Int.reduceTDiv, Int.reduceNeg, Nat.reduceSub, Nat.reduceDiv, reduceIte, reduceCtorEq]
  | succ k ih =>
    intro c i e s g hk hai hib hS hP hA hE
    obtain ⟨h0, h1, h2, h7, h8⟩ := hE
    have hc : ((c : Int) < 5) := by omega
    have u8 : wrapF .i64 ((c : Int) + 1) = ((c + 1 : Nat) : Int) := i64_add1 (by omega)
    have u9 : wrapF .i64 ((b : Int) - (a : Int)) = ((b - a : Nat) : Int) := i64_sub (by omega) (by omega)
    rw [go_loop]
    simp only [g139c1, g139c2, g139c3, g139c4, g139c5, g139c6, g139c7, g139c8, g139c9, g139c10, g139c11, g139c12, g139c13, g139c14, g139c15, g139c16, g139c17, g139c18, g139c19, g139c20, g139c21, g139c22, g139c23, g139c24, g139c25, g139c26, g139c27, g139c28, g139c29, g139c30, g139c31, g139c32, g139c33, g139c34, g139c35, g139c36, g139c37, h8, hc, wk, wk1, wk2, Option.some.injEq, exists_eq_left', decide_true, decide_false, Nat.reduceAdd, Nat.reduceEqDiff, Nat.reduceLeDiff, Nat.reduceLT, Nat.reduceMul, Nat.reduceBEq, Int.reduceLT, Int.reduceLE, Int.reduceEq, Int.reduceAdd, Int.reduceSub, Int.reduceMul, Int.reduceMod, Int.reduceTMod, Int.reduceTDiv, Int.reduceNeg, Nat.reduceSub, Nat.reduceDiv, reduceIte, reduceCtorEq]
    refine ps_scan (cap := cap) (ex := ex) hL ho hn a b c hbn g hA ?_ (b - i) i _ (by omega) hai hS ⟨?_, ?_, ?_, ?_, ?_⟩
    · intro e m m1 m2 hS hst hE
      obtain ⟨h0, h1, h2, h7, h8⟩ := hE
      by_cases hmb : m = b
      · subst hmb
        have hK := fun e => K e s g true hP hA (fun _ => hS)
        simp only [g139c1, g139c2, g139c3, g139c4, g139c5, g139c6, g139c7, g139c8, g139c9, g139c10, g139c11, g139c12, g139c13, g139c14, g139c15, g139c16, g139c17, g139c18, g139c19, g139c20, g139c21, g139c22, g139c23, g139c24, g139c25, g139c26, g139c27, g139c28, g139c29, g139c30, g139c31, g139c32, g139c33, g139c34, g139c35, g139c36, g139c37, h0, h1, h2, h7, wk, wk1, wk2, Option.some.injEq, exists_eq_left', decide_true, decide_false, Nat.reduceAdd, Nat.reduceEqDiff, Nat.reduceLeDiff, Nat.reduceLT, Nat.reduceMul, Nat.reduceBEq, Int.reduceLT, Int.reduceLE, Int.reduceEq, Int.reduceAdd, Int.reduceSub, Int.reduceMul, Int.reduceMod, Int.reduceTMod, Int.reduceTDiv, Int.reduceNeg, Nat.reduceSub, Nat.reduceDiv, reduceIte, reduceCtorEq]
        refine hK _ ?_
        simp only [wk, wk1, wk2, Option.some.injEq, exists_eq_left', decide_true, decide_false, Nat.reduceAdd, Nat.reduceEqDiff, Nat.reduceLeDiff, Nat.reduceLT, Nat.reduceMul, Nat.reduceBEq, Int.reduceLT, Int.reduceLE, Int.reduceEq, Int.reduceAdd, Int.reduceSub, Int.reduceMul, Int.reduceMod, Int.reduceTMod, Int.reduceTDiv, Int.reduceNeg, Nat.reduceSub, Nat.reduceDiv, reduceIte, reduceCtorEq]
      · have c1 : ¬ ((m : Int) = (b : Int)) := by omega
        by_cases h50 : b - a < 50
        · have c2 : ((b - a : Nat) : Int) < 50 := by omega
          have hK := fun e => K e s g false hP hA (fun h => by cases h)
          simp only [g139c1, g139c2, g139c3, g139c4, g139c5, g139c6, g139c7, g139c8, g139c9, g139c10, g139c11, g139c12, g139c13, g139c14, g139c15, g139c16, g139c17, g139c18, g139c19, g139c20, g139c21, g139c22, g139c23, g139c24, g139c25, g139c26, g139c27, g139c28, g139c29, g139c30, g139c31, g139c32, g139c33, g139c34, g139c35, g139c36, g139c37, h0, h1, h2, h7, c1, u9, c2, wk, wk1, wk2, Option.some.injEq, exists_eq_left', decide_true, decide_false, Nat.reduceAdd, Nat.reduceEqDiff, Nat.reduceLeDiff, Nat.reduceLT, Nat.reduceMul, Nat.reduceBEq, Int.reduceLT, Int.reduceLE, Int.reduceEq, Int.reduceAdd, Int.reduceSub, Int.reduceMul, Int.reduceMod, Int.reduceTMod, Int.reduceTDiv, Int.reduceNeg, Nat.reduceSub, Nat.reduceDiv, reduceIte, reduceCtorEq]
          refine hK _ ?_
          simp only [wk, wk1, wk2, Option.some.injEq, exists_eq_left', decide_true, decide_false, Nat.reduceAdd, Nat.reduceEqDiff, Nat.reduceLeDiff, Nat.reduceLT, Nat.reduceMul, Nat.reduceBEq, Int.reduceLT, Int.reduceLE, Int.reduceEq, Int.reduceAdd, Int.reduceSub, Int.reduceMul, Int.reduceMod, Int.reduceTMod, Int.reduceTDiv, Int.reduceNeg, Nat.reduceSub, Nat.reduceDiv, reduceIte, reduceCtorEq]
        · have c2 : ¬ ((b - a : Nat) : Int) < 50 := by omega
          obtain ⟨lo', hlo, hrow⟩ := hA.row
          have hjn : m < n := by omega
          have hjn' : m - 1 < n := by omega
          have hj1 : m + 1 ≤ n := by omega
          have hj1' : m - 1 + 1 ≤ n := by omega
          have r1 := mp_take (en := en) (f := g) hjn
          have r2 := mp_take (en := en) (f := g) hjn'
          have sp1 := fun x => mp_splice (en := en) (f := g) (x := x) hjn
          have sp2 := fun f x => mp_splice (en := en) (f := f) (x := x) hjn'
          have u1 : wrapF .i64 ((m : Int) - 1) = ((m - 1 : Nat) : Int) := i64_sub1 (by omega) (by omega)
          have u3 : wrapF .i64 ((m : Int) - (a : Int)) = ((m - a : Nat) : Int) := i64_sub (by omega) (by omega)
          have hA' := hA.put hB (swp g m (m - 1))
          have hP' := hP.trans (PermR.swap (f := g) (i := m) (j := m - 1) (a := a) (b := b) (by omega) (by omega) (by omega) (by omega))
          have hI' : InsInv lt a (m - 1) (m - 1) (swp g m (m - 1)) := by
            intro p q p1 p2 p3 p4
            unfold swp
            rw [if_neg (by omega), if_neg (by omega), if_neg (by omega), if_neg p4]
            exact hS p q p1 p2 (by omega)
          -- behind the shifting to the left
          have rest : ∀ (e : Env) (s : St) (g : Nat → α), Srt lt a m g → PermR a b f0 g → Aft en s0 B inc n g s → PsE B inc n cap ex a b c m e → Ret T Q [.seq ir139c25, .block 1, .seq ir139c31, .loop ir139c33, .block 0, .seq (.seq (.region [⟨some 6, none, [], (.move (.c (.bool false)))⟩] false) .ret)] .normal e s := by
            intro e s g hS hP hA hE
            obtain ⟨h0, h1, h2, h7, h8⟩ := hE
            have u4 : wrapF .i64 ((b : Int) - (m : Int)) = ((b - m : Nat) : Int) := i64_sub (by omega) (by omega)
            have u5 : wrapF .i64 ((m : Int) + 1) = ((m + 1 : Nat) : Int) := i64_add1 (by omega)
            by_cases h22 : 2 ≤ b - m
            · have c3 : (2 : Int) ≤ ((b - m : Nat) : Int) := by omega
              simp only [g139c1, g139c2, g139c3, g139c4, g139c5, g139c6, g139c7, g139c8, g139c9, g139c10, g139c11, g139c12, g139c13, g139c14, g139c15, g139c16, g139c17, g139c18, g139c19, g139c20, g139c21, g139c22, g139c23, g139c24, g139c25, g139c26, g139c27, g139c28, g139c29, g139c30, g139c31, g139c32, g139c33, g139c34, g139c35, g139c36, g139c37, h0, h1, h2, h7, h8, u4, u5, c3, wk, wk1, wk2, Option.some.injEq, exists_eq_left', decide_true, decide_false, Nat.reduceAdd, Nat.reduceEqDiff, Nat.reduceLeDiff, Nat.reduceLT, Nat.reduceMul, Nat.reduceBEq, Int.reduceLT, Int.reduceLE, Int.reduceEq, Int.reduceAdd, Int.reduceSub, Int.reduceMul, Int.reduceMod, Int.reduceTMod, Int.reduceTDiv, Int.reduceNeg, Nat.reduceSub, Nat.reduceDiv, reduceIte, reduceCtorEq]
              refine ps_right (cap := cap) (ex := ex) hL hB hn a b c m (by omega) hbn f0 ?_ (b - (m + 1)) (m + 1) _ s g (by omega) (by omega) hS hP hA ⟨?_, ?_, ?_, ?_, ?_⟩ ?_
              · intro e s g hS hP hA hE
                obtain ⟨h0, h1, h2, h7, h8⟩ := hE
                simp only [g139c1, g139c2, g139c3, g139c4, g139c5, g139c6, g139c7, g139c8, g139c9, g139c10, g139c11, g139c12, g139c13, g139c14, g139c15, g139c16, g139c17, g139c18, g139c19, g139c20, g139c21, g139c22, g139c23, g139c24, g139c25, g139c26, g139c27, g139c28, g139c29, g139c30, g139c31, g139c32, g139c33, g139c34, g139c35, g139c36, g139c37, h0, h1, h2, h7, h8, u8, wk, wk1, wk2, Option.some.injEq, exists_eq_left', decide_true, decide_false, Nat.reduceAdd, Nat.reduceEqDiff, Nat.reduceLeDiff, Nat.reduceLT, Nat.reduceMul, Nat.reduceBEq, Int.reduceLT, Int.reduceLE, Int.reduceEq, Int.reduceAdd, Int.reduceSub, Int.reduceMul, Int.reduceMod, Int.reduceTMod, Int.reduceTDiv, Int.reduceNeg, Nat.reduceSub, Nat.reduceDiv, reduceIte, reduceCtorEq]
                refine ih (c + 1) m _ s g (by omega) (by omega) (by omega) hS hP hA ⟨?_, ?_, ?_, ?_, ?_⟩ <;> simp only [h0, h1, h2, h7, h8, u8, wk, wk1, wk2, Option.some.injEq, exists_eq_left', decide_true, decide_false, Nat.reduceAdd, Nat.reduceEqDiff, Nat.reduceLeDiff, Nat.reduceLT, Nat.reduceMul, Nat.reduceBEq, Int.reduceLT, Int.reduceLE, Int.reduceEq, Int.reduceAdd, Int.reduceSub, Int.reduceMul, Int.reduceMod, Int.reduceTMod, Int.reduceTDiv, Int.reduceNeg, Nat.reduceSub, Nat.reduceDiv, reduceIte, reduceCtorEq]
              all_goals simp only [h0, h1, h2, h7, h8, u5, wk, wk1, wk2, Option.some.injEq, exists_eq_left', decide_true, decide_false, Nat.reduceAdd, Nat.reduceEqDiff, Nat.reduceLeDiff, Nat.reduceLT, Nat.reduceMul, Nat.reduceBEq, Int.reduceLT, Int.reduceLE, Int.reduceEq, Int.reduceAdd, Int.reduceSub, Int.reduceMul, Int.reduceMod, Int.reduceTMod, Int.reduceTDiv, Int.reduceNeg, Nat.reduceSub, Nat.reduceDiv, reduceIte, reduceCtorEq]
            · have c3 : ¬ (2 : Int) ≤ ((b - m : Nat) : Int) := by omega
              simp only [g139c1, g139c2, g139c3, g139c4, g139c5, g139c6, g139c7, g139c8, g139c9, g139c10, g139c11, g139c12, g139c13, g139c14, g139c15, g139c16, g139c17, g139c18, g139c19, g139c20, g139c21, g139c22, g139c23, g139c24, g139c25, g139c26, g139c27, g139c28, g139c29, g139c30, g139c31, g139c32, g139c33, g139c34, g139c35, g139c36, g139c37, h0, h1, h2, h7, h8, u4, u5, u8, c3, wk, wk1, wk2, Option.some.injEq, exists_eq_left', decide_true, decide_false, Nat.reduceAdd, Nat.reduceEqDiff, Nat.reduceLeDiff, Nat.reduceLT, Nat.reduceMul, Nat.reduceBEq, Int.reduceLT, Int.reduceLE, Int.reduceEq, Int.reduceAdd, Int.reduceSub, Int.reduceMul, Int.reduceMod, Int.reduceTMod, Int.reduceTDiv, Int.reduceNeg, Nat.reduceSub, Nat.reduceDiv, reduceIte, reduceCtorEq]
              refine ih (c + 1) m _ s g (by omega) (by omega) (by omega) hS hP hA ⟨?_, ?_, ?_, ?_, ?_⟩ <;> simp only [h0, h1, h2, h7, h8, u8, wk, wk1, wk2, Option.some.injEq, exists_eq_left', decide_true, decide_false, Nat.reduceAdd, Nat.reduceEqDiff, Nat.reduceLeDiff, Nat.reduceLT, Nat.reduceMul, Nat.reduceBEq, Int.reduceLT, Int.reduceLE, Int.reduceEq, Int.reduceAdd, Int.reduceSub, Int.reduceMul, Int.reduceMod, Int.reduceTMod, Int.reduceTDiv, Int.reduceNeg, Nat.reduceSub, Nat.reduceDiv, reduceIte, reduceCtorEq]
          generalize hFF : ([.seq ir139c25, .block 1, .seq ir139c31, .loop ir139c33, .block 0, .seq (.seq (.region [⟨some 6, none, [], (.move (.c (.bool false)))⟩] false) .ret)] : List Fr) = FF at *
          by_cases h2m : 2 ≤ m - a
          · have c3 : (2 : Int) ≤ ((m - a : Nat) : Int) := by omega
            simp only [g139c1, g139c2, g139c3, g139c4, g139c5, g139c6, g139c7, g139c8, g139c9, g139c10, g139c11, g139c12, g139c13, g139c14, g139c15, g139c16, g139c17, g139c18, g139c19, g139c20, g139c21, g139c22, g139c23, g139c24, g139c25, g139c26, g139c27, g139c28, g139c29, g139c30, g139c31, g139c32, g139c33, g139c34, g139c35, g139c36, g139c37, h0, h1, h2, h7, c1, u9, c2, hjn, hjn', hj1, hj1', hrow, hlo, r1, r2, u1, u3, c3, kc, ki, sp1, sp2, upd_swp, wk, wk1, wk2, Option.some.injEq, exists_eq_left', decide_true, decide_false, Nat.reduceAdd, Nat.reduceEqDiff, Nat.reduceLeDiff, Nat.reduceLT, Nat.reduceMul, Nat.reduceBEq, Int.reduceLT, Int.reduceLE, Int.reduceEq, Int.reduceAdd, Int.reduceSub, Int.reduceMul, Int.reduceMod, Int.reduceTMod, Int.reduceTDiv, Int.reduceNeg, Nat.reduceSub, Nat.reduceDiv, reduceIte, reduceCtorEq]
            subst hFF
            refine ps_left (cap := cap) (ex := ex) hL ho hB hn a b c m (by omega) (by omega) hbn f0 hpre rest (m - 1 - a) (m - 1) _ _ _ (by omega) (by omega) hI' hP' hA' ⟨?_, ?_, ?_, ?_, ?_⟩ ?_ <;> simp only [h0, h1, h2, h7, h8, u1, wk, wk1, wk2, Option.some.injEq, exists_eq_left', decide_true, decide_false, Nat.reduceAdd, Nat.reduceEqDiff, Nat.reduceLeDiff, Nat.reduceLT, Nat.reduceMul, Nat.reduceBEq, Int.reduceLT, Int.reduceLE, Int.reduceEq, Int.reduceAdd, Int.reduceSub, Int.reduceMul, Int.reduceMod, Int.reduceTMod, Int.reduceTDiv, Int.reduceNeg, Nat.reduceSub, Nat.reduceDiv, reduceIte, reduceCtorEq]
          · have c3 : ¬ (2 : Int) ≤ ((m - a : Nat) : Int) := by omega
            have hS1 : Srt lt a m (swp g m (m - 1)) := fun p q p1 p2 p3 => by omega
            have u4 : wrapF .i64 ((b : Int) - (m : Int)) = ((b - m : Nat) : Int) := i64_sub (by omega) (by omega)
            have u5 : wrapF .i64 ((m : Int) + 1) = ((m + 1 : Nat) : Int) := i64_add1 (by omega)
            clear rest hFF
            by_cases h22 : 2 ≤ b - m
            · have c4 : (2 : Int) ≤ ((b - m : Nat) : Int) := by omega
              simp only [g139c1, g139c2, g139c3, g139c4, g139c5, g139c6, g139c7, g139c8, g139c9, g139c10, g139c11, g139c12, g139c13, g139c14, g139c15, g139c16, g139c17, g139c18, g139c19, g139c20, g139c21, g139c22, g139c23, g139c24, g139c25, g139c26, g139c27, g139c28, g139c29, g139c30, g139c31, g139c32, g139c33, g139c34, g139c35, g139c36, g139c37, h0, h1, h2, h7, h8, c1, u9, c2, hjn, hjn', hj1, hj1', hrow, hlo, r1, r2, u1, u3, c3, kc, ki, sp1, sp2, upd_swp, u4, u5, u8, c4, wk, wk1, wk2, Option.some.injEq, exists_eq_left', decide_true, decide_false, Nat.reduceAdd, Nat.reduceEqDiff, Nat.reduceLeDiff, Nat.reduceLT, Nat.reduceMul, Nat.reduceBEq, Int.reduceLT, Int.reduceLE, Int.reduceEq, Int.reduceAdd, Int.reduceSub, Int.reduceMul, Int.reduceMod, Int.reduceTMod, Int.reduceTDiv, Int.reduceNeg, Nat.reduceSub, Nat.reduceDiv, reduceIte, reduceCtorEq]
              refine ps_right (cap := cap) (ex := ex) hL hB hn a b c m (by omega) hbn f0 ?_ (b - (m + 1)) (m + 1) _ _ _ (by omega) (by omega) hS1 hP' hA' ⟨?_, ?_, ?_, ?_, ?_⟩ ?_
              · intro e s g hS hP hA hE
                obtain ⟨h0, h1, h2, h7, h8⟩ := hE
                simp only [g139c1, g139c2, g139c3, g139c4, g139c5, g139c6, g139c7, g139c8, g139c9, g139c10, g139c11, g139c12, g139c13, g139c14, g139c15, g139c16, g139c17, g139c18, g139c19, g139c20, g139c21, g139c22, g139c23, g139c24, g139c25, g139c26, g139c27, g139c28, g139c29, g139c30, g139c31, g139c32, g139c33, g139c34, g139c35, g139c36, g139c37, h0, h1, h2, h7, h8, u8, wk, wk1, wk2, Option.some.injEq, exists_eq_left', decide_true, decide_false, Nat.reduceAdd, Nat.reduceEqDiff, Nat.reduceLeDiff, Nat.reduceLT, Nat.reduceMul, Nat.reduceBEq, Int.reduceLT, Int.reduceLE, Int.reduceEq, Int.reduceAdd, Int.reduceSub, Int.reduceMul, Int.reduceMod, Int.reduceTMod, Int.reduceTDiv, Int.reduceNeg, Nat.reduceSub, Nat.reduceDiv, reduceIte, reduceCtorEq]
                refine ih (c + 1) m _ s g (by omega) (by omega) (by omega) hS hP hA ⟨?_, ?_, ?_, ?_, ?_⟩ <;> simp only [h0, h1, h2, h7, h8, u8, wk, wk1, wk2, Option.some.injEq, exists_eq_left', decide_true, decide_false, Nat.reduceAdd, Nat.reduceEqDiff, Nat.reduceLeDiff, Nat.reduceLT, Nat.reduceMul, Nat.reduceBEq, Int.reduceLT, Int.reduceLE, Int.reduceEq, Int.reduceAdd, Int.reduceSub, Int.reduceMul, Int.reduceMod, Int.reduceTMod, Int.reduceTDiv, Int.reduceNeg, Nat.reduceSub, Nat.reduceDiv, reduceIte, reduceCtorEq]
              all_goals simp only [h0, h1, h2, h7, h8, u1, u5, wk, wk1, wk2, Option.some.injEq, exists_eq_left', decide_true, decide_false, Nat.reduceAdd, Nat.reduceEqDiff, Nat.reduceLeDiff, Nat.reduceLT, Nat.reduceMul, Nat.reduceBEq, Int.reduceLT, Int.reduceLE, Int.reduceEq, Int.reduceAdd, Int.reduceSub, Int.reduceMul, Int.reduceMod, Int.reduceTMod, Int.reduceTDiv, Int.reduceNeg, Nat.reduceSub, Nat.reduceDiv, reduceIte, reduceCtorEq]
            · have c4 : ¬ (2 : Int) ≤ ((b - m : Nat) : Int) := by omega
              simp only [g139c1, g139c2, g139c3, g139c4, g139c5, g139c6, g139c7, g139c8, g139c9, g139c10, g139c11, g139c12, g139c13, g139c14, g139c15, g139c16, g139c17, g139c18, g139c19, g139c20, g139c21, g139c22, g139c23, g139c24, g139c25, g139c26, g139c27, g139c28, g139c29, g139c30, g139c31, g139c32, g139c33, g139c34, g139c35, g139c36, g139c37, h0, h1, h2, h7, h8, c1, u9, c2, hjn, hjn', hj1, hj1', hrow, hlo, r1, r2, u1, u3, c3, kc, ki, sp1, sp2, upd_swp, u4, u5, u8, c4, wk, wk1, wk2, Option.some.injEq, exists_eq_left', decide_true, decide_false, Nat.reduceAdd, Nat.reduceEqDiff, Nat.reduceLeDiff, Nat.reduceLT, Nat.reduceMul, Nat.reduceBEq, Int.reduceLT, Int.reduceLE, Int.reduceEq, Int.reduceAdd, Int.reduceSub, Int.reduceMul, Int.reduceMod, Int.reduceTMod, Int.reduceTDiv, Int.reduceNeg, Nat.reduceSub, Nat.reduceDiv, reduceIte, reduceCtorEq]
              refine ih (c + 1) m _ _ _ (by omega) (by omega) (by omega) hS1 hP' hA' ⟨?_, ?_, ?_, ?_, ?_⟩ <;> simp only [h0, h1, h2, h7, h8, u1, u8, wk, wk1, wk2, Option.some.injEq, exists_eq_left', decide_true, decide_false, Nat.reduceAdd, Nat.reduceEqDiff, Nat.reduceLeDiff, Nat.reduceLT, Nat.reduceMul, Nat.reduceBEq, Int.reduceLT, Int.reduceLE, Int.reduceEq, Int.reduceAdd, Int.reduceSub, Int.reduceMul, Int.reduceMod, Int.reduceTMod, Int.reduceTDiv, Int.reduceNeg, Nat.reduceSub, Nat.reduceDiv, reduceIte, reduceCtorEq]
    all_goals simp only [h0, h1, h2, h7, h8, wk, wk1, wk2, Option.some.injEq, exists_eq_left', decide_true, decide_false, Nat.reduceAdd, Nat.reduceEqDiff, Nat.reduceLeDiff, Nat.reduceLT, Nat.reduceMul, Nat.reduceBEq, Int.reduceLT, Int.reduceLE, Int.reduceEq, Int.reduceAdd, Int.reduceSub, Int.reduceMul, Int.reduceMod, Int.reduceTMod, Int.reduceTDiv, Int.reduceNeg, Nat.reduceSub, Nat.reduceDiv, reduceIte, reduceCtorEq]

set_option maxHeartbeats 8000000 in
theorem ps_ran (hc : T 139 = some (.code ir139)) (hL : LessOk T 140 en lt) (ho : Ord lt) (s : St) (B inc n cap : Nat) (ex : Bool) (hB : B < s.next) (hn : n ≤ 1000000000) (a b : Nat) (hab : a < b) (hbn : b ≤ n) (f : Nat → α) (hpre : PreA lt a b f) (hA : Aft en s B inc n f s) :
    Ran T 139 [dsl B inc n cap ex, .int .i64 (a : Int), .int .i64 (b : Int)] s fun v s' => ∃ (r : Bool) (g : Nat → α), v = .bool r ∧ PermR a b f g ∧ Aft en s B inc n g s' ∧ (r = true → Srt lt a b g) := by
  refine ran_code hc (Nat.le_of_ble_eq_true rfl) ?_
  have u1 : wrapF .i64 ((a : Int) + 1) = ((a + 1 : Nat) : Int) := i64_add1 (by omega)
  generalize hQ : Fin _ _ = Q
  simp only [ir139, g139c1, g139c2, g139c3, g139c4, g139c5, g139c6, g139c7, g139c8, g139c9, g139c10, g139c11, g139c12, g139c13, g139c14, g139c15, g139c16, g139c17, g139c18, g139c19, g139c20, g139c21, g139c22, g139c23, g139c24, g139c25, g139c26, g139c27, g139c28, g139c29, g139c30, g139c31, g139c32, g139c33, g139c34, g139c35, g139c36, g139c37, u1, wk, wk1, wk2, Option.some.injEq, exists_eq_left', decide_true, decide_false, Nat.reduceAdd, Nat.reduceEqDiff, Nat.reduceLeDiff, Nat.reduceLT, Nat.reduceMul, Nat.reduceBEq, Int.reduceLT, Int.reduceLE, Int.reduceEq, Int.reduceAdd, Int.reduceSub, Int.reduceMul, Int.reduceMod, Int.reduceTMod, Int.reduceTDiv, Int.reduceNeg, Nat.reduceSub, Nat.reduceDiv, reduceIte, reduceCtorEq]
  refine ps_outer (cap := cap) (ex := ex) hL ho hB hn a b hbn f hpre ?_ ?_ 5 0 (a + 1) _ s f rfl (by omega) (by omega) (fun p q p1 p2 p3 => by omega) (PermR.refl _ _ _) hA ⟨?_, ?_, ?_, ?_, ?_⟩
  · intro e s' g r hP hA hS h6
    subst hQ
    simp only [ir139, h6, wk, wk1, wk2, Option.some.injEq, exists_eq_left', decide_true, decide_false, Nat.reduceAdd, Nat.reduceEqDiff, Nat.reduceLeDiff, Nat.reduceLT, Nat.reduceMul, Nat.reduceBEq, Int.reduceLT, Int.reduceLE, Int.reduceEq, Int.reduceAdd, Int.reduceSub, Int.reduceMul, Int.reduceMod, Int.reduceTMod, Int.reduceTDiv, Int.reduceNeg, Nat.reduceSub, Nat.reduceDiv, reduceIte, reduceCtorEq]
    exact ⟨r, g, rfl, hP, hA, hS⟩
  · intro e s' g hP hA
    subst hQ
    simp only [ir139, g139c1, g139c2, g139c3, g139c4, g139c5, g139c6, g139c7, g139c8, g139c9, g139c10, g139c11, g139c12, g139c13, g139c14, g139c15, g139c16, g139c17, g139c18, g139c19, g139c20, g139c21, g139c22, g139c23, g139c24, g139c25, g139c26, g139c27, g139c28, g139c29, g139c30, g139c31, g139c32, g139c33, g139c34, g139c35, g139c36, g139c37, wk, wk1, wk2, Option.some.injEq, exists_eq_left', decide_true, decide_false, Nat.reduceAdd, Nat.reduceEqDiff, Nat.reduceLeDiff, Nat.reduceLT, Nat.reduceMul, Nat.reduceBEq, Int.reduceLT, Int.reduceLE, Int.reduceEq, Int.reduceAdd, Int.reduceSub, Int.reduceMul, Int.reduceMod, Int.reduceTMod, Int.reduceTDiv, Int.reduceNeg, Nat.reduceSub, Nat.reduceDiv, reduceIte, reduceCtorEq]
    exact ⟨false, g, rfl, hP, hA, fun h => by cases h⟩
  all_goals simp only [wk, wk1, wk2, Option.some.injEq, exists_eq_left', decide_true, decide_false, Nat.reduceAdd, Nat.reduceEqDiff, Nat.reduceLeDiff, Nat.reduceLT, Nat.reduceMul, Nat.reduceBEq, Int.reduceLT, Int.reduceLE, Int.reduceEq, Int.reduceAdd, Int.reduceSub, Int.reduceMul, Int.reduceMod, Int.reduceTMod, Int.reduceTDiv, Int.reduceNeg, Nat.reduceSub, Nat.reduceDiv, reduceIte, reduceCtorEq]
end
end Go.V
