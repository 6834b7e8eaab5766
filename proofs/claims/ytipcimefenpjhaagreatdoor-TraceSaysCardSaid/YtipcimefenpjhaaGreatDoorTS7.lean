/- The law TraceSays answers true at any two states. -/
import Derived.Test.YtipcimefenpjhaaGreatDoorTS8
set_option linter.unusedVariables false
set_option linter.unusedSimpArgs false
set_option linter.unusedSectionVars false
/- The law TraceSays answers true at any two states. -/
namespace Go.V
open Go
set_option linter.unusedSimpArgs false
set_option linter.unusedVariables false
section
variable {T : Tab}
set_option maxHeartbeats 4000000 in
theorem traceSays_ran (hc : T 3 = some (.code ir3)) (hsay : T 4 = some (.code ir4)) {sG0 : St} (hi : ∀ (s : St) (n : Nat), Ext sG0 s → n < 256 → Ran T 8 [.int .i64 (n : Int)] s fun v s' => v = .str (digT n) ∧ s' = s) (hsys : T 7 = some (.code ir7))
    (hh : T 12 = some (.code ir12)) (hsm : T 5 = some (.code ir5)) (s : St) (hw : WFS s) (hG : Ext sG0 s)
    (haw : ∀ s', Ext s s' → Ran T 6 [] s' fun v _ => v = .bool true) (m q : Mst) (hm : m.Ok) (hq : q.Ok) :
    Ran T 3 [.agg m.cells, .agg q.cells] s fun v _ => v = .bool true := by
  refine ran_code hc (Nat.le_of_ble_eq_true rfl) ?_
  generalize hQ : Fin _ _ = Q
  have lm := Mst.len hm
  have lq := Mst.len hq
  have tm : m.cells.take 42 = m.cells := List.take_of_length_le (by omega)
  have tq : q.cells.take 42 = q.cells := List.take_of_length_le (by omega)
  simp only [ir3, lm, lq, tm, tq, wk, wk1, wk2, Option.some.injEq, exists_eq_left', decide_true, decide_false, Nat.reduceAdd, Nat.reduceEqDiff, Nat.reduceLeDiff, Nat.reduceLT, Nat.reduceMul, Nat.reduceBEq, Int.reduceLT, Int.reduceLE, Int.reduceEq, Int.reduceAdd, Int.reduceSub, Int.reduceMul, Int.reduceMod, Int.reduceTMod, Int.reduceTDiv, Int.reduceNeg, Nat.reduceSub, Nat.reduceDiv, reduceIte, reduceCtorEq]
  refine goCall_by (say_ran hsay hi hsys hh _ ((hw.add _).add _) ((hG.add _).add _) m hm) ?_
  rintro x s1 ⟨b1, hb1, hx, he1⟩
  have x1 : Ext s s1 := (((Ext.refl hw).add _).add _).trans he1
  have g1 : s1.heap.get (s.next + 1) = some (.cells q.cells 0 0 false) := by
    rw [he1.2.2 _ (by show s.next + 1 < s.next + 1 + 1; omega)]
    exact (add_get _ _ _).trans (if_pos rfl)
  have g0 : s1.heap.get s.next = some (.cells m.cells 0 0 false) := by
    rw [he1.2.2 _ (by show s.next < s.next + 1 + 1; omega)]
    rw [add_get, if_neg (by show s.next ≠ s.next + 1; omega), add_get, if_pos rfl]
  simp only [lm, lq, tm, tq, g1, wk, wk1, wk2, Option.some.injEq, exists_eq_left', decide_true, decide_false, Nat.reduceAdd, Nat.reduceEqDiff, Nat.reduceLeDiff, Nat.reduceLT, Nat.reduceMul, Nat.reduceBEq, Int.reduceLT, Int.reduceLE, Int.reduceEq, Int.reduceAdd, Int.reduceSub, Int.reduceMul, Int.reduceMod, Int.reduceTMod, Int.reduceTDiv, Int.reduceNeg, Nat.reduceSub, Nat.reduceDiv, reduceIte, reduceCtorEq]
  refine goCall_by (say_ran hsay hi hsys hh s1 he1.1 (hG.trans x1) q hq) ?_
  rintro y s2 ⟨b2, hb2, hy, he2⟩
  have hx2 := hx.ext he2
  have hn1 : s.next + 1 + 1 ≤ s1.next := he1.2.1
  have k1 : s2.heap.get (s.next + 1) = some (.cells q.cells 0 0 false) := by rw [he2.2.2 _ (by omega)]; exact g1
  have k0 : s2.heap.get s.next = some (.cells m.cells 0 0 false) := by rw [he2.2.2 _ (by omega)]; exact g0
  have x2 : Ext s s2 := x1.trans he2
  have hlm : m.say.length < 1000000 := by
    have := m.n5; unfold Mst.say; split <;> simp <;> omega
  have hlq : q.say.length < 1000000 := by
    have := q.n5; unfold Mst.say; split <;> simp <;> omega
  have L := law_loop (T := T) (Q := Q) (s := s2) (p1 := s.next) (p2 := s.next + 1) (y := y) hx2 hlm (say_good hm) ?_ m.say.length 0
  · simp only [wk, wk1, wk2, Option.some.injEq, exists_eq_left', decide_true, decide_false, Nat.reduceAdd, Nat.reduceEqDiff, Nat.reduceLeDiff, Nat.reduceLT, Nat.reduceMul, Nat.reduceBEq, Int.reduceLT, Int.reduceLE, Int.reduceEq, Int.reduceAdd, Int.reduceSub, Int.reduceMul, Int.reduceMod, Int.reduceTMod, Int.reduceTDiv, Int.reduceNeg, Nat.reduceSub, Nat.reduceDiv, reduceIte, reduceCtorEq]
    refine L _ (by omega) ⟨?_, ?_, ?_, ?_, ?_⟩ <;> simp only [wk, wk1, wk2, Option.some.injEq, exists_eq_left', decide_true, decide_false, Nat.reduceAdd, Nat.reduceEqDiff, Nat.reduceLeDiff, Nat.reduceLT, Nat.reduceMul, Nat.reduceBEq, Int.reduceLT, Int.reduceLE, Int.reduceEq, Int.reduceAdd, Int.reduceSub, Int.reduceMul, Int.reduceMod, Int.reduceTMod, Int.reduceTDiv, Int.reduceNeg, Nat.reduceSub, Nat.reduceDiv, reduceIte, reduceCtorEq]
  · rintro e ⟨h2, h3, h5, h6, h7⟩
    simp only [h2, h3, h5, h6, h7, wk, wk1, wk2, Option.some.injEq, exists_eq_left', decide_true, decide_false, Nat.reduceAdd, Nat.reduceEqDiff, Nat.reduceLeDiff, Nat.reduceLT, Nat.reduceMul, Nat.reduceBEq, Int.reduceLT, Int.reduceLE, Int.reduceEq, Int.reduceAdd, Int.reduceSub, Int.reduceMul, Int.reduceMod, Int.reduceTMod, Int.reduceTDiv, Int.reduceNeg, Nat.reduceSub, Nat.reduceDiv, reduceIte, reduceCtorEq]
    refine go_regionP ?_
    have heq := eq_state hm hq
    simp only [h2, h3, h5, h6, h7, k0, k1, lm, lq, tm, tq, heq, wk, wk1, wk2, Option.some.injEq, exists_eq_left', decide_true, decide_false, Nat.reduceAdd, Nat.reduceEqDiff, Nat.reduceLeDiff, Nat.reduceLT, Nat.reduceMul, Nat.reduceBEq, Int.reduceLT, Int.reduceLE, Int.reduceEq, Int.reduceAdd, Int.reduceSub, Int.reduceMul, Int.reduceMod, Int.reduceTMod, Int.reduceTDiv, Int.reduceNeg, Nat.reduceSub, Nat.reduceDiv, reduceIte, reduceCtorEq]
    refine goCall ((same_ran hsm hx2 hy hlm hlq).mono ?_)
    rintro r s3 ⟨rfl, rfl⟩
    refine ⟨by simp only [watch_cons, watch_nil, h2, h3, wat_ptr, opdt_set, reduceIte, k0, k1, sameObj_refl, Nat.reduceEqDiff, Bool.and_self], ?_⟩
    have hdec : decide (m.say = q.say) = decide (m = q) := by
      by_cases hmq : m = q
      · subst hmq; simp
      · rw [decide_eq_false hmq, decide_eq_false (fun e => hmq (say_inj hm hq e))]
    simp only [h2, h3, h5, h6, h7, hdec, wk, wk1, wk2, Option.some.injEq, exists_eq_left', decide_true, decide_false, Nat.reduceAdd, Nat.reduceEqDiff, Nat.reduceLeDiff, Nat.reduceLT, Nat.reduceMul, Nat.reduceBEq, Int.reduceLT, Int.reduceLE, Int.reduceEq, Int.reduceAdd, Int.reduceSub, Int.reduceMul, Int.reduceMod, Int.reduceTMod, Int.reduceTDiv, Int.reduceNeg, Nat.reduceSub, Nat.reduceDiv, reduceIte, reduceCtorEq]
    have hbb : eqV (.prim .bool) (.bool (decide (m = q))) (.bool (decide (m = q))) = some true := by cases decide (m = q) <;> rfl
    simp only [hbb, wk, wk1, wk2, Option.some.injEq, exists_eq_left', decide_true, decide_false, Nat.reduceAdd, Nat.reduceEqDiff, Nat.reduceLeDiff, Nat.reduceLT, Nat.reduceMul, Nat.reduceBEq, Int.reduceLT, Int.reduceLE, Int.reduceEq, Int.reduceAdd, Int.reduceSub, Int.reduceMul, Int.reduceMod, Int.reduceTMod, Int.reduceTDiv, Int.reduceNeg, Nat.reduceSub, Nat.reduceDiv, reduceIte, reduceCtorEq]
    refine goCall_by (haw s3 x2) ?_
    rintro v s4 rfl
    simp only [wk, wk1, wk2, Option.some.injEq, exists_eq_left', decide_true, decide_false, Nat.reduceAdd, Nat.reduceEqDiff, Nat.reduceLeDiff, Nat.reduceLT, Nat.reduceMul, Nat.reduceBEq, Int.reduceLT, Int.reduceLE, Int.reduceEq, Int.reduceAdd, Int.reduceSub, Int.reduceMul, Int.reduceMod, Int.reduceTMod, Int.reduceTDiv, Int.reduceNeg, Nat.reduceSub, Nat.reduceDiv, reduceIte, reduceCtorEq]
    subst hQ
    simp only [ir3, wk, wk1, wk2, Option.some.injEq, exists_eq_left', decide_true, decide_false, Nat.reduceAdd, Nat.reduceEqDiff, Nat.reduceLeDiff, Nat.reduceLT, Nat.reduceMul, Nat.reduceBEq, Int.reduceLT, Int.reduceLE, Int.reduceEq, Int.reduceAdd, Int.reduceSub, Int.reduceMul, Int.reduceMod, Int.reduceTMod, Int.reduceTDiv, Int.reduceNeg, Nat.reduceSub, Nat.reduceDiv, reduceIte, reduceCtorEq]
end
end Go.V
