/- The law TraceSays: rows of lines compared. -/
import Derived.Test.YtipcimefenpjhaaGreatDoorTS3
set_option linter.unusedVariables false
set_option linter.unusedSimpArgs false
set_option linter.unusedSectionVars false
/- The law TraceSays: rows of lines compared. -/
namespace Go.V
open Go
set_option linter.unusedSimpArgs false
set_option linter.unusedVariables false
abbrev tS4l0 : ICode := (.loop (.seq (.seq (.region [⟨some 11, none, [], (.move (.t 5))⟩, ⟨some 12, none, [], (.move (.t 0))⟩, ⟨some 13, none, [], (.lenSl (.t 12))⟩, ⟨some 14, none, [], (.bin .lss (.t 11) (.t 13))⟩] false)
 (.cond (.t 14) .skip (.exit 0)))
 (.seq (.block 1 (.seq (.region [⟨some 17, none, [], (.move (.t 0))⟩, ⟨some 18, none, [], (.move (.t 5))⟩, ⟨some 19, none, [], (.idxSl 1 (.t 17) (.t 18))⟩, ⟨some 20, none, [], (.load false 1 (.t 19))⟩, ⟨some 21, none, [], (.move (.t 1))⟩, ⟨some 22, none, [], (.move (.t 5))⟩, ⟨some 23, none, [], (.idxSl 1 (.t 21) (.t 22))⟩, ⟨some 24, none, [], (.load false 1 (.t 23))⟩, ⟨some 25, none, [], (.bin .neq (.t 20) (.t 24))⟩] true)
 (.cond (.t 25) (.seq (.region [⟨some 4, none, [], (.move (.c (.bool false)))⟩] false)
 .ret) .skip)))
 (.region [⟨some 15, none, [], (.move (.t 5))⟩, ⟨some 16, none, [], (.bin .add (.t 15) (.c (.int .i64 1)))⟩, ⟨some 5, none, [], (.move (.t 16))⟩] false))))
-- coxless/coxlesslaw27.same
def ir5 : IFunc := ⟨26, [.tmp 4], (.seq (.region [⟨some 4, none, [], (.move (.c (.bool false)))⟩] false)
 (.seq (.seq (.region [⟨some 6, none, [], (.move (.t 0))⟩, ⟨some 7, none, [], (.lenSl (.t 6))⟩, ⟨some 8, none, [], (.move (.t 1))⟩, ⟨some 9, none, [], (.lenSl (.t 8))⟩, ⟨some 10, none, [], (.bin .neq (.t 7) (.t 9))⟩] false)
 (.cond (.t 10) (.seq (.region [⟨some 4, none, [], (.move (.c (.bool false)))⟩] false)
 .ret) .skip))
 (.seq (.seq (.region [⟨some 5, none, [], (.move (.c (.int .i64 0)))⟩] false)
 (.block 0 (.loop (.seq (.seq (.region [⟨some 11, none, [], (.move (.t 5))⟩, ⟨some 12, none, [], (.move (.t 0))⟩, ⟨some 13, none, [], (.lenSl (.t 12))⟩, ⟨some 14, none, [], (.bin .lss (.t 11) (.t 13))⟩] false)
 (.cond (.t 14) .skip (.exit 0)))
 (.seq (.block 1 (.seq (.region [⟨some 17, none, [], (.move (.t 0))⟩, ⟨some 18, none, [], (.move (.t 5))⟩, ⟨some 19, none, [], (.idxSl 1 (.t 17) (.t 18))⟩, ⟨some 20, none, [], (.load false 1 (.t 19))⟩, ⟨some 21, none, [], (.move (.t 1))⟩, ⟨some 22, none, [], (.move (.t 5))⟩, ⟨some 23, none, [], (.idxSl 1 (.t 21) (.t 22))⟩, ⟨some 24, none, [], (.load false 1 (.t 23))⟩, ⟨some 25, none, [], (.bin .neq (.t 20) (.t 24))⟩] true)
 (.cond (.t 25) (.seq (.region [⟨some 4, none, [], (.move (.c (.bool false)))⟩] false)
 .ret) .skip)))
 (.region [⟨some 15, none, [], (.move (.t 5))⟩, ⟨some 16, none, [], (.bin .add (.t 15) (.c (.int .i64 1)))⟩, ⟨some 5, none, [], (.move (.t 16))⟩] false))))))
 (.seq (.region [⟨some 4, none, [], (.move (.c (.bool true)))⟩] false)
 .ret))))⟩
theorem Slc.lenS {b : Nat} {s : St} {es n : Nat} {v : AV} {xs : List AV} (h : Slc b s es n v xs) : (0 < n ∧ ∃ a, v = .slice a n n false es) ∨ (v = .nilSlice ∧ n = 0) := by
  obtain ⟨_, ⟨h1, h2⟩ | ⟨h0, id, inc, h2, _⟩⟩ := h
  · exact .inr ⟨h2, h1⟩
  · exact .inl ⟨h0, _, h2⟩
theorem takeM {α β : Type} (f : α → β) (l : List α) (i : Nat) (u : α) (hu : l[i]? = some u) : ((l.map f).drop i).take 1 = [f u] := by
  have h : (l.map f)[i]? = some (f u) := by rw [List.getElem?_map, hu]; rfl
  obtain ⟨hi, he⟩ := List.getElem?_eq_some_iff.1 h
  rw [List.drop_eq_getElem_cons hi, he]
  rfl
section
variable {T : Tab}
set_option maxHeartbeats 4000000 in
theorem same_loop {Q : Post} {s : St} {b1 b2 : Nat} {x y : AV} {l1 l2 : List (List UInt8)} (hx : Slc b1 s 1 l1.length x (l1.map AV.str)) (hy : Slc b2 s 1 l1.length y (l2.map AV.str)) (hl : l1.length < 1000000) (hll : l2.length = l1.length)
    (Kt : l1 = l2 → ∀ e : Env, Ret T Q [.seq (.seq (.region [⟨some 4, none, [], (.move (.c (.bool true)))⟩] false)
 .ret)] .normal e s) (Kf : l1 ≠ l2 → ∀ e : Env, opd e (.t 4) = .bool false → Ret T Q [.seq (.seq (.region [⟨some 4, none, [], (.move (.c (.bool true)))⟩] false)
 .ret)] .ret e s) :
    ∀ (m i : Nat) (e : Env), m + i = l1.length → l1.take i = l2.take i → opd e (.t 0) = x → opd e (.t 1) = y → opd e (.t 5) = .int .i64 (i : Int) →
      Go T Q (tS4l0) [.block 0, .seq (.seq (.region [⟨some 4, none, [], (.move (.c (.bool true)))⟩] false)
 .ret)] e s := by
  intro m
  induction m with
  | zero =>
    intro i e hm ht h0 h1 h5
    have hin : i = l1.length := by omega
    subst hin
    rw [List.take_length, List.take_of_length_le (by omega)] at ht
    have hK := Kt ht
    rw [go_loop]
    generalize ([.seq (.seq (.region [⟨some 4, none, [], (.move (.c (.bool true)))⟩] false)
 .ret)] : List Fr) = FF at *
    rcases hx.lenS with ⟨_, a, rfl⟩ | ⟨rfl, hz⟩
    · simp only [h0, h5, hK, wk, wk1, wk2, Option.some.injEq, exists_eq_left', decide_true, decide_false, Nat.reduceAdd, Nat.reduceEqDiff, Nat.reduceLeDiff, Nat.reduceLT, Nat.reduceMul, Nat.reduceBEq, Int.reduceLT, Int.reduceLE, Int.reduceEq, Int.reduceAdd, Int.reduceSub, Int.reduceMul, Int.reduceMod, Int.reduceTMod, Int.reduceTDiv, Int.reduceNeg, Nat.reduceSub, Nat.reduceDiv, reduceIte, reduceCtorEq]
    · simp only [h0, h5, hz, hK, wk, wk1, wk2, Option.some.injEq, exists_eq_left', decide_true, decide_false, Nat.reduceAdd, Nat.reduceEqDiff, Nat.reduceLeDiff, Nat.reduceLT, Nat.reduceMul, Nat.reduceBEq, Int.reduceLT, Int.reduceLE, Int.reduceEq, Int.reduceAdd, Int.reduceSub, Int.reduceMul, Int.reduceMod, Int.reduceTMod, Int.reduceTDiv, Int.reduceNeg, Nat.reduceSub, Nat.reduceDiv, reduceIte, reduceCtorEq]
  | succ m ih =>
    intro i e hm ht h0 h1 h5
    have hi : i < l1.length := by omega
    obtain ⟨_, ⟨hn0, _⟩ | ⟨hn0, id, inc, rfl, _, _, hrow⟩⟩ := hx
    · omega
    obtain ⟨_, ⟨hn0, _⟩ | ⟨hn0, id2, inc2, rfl, _, _, hrow2⟩⟩ := hy
    · omega
    obtain ⟨u, hu⟩ : ∃ x, l1[i]? = some x := ⟨_, List.getElem?_eq_getElem hi⟩
    obtain ⟨w, hw⟩ : ∃ x, l2[i]? = some x := ⟨_, List.getElem?_eq_getElem (by omega)⟩
    have hld := takeM AV.str l1 i u hu
    have hld2 := takeM AV.str l2 i w hw
    have hc : (i : Int) < (l1.length : Int) := by omega
    have hi1 : i + 1 ≤ l1.length := hi
    have u5 : wrapF .i64 ((i : Int) + 1) = ((i + 1 : Nat) : Int) := i64_addOne (by omega)
    rw [go_loop]
    by_cases huw : u = w
    · simp only [h0, h1, h5, hc, hi, hi1, hrow, hrow2, hld, hld2, huw, u5, Nat.mul_one, wk, wk1, wk2, Option.some.injEq, exists_eq_left', decide_true, decide_false, Nat.reduceAdd, Nat.reduceEqDiff, Nat.reduceLeDiff, Nat.reduceLT, Nat.reduceMul, Nat.reduceBEq, Int.reduceLT, Int.reduceLE, Int.reduceEq, Int.reduceAdd, Int.reduceSub, Int.reduceMul, Int.reduceMod, Int.reduceTMod, Int.reduceTDiv, Int.reduceNeg, Nat.reduceSub, Nat.reduceDiv, reduceIte, reduceCtorEq]
      refine ih (i + 1) _ (by omega) ?_ ?_ ?_ ?_
      · rw [List.take_add_one, List.take_add_one, ht, hu, hw, huw]
      all_goals simp only [h0, h1, u5, wk, wk1, wk2, Option.some.injEq, exists_eq_left', decide_true, decide_false, Nat.reduceAdd, Nat.reduceEqDiff, Nat.reduceLeDiff, Nat.reduceLT, Nat.reduceMul, Nat.reduceBEq, Int.reduceLT, Int.reduceLE, Int.reduceEq, Int.reduceAdd, Int.reduceSub, Int.reduceMul, Int.reduceMod, Int.reduceTMod, Int.reduceTDiv, Int.reduceNeg, Nat.reduceSub, Nat.reduceDiv, reduceIte, reduceCtorEq]
    · have hne : l1 ≠ l2 := by intro e; rw [e] at hu; rw [hu] at hw; exact huw (Option.some.inj hw)
      have hKf := Kf hne
      generalize ([.seq (.seq (.region [⟨some 4, none, [], (.move (.c (.bool true)))⟩] false)
 .ret)] : List Fr) = FF at *
      simp only [h0, h1, h5, hc, hi, hi1, hrow, hrow2, hld, hld2, huw, u5, Nat.mul_one, wk, wk1, wk2, Option.some.injEq, exists_eq_left', decide_true, decide_false, Nat.reduceAdd, Nat.reduceEqDiff, Nat.reduceLeDiff, Nat.reduceLT, Nat.reduceMul, Nat.reduceBEq, Int.reduceLT, Int.reduceLE, Int.reduceEq, Int.reduceAdd, Int.reduceSub, Int.reduceMul, Int.reduceMod, Int.reduceTMod, Int.reduceTDiv, Int.reduceNeg, Nat.reduceSub, Nat.reduceDiv, reduceIte, reduceCtorEq]
      refine hKf _ ?_
      simp only [wk, wk1, wk2, Option.some.injEq, exists_eq_left', decide_true, decide_false, Nat.reduceAdd, Nat.reduceEqDiff, Nat.reduceLeDiff, Nat.reduceLT, Nat.reduceMul, Nat.reduceBEq, Int.reduceLT, Int.reduceLE, Int.reduceEq, Int.reduceAdd, Int.reduceSub, Int.reduceMul, Int.reduceMod, Int.reduceTMod, Int.reduceTDiv, Int.reduceNeg, Nat.reduceSub, Nat.reduceDiv, reduceIte, reduceCtorEq]
set_option maxHeartbeats 4000000 in
theorem same_ran (hc : T 5 = some (.code ir5)) {s : St} {b1 b2 : Nat} {x y : AV} {l1 l2 : List (List UInt8)} (hx : Slc b1 s 1 l1.length x (l1.map AV.str)) (hy : Slc b2 s 1 l2.length y (l2.map AV.str)) (hl : l1.length < 1000000) (hl2 : l2.length < 1000000) :
    Ran T 5 [x, y] s fun v s' => s' = s ∧ v = .bool (decide (l1 = l2)) := by
  refine ran_code hc (Nat.le_of_ble_eq_true rfl) ?_
  generalize hQ : Fin _ _ = Q
  have hlx := hx.lenS
  have hly := hy.lenS
  by_cases hll : l2.length = l1.length
  · have hlp := same_loop (T := T) (Q := Q) (l1 := l1) (l2 := l2) hx (hll ▸ hy) hl hll ?_ ?_ l1.length 0
    · rcases hlx with ⟨hz, a, rfl⟩ | ⟨rfl, hl0⟩ <;> rcases hly with ⟨hz', b, rfl⟩ | ⟨rfl, hl0'⟩
      · simp only [ir5, hll, wk, wk1, wk2, Option.some.injEq, exists_eq_left', decide_true, decide_false, Nat.reduceAdd, Nat.reduceEqDiff, Nat.reduceLeDiff, Nat.reduceLT, Nat.reduceMul, Nat.reduceBEq, Int.reduceLT, Int.reduceLE, Int.reduceEq, Int.reduceAdd, Int.reduceSub, Int.reduceMul, Int.reduceMod, Int.reduceTMod, Int.reduceTDiv, Int.reduceNeg, Nat.reduceSub, Nat.reduceDiv, reduceIte, reduceCtorEq]
        refine hlp _ (by omega) rfl ?_ ?_ ?_ <;> simp only [hll, wk, wk1, wk2, Option.some.injEq, exists_eq_left', decide_true, decide_false, Nat.reduceAdd, Nat.reduceEqDiff, Nat.reduceLeDiff, Nat.reduceLT, Nat.reduceMul, Nat.reduceBEq, Int.reduceLT, Int.reduceLE, Int.reduceEq, Int.reduceAdd, Int.reduceSub, Int.reduceMul, Int.reduceMod, Int.reduceTMod, Int.reduceTDiv, Int.reduceNeg, Nat.reduceSub, Nat.reduceDiv, reduceIte, reduceCtorEq]
      · omega
      · omega
      · simp only [ir5, wk, wk1, wk2, Option.some.injEq, exists_eq_left', decide_true, decide_false, Nat.reduceAdd, Nat.reduceEqDiff, Nat.reduceLeDiff, Nat.reduceLT, Nat.reduceMul, Nat.reduceBEq, Int.reduceLT, Int.reduceLE, Int.reduceEq, Int.reduceAdd, Int.reduceSub, Int.reduceMul, Int.reduceMod, Int.reduceTMod, Int.reduceTDiv, Int.reduceNeg, Nat.reduceSub, Nat.reduceDiv, reduceIte, reduceCtorEq]
        refine hlp _ (by omega) rfl ?_ ?_ ?_ <;> simp only [hll, wk, wk1, wk2, Option.some.injEq, exists_eq_left', decide_true, decide_false, Nat.reduceAdd, Nat.reduceEqDiff, Nat.reduceLeDiff, Nat.reduceLT, Nat.reduceMul, Nat.reduceBEq, Int.reduceLT, Int.reduceLE, Int.reduceEq, Int.reduceAdd, Int.reduceSub, Int.reduceMul, Int.reduceMod, Int.reduceTMod, Int.reduceTDiv, Int.reduceNeg, Nat.reduceSub, Nat.reduceDiv, reduceIte, reduceCtorEq]
    · intro heq e
      subst hQ
      simp only [ir5, heq, decide_true, wk, wk1, wk2, Option.some.injEq, exists_eq_left', decide_true, decide_false, Nat.reduceAdd, Nat.reduceEqDiff, Nat.reduceLeDiff, Nat.reduceLT, Nat.reduceMul, Nat.reduceBEq, Int.reduceLT, Int.reduceLE, Int.reduceEq, Int.reduceAdd, Int.reduceSub, Int.reduceMul, Int.reduceMod, Int.reduceTMod, Int.reduceTDiv, Int.reduceNeg, Nat.reduceSub, Nat.reduceDiv, reduceIte, reduceCtorEq]
    · intro hne e h4
      subst hQ
      simp only [ir5, h4, hne, decide_false, wk, wk1, wk2, Option.some.injEq, exists_eq_left', decide_true, decide_false, Nat.reduceAdd, Nat.reduceEqDiff, Nat.reduceLeDiff, Nat.reduceLT, Nat.reduceMul, Nat.reduceBEq, Int.reduceLT, Int.reduceLE, Int.reduceEq, Int.reduceAdd, Int.reduceSub, Int.reduceMul, Int.reduceMod, Int.reduceTMod, Int.reduceTDiv, Int.reduceNeg, Nat.reduceSub, Nat.reduceDiv, reduceIte, reduceCtorEq]
  · have hne : l1 ≠ l2 := by intro e; rw [e] at hll; exact hll rfl
    have hn1 : ¬ (l1.length : Int) = (l2.length : Int) := by omega
    subst hQ
    rcases hlx with ⟨hz, a, rfl⟩ | ⟨rfl, hl0⟩ <;> rcases hly with ⟨hz', b, rfl⟩ | ⟨rfl, hl0'⟩
    · simp only [ir5, hn1, hne, decide_false, wk, wk1, wk2, Option.some.injEq, exists_eq_left', decide_true, decide_false, Nat.reduceAdd, Nat.reduceEqDiff, Nat.reduceLeDiff, Nat.reduceLT, Nat.reduceMul, Nat.reduceBEq, Int.reduceLT, Int.reduceLE, Int.reduceEq, Int.reduceAdd, Int.reduceSub, Int.reduceMul, Int.reduceMod, Int.reduceTMod, Int.reduceTDiv, Int.reduceNeg, Nat.reduceSub, Nat.reduceDiv, reduceIte, reduceCtorEq]
    · have hn2 : ¬ (l1.length : Int) = 0 := by omega
      simp only [ir5, hn2, hne, decide_false, wk, wk1, wk2, Option.some.injEq, exists_eq_left', decide_true, decide_false, Nat.reduceAdd, Nat.reduceEqDiff, Nat.reduceLeDiff, Nat.reduceLT, Nat.reduceMul, Nat.reduceBEq, Int.reduceLT, Int.reduceLE, Int.reduceEq, Int.reduceAdd, Int.reduceSub, Int.reduceMul, Int.reduceMod, Int.reduceTMod, Int.reduceTDiv, Int.reduceNeg, Nat.reduceSub, Nat.reduceDiv, reduceIte, reduceCtorEq]
    · have hn2 : ¬ (0 : Int) = (l2.length : Int) := by omega
      simp only [ir5, hn2, hne, decide_false, wk, wk1, wk2, Option.some.injEq, exists_eq_left', decide_true, decide_false, Nat.reduceAdd, Nat.reduceEqDiff, Nat.reduceLeDiff, Nat.reduceLT, Nat.reduceMul, Nat.reduceBEq, Int.reduceLT, Int.reduceLE, Int.reduceEq, Int.reduceAdd, Int.reduceSub, Int.reduceMul, Int.reduceMod, Int.reduceTMod, Int.reduceTDiv, Int.reduceNeg, Nat.reduceSub, Nat.reduceDiv, reduceIte, reduceCtorEq]
    · omega
end
end Go.V
