/- trace: a row of lines that grows behind a pointer. -/
import Derived.Test.YtipcimefenpjhaaGreatDoorTS0
set_option linter.unusedVariables false
set_option linter.unusedSimpArgs false
set_option linter.unusedSectionVars false
/- trace: a row of lines that grows behind a pointer. -/
namespace Go.V
open Go
set_option linter.unusedSimpArgs false
set_option linter.unusedVariables false
-- (*coxless/trace.sayer).says
def ir7 : IFunc := ⟨20, [], (.seq (.region [⟨some 6, none, [], (.move (.t 2))⟩, ⟨some 7, none, [], (.bin .neq (.t 6) (.c (.int .u32 0)))⟩] false)
 (.cond (.t 7) (.regionP [⟨some 8, none, [], (.move (.t 0))⟩, ⟨some 9, none, [], (.move (.t 0))⟩, ⟨some 10, none, [], (.nilCheck (.t 9))⟩, ⟨some 11, none, [], (.load false 1 (.t 10))⟩, ⟨some 12, none, [], (.move (.t 1))⟩, ⟨some 13, none, [], (.bin .add (.t 12) (.c (.str [61])))⟩, ⟨some 14, none, [], (.move (.t 2))⟩, ⟨some 15, none, [(.t 10)], (.call 12 [(.t 14)])⟩, ⟨some 16, none, [], (.bin .add (.t 13) (.t 15))⟩, ⟨some 17, none, [], (.buildSlice 1 1 [(.str [])] [(0, 1, (.t 16))])⟩, ⟨some 18, none, [], (.append 1 16 (.t 11) (.t 17))⟩, ⟨some 19, none, [], (.nilCheck (.t 8))⟩, ⟨none, none, [], (.store 1 (.t 19) (.t 18))⟩]) .skip))⟩
def Slc (b : Nat) (s : St) (es n : Nat) (v : AV) (xs : List AV) : Prop := xs.length = n * es ∧ ((n = 0 ∧ v = .nilSlice) ∨ (0 < n ∧ ∃ id inc, v = .slice ⟨id, 0, inc, n * es⟩ n n false es ∧ b ≤ id ∧ id < s.next ∧ s.heap.get id = some (.cells xs 0 inc false)))
theorem Slc.nil (b : Nat) (s : St) (es : Nat) : Slc b s es 0 .nilSlice [] := ⟨by simp, .inl ⟨rfl, rfl⟩⟩
theorem Slc.ext {b : Nat} {s s' : St} {es n : Nat} {v : AV} {xs : List AV} (h : Slc b s es n v xs) (he : Ext s s') : Slc b s' es n v xs := by
  obtain ⟨h1, h2 | ⟨h0, id, inc, h2, h3, h4, h5⟩⟩ := h
  · exact ⟨h1, .inl h2⟩
  · exact ⟨h1, .inr ⟨h0, id, inc, h2, h3, Nat.lt_of_lt_of_le h4 he.2.1, by rw [he.2.2 id h4]; exact h5⟩⟩
theorem Slc.app {s0 s : St} {es n : Nat} {v : AV} {xs more : List AV} (h : Slc s0.next s es n v xs) (he : Ext s0 s) (hm : more.length = es) (hc : more.all AV.isCell = true) (h0 : 0 < es) (hn : n < 1000000) :
    ∃ v' s', appendV (s.add (.cells more 0 0 false)) es v 1 more = some (v', s') ∧ Slc s0.next s' es (n + 1) v' (xs ++ more) ∧ Ext s0 s' ∧ s.next ≤ s'.next := by
  have hlim : (n + 1) * 65536 ≤ maxApp := by unfold maxApp; omega
  obtain ⟨h1, ⟨hn0, rfl⟩ | ⟨hn0, id, inc, rfl, h3, h4, h5⟩⟩ := h
  · subst hn0
    have hx : xs = [] := List.length_eq_zero_iff.1 (by rw [h1]; omega)
    subst hx
    rw [app_nil, if_pos ⟨by omega, hc, h0⟩, if_neg (by omega), if_pos (by simpa using hlim)]
    refine ⟨_, _, rfl, ⟨by simp [hm], .inr ⟨by omega, s.next + 1, 0, rfl, ?_, ?_, ?_⟩⟩, (he.add _).add _, by show s.next ≤ s.next + 1 + 1; omega⟩
    · have := he.2.1; show s0.next ≤ s.next + 1; omega
    · show s.next + 1 < s.next + 1 + 1; omega
    · rw [add_get, if_pos (show s.next + 1 = (s.add (.cells more 0 0 false)).next from rfl)]; rfl
  · rw [app_slice, if_pos ⟨by omega, hc, h0⟩, if_neg (by omega), if_pos ⟨rfl, hlim⟩]
    have hg : (s.add (.cells more 0 0 false)).heap.get id = some (.cells xs 0 inc false) := by rw [add_get, if_neg (by omega)]; exact h5
    rw [hg, appObj_eq, if_neg (by omega), if_neg (by simp), if_pos ⟨rfl, rfl, by omega, by simp⟩]
    have hp : 0 + n * es = xs.length := by omega
    simp only [hp, if_true, List.take_length]
    have hn1 : xs.length + more.length = (n + 1) * es := by rw [h1, hm, Nat.succ_mul]
    refine ⟨_, _, rfl, ⟨by simp [hn1], .inr ⟨by omega, id, inc + 1, by rw [hn1], h3, ?_, ?_⟩⟩, Ext.put (he.add _) h3 (by show id < s.next + 1; omega) _, by show s.next ≤ s.next + 1; omega⟩
    · show id < s.next + 1; omega
    · rw [put_get, if_pos rfl]
/-- A variable that holds a row of lines. -/
def Box (p : Nat) (s : St) (xs : List (List UInt8)) : Prop := p < s.next ∧ WFS s ∧ ∃ v, s.heap.get p = some (.cells [v] 0 0 false) ∧ Slc (p + 1) s 1 xs.length v (xs.map .str)
def Low (p : Nat) (s s' : St) : Prop := s.next ≤ s'.next ∧ ∀ id, id < p → s'.heap.get id = s.heap.get id
theorem Low.refl (p : Nat) (s : St) : Low p s s := ⟨Nat.le_refl _, fun _ _ => rfl⟩
theorem Low.trans {p : Nat} {a b c : St} (h : Low p a b) (k : Low p b c) : Low p a c := ⟨Nat.le_trans h.1 k.1, fun id hi => (k.2 id hi).trans (h.2 id hi)⟩
theorem Low.ext {p : Nat} {s s' : St} (h : Ext s s') (hp : p ≤ s.next) : Low p s s' := ⟨h.2.1, fun id hi => h.2.2 id (Nat.lt_of_lt_of_le hi hp)⟩
theorem Box.ext {p : Nat} {s s' : St} {xs : List (List UInt8)} (h : Box p s xs) (he : Ext s s') : Box p s' xs := by
  obtain ⟨h1, h2, v, h3, h4⟩ := h
  exact ⟨Nat.lt_of_lt_of_le h1 he.2.1, he.1, v, by rw [he.2.2 p h1]; exact h3, h4.ext he⟩
theorem Box.app {p : Nat} {s : St} {xs : List (List UInt8)} {v : AV} (h : Box p s xs) (hv : s.heap.get p = some (.cells [v] 0 0 false)) (hn : xs.length < 1000) (l : List UInt8) :
    ∃ v' s1, appendV (s.add (.cells [.str l] 0 0 false)) 1 v 1 [.str l] = some (v', s1) ∧ v'.isCell = true ∧ s1.heap.get p = some (.cells [v] 0 0 false) ∧ Box p (s1.put p (.cells [v'] 0 0 false)) (xs ++ [l]) ∧ Low p s (s1.put p (.cells [v'] 0 0 false)) := by
  obtain ⟨h1, h2, u, h3, h4⟩ := h
  rw [h3] at hv
  cases hv
  have hs0 : Ext (⟨s.heap, p + 1⟩ : St) s := ⟨h2, h1, fun _ _ => rfl⟩
  obtain ⟨v', s1, a1, a2, a3, hnx2⟩ := Slc.app (s0 := ⟨s.heap, p + 1⟩) (more := [.str l]) h4 hs0 rfl rfl (by omega) (by omega)
  have hp1 : s1.heap.get p = some (.cells [v] 0 0 false) := by rw [a3.2.2 p (Nat.lt_succ_self p)]; exact h3
  have hnx : p + 1 ≤ s1.next := a3.2.1
  refine ⟨v', s1, a1, ?_, hp1, ⟨?_, ?_, v', ?_, ?_⟩, ?_, ?_⟩
  · obtain ⟨_, ⟨_, rfl⟩ | ⟨_, _, _, rfl, _⟩⟩ := a2 <;> rfl
  · show p < s1.next; omega
  · exact a3.1.put (by omega) _
  · rw [put_get, if_pos rfl]
  · obtain ⟨q1, q2 | ⟨q0, id, inc, q2, q3, q4, q5⟩⟩ := a2
    · refine ⟨by simp, .inl ⟨?_, q2.2⟩⟩
      have := q2.1; omega
    · refine ⟨by simp, .inr ⟨by simp, id, inc, by simpa using q2, q3, q4, ?_⟩⟩
      rw [put_get, if_neg (by have : p + 1 ≤ id := q3; omega), q5]
      simp
  · exact hnx2
  · intro id hid
    rw [put_get, if_neg (by omega), a3.2.2 id (by show id < p + 1; omega)]
theorem cells_cell {v : AV} (h : v.isCell = true) : v.cells = [v] := by
  cases v <;> first | rfl | cases h
section
variable {T : Tab} {Q : Post} {fs : List Fr}
/-- A region whose panics go further: where none comes. -/
theorem go_regionP {l : List IOp} {e : Env} {s : St} (h : GoOps T (fun x e' s' => x = .normal ∧ Ret T Q fs x e' s') false l [] e s) : Go T Q (.regionP l) fs e s := by
  obtain ⟨n, x, e', s', h1, h2, h3⟩ := h
  subst h2
  exact ⟨n + 1, .normal, e', s', by show evalC T (evalN T n) (.regionP l) e s = _; simp only [evalC, h1], h3⟩
end
section
variable {T : Tab}
theorem says_ran (hc : T 7 = some (.code ir7)) (hh : T 12 = some (.code ir12)) {p : Nat} {s : St} {xs : List (List UInt8)} (hb : Box p s xs) (hn : xs.length < 1000) (nm : List UInt8) (hl : nm.length < 100) (x : Nat) (hx : x < 4294967296) :
    Ran T 7 [.ptr ⟨p, 0, 0, 1⟩, .str nm, .int .u32 (x : Int)] s fun r s' => r = .tuple [] ∧ Box p s' (if x = 0 then xs else xs ++ [nm ++ [61] ++ hex8 x]) ∧ Low p s s' := by
  refine ran_code hc (Nat.le_of_ble_eq_true rfl) ?_
  obtain ⟨hp, hw, v, hv, hs⟩ := id hb
  by_cases h0 : x = 0
  · subst h0
    simp only [ir7, Int.natCast_zero, wk, wk1, wk2, Option.some.injEq, exists_eq_left', decide_true, decide_false, Nat.reduceAdd, Nat.reduceEqDiff, Nat.reduceLeDiff, Nat.reduceLT, Nat.reduceMul, Nat.reduceBEq, Int.reduceLT, Int.reduceLE, Int.reduceEq, Int.reduceAdd, Int.reduceSub, Int.reduceMul, Int.reduceMod, Int.reduceTMod, Int.reduceTDiv, Int.reduceNeg, Nat.reduceSub, Nat.reduceDiv, reduceIte, reduceCtorEq]
    exact ⟨hb, .refl _ _⟩
  · have hd : decide ((x : Int) = 0) = false := by simpa using h0
    simp only [ir7, hd, hv, wk, wk1, wk2, Option.some.injEq, exists_eq_left', decide_true, decide_false, Nat.reduceAdd, Nat.reduceEqDiff, Nat.reduceLeDiff, Nat.reduceLT, Nat.reduceMul, Nat.reduceBEq, Int.reduceLT, Int.reduceLE, Int.reduceEq, Int.reduceAdd, Int.reduceSub, Int.reduceMul, Int.reduceMod, Int.reduceTMod, Int.reduceTDiv, Int.reduceNeg, Nat.reduceSub, Nat.reduceDiv, reduceIte, reduceCtorEq]
    refine go_regionP ?_
    have hl1 : nm.length + 1 ≤ 1099511627776 := by omega
    simp only [hv, hl1, wk, wk1, wk2, Option.some.injEq, exists_eq_left', decide_true, decide_false, Nat.reduceAdd, Nat.reduceEqDiff, Nat.reduceLeDiff, Nat.reduceLT, Nat.reduceMul, Nat.reduceBEq, Int.reduceLT, Int.reduceLE, Int.reduceEq, Int.reduceAdd, Int.reduceSub, Int.reduceMul, Int.reduceMod, Int.reduceTMod, Int.reduceTDiv, Int.reduceNeg, Nat.reduceSub, Nat.reduceDiv, reduceIte, reduceCtorEq]
    refine goCall ((hex_ran hh s hw x hx).mono ?_)
    rintro r s2 ⟨rfl, he⟩
    have hb2 := hb.ext he
    have hv2 : s2.heap.get p = some (.cells [v] 0 0 false) := by rw [he.2.2 p hp]; exact hv
    obtain ⟨v', s1, a1, a2, a3, a4, a5⟩ := hb2.app hv2 hn (nm ++ [61] ++ hex8 x)
    refine ⟨by simp only [watch_cons, watch_nil, wat_ptr, opdt_set, reduceIte, hv, hv2, sameObj_refl, Nat.reduceEqDiff, Bool.and_self], ?_⟩
    have hl2 : (nm ++ [61]).length + (hex8 x).length ≤ 1099511627776 := by simp [hex8]; omega
    have hc1 : v'.cells = [v'] := cells_cell a2
    simp only [hv, hv2, hl2, a1, a2, a3, hc1, wk, wk1, wk2, Option.some.injEq, exists_eq_left', decide_true, decide_false, Nat.reduceAdd, Nat.reduceEqDiff, Nat.reduceLeDiff, Nat.reduceLT, Nat.reduceMul, Nat.reduceBEq, Int.reduceLT, Int.reduceLE, Int.reduceEq, Int.reduceAdd, Int.reduceSub, Int.reduceMul, Int.reduceMod, Int.reduceTMod, Int.reduceTDiv, Int.reduceNeg, Nat.reduceSub, Nat.reduceDiv, reduceIte, reduceCtorEq]
    exact ⟨by rw [if_neg h0]; exact a4, (Low.ext he (by omega)).trans a5⟩
end
end Go.V
