/- The law TraceSays answers true. -/
import Derived.Test.YtipcimefenpjhaaGreatDoorTS5
set_option linter.unusedVariables false
set_option linter.unusedSimpArgs false
set_option linter.unusedSectionVars false
/- The law TraceSays answers true. -/
namespace Go.V
open Go
set_option linter.unusedSimpArgs false
set_option linter.unusedVariables false
deriving instance DecidableEq for Mst
theorem eqP {α : Type} [DecidableEq α] (k : PK) (f : α → AV) (hf : ∀ a b, primEq k (f a) (f b) = some (decide (a = b))) : ∀ (n i : Nat) (xs ys : List α), i + n = xs.length → ys.length = xs.length →
    eqParts ((List.range' i n).map fun j => (j, 1, false, .prim k)) (xs.map f) (ys.map f) = some (decide (xs.drop i = ys.drop i))
  | 0, i, xs, ys, h1, h2 => by
    rw [List.drop_of_length_le (by omega), List.drop_of_length_le (by omega)]
    simp [eqParts]
  | n + 1, i, xs, ys, h1, h2 => by
    have hx : i < xs.length := by omega
    have hy : i < ys.length := by omega
    have e1 : (xs.map f)[i]? = some (f xs[i]) := by simp [hx]
    have e2 : (ys.map f)[i]? = some (f ys[i]) := by simp [hy]
    rw [List.range'_succ, List.map_cons]
    simp only [eqParts, partAV, e1, e2, eqV, hf]
    have ex := List.drop_eq_getElem_cons hx
    have ey := List.drop_eq_getElem_cons hy
    by_cases h : xs[i] = ys[i]
    · rw [decide_eq_true h]
      simp only []
      rw [eqP k f hf n (i + 1) xs ys (by omega) h2]
      exact congrArg some (decide_eq_decide.2 ⟨fun e => by rw [ex, ey, h, e], fun e => by rw [ex, ey] at e; exact (List.cons.inj e).2⟩)
    · rw [decide_eq_false h]
      simp only []
      exact congrArg some (decide_eq_false (fun e => by rw [ex, ey] at e; exact h (List.cons.inj e).1)).symm
theorem eq_ints : ∀ a b : Nat, primEq .int (.int .u32 (a : Int)) (.int .u32 (b : Int)) = some (decide (a = b)) := by
  intro a b
  simp only [primEq, if_true]
  congr 1
  by_cases h : a = b
  · subst h; simp
  · rw [decide_eq_false h, decide_eq_false (by omega)]
theorem eq_bools : ∀ a b : Bool, primEq .bool (.bool a) (.bool b) = some (decide (a = b)) := by
  intro a b; cases a <;> cases b <;> rfl
theorem eq_byte : ∀ a b : Nat, primEq .int (.int .u8 (a : Int)) (.int .u8 (b : Int)) = some (decide (a = b)) := by
  intro a b
  simp only [primEq, if_true]
  congr 1
  by_cases h : a = b
  · subst h; simp
  · rw [decide_eq_false h, decide_eq_false (by omega)]
theorem part_end {cs : List AV} {n : Nat} {a b : AV} (h : cs.drop n = [a, b]) : cs[n]? = some a ∧ cs[n + 1]? = some b := by
  have e1 : (cs.drop n)[0]? = some a := by rw [h]; rfl
  have e2 : (cs.drop n)[1]? = some b := by rw [h]; rfl
  rw [List.getElem?_drop] at e1 e2
  exact ⟨e1, e2⟩
theorem eq_state {m q : Mst} (hm : m.Ok) (hq : q.Ok) : eqV (.agg [(0, 32, true, (.agg [(0, 1, false, (.prim .int)), (1, 1, false, (.prim .int)), (2, 1, false, (.prim .int)), (3, 1, false, (.prim .int)), (4, 1, false, (.prim .int)), (5, 1, false, (.prim .int)), (6, 1, false, (.prim .int)), (7, 1, false, (.prim .int)), (8, 1, false, (.prim .int)), (9, 1, false, (.prim .int)), (10, 1, false, (.prim .int)), (11, 1, false, (.prim .int)), (12, 1, false, (.prim .int)), (13, 1, false, (.prim .int)), (14, 1, false, (.prim .int)), (15, 1, false, (.prim .int)), (16, 1, false, (.prim .int)), (17, 1, false, (.prim .int)), (18, 1, false, (.prim .int)), (19, 1, false, (.prim .int)), (20, 1, false, (.prim .int)), (21, 1, false, (.prim .int)), (22, 1, false, (.prim .int)), (23, 1, false, (.prim .int)), (24, 1, false, (.prim .int)), (25, 1, false, (.prim .int)), (26, 1, false, (.prim .int)), (27, 1, false, (.prim .int)), (28, 1, false, (.prim .int)), (29, 1, false, (.prim .int)), (30, 1, false, (.prim .int)), (31, 1, false, (.prim .int))])), (32, 4, true, (.agg [(0, 1, false, (.prim .bool)), (1, 1, false, (.prim .bool)), (2, 1, false, (.prim .bool)), (3, 1, false, (.prim .bool))])), (36, 2, true, (.agg [(0, 1, false, (.prim .int)), (1, 1, false, (.prim .int))])), (38, 2, true, (.agg [(0, 1, false, (.prim .int)), (1, 1, false, (.prim .int))])), (40, 1, false, (.prim .int)), (41, 1, false, (.prim .int))]) (.agg m.cells) (.agg q.cells) = some (decide (m = q)) := by
  have r1 := eqP .int (fun x : Nat => AV.int .u32 (x : Int)) eq_ints 32 0 m.r q.r (by rw [hm.r]) (by rw [hm.r, hq.r])
  have r2 := eqP .bool AV.bool eq_bools 4 0 m.p q.p (by rw [hm.p]) (by rw [hm.p, hq.p])
  have r3 := eqP .int (fun x : Nat => AV.int .u32 (x : Int)) eq_ints 2 0 m.a q.a (by rw [hm.a]) (by rw [hm.a, hq.a])
  have r4 := eqP .int (fun x : Nat => AV.int .u32 (x : Int)) eq_ints 2 0 m.c q.c (by rw [hm.c]) (by rw [hm.c, hq.c])
  simp only [List.range', List.map_cons, List.map_nil, List.drop_zero, Nat.zero_add, Nat.reduceAdd] at r1 r2 r3 r4
  have p1 := part_end (Mst.d4' hm)
  have p2 := part_end (Mst.d4' hq)
  simp only [Nat.reduceAdd] at p1 p2
  rw [eqV, eqParts]
  simp only [partAV, List.drop_zero, Mst.d0 hm, Mst.d0 hq, eqV, r1]
  by_cases h1 : m.r = q.r
  case neg => rw [decide_eq_false h1, decide_eq_false (fun e => h1 (by rw [e]))]
  rw [decide_eq_true h1]
  simp only []
  rw [eqParts]
  simp only [partAV, Mst.d1 hm, Mst.d1 hq, eqV, r2]
  by_cases h2 : m.p = q.p
  case neg => rw [decide_eq_false h2, decide_eq_false (fun e => h2 (by rw [e]))]
  rw [decide_eq_true h2]
  simp only []
  rw [eqParts]
  simp only [partAV, Mst.d2 hm, Mst.d2 hq, eqV, r3]
  by_cases h3 : m.a = q.a
  case neg => rw [decide_eq_false h3, decide_eq_false (fun e => h3 (by rw [e]))]
  rw [decide_eq_true h3]
  simp only []
  rw [eqParts]
  simp only [partAV, Mst.d3 hm, Mst.d3 hq, eqV, r4]
  by_cases h4 : m.c = q.c
  case neg => rw [decide_eq_false h4, decide_eq_false (fun e => h4 (by rw [e]))]
  rw [decide_eq_true h4]
  simp only []
  rw [eqParts]
  simp only [partAV, p1.1, p2.1, eqV, eq_ints]
  by_cases h5 : m.pc = q.pc
  case neg => rw [decide_eq_false h5, decide_eq_false (fun e => h5 (by rw [e]))]
  rw [decide_eq_true h5]
  simp only []
  rw [eqParts]
  simp only [partAV, p1.2, p2.2, eqV, eq_byte]
  by_cases h6 : m.f = q.f
  case neg => rw [decide_eq_false h6, decide_eq_false (fun e => h6 (by rw [e]))]
  rw [decide_eq_true h6]
  simp only [eqParts]
  have : m = q := by cases m; cases q; simp_all
  rw [decide_eq_true this]
end Go.V
