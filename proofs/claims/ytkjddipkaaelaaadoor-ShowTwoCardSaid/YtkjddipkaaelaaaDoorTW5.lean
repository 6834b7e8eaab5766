/- ShowTwo. -/
import Derived.Test.YtkjddipkaaelaaaDoorVZ
import Derived.Test.YtkjddipkaaelaaaDoorTW4
import Derived.Test.YtkjddipkaaelaaaDoorSG
set_option linter.unusedVariables false
set_option linter.unusedSimpArgs false
set_option linter.unusedSectionVars false
/- ShowTwo. -/
namespace Go.V
open Go
set_option linter.unusedSimpArgs false
set_option linter.unusedVariables false
open Z in def ir3 : IFunc := ⟨26,[.tmp 4],(q (R [(o 2 (.box t0)),(o 3 (.box t1)),(o 4 (.move F))]) (q (q (R [(la 5 11 2),(o 6 (.call 5 [t5])),(o 7 (.un .not t6)),(m 8 7),(og 9 8 false (.load true 11 t3)),(og 10 8 false (.call 5 [t9])),(og 11 8 false (.un .not t10)),(o 12 (.pick t8 T t11))]) (.cond t12 (q (R [(o 13 (.call 6 [])),(m 4 13)]) .ret) .skip)) (q (.regionP [(la 14 11 2),(la 16 11 3),(la 19 11 2),(la 20 11 3),(o 21 (.eq false (.agg [(0,1,false,(.prim .int)),(1,1,false,(.prim .int)),(2,1,false,(.prim .int)),(3,1,false,(.prim .int)),(4,1,false,(.prim .int)),(5,1,false,(.prim .int)),(6,1,false,(.prim .int)),(7,1,false,(.prim .bool)),(8,1,false,(.prim .bool)),(9,1,false,(.prim .int)),(10,1,false,(.prim .int))]) t19 t20)),⟨some 15,none,[t3,t2,t3],(.call 7 [t14,(.c .nilFunc)])⟩,⟨some 17,none,[t2,t3],(.call 7 [t16,(.c .nilFunc)])⟩,(o 18 (.bin .eql t15 t17)),(o 22 (.eq false (.prim .bool) t18 t21)),(m 23 22),(og 24 23 true (.call 6 [])),(o 25 (.pick t23 t24 F)),(m 4 25)]) .ret)))⟩
section
variable {T : Tab}
set_option maxHeartbeats 8000000 in
theorem showTwo_ran (hc : T 3 = some (.code ir3)) (hT : ShTab T) {s : St} (hp : PS s) (haw : ∀ s', Ext s s' → Ran T 6 [] s' fun v _ => v = .bool true)
    {i j : In} (hi : i.ok = true) (hj : j.ok = true) :
    Ran T 3 [.agg i.cells, .agg j.cells] s fun v _ => v = .bool true := by
  refine ran_code hc (Nat.le_of_ble_eq_true rfl) ?_
  generalize hQ : Fin _ _ = Q
  have hs := hp.wf
  have oi : okI i = true := by simp only [okI, (ok_bytes hi).1, ok_imm hi, Bool.and_self]
  have oj : okI j = true := by simp only [okI, (ok_bytes hj).1, ok_imm hj, Bool.and_self]
  have ci : i.cells = [.int .u8 i.op, .int .u8 i.d, .int .u8 i.s, .int .u8 i.t, .int .u8 i.n, .int .u8 i.pred, .int .u8 i.mode, .bool i.nw, .bool i.ext, .int .u16 i.count, .int .i64 i.imm] := rfl
  have cj : j.cells = [.int .u8 j.op, .int .u8 j.d, .int .u8 j.s, .int .u8 j.t, .int .u8 j.n, .int .u8 j.pred, .int .u8 j.mode, .bool j.nw, .bool j.ext, .int .u16 j.count, .int .i64 j.imm] := rfl
  have k1 := goCall_hook hT.right
  have q1 := fun s => inF_eq rightR i s oi
  have q2 := fun s => inF_eq rightR j s oj
  simp only [ci, cj, rightR] at q1 q2
  by_cases h1 : rightF i = true
  · by_cases h2 : rightF j = true
    · simp only [h1, h2] at q1 q2
      simp only [ir3, ci, cj, k1, q1, q2, eqIn', wk, wk1, wk2, Option.some.injEq, exists_eq_left', decide_true, decide_false, seval, go_regionPw, pw_normal]
      have hE0 : Ext s ((s.add (.cells [.int .u8 i.op, .int .u8 i.d, .int .u8 i.s, .int .u8 i.t, .int .u8 i.n, .int .u8 i.pred, .int .u8 i.mode, .bool i.nw, .bool i.ext, .int .u16 i.count, .int .i64 i.imm] 0 0 false)).add (.cells [.int .u8 j.op, .int .u8 j.d, .int .u8 j.s, .int .u8 j.t, .int .u8 j.n, .int .u8 j.pred, .int .u8 j.mode, .bool j.nw, .bool j.ext, .int .u16 j.count, .int .i64 j.imm] 0 0 false)) := .add (.add (.refl hs) _) _
      generalize hsB : (s.add (.cells [.int .u8 i.op, .int .u8 i.d, .int .u8 i.s, .int .u8 i.t, .int .u8 i.n, .int .u8 i.pred, .int .u8 i.mode, .bool i.nw, .bool i.ext, .int .u16 i.count, .int .i64 i.imm] 0 0 false)).add (.cells [.int .u8 j.op, .int .u8 j.d, .int .u8 j.s, .int .u8 j.t, .int .u8 j.n, .int .u8 j.pred, .int .u8 j.mode, .bool j.nw, .bool j.ext, .int .u16 j.count, .int .i64 j.imm] 0 0 false) = sB at *
      have hpB : PS sB := hp.ext hE0
      have hnx : sB.next = s.next + 2 := by rw [← hsB]; rfl
      have nA : s.next < sB.next := by omega
      have nB : s.next + 1 < sB.next := by omega
      have oA : sB.heap.get s.next = some (.cells [.int .u8 i.op, .int .u8 i.d, .int .u8 i.s, .int .u8 i.t, .int .u8 i.n, .int .u8 i.pred, .int .u8 i.mode, .bool i.nw, .bool i.ext, .int .u16 i.count, .int .i64 i.imm] 0 0 false) := by rw [← hsB]; simp only [wk, wk1, wk2, Option.some.injEq, exists_eq_left', decide_true, decide_false, seval, go_regionPw, pw_normal]
      have oB : sB.heap.get (s.next + 1) = some (.cells [.int .u8 j.op, .int .u8 j.d, .int .u8 j.s, .int .u8 j.t, .int .u8 j.n, .int .u8 j.pred, .int .u8 j.mode, .bool j.nw, .bool j.ext, .int .u16 j.count, .int .i64 j.imm] 0 0 false) := by rw [← hsB]; simp only [wk, wk1, wk2, Option.some.injEq, exists_eq_left', decide_true, decide_false, seval, go_regionPw, pw_normal]
      clear hsB
      rw [← ci]
      refine goCall ((sInst hT hpB hi (nm := []) (by simp) (.inl ⟨rfl, rfl⟩)).mono ?_)
      rintro v s1 ⟨rfl, E1⟩
      have a1 : s1.heap.get s.next = some (.cells [.int .u8 i.op, .int .u8 i.d, .int .u8 i.s, .int .u8 i.t, .int .u8 i.n, .int .u8 i.pred, .int .u8 i.mode, .bool i.nw, .bool i.ext, .int .u16 i.count, .int .i64 i.imm] 0 0 false) := by rw [E1.2.2 _ nA]; exact oA
      have b1 : s1.heap.get (s.next + 1) = some (.cells [.int .u8 j.op, .int .u8 j.d, .int .u8 j.s, .int .u8 j.t, .int .u8 j.n, .int .u8 j.pred, .int .u8 j.mode, .bool j.nw, .bool j.ext, .int .u16 j.count, .int .i64 j.imm] 0 0 false) := by rw [E1.2.2 _ nB]; exact oB
      have hp1 := hpB.ext E1
      refine ⟨by simp only [oA, oB, a1, b1, goR_watch, watch_cons, watch_nil, wat_ptr, wat_map, sameObj_refl, Bool.and_self, true_and, wk, wk1, wk2, Option.some.injEq, exists_eq_left', decide_true, decide_false, seval, go_regionPw, pw_normal], ?_⟩
      simp only [a1, b1, wk, wk1, wk2, Option.some.injEq, exists_eq_left', decide_true, decide_false, seval, go_regionPw, pw_normal]
      try rw [← cj]
      refine goCall ((sInst hT hp1 hj (nm := []) (by simp) (.inl ⟨rfl, rfl⟩)).mono ?_)
      rintro v s2 ⟨rfl, E2⟩
      have F2 := E1.trans E2
      have a2 : s2.heap.get s.next = some (.cells [.int .u8 i.op, .int .u8 i.d, .int .u8 i.s, .int .u8 i.t, .int .u8 i.n, .int .u8 i.pred, .int .u8 i.mode, .bool i.nw, .bool i.ext, .int .u16 i.count, .int .i64 i.imm] 0 0 false) := by rw [F2.2.2 _ nA]; exact oA
      have b2 : s2.heap.get (s.next + 1) = some (.cells [.int .u8 j.op, .int .u8 j.d, .int .u8 j.s, .int .u8 j.t, .int .u8 j.n, .int .u8 j.pred, .int .u8 j.mode, .bool j.nw, .bool j.ext, .int .u16 j.count, .int .i64 j.imm] 0 0 false) := by rw [F2.2.2 _ nB]; exact oB
      refine ⟨by simp only [a1, b1, a2, b2, goR_watch, watch_cons, watch_nil, wat_ptr, wat_map, sameObj_refl, Bool.and_self, true_and, wk, wk1, wk2, Option.some.injEq, exists_eq_left', decide_true, decide_false, seval, go_regionPw, pw_normal], ?_⟩
      have hd : (decide (instS i [] = instS j []) == decide ((⟨i.op, i.d, i.s, i.t, i.n, i.pred, i.mode, i.nw, i.ext, i.count, i.imm⟩ : In) = ⟨j.op, j.d, j.s, j.t, j.n, j.pred, j.mode, j.nw, j.ext, j.count, j.imm⟩)) = true := by
        show (decide (instS i [] = instS j []) == decide (i = j)) = true
        by_cases hij : i = j
        · subst hij; simp
        · have hne : ¬ instS i [] = instS j [] := fun h => hij (inst_inj hi hj h1 h2 h)
          simp [hij, hne]
      simp only [eq_bool, hd, wk, wk1, wk2, Option.some.injEq, exists_eq_left', decide_true, decide_false, seval, go_regionPw, pw_normal]
      refine goCall_by (haw _ (hE0.trans F2)) ?_
      rintro v s3 rfl
      subst hQ
      simp only [ir3, wk, wk1, wk2, Option.some.injEq, exists_eq_left', decide_true, decide_false, seval, go_regionPw, pw_normal]
    · simp only [h1, h2] at q1 q2
      simp only [ir3, ci, cj, k1, q1, q2, wk, wk1, wk2, Option.some.injEq, exists_eq_left', decide_true, decide_false, seval, go_regionPw, pw_normal]
      refine goCall_by (haw _ (.add (.add (.refl hs) _) _)) ?_
      rintro v s1 rfl
      subst hQ
      simp only [ir3, wk, wk1, wk2, Option.some.injEq, exists_eq_left', decide_true, decide_false, seval, go_regionPw, pw_normal]
  · simp only [h1] at q1
    simp only [ir3, ci, cj, k1, q1, wk, wk1, wk2, Option.some.injEq, exists_eq_left', decide_true, decide_false, seval, go_regionPw, pw_normal]
    refine goCall_by (haw _ (.add (.add (.refl hs) _) _)) ?_
    rintro v s1 rfl
    subst hQ
    simp only [ir3, wk, wk1, wk2, Option.some.injEq, exists_eq_left', decide_true, decide_false, seval, go_regionPw, pw_normal]
end
end Go.V
