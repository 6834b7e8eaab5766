/- The law FlowReaches. -/
import Derived.Test.YteepeacefpkmbaaGreatDoorVZ
import Derived.Test.YteepeacefpkmbaaGreatDoorFA
set_option linter.unusedVariables false
set_option linter.unusedSimpArgs false
set_option linter.unusedSectionVars false
/- The law FlowReaches. -/
namespace Go.V
open Go
set_option linter.unusedSimpArgs false
set_option linter.unusedVariables false
section
open Z
abbrev fL8l1 : ICode := .seq (R [(m 39 0),(m 40 1),(o 41 (.call 7 [t39,t40])),(m 42 5),(m 43 1),(o 44 (.call 8 [t42,t43])),(o 45 (.call 6 [t41,t44])),(m 46 45),(og 47 46 true (.move t0)),(og 48 46 true (.move t1)),(og 49 46 true (.call 9 [t47,t48])),(og 50 46 true (.move t5)),(og 51 46 true (.move t1)),(og 52 46 true (.call 10 [t50,t51])),(og 53 46 true (.call 6 [t49,t52])),(o 54 (.pick t46 t53 F)),(m 55 54),(og 56 55 true (.call 5 [])),(o 57 (.pick t55 t56 F)),(m 4 57)]) .ret
abbrev fL8l0 : ICode := .loop (q (q (R [(m 11 6),(m 12 0),(o 13 (.lenSl t12)),(o 14 (.bin .lss t11 t13))]) (.cond t14 .skip (.exit 0))) (q (.block 1 (q (q (R [(m 17 0),(m 18 6),(ix 19 4 17 18),(f 20 2 19),(l 21 1 20),(o 22 (.lenSl t21)),(o 23 (.bin .gtr t22 (I 8)))]) (.cond t23 (q (R [(o 24 (.call 5 [])),(m 4 24)]) .ret) .skip)) (.region [(m 25 5),(m 26 0),(m 27 6),(ix 28 4 26 27),(f 29 0 28),(l 30 1 29),(m 31 0),(m 32 6),(ix 33 4 31 32),(f 34 2 33),(l 35 1 34),(o 36 (.build [(w 0),(i 0),.nilSlice,z] [(0,1,t30),(2,1,t35)])),(o 37 (.buildSlice 1 4 [(w 0),(i 0),.nilSlice,z] [(0,4,t36)])),(o 38 (.append 4 48 t25 t37)),(m 5 38)] true))) (R [(m 15 6),(o 16 (.bin .add t15 (I 1))),(m 6 16)])))
end
open Z in def ir3 : IFunc := ⟨58,[.tmp 4],(q (R [(o 4 (.move F))]) (q (q (R [(m 7 0),(o 8 (.lenSl t7)),(o 9 (.bin .gtr t8 (I 30)))]) (.cond t9 (q (R [(o 10 (.call 5 [])),(m 4 10)]) .ret) .skip)) (q (R [(o 5 (.move (.c .nilSlice)))]) (q (q (R [(mi 6 0)]) (.block 0 fL8l0)) fL8l1))))⟩
/-- Nodes, without bounds. -/
structure NdR (s : St) (v : AV) (L : List ND) : Prop where
  rd : RdS s 4 L.length v (L.flatMap ND.cells)
  ok : ∀ n ∈ L, U32 s n.nx n.to ∧ n.w.isCell = true ∧ n.nx.isCell = true ∧ n.op.isCell = true
theorem NdR.lens {s : St} {v : AV} {L : List ND} (h : NdR s v L) : Lens v L.length := h.rd.lens
theorem NdR.nds {s : St} {v : AV} {L : List ND} (h : NdR s v L) (hl : L.length ≤ 30) (h8 : ∀ n ∈ L, n.to.length ≤ 8) : NdS s v L :=
  ⟨h.rd, fun n hn => ⟨(h.ok n hn).1, (h.ok n hn).2.1, (h.ok n hn).2.2.1, (h.ok n hn).2.2.2, h8 n hn⟩, hl⟩
theorem NdR.at {s : St} {v : AV} {L : List ND} (h : NdR s v L) {i : Nat} {n : ND} (hx : L[i]? = some n) : ∃ id lo inc' inc lim cap ex ro cs, v = .slice ⟨id, 0, inc, lim⟩ L.length cap ex 4 ∧ s.heap.get id = some (.cells cs lo inc' ro) ∧ lo ≤ inc ∧ inc ≤ inc' ∧ i * 4 + 1 ≤ lim ∧ i * 4 + 3 ≤ lim ∧ i * 4 + 4 ≤ lim ∧ (cs.drop (i * 4)).take 1 = [.int .u32 (n.at_ : Int)] ∧ (cs.drop (i * 4 + 2)).take 1 = [n.nx] ∧ (cs.drop (i * 4)).take 4 = [.int .u32 (n.at_ : Int), n.w, n.nx, n.op] ∧ i < L.length := by
  have hi : i < L.length := (List.getElem?_eq_some_iff.1 hx).1
  obtain ⟨id, lo, inc', inc, lim, cap, ex, ro, cs, h1, h2, h3, h4, h5, h6⟩ := h.rd.at hi
  have hc : ∀ x : ND, x.cells.length = 4 := fun _ => rfl
  refine ⟨id, lo, inc', inc, lim, cap, ex, ro, cs, h1, h2, h3, h4, by omega, by omega, by omega, ?_, ?_, ?_, hi⟩
  · rw [h6 _ _ (by omega)]; exact take_four hc L i n hx 0 1 (by omega)
  · rw [h6 _ _ (by omega)]; exact take_four hc L i n hx 2 1 (by omega)
  · rw [h6 _ _ (by omega)]; exact take_four hc L i n hx 0 4 (by omega)
/-- The reference's node. -/
def wnd (n : ND) : ND := ⟨n.at_, .int .i64 0, n.nx, .bool false, n.to⟩
structure FrE (e : Env) (x v : AV) (f : Nat) : Prop where
  h0 : opd e (.t 0) = x
  h1 : opd e (.t 1) = .int .u32 (f : Int)
  h5 : opd e (.t 5) = v
section
variable {T : Tab}
end
end Go.V
