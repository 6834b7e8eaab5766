/- The law FlowReaches. -/
import Derived.Test.YteepeacefpkmbaaGreatDoorVZ
import Derived.Test.YteepeacefpkmbaaGreatDoorFA
set_option linter.unusedVariables false
set_option linter.unusedSimpArgs false
set_option linter.unusedSectionVars false
/- The law FlowReaches. -/
namespace Go.V
open Go
set_option linter.unusedSimpArgs false
set_option linter.unusedVariables false
section
open Z
abbrev fL8l1 : ICode := .seq (R [(m 39 0),(m 40 1),(o 41 (.call 7 [t39,t40])),(m 42 5),(m 43 1),(o 44 (.call 8 [t42,t43])),(o 45 (.call 6 [t41,t44])),(m 46 45),(og 47 46 true (.move t0)),(og 48 46 true (.move t1)),(og 49 46 true (.call 9 [t47,t48])),(og 50 46 true (.move t5)),(og 51 46 true (.move t1)),(og 52 46 true (.call 10 [t50,t51])),(og 53 46 true (.call 6 [t49,t52])),(o 54 (.pick t46 t53 F)),(m 55 54),(og 56 55 true (.call 5 [])),(o 57 (.pick t55 t56 F)),(m 4 57)]) .ret
abbrev fL8l0 : ICode := .loop (q (q (R [(m 11 6),(m 12 0),(o 13 (.lenSl t12)),(o 14 (.bin .lss t11 t13))]) (.cond t14 .skip (.exit 0))) (q (.block 1 (q (q (R [(m 17 0),(m 18 6),(ix 19 4 17 18),(f 20 2 19),(l 21 1 20),(o 22 (.lenSl t21)),(o 23 (.bin .gtr t22 (I 8)))]) (.cond t23 (q (R [(o 24 (.call 5 [])),(m 4 24)]) .ret) .skip)) (.region [(m 25 5),(m 26 0),(m 27 6),(ix 28 4 26 27),(f 29 0 28),(l 30 1 29),(m 31 0),(m 32 6),(ix 33 4 31 32),(f 34 2 33),(l 35 1 34),(o 36 (.build [(w 0),(i 0),.nilSlice,z] [(0,1,t30),(2,1,t35)])),(o 37 (.buildSlice 1 4 [(w 0),(i 0),.nilSlice,z] [(0,4,t36)])),(o 38 (.append 4 48 t25 t37)),(m 5 38)] true))) (R [(m 15 6),(o 16 (.bin .add t15 (I 1))),(m 6 16)])))
end
open Z in def ir3 : IFunc := ⟨58,[.tmp 4],(q (R [(o 4 (.move F))]) (q (q (R [(m 7 0),(o 8 (.lenSl t7)),(o 9 (.bin .gtr t8 (I 30)))]) (.cond t9 (q (R [(o 10 (.call 5 [])),(m 4 10)]) .ret) .skip)) (q (R [(o 5 (.move (.c .nilSlice)))]) (q (q (R [(mi 6 0)]) (.block 0 fL8l0)) fL8l1))))⟩
/-- Nodes, without bounds. -/
structure NdR (s : St) (v : AV) (L : List ND) : Prop where
  rd : RdS s 4 L.length v (L.flatMap ND.cells)
  ok : ∀ n ∈ L, U32 s n.nx n.to ∧ n.w.isCell = true ∧ n.nx.isCell = true ∧ n.op.isCell = true
theorem NdR.ext {s s' : St} {v : AV} {L : List ND} (h : NdR s v L) (he : Ext s s') : NdR s' v L :=
  ⟨h.rd.ext he, fun n hn => ⟨(h.ok n hn).1.ext he, (h.ok n hn).2⟩⟩
theorem NdR.lens {s : St} {v : AV} {L : List ND} (h : NdR s v L) : Lens v L.length := h.rd.lens
theorem NdR.nds {s : St} {v : AV} {L : List ND} (h : NdR s v L) (hl : L.length ≤ 30) (h8 : ∀ n ∈ L, n.to.length ≤ 8) : NdS s v L :=
  ⟨h.rd, fun n hn => ⟨(h.ok n hn).1, (h.ok n hn).2.1, (h.ok n hn).2.2.1, (h.ok n hn).2.2.2, h8 n hn⟩, hl⟩
theorem NdR.at {s : St} {v : AV} {L : List ND} (h : NdR s v L) {i : Nat} {n : ND} (hx : L[i]? = some n) : ∃ id lo inc' inc lim cap ex ro cs, v = .slice ⟨id, 0, inc, lim⟩ L.length cap ex 4 ∧ s.heap.get id = some (.cells cs lo inc' ro) ∧ lo ≤ inc ∧ inc ≤ inc' ∧ i * 4 + 1 ≤ lim ∧ i * 4 + 3 ≤ lim ∧ i * 4 + 4 ≤ lim ∧ (cs.drop (i * 4)).take 1 = [.int .u32 (n.at_ : Int)] ∧ (cs.drop (i * 4 + 2)).take 1 = [n.nx] ∧ (cs.drop (i * 4)).take 4 = [.int .u32 (n.at_ : Int), n.w, n.nx, n.op] ∧ i < L.length := by
  have hi : i < L.length := (List.getElem?_eq_some_iff.1 hx).1
  obtain ⟨id, lo, inc', inc, lim, cap, ex, ro, cs, h1, h2, h3, h4, h5, h6⟩ := h.rd.at hi
  have hc : ∀ x : ND, x.cells.length = 4 := fun _ => rfl
  refine ⟨id, lo, inc', inc, lim, cap, ex, ro, cs, h1, h2, h3, h4, by omega, by omega, by omega, ?_, ?_, ?_, hi⟩
  · rw [h6 _ _ (by omega)]; exact take_four hc L i n hx 0 1 (by omega)
  · rw [h6 _ _ (by omega)]; exact take_four hc L i n hx 2 1 (by omega)
  · rw [h6 _ _ (by omega)]; exact take_four hc L i n hx 0 4 (by omega)
theorem cells_cellF {v : AV} (h : v.isCell = true) : v.cells = [v] := by
  cases v <;> first | rfl | cases h
/-- The reference's node. -/
def wnd (n : ND) : ND := ⟨n.at_, .int .i64 0, n.nx, .bool false, n.to⟩
theorem gr_wnd (L : List ND) : gr (L.map wnd) = gr L := by simp [gr, wnd, List.map_map, Function.comp_def]
structure FrE (e : Env) (x v : AV) (f : Nat) : Prop where
  h0 : opd e (.t 0) = x
  h1 : opd e (.t 1) = .int .u32 (f : Int)
  h5 : opd e (.t 5) = v
section
variable {T : Tab}
set_option maxHeartbeats 8000000 in
theorem fr_loop {Q : Post} {s0 : St} (haw : ∀ s', Ext s0 s' → Ran T 5 [] s' fun v _ => v = .bool true) {x : AV} {L : List ND} (hx : NdR s0 x L) (hlen : L.length ≤ 30) (f : Nat)
    (KA : ∀ (e : Env) (s : St), opd e (.t 4) = .bool true → Ret T Q [.seq fL8l1] .ret e s)
    (K : ∀ (e : Env) (s : St) (v : AV), FrE e x v f → Slc s0.next s 4 L.length v ((L.map wnd).flatMap ND.cells) → Ext s0 s → (∀ n ∈ L, n.to.length ≤ 8) → Ret T Q [.seq fL8l1] .normal e s) :
    ∀ (m i : Nat) (e : Env) (s : St) (v : AV), m + i = L.length → FrE e x v f → opd e (.t 6) = .int .i64 (i : Int) → Slc s0.next s 4 i v (((L.take i).map wnd).flatMap ND.cells) → Ext s0 s → (∀ n ∈ L.take i, n.to.length ≤ 8) →
      Go T Q (fL8l0) [.block 0, .seq fL8l1] e s := by
  intro m
  induction m with
  | zero =>
    intro i e s v hm ⟨h0, h1, h5⟩ h6 hv hE h8
    have hin : i = L.length := by omega
    subst hin
    rw [List.take_length] at hv h8
    have hL := len_op hx.lens
    rw [go_loop]
    generalize ([.seq fL8l1] : List Fr) = FF at *
    simp only [h0, h6, ↓hL, wk, wk1, wk2, Option.some.injEq, exists_eq_left', decide_true, decide_false, seval, go_regionPw, pw_normal]
    refine K _ s v ⟨?_, ?_, ?_⟩ hv hE h8 <;> simp only [h0, h1, h5, wk, wk1, wk2, Option.some.injEq, exists_eq_left', decide_true, decide_false, seval, go_regionPw, pw_normal]
  | succ m ih =>
    intro i e s v hm ⟨h0, h1, h5⟩ h6 hv hE h8
    have hi : i < L.length := by omega
    obtain ⟨u, hu⟩ : ∃ x, L[i]? = some x := ⟨_, List.getElem?_eq_getElem hi⟩
    have hum : u ∈ L := List.mem_of_getElem? hu
    obtain ⟨id, lo, inc', inc, lim, cap, ex, ro, cs, rfl, a1, a2, a3, a4, a5, a6, a7, a8, a9, a10⟩ := (hx.ext hE).at hu
    have hc : (i : Int) < (L.length : Int) := by omega
    have u5 : wrapF .i64 ((i : Int) + 1) = ((i + 1 : Nat) : Int) := i64_add1 (by omega)
    have hLn := len_op (hx.ok u hum).1.lens
    have c2 := (hx.ok u hum).2.2.1
    have c3 := cells_cellF c2
    have htk : L.take (i + 1) = L.take i ++ [u] := by rw [List.take_add_one, hu]; rfl
    rw [go_loop]
    by_cases hg : u.to.length ≤ 8
    · have hd : ¬ (8 : Int) < (u.to.length : Int) := by omega
      obtain ⟨v', s', ap, hv', hE'⟩ := Slc.app (more := [.int .u32 (u.at_ : Int), .int .i64 0, u.nx, .bool false]) hv hE rfl (by simp only [List.all_cons, List.all_nil, c2, isCell_int, isCell_bool]; rfl) (by omega) (by omega)
      simp only [h0, h1, h5, h6, hc, hi, hd, ↓hLn, a1, a2, a3, a4, a5, a6, a7, a8, a9, c2, c3, ap, u5, Nat.mul_one, wk, wk1, wk2, Option.some.injEq, exists_eq_left', decide_true, decide_false, seval, go_regionPw, pw_normal]
      refine ih (i + 1) _ s' v' (by omega) ⟨?_, ?_, ?_⟩ ?_ ?_ hE' ?_
      any_goals simp only [h0, h1, h5, h6, u5, wk, wk1, wk2, Option.some.injEq, exists_eq_left', decide_true, decide_false, seval, go_regionPw, pw_normal]
      · rw [htk]
        simpa [wnd, ND.cells] using hv'
      · intro n hn
        rw [htk] at hn
        rcases List.mem_append.1 hn with hn | hn
        · exact h8 n hn
        · rw [List.mem_singleton] at hn; rw [hn]; exact hg
    · have hd : (8 : Int) < (u.to.length : Int) := by omega
      generalize ([.seq fL8l1] : List Fr) = FF at *
      simp only [h0, h1, h5, h6, hc, hi, hd, ↓hLn, a1, a2, a3, a4, a5, a6, a7, a8, a9, c2, Nat.mul_one, wk, wk1, wk2, Option.some.injEq, exists_eq_left', decide_true, decide_false, seval, go_regionPw, pw_normal]
      refine goCall_by (haw s hE) ?_
      rintro v' s' rfl
      simp only [wk, wk1, wk2, Option.some.injEq, exists_eq_left', decide_true, decide_false, seval, go_regionPw, pw_normal]
      refine KA _ s' ?_
      simp only [wk, wk1, wk2, Option.some.injEq, exists_eq_left', decide_true, decide_false, seval, go_regionPw, pw_normal]
set_option maxHeartbeats 8000000 in
theorem flowReaches_ran (hc : T 3 = some (.code ir3)) (hT : ToldTab T) (hR : RefTab T) (hnu : T 6 = some (.code ir6)) {s : St} (hw : WFS s)
    (haw : ∀ s', Ext s s' → Ran T 5 [] s' fun v _ => v = .bool true) {x : AV} {L : List ND} (hx : NdR s x L) (f : Nat) :
    Ran T 3 [x, .int .u32 (f : Int)] s fun v _ => v = .bool true := by
  refine ran_code hc (Nat.le_of_ble_eq_true rfl) ?_
  generalize hQ : Fin _ _ = Q
  have hL := len_op hx.lens
  by_cases hlen : L.length ≤ 30
  · have hd : ¬ (30 : Int) < (L.length : Int) := by omega
    have hlp := fr_loop (T := T) (Q := Q) haw hx hlen f ?_ ?_ L.length 0
    · simp only [ir3, ↓hL, hd, wk, wk1, wk2, Option.some.injEq, exists_eq_left', decide_true, decide_false, seval, go_regionPw, pw_normal]
      refine hlp _ s .nilSlice (by omega) ⟨?_, ?_, ?_⟩ ?_ (Slc.nil _ _ _) (Ext.refl hw) (by simp)
      all_goals simp only [wk, wk1, wk2, Option.some.injEq, exists_eq_left', decide_true, decide_false, seval, go_regionPw, pw_normal]
    · intro e s' h4
      subst hQ
      simp only [ir3, h4, wk, wk1, wk2, Option.some.injEq, exists_eq_left', decide_true, decide_false, seval, go_regionPw, pw_normal]
    · rintro e s1 v ⟨h0, h1, h5⟩ hv hE1 h8
      have hn := hx.nds hlen h8
      have hW : NdS s1 v (L.map wnd) := by
        refine ⟨by simpa using hv.rd, fun n hm => ?_, by simpa using hlen⟩
        obtain ⟨n', hn', rfl⟩ := List.mem_map.1 hm
        exact ⟨(hx.ok n' hn').1.ext hE1, rfl, (hx.ok n' hn').2.2.1, rfl, h8 n' hn'⟩
      simp only [h0, h1, h5, wk, wk1, wk2, Option.some.injEq, exists_eq_left', decide_true, decide_false, seval, go_regionPw, pw_normal]
      refine goCall_by (Reach_ran hT hE1.1 f (hn.ext hE1)) ?_
      rintro r1 s2 ⟨hE2, l1, hU1, hP1⟩
      simp only [h0, h1, h5, wk, wk1, wk2, Option.some.injEq, exists_eq_left', decide_true, decide_false, seval, go_regionPw, pw_normal]
      refine goCall_by (refReach_ran hR hE2.1 f (hW.ext hE2)) ?_
      rintro r2 s3 ⟨hE3, l2, hU2, hP2⟩
      rw [gr_wnd] at hP2
      have e12 : l1 = l2 := rise_eq hP1.rise hP2.rise fun k => by rw [hP1.mem, hP2.mem]
      have b1 := hP1.len
      simp only [h0, h1, h5, wk, wk1, wk2, Option.some.injEq, exists_eq_left', decide_true, decide_false, seval, go_regionPw, pw_normal]
      refine goCall_by (num_ran hnu (hU1.ext hE3) hU2.rd (by omega)) ?_
      rintro r3 s4 ⟨rfl, rfl⟩
      simp only [h0, h1, h5, e12, wk, wk1, wk2, Option.some.injEq, exists_eq_left', decide_true, decide_false, seval, go_regionPw, pw_normal]
      refine goCall_by (Dead_ran hT hE3.1 f (hn.ext (hE1.trans (hE2.trans hE3)))) ?_
      rintro r4 s5 ⟨hE5, l3, hU3, hP3⟩
      simp only [h0, h1, h5, wk, wk1, wk2, Option.some.injEq, exists_eq_left', decide_true, decide_false, seval, go_regionPw, pw_normal]
      refine goCall_by (refDead_ran hR hE5.1 f (hW.ext (hE2.trans (hE3.trans hE5)))) ?_
      rintro r5 s6 ⟨hE6, l4, hU4, hP4⟩
      rw [gr_wnd] at hP4
      have e34 : l3 = l4 := rise_eq hP3.rise hP4.rise fun k => by rw [hP3.mem, hP4.mem]
      have b3 := hP3.len
      simp only [h0, h1, h5, wk, wk1, wk2, Option.some.injEq, exists_eq_left', decide_true, decide_false, seval, go_regionPw, pw_normal]
      refine goCall_by (num_ran hnu (hU3.ext hE6) hU4.rd (by omega)) ?_
      rintro r6 s7 ⟨rfl, rfl⟩
      simp only [h0, h1, h5, e34, wk, wk1, wk2, Option.some.injEq, exists_eq_left', decide_true, decide_false, seval, go_regionPw, pw_normal]
      refine goCall_by (haw _ (hE1.trans (hE2.trans (hE3.trans (hE5.trans hE6))))) ?_
      rintro r7 s8 rfl
      subst hQ
      simp only [ir3, wk, wk1, wk2, Option.some.injEq, exists_eq_left', decide_true, decide_false, seval, go_regionPw, pw_normal]
  · have hd : (30 : Int) < (L.length : Int) := by omega
    simp only [ir3, ↓hL, hd, wk, wk1, wk2, Option.some.injEq, exists_eq_left', decide_true, decide_false, seval, go_regionPw, pw_normal]
    refine goCall_by (haw s (Ext.refl hw)) ?_
    rintro r7 s8 rfl
    subst hQ
    simp only [ir3, wk, wk1, wk2, Option.some.injEq, exists_eq_left', decide_true, decide_false, seval, go_regionPw, pw_normal]
end
end Go.V
