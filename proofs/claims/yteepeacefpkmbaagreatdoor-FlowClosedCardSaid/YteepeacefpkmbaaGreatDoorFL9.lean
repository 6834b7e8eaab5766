/- The law FlowClosed. -/
import Derived.Test.YteepeacefpkmbaaGreatDoorVZ
import Derived.Test.YteepeacefpkmbaaGreatDoorFL8
set_option linter.unusedVariables false
set_option linter.unusedSimpArgs false
set_option linter.unusedSectionVars false
/- The law FlowClosed. -/
namespace Go.V
open Go
set_option linter.unusedSimpArgs false
set_option linter.unusedVariables false
section
open Z
abbrev fL9l8 : ICode := .region [(m 70 9),(o 71 (.bin .add t70 (I 1))),(m 9 71)] false
abbrev fL9l11 : ICode := .seq (R [(m 158 15),(o 159 (.un .not t158))]) (.cond t159 fL1l5 .skip)
abbrev fL9l0 : ICode := .loop (q (q (R [(m 25 5),(m 26 0),(o 27 (.lenSl t26)),(o 28 (.bin .lss t25 t27))]) (.cond t28 .skip (.exit 0))) (q (.block 1 (q (R [(m 31 0),(m 32 5),(ix 33 4 31 32),(f 34 2 33),(l 35 1 34),(o 36 (.lenSl t35)),(o 37 (.bin .gtr t36 (I 8)))]) (.cond t37 (q (R [(o 38 (.call 5 [])),(m 4 38)]) .ret) .skip))) (R [(m 29 5),(o 30 (.bin .add t29 (I 1))),(m 5 30)])))
abbrev fL9l10 : ICode := .seq (R [(m 161 0),(m 162 1),(o 163 (.call 12 [t161,t162])),(m 160 163),(x 164 160 0),(x 165 160 1),(o 19 (.alloc [(w 0),(i 0),.nilSlice,z])),(st 4 19 164),(m 20 165)]) (q (R [(m 166 6),(m 167 1),(o 168 (.call 11 [t166,t167])),(m 169 20),(o 170 (.eq false (.prim .bool) t168 t169)),(m 171 170),(og 172 171 true (.call 5 [])),(o 173 (.pick t171 t172 F)),(m 4 173)]) .ret)
abbrev fL9l1 : ICode := .loop (q (q (R [(m 45 8),(m 46 0),(o 47 (.lenSl t46)),(o 48 (.bin .lss t45 t47))]) (.cond t48 .skip (.exit 2))) (q (.block 3 (q (.regionP [(m 51 6),(m 52 0),(m 53 8),(ix 54 4 52 53),(f 55 0 54),(l 56 1 55),(m 58 7),(m 59 0),(m 60 8),(ix 61 4 59 60),(f 62 0 61),(l 63 1 62),⟨some 57,none,[t62],(.call 11 [t51,t56])⟩,(o 64 (.call 11 [t58,t63])),(o 65 (.eq false (.prim .bool) t57 t64))]) (.cond t65 fL1l5 .skip))) (R [(m 49 8),(o 50 (.bin .add t49 (I 1))),(m 8 50)])))
abbrev fL9l3 : ICode := .loop (q (q (R [(m 133 16),(m 134 6),(o 135 (.lenSl t134)),(o 136 (.bin .lss t133 t135))]) (.cond t136 .skip (.exit 8))) (q (.block 9 (q (R [(m 140 0),(m 141 6),(m 142 16),(ix 143 1 141 142),(l 144 1 143),(o 145 (.call 12 [t140,t144])),(m 139 145),(x 146 139 0),(x 147 139 1),(o 17 (.alloc [(w 0),(i 0),.nilSlice,z])),(st 4 17 146),(m 18 147)]) (.regionP [(m 148 15),(m 149 148),(og 150 149 false (.fieldAddr 2 t17)),(og 151 149 false (.load false 1 t150)),(og 152 149 false (.move t6)),(og 153 149 false (.move t9)),(og 154 149 false (.idxSl 1 t152 t153)),(og 155 149 false (.load false 1 t154)),(og 156 149 false (.call 11 [t151,t155])),(o 157 (.pick t149 T t156)),(m 15 157)]))) (R [(m 137 16),(o 138 (.bin .add t137 (I 1))),(m 16 138)])))
abbrev fL9l2 : ICode := .loop (q (q (R [(m 99 12),(f 100 2 10),(l 101 1 100),(o 102 (.lenSl t101)),(o 103 (.bin .lss t99 t102))]) (.cond t103 .skip (.exit 6))) (q (.block 7 (q (R [(m 107 0),(f 108 2 10),(l 109 1 108),(m 110 12),(ix 111 1 109 110),(l 112 1 111),(o 113 (.call 12 [t107,t112])),(m 106 113),(x 114 106 0),(x 115 106 1),(o 13 (.alloc [(w 0),(i 0),.nilSlice,z])),(st 4 13 114),(m 14 115)]) (q (R [(m 116 14),(m 117 116),(og 118 117 true (.move t6)),(og 119 117 true (.fieldAddr 2 t10)),(og 120 117 true (.load false 1 t119)),(og 121 117 true (.move t12)),(og 122 117 true (.idxSl 1 t120 t121)),(og 123 117 true (.load false 1 t122)),(og 124 117 true (.call 11 [t118,t123])),(og 125 117 true (.un .not t124)),(o 126 (.pick t117 t125 F))]) (.cond t126 fL1l5 .skip)))) (R [(m 104 12),(o 105 (.bin .add t104 (I 1))),(m 12 105)])))
abbrev fL9l7 : ICode := .seq (R [(m 127 6),(m 128 9),(ix 129 1 127 128),(l 130 1 129),(m 131 1),(o 132 (.bin .eql t130 t131)),(m 15 132)]) (q (q (R [(mi 16 0)]) (.block 8 fL9l3)) fL9l11)
abbrev fL9l9 : ICode := .seq (q (R [(m 66 9),(m 67 6),(o 68 (.lenSl t67)),(o 69 (.bin .lss t66 t68))]) (.cond t69 .skip (.exit 4))) (q (.block 5 (q (R [(m 73 0),(m 74 6),(m 75 9),(ix 76 1 74 75),(l 77 1 76),(o 78 (.call 12 [t73,t77])),(m 72 78),(x 79 72 0),(x 80 72 1),(o 10 (.alloc [(w 0),(i 0),.nilSlice,z])),(st 4 10 79),(m 11 80)]) (q (q (.region [(m 81 11),(o 82 (.un .not t81)),(m 83 82),(og 84 83 false (.move t9)),(og 85 83 false (.bin .gtr t84 (I 0))),(og 86 83 false (.move t85)),(og 87 86 true (.move t6)),(og 88 86 true (.move t9)),(og 89 86 true (.idxSl 1 t87 t88)),(og 90 86 true (.load false 1 t89)),(og 91 86 true (.move t6)),(og 92 86 true (.move t9)),(og 93 86 true (.bin .sub t92 (I 1))),(og 94 86 true (.idxSl 1 t91 t93)),(og 95 86 true (.load false 1 t94)),(og 96 86 true (.bin .leq t90 t95)),(og 97 83 false (.pick t86 t96 F)),(o 98 (.pick t83 T t97))] true) (.cond t98 fL1l5 .skip)) (q (q (R [(mi 12 0)]) (.block 6 fL9l2)) fL9l7)))) fL9l8)
abbrev fL9l4 : ICode := .loop fL9l9
abbrev fL9l6 : ICode := .seq (q (R [(mi 9 0)]) (.block 4 fL9l4)) fL9l10
abbrev fL9l5 : ICode := .seq (R [(m 39 0),(m 40 1),(o 41 (.call 7 [t39,t40])),(m 6 41)]) (q (R [(m 42 0),(m 43 1),(o 44 (.call 9 [t42,t43])),(m 7 44)]) (q (q (R [(mi 8 0)]) (.block 2 fL9l1)) fL9l6))
end
open Z in def ir4 : IFunc := ⟨174,[.tmp 4],(q (R [(o 4 (.move F))]) (q (q (R [(m 21 0),(o 22 (.lenSl t21)),(o 23 (.bin .gtr t22 (I 30)))]) (.cond t23 (q (R [(o 24 (.call 5 [])),(m 4 24)]) .ret) .skip)) (q (q (R [(mi 5 0)]) (.block 0 fL9l0)) fL9l5)))⟩
theorem U32.at' {s0 : St} {v : AV} {l : List Nat} (h : U32 s0 v l) {i x : Nat} (hx : l[i]? = some x) : ∃ id lo inc' inc lim cap ex ro cs, v = .slice ⟨id, 0, inc, lim⟩ l.length cap ex 1 ∧ (∀ s, Ext s0 s → s.heap.get id = some (.cells cs lo inc' ro)) ∧ lo ≤ inc ∧ inc ≤ inc' ∧ i + 1 ≤ lim ∧ (cs.drop i).take 1 = [.int .u32 (x : Int)] ∧ i < l.length := by
  have hid : ∀ {id lo inc' inc lim cap ex ro cs}, v = .slice ⟨id, 0, inc, lim⟩ l.length cap ex 1 → s0.heap.get id = some (.cells cs lo inc' ro) → id < s0.next := by
    intro id lo inc' inc lim cap ex ro cs e _
    obtain ⟨_, ⟨_, h | h⟩ | ⟨id2, _, _, _, _, _, _, _, _, e2, h2, _⟩⟩ := h
    · rw [h] at e; cases e
    · rw [h] at e; cases e
    · rw [e2] at e; cases e; exact h2
  obtain ⟨id, lo, inc', inc, lim, cap, ex, ro, cs, h1, h2, h3, h4, h5, h6, h7⟩ := U32.at h hx
  exact ⟨id, lo, inc', inc, lim, cap, ex, ro, cs, h1, fun s hE => by rw [hE.2.2 id (hid h1 h2)]; exact h2, h3, h4, h5, h6, h7⟩
structure ClE (e : Env) (x r d : AV) (f : Nat) : Prop where
  h0 : opd e (.t 0) = x
  h1 : opd e (.t 1) = .int .u32 (f : Int)
  h6 : opd e (.t 6) = r
  h7 : opd e (.t 7) = d
section
variable {T : Tab}
set_option maxHeartbeats 8000000 in
theorem cl0_loop {Q : Post} {s0 : St} (haw : ∀ s', Ext s0 s' → Ran T 5 [] s' fun v _ => v = .bool true) {x : AV} {L : List ND} (hx : NdR s0 x L) (hlen : L.length ≤ 30) (f : Nat)
    (KA : ∀ (e : Env) (s : St), opd e (.t 4) = .bool true → Ret T Q [.seq fL9l5] .ret e s)
    (K : ∀ (e : Env), opd e (.t 0) = x → opd e (.t 1) = .int .u32 (f : Int) → (∀ n ∈ L, n.to.length ≤ 8) → Ret T Q [.seq fL9l5] .normal e s0) (hw : WFS s0) :
    ∀ (m i : Nat) (e : Env), m + i = L.length → opd e (.t 0) = x → opd e (.t 1) = .int .u32 (f : Int) → opd e (.t 5) = .int .i64 (i : Int) → (∀ n ∈ L.take i, n.to.length ≤ 8) →
      Go T Q (fL9l0) [.block 0, .seq fL9l5] e s0 := by
  intro m
  induction m with
  | zero =>
    intro i e hm h0 h1 h5 h8
    have hin : i = L.length := by omega
    subst hin
    rw [List.take_length] at h8
    have hL := len_op hx.lens
    rw [go_loop]
    generalize ([.seq fL9l5] : List Fr) = FF at *
    simp only [h0, h5, ↓hL, wk, wk1, wk2, Option.some.injEq, exists_eq_left', decide_true, decide_false, seval, go_regionPw, pw_normal]
    refine K _ ?_ ?_ h8 <;> simp only [h0, h1, wk, wk1, wk2, Option.some.injEq, exists_eq_left', decide_true, decide_false, seval, go_regionPw, pw_normal]
  | succ m ih =>
    intro i e hm h0 h1 h5 h8
    have hi : i < L.length := by omega
    obtain ⟨u, hu⟩ : ∃ x, L[i]? = some x := ⟨_, List.getElem?_eq_getElem hi⟩
    have hum : u ∈ L := List.mem_of_getElem? hu
    obtain ⟨id, lo, inc', inc, lim, cap, ex, ro, cs, rfl, a1, a2, a3, a4, a5, a6, a7, a8, a9, a10⟩ := hx.at hu
    have hc : (i : Int) < (L.length : Int) := by omega
    have u5 : wrapF .i64 ((i : Int) + 1) = ((i + 1 : Nat) : Int) := i64_add1 (by omega)
    have hLn := len_op (hx.ok u hum).1.lens
    have htk : L.take (i + 1) = L.take i ++ [u] := by rw [List.take_add_one, hu]; rfl
    rw [go_loop]
    by_cases hg : u.to.length ≤ 8
    · have hd : ¬ (8 : Int) < (u.to.length : Int) := by omega
      simp only [h0, h1, h5, hc, hi, hd, ↓hLn, a1, a2, a3, a4, a5, a6, a7, a8, a9, u5, Nat.mul_one, wk, wk1, wk2, Option.some.injEq, exists_eq_left', decide_true, decide_false, seval, go_regionPw, pw_normal]
      refine ih (i + 1) _ (by omega) ?_ ?_ ?_ ?_
      any_goals simp only [h0, h1, h5, u5, wk, wk1, wk2, Option.some.injEq, exists_eq_left', decide_true, decide_false, seval, go_regionPw, pw_normal]
      intro n hn
      rw [htk] at hn
      rcases List.mem_append.1 hn with hn | hn
      · exact h8 n hn
      · rw [List.mem_singleton] at hn; rw [hn]; exact hg
    · have hd : (8 : Int) < (u.to.length : Int) := by omega
      generalize ([.seq fL9l5] : List Fr) = FF at *
      simp only [h0, h1, h5, hc, hi, hd, ↓hLn, a1, a2, a3, a4, a5, a6, a7, a8, a9, Nat.mul_one, wk, wk1, wk2, Option.some.injEq, exists_eq_left', decide_true, decide_false, seval, go_regionPw, pw_normal]
      refine goCall_by (haw s0 (Ext.refl hw)) ?_
      rintro v' s' rfl
      simp only [wk, wk1, wk2, Option.some.injEq, exists_eq_left', decide_true, decide_false, seval, go_regionPw, pw_normal]
      refine KA _ s' ?_
      simp only [wk, wk1, wk2, Option.some.injEq, exists_eq_left', decide_true, decide_false, seval, go_regionPw, pw_normal]
set_option maxHeartbeats 8000000 in
theorem cl1_loop (hha : T 11 = some (.code ir11)) {Q : Post} {s : St} {x r d : AV} {L : List ND} {l1 l2 : List Nat} (hx : NdS s x L) (f : Nat) (hr : U32 s r l1) (hP : ReachP (gr L) f l1) (hd : U32 s d l2) (hD : DeadP (gr L) f l2)
    (K : ∀ (e : Env), ClE e x r d f → Ret T Q [.seq fL9l6] .normal e s) :
    ∀ (m i : Nat) (e : Env), m + i = L.length → ClE e x r d f → opd e (.t 8) = .int .i64 (i : Int) →
      Go T Q (fL9l1) [.block 2, .seq fL9l6] e s := by
  have hlen := hx.len
  have hl1 := hP.len
  have hl2 := hD.len
  intro m
  induction m with
  | zero =>
    intro i e hm ⟨h0, h1, h6, h7⟩ h8
    have hin : i = L.length := by omega
    subst hin
    have hL := len_op hx.lens
    rw [go_loop]
    generalize ([.seq fL9l6] : List Fr) = FF at *
    simp only [h0, h8, ↓hL, wk, wk1, wk2, Option.some.injEq, exists_eq_left', decide_true, decide_false, seval, go_regionPw, pw_normal]
    refine K _ ⟨?_, ?_, ?_, ?_⟩ <;> simp only [h0, h1, h6, h7, wk, wk1, wk2, Option.some.injEq, exists_eq_left', decide_true, decide_false, seval, go_regionPw, pw_normal]
  | succ m ih =>
    intro i e hm ⟨h0, h1, h6, h7⟩ h8
    have hi : i < L.length := by omega
    obtain ⟨u, hu⟩ : ∃ x, L[i]? = some x := ⟨_, List.getElem?_eq_getElem hi⟩
    obtain ⟨id, lo, inc', inc, lim, cap, ex, ro, cs, rfl, a1, a2, a3, a4, a5, a6, a7, a8, a9, a10, a11⟩ := hx.at hu
    have hc : (i : Int) < (L.length : Int) := by omega
    have u5 : wrapF .i64 ((i : Int) + 1) = ((i + 1 : Nat) : Int) := i64_add1 (by omega)
    have hat : u.at_ ∈ (gr L).map (·.1) := List.mem_map.2 ⟨(u.at_, u.to), List.mem_map.2 ⟨u, List.mem_of_getElem? hu, rfl⟩, rfl⟩
    have hne : (decide (u.at_ ∈ l1) == decide (u.at_ ∈ l2)) = false := by
      by_cases h : u.at_ ∈ l1
      · have h' : u.at_ ∉ l2 := fun k => ((hD.mem _).1 k).2 ((hP.mem _).1 h)
        simp [h, h']
      · have h' : u.at_ ∈ l2 := (hD.mem _).2 ⟨hat, fun k => h ((hP.mem _).2 k)⟩
        simp [h, h']
    rw [go_loop]
    simp only [h0, h1, h6, h7, h8, hc, hi, a1, a2, a3, a4, a5, a6, a7, a8, a9, Nat.mul_one, wk, wk1, wk2, Option.some.injEq, exists_eq_left', decide_true, decide_false, seval, go_regionPw, pw_normal]
    refine goCall ((has_ran hha u.at_ hr (by omega)).mono ?_)
    rintro v s' ⟨rfl, rfl⟩
    refine ⟨by simp only [watch_cons, watch_nil, wat_ptr, opdt_set, reduceIte, a1, sameObj_refl, Nat.reduceEqDiff, Bool.and_self], ?_⟩
    simp only [h0, h1, h6, h7, h8, hc, hi, a1, a2, a3, a4, a5, a6, a7, a8, a9, Nat.mul_one, wk, wk1, wk2, Option.some.injEq, exists_eq_left', decide_true, decide_false, seval, go_regionPw, pw_normal]
    refine goCall_by (has_ran hha u.at_ hd (by omega)) ?_
    rintro v s'' ⟨rfl, rfl⟩
    simp only [h0, h1, h6, h7, h8, eqV_bool, hne, u5, wk, wk1, wk2, Option.some.injEq, exists_eq_left', decide_true, decide_false, seval, go_regionPw, pw_normal]
    refine ih (i + 1) _ (by omega) ⟨?_, ?_, ?_, ?_⟩ ?_ <;> simp only [h0, h1, h6, h7, h8, u5, wk, wk1, wk2, Option.some.injEq, exists_eq_left', decide_true, decide_false, seval, go_regionPw, pw_normal]
set_option maxHeartbeats 8000000 in
theorem cl3_loop (hno : T 12 = some (.code ir12)) (hha : T 11 = some (.code ir11)) {Q : Post} {s0 : St} {x r d : AV} {L : List ND} {l1 : List Nat} (hx : NdS s0 x L) (f : Nat) (hr : U32 s0 r l1) (hP : ReachP (gr L) f l1) (i b a : Nat) (n : ND) (hn : n ∈ L) (hna : fnd (gr L) a = some n.to) (ha : a ∈ l1)
    (K : ∀ (e : Env) (s : St), ClE e x r d f → opd e (.t 9) = .int .i64 (i : Int) → Ext s0 s → Ret T Q [.seq fL9l7, .block 5, .seq fL9l8, .loop fL9l9, .block 4, .seq fL9l10] .normal e s) :
    ∀ (m k : Nat) (e : Env) (s : St), m + k = n.to.length → ClE e x r d f → opd e (.t 9) = .int .i64 (i : Int) → opd e (.t 10) = .ptr ⟨b, 0, 0, 4⟩ → opd e (.t 12) = .int .i64 (k : Int) → s.heap.get b = some (.cells [.int .u32 (n.at_ : Int), n.w, n.nx, n.op] 0 0 false) → b < s.next → Ext s0 s →
      Go T Q (fL9l2) [.block 6, .seq fL9l7, .block 5, .seq fL9l8, .loop fL9l9, .block 4, .seq fL9l10] e s := by
  have hlen := hx.len
  have hl1 := hP.len
  have d0 := hx.ok n hn
  have hto := d0.len
  intro m
  induction m with
  | zero =>
    intro k e s hm ⟨h0, h1, h6, h7⟩ h9 h10 h12 hb hbs hE
    have hin : k = n.to.length := by omega
    subst hin
    have hL := len_op d0.rd.lens
    rw [go_loop]
    generalize ([.seq fL9l7, .block 5, .seq fL9l8, .loop fL9l9, .block 4, .seq fL9l10] : List Fr) = FF at *
    simp only [h10, h12, hb, ↓hL, wk, wk1, wk2, Option.some.injEq, exists_eq_left', decide_true, decide_false, seval, go_regionPw, pw_normal]
    refine K _ s ⟨?_, ?_, ?_, ?_⟩ ?_ hE <;> simp only [h0, h1, h6, h7, h9, wk, wk1, wk2, Option.some.injEq, exists_eq_left', decide_true, decide_false, seval, go_regionPw, pw_normal]
  | succ m ih =>
    intro k e s hm ⟨h0, h1, h6, h7⟩ h9 h10 h12 hb hbs hE
    have hk : k < n.to.length := by omega
    obtain ⟨u, hu⟩ : ∃ x, n.to[k]? = some x := ⟨_, List.getElem?_eq_getElem hk⟩
    have hum : u ∈ n.to := List.mem_of_getElem? hu
    obtain ⟨id, lo, inc', inc, lim, cap, ex, ro, cs, hnx, a1, a2, a3, a4, a5, a6⟩ := d0.rd.at' hu
    have a1s := a1 s hE
    have hb0 := hb
    rw [hnx] at hb
    have hc : (k : Int) < (n.to.length : Int) := by omega
    have u5 : wrapF .i64 ((k : Int) + 1) = ((k + 1 : Nat) : Int) := i64_add1 (by omega)
    rw [go_loop]
    simp only [h0, h1, h6, h7, h9, h10, h12, hb, hc, hk, a1s, a2, a3, a4, a5, Nat.mul_one, wk, wk1, wk2, Option.some.injEq, exists_eq_left', decide_true, decide_false, seval, go_regionPw, pw_normal]
    refine goCall_by (node_ran hno hE.1 u (hx.ext hE)) ?_
    rintro v s1 ⟨hE1, ⟨rfl, hnone⟩ | ⟨n2, rfl, hn2, hyes⟩⟩
    · simp only [h0, h1, h6, h7, h9, h10, h12, u5, wk, wk1, wk2, Option.some.injEq, exists_eq_left', decide_true, decide_false, seval, go_regionPw, pw_normal]
      refine ih (k + 1) _ _ (by omega) ⟨?_, ?_, ?_, ?_⟩ ?_ ?_ ?_ ?_ ?_ ((hE.trans hE1).add _)
      any_goals simp only [h0, h1, h6, h7, h9, h10, h12, u5, wk, wk1, wk2, Option.some.injEq, exists_eq_left', decide_true, decide_false, seval, go_regionPw, pw_normal]
      · have := hE1.2.1
        rw [if_neg (by omega), hE1.2.2 b hbs]; exact hb0
      · have := hE1.2.1; omega
    · have hul : u ∈ l1 := (hP.mem u).2 (.step ((hP.mem a).1 ha) hna hum hyes)
      have d2 := hx.ok n2 hn2
      have c1 := d2.cw
      have c2 := d2.cn
      have c3 := d2.co
      have n1 : ¬ b = s1.next := by have := hE1.2.1; omega
      have hb1 : s1.heap.get b = some (.cells [.int .u32 (n.at_ : Int), n.w, .slice ⟨id, 0, inc, lim⟩ n.to.length cap ex 1, n.op] 0 0 false) := by rw [hE1.2.2 b hbs]; exact hb
      have hE2 : Ext s0 (s1.add (.cells [.int .u32 (n2.at_ : Int), n2.w, n2.nx, n2.op] 0 0 false)) := (hE.trans hE1).add _
      have a1t := a1 _ hE2
      have n2' : ¬ id = s1.next ∨ True := .inr trivial
      have a1u := a1 _ (hE.trans hE1)
      have n3 : ¬ id = s1.next := fun h => by
        have hw := hE1.1 s1.next (Nat.le_refl _)
        rw [← h, a1u] at hw; cases hw
      simp only [ND.cells, h0, h1, h6, h7, h9, h10, h12, hb1, n1, n3, hk, a1u, a2, a3, a4, a5, c1, c2, c3, Nat.mul_one, wk, wk1, wk2, Option.some.injEq, exists_eq_left', decide_true, decide_false, seval, go_regionPw, pw_normal]
      refine goCall_by (has_ran hha u (hr.ext hE2) (by omega)) ?_
      rintro v s3 ⟨rfl, rfl⟩
      have hdu : decide (u ∈ l1) = true := dec_t hul
      simp only [h0, h1, h6, h7, h9, h10, h12, hdu, u5, wk, wk1, wk2, Option.some.injEq, exists_eq_left', decide_true, decide_false, seval, go_regionPw, pw_normal]
      refine ih (k + 1) _ _ (by omega) ⟨?_, ?_, ?_, ?_⟩ ?_ ?_ ?_ ?_ ?_ hE2
      any_goals simp only [h0, h1, h6, h7, h9, h10, h12, u5, wk, wk1, wk2, Option.some.injEq, exists_eq_left', decide_true, decide_false, seval, go_regionPw, pw_normal]
      · rw [if_neg n1, hE1.2.2 b hbs]; exact hb0
      · have := hE1.2.1; omega
set_option maxHeartbeats 8000000 in
theorem cl4_loop (hno : T 12 = some (.code ir12)) (hha : T 11 = some (.code ir11)) {Q : Post} {s0 : St} {x r d : AV} {L : List ND} {l1 : List Nat} (hx : NdS s0 x L) (f : Nat) (hr : U32 s0 r l1) (hP : ReachP (gr L) f l1) (i a : Nat) (hi : l1[i]? = some a)
    (K : ∀ (e : Env) (s : St), ClE e x r d f → opd e (.t 9) = .int .i64 (i : Int) → opd e (.t 15) = .bool true → Ext s0 s → Ret T Q [.seq fL9l11, .block 5, .seq fL9l8, .loop fL9l9, .block 4, .seq fL9l10] .normal e s) :
    ∀ (m k : Nat) (e : Env) (s : St) (g : Bool), m + k = l1.length → ClE e x r d f → opd e (.t 9) = .int .i64 (i : Int) → opd e (.t 15) = .bool g → opd e (.t 16) = .int .i64 (k : Int) → Ext s0 s → ((a = f ∨ ∃ c ∈ l1.take k, ∃ t, fnd (gr L) c = some t ∧ a ∈ t) → g = true) →
      Go T Q (fL9l3) [.block 8, .seq fL9l11, .block 5, .seq fL9l8, .loop fL9l9, .block 4, .seq fL9l10] e s := by
  have hlen := hx.len
  have hl1 := hP.len
  intro m
  induction m with
  | zero =>
    intro k e s g hm ⟨h0, h1, h6, h7⟩ h9 h15 h16 hE hg
    have hin : k = l1.length := by omega
    subst hin
    rw [List.take_length] at hg
    have hgt : g = true := by
      apply hg
      cases (hP.mem a).1 (List.mem_of_getElem? hi) with
      | base h => exact .inl rfl
      | step h1 h2 h3 h4 => exact .inr ⟨_, (hP.mem _).2 h1, _, h2, h3⟩
    have hL := len_op hr.lens
    rw [go_loop]
    generalize ([.seq fL9l11, .block 5, .seq fL9l8, .loop fL9l9, .block 4, .seq fL9l10] : List Fr) = FF at *
    simp only [h6, h16, ↓hL, wk, wk1, wk2, Option.some.injEq, exists_eq_left', decide_true, decide_false, seval, go_regionPw, pw_normal]
    refine K _ s ⟨?_, ?_, ?_, ?_⟩ ?_ ?_ hE <;> simp only [h0, h1, h6, h7, h9, h15, hgt, wk, wk1, wk2, Option.some.injEq, exists_eq_left', decide_true, decide_false, seval, go_regionPw, pw_normal]
  | succ m ih =>
    intro k e s g hm ⟨h0, h1, h6, h7⟩ h9 h15 h16 hE hg
    have hk : k < l1.length := by omega
    obtain ⟨u, hu⟩ : ∃ x, l1[k]? = some x := ⟨_, List.getElem?_eq_getElem hk⟩
    have hum : u ∈ l1 := List.mem_of_getElem? hu
    obtain ⟨id, lo, inc', inc, lim, cap, ex, ro, cs, rfl, a1, a2, a3, a4, a5, a6⟩ := hr.at' hu
    obtain ⟨id', lo', inc2', inc', lim', cap', ex', ro', cs', he', b1, b2, b3, b4, b5, b6⟩ := hr.at' hi
    cases he'
    have a1s := a1 s hE
    have hcs := (a1 s hE).symm.trans (b1 s hE)
    cases hcs
    have hc : (k : Int) < (l1.length : Int) := by omega
    have u5 : wrapF .i64 ((k : Int) + 1) = ((k + 1 : Nat) : Int) := i64_add1 (by omega)
    have htk : l1.take (k + 1) = l1.take k ++ [u] := by rw [List.take_add_one, hu]; rfl
    rw [go_loop]
    simp only [h0, h1, h6, h7, h9, h15, h16, hc, hk, a1s, a2, a3, a4, a5, Nat.mul_one, wk, wk1, wk2, Option.some.injEq, exists_eq_left', decide_true, decide_false, seval, go_regionPw, pw_normal]
    refine goCall_by (node_ran hno hE.1 u (hx.ext hE)) ?_
    rintro v s1 ⟨hE1, ⟨rfl, hnone⟩ | ⟨n2, rfl, hn2, hyes⟩⟩
    · obtain ⟨t, ht⟩ := ((hP.mem u).1 hum).node
      rw [hnone] at ht; cases ht
    · have d2 := hx.ok n2 hn2
      have c1 := d2.cw
      have c2 := d2.cn
      have c3 := d2.co
      have hto := d2.len
      have hE2 : Ext s0 (s1.add (.cells [.int .u32 (n2.at_ : Int), n2.w, n2.nx, n2.op] 0 0 false)) := (hE.trans hE1).add _
      have a1u := a1 _ (hE.trans hE1)
      have n3 : ¬ id = s1.next := fun h => by
        have hw := hE1.1 s1.next (Nat.le_refl _)
        rw [← h, a1u] at hw; cases hw
      have hstep : ∀ g' : Bool, (g = true → g' = true) → (a ∈ n2.to → g' = true) → ((a = f ∨ ∃ c ∈ l1.take (k + 1), ∃ t, fnd (gr L) c = some t ∧ a ∈ t) → g' = true) := by
        rintro g' q1 q2 (h | ⟨c, hcm, t, ht, hat⟩)
        · exact q1 (hg (.inl h))
        · rw [htk] at hcm
          rcases List.mem_append.1 hcm with hcm | hcm
          · exact q1 (hg (.inr ⟨c, hcm, t, ht, hat⟩))
          · rw [List.mem_singleton] at hcm
            subst hcm
            rw [hyes] at ht; cases ht
            exact q2 hat
      cases g with
      | true =>
        simp only [ND.cells, h0, h1, h6, h7, h9, h15, h16, c1, c2, c3, u5, wk, wk1, wk2, Option.some.injEq, exists_eq_left', decide_true, decide_false, seval, go_regionPw, pw_normal]
        refine ih (k + 1) _ _ true (by omega) ⟨?_, ?_, ?_, ?_⟩ ?_ ?_ ?_ hE2 (fun _ => rfl)
        any_goals simp only [h0, h1, h6, h7, h9, h15, h16, u5, wk, wk1, wk2, Option.some.injEq, exists_eq_left', decide_true, decide_false, seval, go_regionPw, pw_normal]
      | false =>
        simp only [ND.cells, h0, h1, h6, h7, h9, h15, h16, n3, hk, a1u, a2, a3, b4, b5, b6, c1, c2, c3, Nat.mul_one, wk, wk1, wk2, Option.some.injEq, exists_eq_left', decide_true, decide_false, seval, go_regionPw, pw_normal]
        refine goCall_by (has_ran hha a (d2.rd.ext hE2) (by omega)) ?_
        rintro v s3 ⟨rfl, rfl⟩
        simp only [h0, h1, h6, h7, h9, h15, h16, u5, wk, wk1, wk2, Option.some.injEq, exists_eq_left', decide_true, decide_false, seval, go_regionPw, pw_normal]
        refine ih (k + 1) _ _ (decide (a ∈ n2.to)) (by omega) ⟨?_, ?_, ?_, ?_⟩ ?_ ?_ ?_ hE2 (hstep _ (fun h => by cases h) (fun h => dec_t h))
        any_goals simp only [h0, h1, h6, h7, h9, h15, h16, u5, wk, wk1, wk2, Option.some.injEq, exists_eq_left', decide_true, decide_false, seval, go_regionPw, pw_normal]
set_option maxHeartbeats 8000000 in
theorem cl2_loop (hno : T 12 = some (.code ir12)) (hha : T 11 = some (.code ir11)) {Q : Post} {s0 : St} {x r d : AV} {L : List ND} {l1 : List Nat} (hx : NdS s0 x L) (f : Nat) (hr : U32 s0 r l1) (hP : ReachP (gr L) f l1)
    (K : ∀ (e : Env) (s : St), ClE e x r d f → Ext s0 s → Ret T Q [.seq fL9l10] .normal e s) :
    ∀ (m i : Nat) (e : Env) (s : St), m + i = l1.length → ClE e x r d f → opd e (.t 9) = .int .i64 (i : Int) → Ext s0 s →
      Go T Q (fL9l4) [.block 4, .seq fL9l10] e s := by
  have hlen := hx.len
  have hl1 := hP.len
  intro m
  induction m with
  | zero =>
    intro i e s hm ⟨h0, h1, h6, h7⟩ h9 hE
    have hin : i = l1.length := by omega
    subst hin
    have hL := len_op hr.lens
    rw [go_loop]
    generalize ([.seq fL9l10] : List Fr) = FF at *
    simp only [h6, h9, ↓hL, wk, wk1, wk2, Option.some.injEq, exists_eq_left', decide_true, decide_false, seval, go_regionPw, pw_normal]
    refine K _ s ⟨?_, ?_, ?_, ?_⟩ hE <;> simp only [h0, h1, h6, h7, wk, wk1, wk2, Option.some.injEq, exists_eq_left', decide_true, decide_false, seval, go_regionPw, pw_normal]
  | succ m ih =>
    intro i e s hm ⟨h0, h1, h6, h7⟩ h9 hE
    have hi : i < l1.length := by omega
    obtain ⟨a, ha⟩ : ∃ x, l1[i]? = some x := ⟨_, List.getElem?_eq_getElem hi⟩
    have ham : a ∈ l1 := List.mem_of_getElem? ha
    obtain ⟨id, lo, inc', inc, lim, cap, ex, ro, cs, hre, a1, a2, a3, a4, a5, a6⟩ := hr.at' ha
    have a1s := a1 s hE
    have hc : (i : Int) < (l1.length : Int) := by omega
    have u5 : wrapF .i64 ((i : Int) + 1) = ((i + 1 : Nat) : Int) := i64_add1 (by omega)
    have h6' := h6
    rw [hre] at h6'
    rw [go_loop]
    simp only [h0, h1, h6', h7, h9, hc, hi, a1s, a2, a3, a4, a5, Nat.mul_one, wk, wk1, wk2, Option.some.injEq, exists_eq_left', decide_true, decide_false, seval, go_regionPw, pw_normal]
    refine goCall_by (node_ran hno hE.1 a (hx.ext hE)) ?_
    rintro v s1 ⟨hE1, ⟨rfl, hnone⟩ | ⟨n, rfl, hn, hyes⟩⟩
    · obtain ⟨t, ht⟩ := ((hP.mem a).1 ham).node
      rw [hnone] at ht; cases ht
    · have d2 := hx.ok n hn
      have c1 := d2.cw
      have c2 := d2.cn
      have c3 := d2.co
      have hEa := hE.trans hE1
      have hE2 : Ext s0 (s1.add (.cells [.int .u32 (n.at_ : Int), n.w, n.nx, n.op] 0 0 false)) := hEa.add _
      have a1u := a1 _ hEa
      have n3 : ¬ id = s1.next := fun h => by
        have hw := hE1.1 s1.next (Nat.le_refl _)
        rw [← h, a1u] at hw; cases hw
      -- what stands before the two loops
      have l4 : ∀ (e : Env) (s : St), ClE e x r d f → opd e (.t 9) = .int .i64 (i : Int) → opd e (.t 15) = .bool true → Ext s0 s → Ret T Q [.seq fL9l11, .block 5, .seq fL9l8, .loop fL9l9, .block 4, .seq fL9l10] .normal e s := by
        rintro e s ⟨g0, g1, g6, g7⟩ g9 g15 gE
        simp only [g0, g1, g6, g7, g9, g15, u5, wk, wk1, wk2, Option.some.injEq, exists_eq_left', decide_true, decide_false, seval, go_regionPw, pw_normal]
        refine ih (i + 1) _ s (by omega) ⟨?_, ?_, ?_, ?_⟩ ?_ gE <;> simp only [g0, g1, g6, g7, g9, u5, wk, wk1, wk2, Option.some.injEq, exists_eq_left', decide_true, decide_false, seval, go_regionPw, pw_normal]
      have l3 : ∀ (e : Env) (s : St), ClE e x r d f → opd e (.t 9) = .int .i64 (i : Int) → Ext s0 s → Ret T Q [.seq fL9l7, .block 5, .seq fL9l8, .loop fL9l9, .block 4, .seq fL9l10] .normal e s := by
        rintro e s ⟨g0, g1, g6, g7⟩ g9 gE
        have b1s := a1 s gE
        have hlp := cl4_loop (T := T) (Q := Q) hno hha hx f hr hP i a ha l4 l1.length 0
        have g6' := g6
        rw [hre] at g6'
        simp only [g0, g1, g6', g7, g9, hi, b1s, a2, a3, a4, a5, Nat.mul_one, wk, wk1, wk2, Option.some.injEq, exists_eq_left', decide_true, decide_false, seval, go_regionPw, pw_normal]
        refine hlp _ s (decide ((a : Int) = (f : Int))) (by omega) ⟨?_, ?_, ?_, ?_⟩ ?_ ?_ ?_ gE ?_
        any_goals simp only [g0, g1, g6', g7, g9, hre, wk, wk1, wk2, Option.some.injEq, exists_eq_left', decide_true, decide_false, seval, go_regionPw, pw_normal]
        rintro (h | ⟨c, hc, _⟩)
        · exact dec_t (by omega)
        · simp at hc
      have hlp := cl3_loop (T := T) (Q := Q) hno hha hx f hr hP i s1.next a n hn hyes ham l3 n.to.length 0
      by_cases hi0 : i = 0
      · subst hi0
        simp only [ND.cells, h0, h1, h6', h7, h9, hi, a1u, a2, a3, a4, a5, c1, c2, c3, n3, Int.natCast_zero, Nat.mul_one, wk, wk1, wk2, Option.some.injEq, exists_eq_left', decide_true, decide_false, seval, go_regionPw, pw_normal]
        refine hlp _ _ (by omega) ⟨?_, ?_, ?_, ?_⟩ ?_ ?_ ?_ ?_ ?_ hE2
        any_goals simp only [h0, h1, h6', h7, h9, hre, Int.natCast_zero, wk, wk1, wk2, Option.some.injEq, exists_eq_left', decide_true, decide_false, seval, go_regionPw, pw_normal]
        all_goals first | rfl | omega
      · have hip : (0 : Int) < (i : Int) := by omega
        obtain ⟨p, hp⟩ : ∃ x, l1[i - 1]? = some x := ⟨_, List.getElem?_eq_getElem (by omega)⟩
        have hlt : p < a := by
          obtain ⟨q1, q2⟩ := List.getElem?_eq_some_iff.1 hp
          obtain ⟨q3, q4⟩ := List.getElem?_eq_some_iff.1 ha
          rw [← q2, ← q4]
          exact List.pairwise_iff_getElem.1 hP.rise (i - 1) i q1 q3 (by omega)
        have hle : decide ((a : Int) ≤ (p : Int)) = false := dec_f (by omega)
        obtain ⟨id', lo', inc2', inc', lim', cap', ex', ro', cs', he', b1, b2, b3, b4, b5, b6⟩ := hr.at' hp
        rw [hre] at he'
        cases he'
        have hcs := (a1 s hE).symm.trans (b1 s hE)
        cases hcs
        have u6 : wrapF .i64 ((i : Int) - 1) = ((i - 1 : Nat) : Int) := i64_sub1 (by omega) (by omega)
        simp only [ND.cells, h0, h1, h6', h7, h9, hi, hip, hle, u6, a1u, a2, a3, a4, a5, b4, b5, b6, c1, c2, c3, n3, Nat.mul_one, wk, wk1, wk2, Option.some.injEq, exists_eq_left', decide_true, decide_false, seval, go_regionPw, pw_normal]
        refine hlp _ _ (by omega) ⟨?_, ?_, ?_, ?_⟩ ?_ ?_ ?_ ?_ ?_ hE2
        any_goals simp only [h0, h1, h6', h7, h9, hre, wk, wk1, wk2, Option.some.injEq, exists_eq_left', decide_true, decide_false, seval, go_regionPw, pw_normal]
        all_goals first | rfl | omega
set_option maxHeartbeats 8000000 in
theorem flowClosed_ran (hc : T 4 = some (.code ir4)) (hT : ToldTab T) (hno : T 12 = some (.code ir12)) (hha : T 11 = some (.code ir11)) {s : St} (hw : WFS s)
    (haw : ∀ s', Ext s s' → Ran T 5 [] s' fun v _ => v = .bool true) {x : AV} {L : List ND} (hx : NdR s x L) (f : Nat) :
    Ran T 4 [x, .int .u32 (f : Int)] s fun v _ => v = .bool true := by
  refine ran_code hc (Nat.le_of_ble_eq_true rfl) ?_
  generalize hQ : Fin _ _ = Q
  have hL := len_op hx.lens
  by_cases hlen : L.length ≤ 30
  · have hd : ¬ (30 : Int) < (L.length : Int) := by omega
    have hlp := cl0_loop (T := T) (Q := Q) haw hx hlen f ?_ ?_ hw L.length 0
    · simp only [ir4, ↓hL, hd, wk, wk1, wk2, Option.some.injEq, exists_eq_left', decide_true, decide_false, seval, go_regionPw, pw_normal]
      refine hlp _ (by omega) ?_ ?_ ?_ (by simp)
      all_goals simp only [wk, wk1, wk2, Option.some.injEq, exists_eq_left', decide_true, decide_false, seval, go_regionPw, pw_normal]
      all_goals rfl
    · intro e s' h4
      subst hQ
      simp only [ir4, h4, wk, wk1, wk2, Option.some.injEq, exists_eq_left', decide_true, decide_false, seval, go_regionPw, pw_normal]
    · intro e h0 h1 h8
      have hn := hx.nds hlen h8
      simp only [h0, h1, wk, wk1, wk2, Option.some.injEq, exists_eq_left', decide_true, decide_false, seval, go_regionPw, pw_normal]
      refine goCall_by (Reach_ran hT hw f hn) ?_
      rintro r s1 ⟨hE1, l1, hU1, hP1⟩
      simp only [h0, h1, wk, wk1, wk2, Option.some.injEq, exists_eq_left', decide_true, decide_false, seval, go_regionPw, pw_normal]
      refine goCall_by (Dead_ran hT hE1.1 f (hn.ext hE1)) ?_
      rintro d s2 ⟨hE2, l2, hU2, hP2⟩
      have b1 := hP1.len
      have hE := hE1.trans hE2
      have hn2 := hn.ext hE
      have k2 : ∀ (e : Env) (s' : St), ClE e x r d f → Ext s2 s' → Ret T Q [.seq fL9l10] .normal e s' := by
        rintro e s' ⟨g0, g1, g6, g7⟩ gE
        simp only [g0, g1, g6, g7, wk, wk1, wk2, Option.some.injEq, exists_eq_left', decide_true, decide_false, seval, go_regionPw, pw_normal]
        refine goCall_by (node_ran hno gE.1 f (hn2.ext gE)) ?_
        rintro v s3 ⟨hE3, hv⟩
        have fin : ∀ s4, Ext s3 s4 → Ext s s4 := fun s4 h => hE.trans (gE.trans (hE3.trans h))
        rcases hv with ⟨rfl, hnone⟩ | ⟨n, rfl, hnm, hyes⟩
        · have hnf : decide (f ∈ l1) = false := dec_f fun h => by
            obtain ⟨t, ht⟩ := ((hP1.mem f).1 h).node
            rw [hnone] at ht; cases ht
          simp only [g0, g1, g6, g7, wk, wk1, wk2, Option.some.injEq, exists_eq_left', decide_true, decide_false, seval, go_regionPw, pw_normal]
          refine goCall_by (has_ran hha f (((hU1.ext hE2).ext gE).ext (hE3.trans ((Ext.refl hE3.1).add (.cells [.int .u32 0, .int .i64 0, .nilSlice, .bool false] 0 0 false)))) (by omega)) ?_
          rintro v s4 ⟨rfl, rfl⟩
          simp only [g0, g1, g6, g7, hnf, eqV_bool, BEq.rfl, beq_self_eq_true, wk, wk1, wk2, Option.some.injEq, exists_eq_left', decide_true, decide_false, seval, go_regionPw, pw_normal]
          refine goCall_by (haw _ (fin _ ((Ext.refl hE3.1).add _))) ?_
          rintro v s5 rfl
          subst hQ
          simp only [ir4, wk, wk1, wk2, Option.some.injEq, exists_eq_left', decide_true, decide_false, seval, go_regionPw, pw_normal]
        · have d2 := hn2.ok n hnm
          have c1 := d2.cw
          have c2 := d2.cn
          have c3 := d2.co
          have hnf : decide (f ∈ l1) = true := dec_t ((hP1.mem f).2 (.base hyes))
          simp only [ND.cells, g0, g1, g6, g7, c1, c2, c3, wk, wk1, wk2, Option.some.injEq, exists_eq_left', decide_true, decide_false, seval, go_regionPw, pw_normal]
          refine goCall_by (has_ran hha f (((hU1.ext hE2).ext gE).ext (hE3.trans ((Ext.refl hE3.1).add (.cells [.int .u32 (n.at_ : Int), n.w, n.nx, n.op] 0 0 false)))) (by omega)) ?_
          rintro v s4 ⟨rfl, rfl⟩
          simp only [g0, g1, g6, g7, hnf, eqV_bool, BEq.rfl, beq_self_eq_true, wk, wk1, wk2, Option.some.injEq, exists_eq_left', decide_true, decide_false, seval, go_regionPw, pw_normal]
          refine goCall_by (haw _ (fin _ ((Ext.refl hE3.1).add _))) ?_
          rintro v s5 rfl
          subst hQ
          simp only [ir4, wk, wk1, wk2, Option.some.injEq, exists_eq_left', decide_true, decide_false, seval, go_regionPw, pw_normal]
      have k1 : ∀ (e : Env), ClE e x r d f → Ret T Q [.seq fL9l6] .normal e s2 := by
        rintro e ⟨g0, g1, g6, g7⟩
        have hl2 := cl2_loop (T := T) (Q := Q) hno hha hn2 f (hU1.ext hE2) hP1 k2 l1.length 0
        simp only [g0, g1, g6, g7, wk, wk1, wk2, Option.some.injEq, exists_eq_left', decide_true, decide_false, seval, go_regionPw, pw_normal]
        refine hl2 _ s2 (by omega) ⟨?_, ?_, ?_, ?_⟩ ?_ (Ext.refl hE2.1) <;> simp only [g0, g1, g6, g7, wk, wk1, wk2, Option.some.injEq, exists_eq_left', decide_true, decide_false, seval, go_regionPw, pw_normal]
      have hl1 := cl1_loop (T := T) (Q := Q) hha hn2 f (hU1.ext hE2) hP1 hU2 hP2 k1 L.length 0
      simp only [h0, h1, wk, wk1, wk2, Option.some.injEq, exists_eq_left', decide_true, decide_false, seval, go_regionPw, pw_normal]
      refine hl1 _ (by omega) ⟨?_, ?_, ?_, ?_⟩ ?_ <;> simp only [h0, h1, wk, wk1, wk2, Option.some.injEq, exists_eq_left', decide_true, decide_false, seval, go_regionPw, pw_normal]
  · have hd : (30 : Int) < (L.length : Int) := by omega
    simp only [ir4, ↓hL, hd, wk, wk1, wk2, Option.some.injEq, exists_eq_left', decide_true, decide_false, seval, go_regionPw, pw_normal]
    refine goCall_by (haw s (Ext.refl hw)) ?_
    rintro r7 s8 rfl
    subst hQ
    simp only [ir4, wk, wk1, wk2, Option.some.injEq, exists_eq_left', decide_true, decide_false, seval, go_regionPw, pw_normal]
end
end Go.V
