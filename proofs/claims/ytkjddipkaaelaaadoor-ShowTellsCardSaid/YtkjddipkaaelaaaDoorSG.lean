/- Rows that are read, rows that grow; packets. -/
import Derived.Test.YtkjddipkaaelaaaDoorSE
import Derived.Test.YtkjddipkaaelaaaDoorJoinH
import Derived.Test.YtkjddipkaaelaaaDoorVZ
set_option linter.unusedVariables false
set_option linter.unusedSimpArgs false
set_option linter.unusedSectionVars false
/- Rows that are read, rows that grow; packets. -/
/- Rows that are read, rows that grow; packets. -/
namespace Go.V
open Go
set_option linter.unusedSimpArgs false
set_option linter.unusedVariables false
/- what is read -/
def Lens (v : AV) (n : Nat) : Prop := (n = 0 ∧ (v = .nilSlice ∨ v = .empty)) ∨ ∃ a cap ex es, v = .slice a n cap ex es
theorem len_op {v : AV} {n : Nat} (hv : Lens v n) (T : Tab) (Q : Post) (fs : List Fr) (d : Bool) (l : List IOp) (dst : Option Nat) (w : List Opd) (x : Opd) (e : Env) (s : St) (h : opd e x = v) :
    GoOps T Q d (⟨dst, none, w, .lenSl x⟩ :: l) fs e s ↔ GoR T Q d dst w (.val (.int .i64 (n : Int)) s) l fs e s := by
  rw [wo_lenSl, h]
  rcases hv with ⟨rfl, rfl | rfl⟩ | ⟨a, cap, ex, es, rfl⟩
  · exact Iff.rfl
  · exact Iff.rfl
  · show GoR T Q d dst w (.val (mkInt .i64 n) s) l fs e s ↔ _
    rw [mkInt_eq]
def RdS (s : St) (es n : Nat) (v : AV) (xs : List AV) : Prop := xs.length = n * es ∧ ((n = 0 ∧ (v = .nilSlice ∨ v = .empty)) ∨ ∃ id lo inc' inc lim cap ex ro cs, v = .slice ⟨id, 0, inc, lim⟩ n cap ex es ∧ id < s.next ∧ s.heap.get id = some (.cells cs lo inc' ro) ∧ lo ≤ inc ∧ inc ≤ inc' ∧ n * es ≤ lim ∧ cs.take (n * es) = xs)
theorem RdS.lens {s : St} {es n : Nat} {v : AV} {xs : List AV} (h : RdS s es n v xs) : Lens v n := by
  obtain ⟨_, h | ⟨id, lo, inc', inc, lim, cap, ex, ro, cs, rfl, _⟩⟩ := h
  · exact .inl h
  · exact .inr ⟨_, _, _, _, rfl⟩
theorem RdS.ext {s s' : St} {es n : Nat} {v : AV} {xs : List AV} (h : RdS s es n v xs) (he : Ext s s') : RdS s' es n v xs := by
  obtain ⟨h0, h | ⟨id, lo, inc', inc, lim, cap, ex, ro, cs, h1, h2, h3, h4⟩⟩ := h
  · exact ⟨h0, .inl h⟩
  · exact ⟨h0, .inr ⟨id, lo, inc', inc, lim, cap, ex, ro, cs, h1, Nat.lt_of_lt_of_le h2 he.2.1, by rw [he.2.2 id h2]; exact h3, h4⟩⟩
theorem RdS.nil (s : St) (es : Nat) : RdS s es 0 .nilSlice [] := ⟨by simp, .inl ⟨rfl, .inl rfl⟩⟩
theorem RdS.more {s : St} {es n : Nat} {v : AV} {xs : List AV} (h : RdS s es n v xs) : moreV s es v = some xs := by
  obtain ⟨h0, ⟨rfl, h⟩ | ⟨id, lo, inc', inc, lim, cap, ex, ro, cs, rfl, h2, h3, h4, h5, h6, h7⟩⟩ := h
  · have : xs = [] := List.length_eq_zero_iff.1 (by simpa using h0)
    subst this
    rcases h with rfl | rfl <;> rfl
  · rw [more_sl, if_pos rfl, h3, rdCells_eq, if_pos ⟨h4, h5, by show 0 + n * es ≤ lim; omega⟩, List.drop_zero, h7]
theorem take_drop_take {α : Type} (l : List α) (m j k : Nat) (h : j + k ≤ m) : ((l.take m).drop j).take k = (l.drop j).take k := by
  rw [List.drop_take, List.take_take, Nat.min_eq_left (by omega)]
/-- An element of a row. -/
theorem RdS.at {s : St} {es n : Nat} {v : AV} {xs : List AV} (h : RdS s es n v xs) {i : Nat} (hi : i < n) : ∃ id lo inc' inc lim cap ex ro cs, v = .slice ⟨id, 0, inc, lim⟩ n cap ex es ∧ s.heap.get id = some (.cells cs lo inc' ro) ∧ lo ≤ inc ∧ inc ≤ inc' ∧ n * es ≤ lim ∧ (∀ j k, j + k ≤ n * es → (cs.drop j).take k = (xs.drop j).take k) := by
  obtain ⟨h0, ⟨rfl, h⟩ | ⟨id, lo, inc', inc, lim, cap, ex, ro, cs, rfl, h2, h3, h4, h5, h6, h7⟩⟩ := h
  · omega
  · refine ⟨id, lo, inc', inc, lim, cap, ex, ro, cs, rfl, h3, h4, h5, h6, fun j k hjk => ?_⟩
    rw [← h7, take_drop_take _ _ _ _ hjk]
def Slc (b : Nat) (s : St) (es n : Nat) (v : AV) (xs : List AV) : Prop := xs.length = n * es ∧ ((n = 0 ∧ v = .nilSlice) ∨ (0 < n ∧ ∃ id inc, v = .slice ⟨id, 0, inc, n * es⟩ n n false es ∧ b ≤ id ∧ id < s.next ∧ s.heap.get id = some (.cells xs 0 inc false) ∧ inc ≤ n))
theorem Slc.nil (b : Nat) (s : St) (es : Nat) : Slc b s es 0 .nilSlice [] := ⟨by simp, .inl ⟨rfl, rfl⟩⟩
theorem Slc.ext {b : Nat} {s s' : St} {es n : Nat} {v : AV} {xs : List AV} (h : Slc b s es n v xs) (he : Ext s s') : Slc b s' es n v xs := by
  obtain ⟨h1, h2 | ⟨h0, id, inc, h2, h3, h4, h5, h6⟩⟩ := h
  · exact ⟨h1, .inl h2⟩
  · exact ⟨h1, .inr ⟨h0, id, inc, h2, h3, Nat.lt_of_lt_of_le h4 he.2.1, by rw [he.2.2 id h4]; exact h5, h6⟩⟩
theorem Slc.app {s0 s : St} {es n : Nat} {v : AV} {xs more : List AV} (h : Slc s0.next s es n v xs) (he : Ext s0 s) (hm : more.length = es) (hc : more.all AV.isCell = true) (h0 : 0 < es) (hn : n < 1000000) :
    ∃ v' s', appendV (s.add (.cells more 0 0 false)) es v 1 more = some (v', s') ∧ Slc s0.next s' es (n + 1) v' (xs ++ more) ∧ Ext s0 s' ∧ s.next ≤ s'.next := by
  have hlim : (n + 1) * 65536 ≤ maxApp := by unfold maxApp; omega
  obtain ⟨h1, ⟨hn0, rfl⟩ | ⟨hn0, id, inc, rfl, h3, h4, h5, h6⟩⟩ := h
  · subst hn0
    have hx : xs = [] := List.length_eq_zero_iff.1 (by rw [h1]; omega)
    subst hx
    rw [app_nil, if_pos ⟨by omega, hc, h0⟩, if_neg (by omega), if_pos (by simpa using hlim)]
    refine ⟨_, _, rfl, ⟨by simp [hm], .inr ⟨by omega, s.next + 1, 0, rfl, ?_, ?_, ?_, by omega⟩⟩, (he.add _).add _, by show s.next ≤ s.next + 1 + 1; omega⟩
    · have := he.2.1; show s0.next ≤ s.next + 1; omega
    · show s.next + 1 < s.next + 1 + 1; omega
    · rw [add_get, if_pos (show s.next + 1 = (s.add (.cells more 0 0 false)).next from rfl)]; rfl
  · rw [app_slice, if_pos ⟨by omega, hc, h0⟩, if_neg (by omega), if_pos ⟨rfl, hlim⟩]
    have hg : (s.add (.cells more 0 0 false)).heap.get id = some (.cells xs 0 inc false) := by rw [add_get, if_neg (by omega)]; exact h5
    rw [hg, appObj_eq, if_neg (by omega), if_neg (by simp), if_pos ⟨rfl, rfl, by omega, by simp, .inl (Nat.div_eq_of_lt (by unfold tyBase; omega))⟩]
    have hp : 0 + n * es = xs.length := by omega
    simp only [hp, if_true, List.take_length]
    have hn1 : xs.length + more.length = (n + 1) * es := by rw [h1, hm, Nat.succ_mul]
    refine ⟨_, _, rfl, ⟨by simp [hn1], .inr ⟨by omega, id, inc + 1, by rw [hn1], h3, ?_, ?_, by omega⟩⟩, Ext.put (he.add _) h3 (by show id < s.next + 1; omega) _, by show s.next ≤ s.next + 1; omega⟩
    · show id < s.next + 1; omega
    · rw [put_get, if_pos rfl]
theorem take_w {α : Type} {f : α → List AV} {w : Nat} (hf : ∀ x, (f x).length = w) (l : List α) (i : Nat) (x : α) (h : l[i]? = some x) : List.take w (List.drop (i * w) (l.flatMap f)) = f x := by
  induction l generalizing i with
  | nil => simp at h
  | cons y l ih =>
    rw [List.flatMap_cons]
    cases i with
    | zero =>
      simp at h; subst h
      rw [Nat.zero_mul, List.drop_zero, List.take_append_of_le_length (by rw [hf]; omega), List.take_of_length_le (by rw [hf]; omega)]
    | succ i =>
      have h2 : (i + 1) * w = (f y).length + i * w := by rw [hf, Nat.succ_mul]; omega
      rw [h2, List.drop_append, Nat.add_sub_cancel_left, List.drop_eq_nil_of_le (by omega), List.nil_append]
      exact ih i (by simpa using h)
def RdI (s : St) (v : AV) (L : List In) : Prop := RdS s 11 L.length v (L.flatMap In.cells)
theorem RdI.ext {s s' : St} {v : AV} {L : List In} (h : RdI s v L) (he : Ext s s') : RdI s' v L := RdS.ext h he
theorem RdI.lens {s : St} {v : AV} {L : List In} (h : RdI s v L) : Lens v L.length := RdS.lens h
theorem RdI.at {s : St} {v : AV} {L : List In} (h : RdI s v L) {k : Nat} {i : In} (hx : L[k]? = some i) : ∃ id lo inc' inc lim cap ex ro cs, v = .slice ⟨id, 0, inc, lim⟩ L.length cap ex 11 ∧ s.heap.get id = some (.cells cs lo inc' ro) ∧ lo ≤ inc ∧ inc ≤ inc' ∧ k * 11 + 11 ≤ lim ∧ (cs.drop (k * 11)).take 11 = i.cells ∧ k < L.length := by
  have hi : k < L.length := (List.getElem?_eq_some_iff.1 hx).1
  obtain ⟨id, lo, inc', inc, lim, cap, ex, ro, cs, h1, h2, h3, h4, h5, h6⟩ := RdS.at h hi
  refine ⟨id, lo, inc', inc, lim, cap, ex, ro, cs, h1, h2, h3, h4, by omega, ?_, hi⟩
  rw [h6 _ _ (by omega)]
  exact take_w (f := In.cells) (w := 11) (fun _ => rfl) L k i hx
theorem joinT_snoc (sep : List UInt8) (x : List UInt8) : ∀ l, joinL.joinT sep (l ++ [x]) = joinL.joinT sep l ++ (sep ++ x)
  | [] => by simp [joinL.joinT]
  | y :: l => by simp only [List.cons_append, joinL.joinT, joinT_snoc sep x l, List.append_assoc]
theorem joinL_snoc (sep : List UInt8) (x : List UInt8) (l : List (List UInt8)) : joinL sep (l ++ [x]) = if l = [] then x else joinL sep l ++ (sep ++ x) := by
  cases l with
  | nil => simp [joinL, joinL.joinT]
  | cons y l => simp only [List.cons_append, joinL, joinT_snoc, List.append_assoc]; simp
theorem joinT_len (sep : List UInt8) (hs : sep.length = 3) (b : Nat) : ∀ l : List (List UInt8), (∀ x ∈ l, x.length ≤ b) → (joinL.joinT sep l).length ≤ (b + 3) * l.length
  | [], _ => by simp [joinL.joinT]
  | y :: l, h => by
    have h1 := joinT_len sep hs b l fun x hx => h x (List.mem_cons_of_mem _ hx)
    have h2 := h y List.mem_cons_self
    simp only [joinL.joinT, List.length_append, List.length_cons, hs]
    rw [Nat.mul_succ]; omega
theorem joinL_len (sep : List UInt8) (hs : sep.length = 3) (b : Nat) (l : List (List UInt8)) (h : ∀ x ∈ l, x.length ≤ b) : (joinL sep l).length ≤ (b + 3) * l.length := by
  cases l with
  | nil => simp [joinL]
  | cons y l =>
    have h1 := joinT_len sep hs b l fun x hx => h x (List.mem_cons_of_mem _ hx)
    have h2 := h y List.mem_cons_self
    simp only [joinL, List.length_append, List.length_cons]
    rw [Nat.mul_succ]; omega
def sepS : List UInt8 := [32, 59, 32]
def tagS (e0 e1 raw : Bool) : List UInt8 := (if e0 = true then [32, 58, 101, 110, 100, 108, 111, 111, 112, 48] else []) ++ ((if e1 = true then [32, 58, 101, 110, 100, 108, 111, 111, 112, 49] else []) ++ (if raw = true then [32, 58, 114, 97, 119] else []))
def packS (xs : List (List UInt8)) (e0 e1 raw : Bool) : List UInt8 := if xs = [] ∨ [] ∈ xs then [] else (if 1 < xs.length then [123, 32] ++ (joinL sepS xs ++ [32, 125]) else joinL sepS xs) ++ tagS e0 e1 raw
def strsS (L : List In) : List (List UInt8) := L.map fun i => instS i []
end Go.V
/- show's document: Packet. -/
namespace Go.V
open Go
set_option linter.unusedSimpArgs false
set_option linter.unusedVariables false
section
open Z
abbrev pK1l0 : ICode := .loop (q (q (R [(m 6 4),(f 7 0 1),(l 8 1 7),(o 9 (.lenSl t8)),(o 10 (.bin .lss t6 t9))]) (.cond t10 .skip (.exit 0))) (q (.block 1 (q (R [(f 13 0 1),(l 14 1 13),(m 15 4),(ix 16 11 14 15),(la 17 11 16),(o 18 (.call 9 [t17,(sc [])])),(m 5 18)]) (q (q (R [(m 19 5),(o 20 (.bin .eql t19 (sc [])))]) (.cond t20 (q (R [(o 2 (.move (sc [])))]) .ret) .skip)) (q (q (R [(m 21 4),(o 22 (.bin .gtr t21 (I 0)))]) (.cond t22 (R [(m 23 3),(o 24 (.bin .add t23 (sc [32,59,32]))),(m 3 24)]) .skip)) (R [(m 25 3),(m 26 5),(o 27 (.bin .add t25 t26)),(m 3 27)]))))) (R [(m 11 4),(o 12 (.bin .add t11 (I 1))),(m 4 12)])))
abbrev pK1l1 : ICode := .seq (q (R [(f 28 0 1),(l 29 1 28),(o 30 (.lenSl t29)),(o 31 (.bin .eql t30 (I 0)))]) (.cond t31 (q (R [(o 2 (.move (sc [])))]) .ret) .skip)) (q (q (R [(f 32 0 1),(l 33 1 32),(o 34 (.lenSl t33)),(o 35 (.bin .gtr t34 (I 1)))]) (.cond t35 (R [(m 36 3),(o 37 (.bin .add (sc [123,32]) t36)),(o 38 (.bin .add t37 (sc [32,125]))),(m 3 38)]) .skip)) (q (q (R [(f 39 1 1),(l 40 1 39)]) (.cond t40 (R [(m 41 3),(o 42 (.bin .add t41 (sc [32,58,101,110,100,108,111,111,112,48]))),(m 3 42)]) .skip)) (q (q (R [(f 43 2 1),(l 44 1 43)]) (.cond t44 (R [(m 45 3),(o 46 (.bin .add t45 (sc [32,58,101,110,100,108,111,111,112,49]))),(m 3 46)]) .skip)) (q (q (R [(f 47 3 1),(l 48 1 47)]) (.cond t48 (R [(m 49 3),(o 50 (.bin .add t49 (sc [32,58,114,97,119]))),(m 3 50)]) .skip)) (q (R [(m 51 3),(m 2 51)]) .ret)))))
end
open Z in def ir11 : IFunc := ⟨52,[.tmp 2],(q (R [(o 1 (.box t0)),(o 2 (.move (sc [])))]) (q (R [(o 3 (.move (sc [])))]) (q (q (R [(mi 4 0)]) (.block 0 pK1l0)) pK1l1)))⟩
theorem strs_at {L : List In} {k : Nat} {i : In} (h : L[k]? = some i) : (strsS L).take (k + 1) = (strsS L).take k ++ [instS i []] := by
  rw [List.take_add_one]
  have : (strsS L)[k]? = some (instS i []) := by unfold strsS; rw [List.getElem?_map, h]; rfl
  rw [this]; rfl
theorem strs_len {L : List In} (hok : ∀ i ∈ L, i.ok = true) : ∀ x ∈ strsS L, x.length ≤ 400 := by
  intro x hx
  unfold strsS at hx
  obtain ⟨i, hi, rfl⟩ := List.mem_map.1 hx
  exact inst_len (hok i hi) (by simp)
theorem strs_join {L : List In} (hok : ∀ i ∈ L, i.ok = true) (k : Nat) (hk : k ≤ 6) : (joinL sepS ((strsS L).take k)).length ≤ 3000 := by
  have := joinL_len sepS rfl 400 ((strsS L).take k) fun x hx => strs_len hok x (List.mem_of_mem_take hx)
  have h2 : ((strsS L).take k).length ≤ 6 := by rw [List.length_take]; omega
  have h3 : (400 + 3) * ((strsS L).take k).length ≤ 403 * 6 := Nat.mul_le_mul_left _ h2
  omega
section
variable {T : Tab}
set_option maxHeartbeats 8000000 in
theorem rp_loop {Q : Post} {s0 : St} {pb : Nat} {x : AV} {L : List In} {e0 e1 raw : Bool} {y : AV} (hx : RdI s0 x L) (hok : ∀ i ∈ L, i.ok = true) (hL : L.length ≤ 6) (hpb : pb < s0.next) (hbx : s0.heap.get pb = some (.cells [x, .bool e0, .bool e1, .bool raw, y] 0 0 false))
    (hI : ∀ (s : St), Ext s0 s → ∀ i ∈ L, Ran T 9 [.agg i.cells, .str []] s fun v s' => v = .str (instS i []) ∧ Ext s s')
    (Kn : [] ∉ strsS L → ∀ (e : Env) (s : St), Ext s0 s → opd e (.t 1) = .ptr ⟨pb, 0, 0, 5⟩ → opd e (.t 3) = .str (joinL sepS (strsS L)) → Ret T Q [.seq pK1l1] .normal e s)
    (Kr : [] ∈ strsS L → ∀ (e : Env) (s : St), Ext s0 s → opd e (.t 2) = .str [] → Ret T Q [.seq pK1l1] .ret e s) :
    ∀ (m k : Nat) (e : Env) (s : St), m + k = L.length → [] ∉ (strsS L).take k → Ext s0 s → opd e (.t 1) = .ptr ⟨pb, 0, 0, 5⟩ → opd e (.t 3) = .str (joinL sepS ((strsS L).take k)) → opd e (.t 4) = .int .i64 (k : Int) →
      Go T Q (pK1l0) [.block 0, .seq pK1l1] e s := by
  intro m
  induction m with
  | zero =>
    intro k e s hm hne hE h1 h3 h4
    have hxs := hx.ext hE
    have hlen := len_op hxs.lens
    have hbs : s.heap.get pb = some (.cells [x, .bool e0, .bool e1, .bool raw, y] 0 0 false) := by rw [hE.2.2 pb hpb]; exact hbx
    have hk : ¬ (k : Int) < (L.length : Int) := by omega
    have hall : (strsS L).take k = strsS L := List.take_of_length_le (by simp [strsS]; omega)
    rw [hall] at hne h3
    rw [go_loop]
    generalize ([.seq pK1l1] : List Fr) = FF at *
    simp only [h1, h3, h4, hbs, ↓hlen, hk, wk, wk1, wk2, Option.some.injEq, exists_eq_left', decide_true, decide_false, seval, go_regionPw, pw_normal]
    refine Kn hne _ s hE ?_ ?_
    all_goals simp only [h1, h3, wk, wk1, wk2, Option.some.injEq, exists_eq_left', decide_true, decide_false, seval, go_regionPw, pw_normal]
  | succ m ih =>
    intro k e s hm hne hE h1 h3 h4
    have hxs := hx.ext hE
    have hlen := len_op hxs.lens
    have hbs : s.heap.get pb = some (.cells [x, .bool e0, .bool e1, .bool raw, y] 0 0 false) := by rw [hE.2.2 pb hpb]; exact hbx
    have hkn : k < L.length := by omega
    have hk : (k : Int) < (L.length : Int) := by omega
    obtain ⟨i, hi⟩ : ∃ i, L[k]? = some i := ⟨_, List.getElem?_eq_getElem hkn⟩
    have him := List.mem_of_getElem? hi
    obtain ⟨id, lo, inc', inc, lim, cap, ex, ro, cs, rfl, g1, g2, g3, g4, g5, g6⟩ := hxs.at hi
    have l1 := strs_join hok k (by omega)
    have l2 := inst_len (hok i him) (nm := []) (by simp)
    have w1 : wrapF .i64 ((k : Int) + 1) = ((k + 1 : Nat) : Int) := by rw [wrap_i64 _ (by omega) (by omega)]; omega
    rw [go_loop]
    generalize ([.seq pK1l1] : List Fr) = FF at *
    simp only [h1, h3, h4, hbs, ↓hlen, hk, g1, g2, g3, g4, g5, g6, wk, wk1, wk2, Option.some.injEq, exists_eq_left', decide_true, decide_false, seval, go_regionPw, pw_normal]
    refine goCall_by (hI s hE i him) ?_
    rintro v s1 ⟨rfl, hE1⟩
    have ht1 := strs_at hi
    by_cases ht : instS i [] = []
    · simp only [h1, h3, h4, ht, wk, wk1, wk2, Option.some.injEq, exists_eq_left', decide_true, decide_false, seval, go_regionPw, pw_normal]
      refine Kr ?_ _ s1 (hE.trans hE1) ?_
      · have : [] ∈ (strsS L).take (k + 1) := by rw [ht1, ht]; simp
        exact List.mem_of_mem_take this
      · simp only [wk, wk1, wk2, Option.some.injEq, exists_eq_left', decide_true, decide_false, seval, go_regionPw, pw_normal]
    · have hne' : [] ∉ (strsS L).take (k + 1) := by
        rw [ht1, List.mem_append, List.mem_singleton]
        rintro (h | h)
        · exact hne h
        · exact ht h.symm
      have hjn := joinL_snoc sepS (instS i []) ((strsS L).take k)
      rw [← ht1] at hjn
      by_cases hk0 : k = 0
      · subst hk0
        have hj : joinL sepS ((strsS L).take (0 + 1)) = instS i [] := by rw [hjn, if_pos (by simp)]
        have he : joinL sepS ((strsS L).take 0) = [] := rfl
        rw [he] at h3 l1
        simp (disch := first | assumption | ((repeat (apply ps_add)); assumption) | ((try simp only [List.length_append, List.length_cons, List.length_nil]); omega)) only [h1, h3, h4, ht, w1, if_pos, wk, wk1, wk2, Option.some.injEq, exists_eq_left', decide_true, decide_false, seval, go_regionPw, pw_normal]
        refine ih 1 _ s1 (by omega) hne' (hE.trans hE1) ?_ ?_ ?_
        all_goals simp only [h1, h3, hj, wk, wk1, wk2, Option.some.injEq, exists_eq_left', decide_true, decide_false, seval, go_regionPw, pw_normal]
        all_goals (first | rfl | skip)
      · have hkp : (0 : Int) < (k : Int) := by omega
        have hj : joinL sepS ((strsS L).take (k + 1)) = joinL sepS ((strsS L).take k) ++ (sepS ++ instS i []) := by
          rw [hjn, if_neg]
          intro h
          have h2 : ((strsS L).take k).length = k := by rw [List.length_take]; simp [strsS]; omega
          rw [h] at h2
          simp at h2
          omega
        simp (disch := first | assumption | ((repeat (apply ps_add)); assumption) | ((try simp only [List.length_append, List.length_cons, List.length_nil]); omega)) only [h1, h3, h4, ht, hkp, w1, if_pos, wk, wk1, wk2, Option.some.injEq, exists_eq_left', decide_true, decide_false, seval, go_regionPw, pw_normal]
        refine ih (k + 1) _ s1 (by omega) hne' (hE.trans hE1) ?_ ?_ ?_
        all_goals simp only [h1, h3, wk, wk1, wk2, Option.some.injEq, exists_eq_left', decide_true, decide_false, seval, go_regionPw, pw_normal]
        rw [hj]
        simp [sepS]
set_option maxHeartbeats 8000000 in
theorem rpacket_ran (hc : T 11 = some (.code ir11)) {s : St} (hs : WFS s) {x : AV} {L : List In} {e0 e1 raw : Bool} {y : AV} (hx : RdI s x L) (hok : ∀ i ∈ L, i.ok = true) (hL : L.length ≤ 6)
    (hI : ∀ (s1 : St), Ext s s1 → ∀ i ∈ L, Ran T 9 [.agg i.cells, .str []] s1 fun v s' => v = .str (instS i []) ∧ Ext s1 s') :
    Ran T 11 [.agg [x, .bool e0, .bool e1, .bool raw, y]] s fun v s' => v = .str (packS (strsS L) e0 e1 raw) ∧ Ext s s' := by
  refine ran_code hc (Nat.le_of_ble_eq_true rfl) ?_
  generalize hQ : Fin _ _ = Q
  have hE0 : Ext s (s.add (.cells [x, .bool e0, .bool e1, .bool raw, y] 0 0 false)) := .add (.refl hs) _
  have hb0 : (s.add (.cells [x, .bool e0, .bool e1, .bool raw, y] 0 0 false)).heap.get s.next = some (.cells [x, .bool e0, .bool e1, .bool raw, y] 0 0 false) := by rw [add_get, if_pos rfl]
  have lj := strs_join hok L.length hL
  have hall : (strsS L).take L.length = strsS L := List.take_of_length_le (by simp [strsS])
  rw [hall] at lj
  have hlenS : (strsS L).length = L.length := by simp [strsS]
  have LL := rp_loop (T := T) (Q := Q) (s0 := s.add (.cells [x, .bool e0, .bool e1, .bool raw, y] 0 0 false)) (pb := s.next) (hx.ext hE0) hok hL (by show s.next < s.next + 1; omega) hb0 (fun s1 h1 => hI s1 (hE0.trans h1)) ?_ ?_ L.length 0
  · simp only [ir11, wk, wk1, wk2, Option.some.injEq, exists_eq_left', decide_true, decide_false, seval, go_regionPw, pw_normal]
    refine LL _ _ (by omega) (by simp) (.refl hE0.1) ?_ ?_ ?_
    all_goals simp only [wk, wk1, wk2, Option.some.injEq, exists_eq_left', decide_true, decide_false, seval, go_regionPw, pw_normal]
    all_goals rfl
  · intro hne e s1 hE h1 h3
    have hbs : s1.heap.get s.next = some (.cells [x, .bool e0, .bool e1, .bool raw, y] 0 0 false) := by rw [hE.2.2 s.next (by show s.next < s.next + 1; omega)]; exact hb0
    have hxs := hx.ext (hE0.trans hE)
    have hlen := len_op hxs.lens
    subst hQ
    by_cases hz : L.length = 0
    · have hl0 : L = [] := List.length_eq_zero_iff.1 hz
      have hk : ((L.length : Nat) : Int) = 0 := by omega
      simp only [ir11, h1, h3, hbs, ↓hlen, hk, wk, wk1, wk2, Option.some.injEq, exists_eq_left', decide_true, decide_false, seval, go_regionPw, pw_normal]
      exact ⟨by rw [hl0]; rfl, hE0.trans hE⟩
    · have hk : ¬ ((L.length : Nat) : Int) = 0 := by omega
      obtain ⟨a, cap, ex, es, rfl⟩ : ∃ a cap ex es, x = .slice a L.length cap ex es := by
        rcases hxs.lens with ⟨h, _⟩ | h
        · exact absurd h hz
        · exact h
      have hS : ¬ (strsS L = [] ∨ [] ∈ strsS L) := by
        rintro (h | h)
        · rw [h] at hlenS; simp at hlenS; omega
        · exact hne h
      by_cases h1n : 1 < L.length
      · have hk1 : (1 : Int) < (L.length : Int) := by omega
        have e3 : packS (strsS L) e0 e1 raw = ([123, 32] ++ (joinL sepS (strsS L) ++ [32, 125])) ++ tagS e0 e1 raw := by rw [packS, if_neg hS, if_pos (by omega)]
        cases e0 <;> cases e1 <;> cases raw <;>
          (simp (disch := first | assumption | ((repeat (apply ps_add)); assumption) | ((try simp only [List.length_append, List.length_cons, List.length_nil]); omega)) only [ir11, h1, h3, hbs, hk, hk1, mkInt_eq, if_pos, wk, wk1, wk2, Option.some.injEq, exists_eq_left', decide_true, decide_false, seval, go_regionPw, pw_normal]
           exact ⟨by rw [e3]; simp [tagS], hE0.trans hE⟩)
      · have hk1 : ¬ (1 : Int) < (L.length : Int) := by omega
        have e3 : packS (strsS L) e0 e1 raw = joinL sepS (strsS L) ++ tagS e0 e1 raw := by rw [packS, if_neg hS, if_neg (by omega)]
        cases e0 <;> cases e1 <;> cases raw <;>
          (simp (disch := first | assumption | ((repeat (apply ps_add)); assumption) | ((try simp only [List.length_append, List.length_cons, List.length_nil]); omega)) only [ir11, h1, h3, hbs, hk, hk1, mkInt_eq, if_pos, wk, wk1, wk2, Option.some.injEq, exists_eq_left', decide_true, decide_false, seval, go_regionPw, pw_normal]
           exact ⟨by rw [e3]; simp [tagS], hE0.trans hE⟩)
  · intro hm e s1 hE h2
    subst hQ
    simp only [ir11, h2, wk, wk1, wk2, Option.some.injEq, exists_eq_left', decide_true, decide_false, seval, go_regionPw, pw_normal]
    exact ⟨by rw [packS, if_pos (.inr hm)], hE0.trans hE⟩
end
end Go.V
/- show: Packet. -/
namespace Go.V
open Go
set_option linter.unusedSimpArgs false
set_option linter.unusedVariables false
section
open Z
abbrev pK2l0 : ICode := .loop (q (R [(o 15 (.bin .lss t14 t13))]) (q (.cond t15 .skip (.exit 0)) (q (.block 1 (q (R [(ix 16 11 12 14),(la 17 11 16),(o 7 (.alloc [(b 0),(b 0),(b 0),(b 0),(b 0),(b 0),(b 0),z,z,(.int .u16 0),(i 0)])),(st 11 7 17)]) (q (R [(la 18 11 7),(m 19 1),(o 20 (.call 7 [t18,t19])),(m 8 20)]) (q (q (R [(m 21 8),(o 22 (.bin .eql t21 (sc [])))]) (.cond t22 (q (R [(o 4 (.move (sc [])))]) .ret) .skip)) (R [(m 23 5),(m 24 8),(o 25 (.buildSlice 1 1 [(s [])] [(0,1,t24)])),(o 26 (.append 1 16 t23 t25)),(m 5 26)]))))) (R [(o 27 (.bin .add t14 (I 1))),(m 14 27)]))))
abbrev pK2l1 : ICode := .seq (q (R [(m 28 5),(o 29 (.lenSl t28)),(o 30 (.bin .eql t29 (I 0)))]) (.cond t30 (q (R [(o 4 (.move (sc [])))]) .ret) .skip)) (q (R [(m 31 5),(o 32 (.call 24 [t31,(sc [32,59,32])])),(o 9 (.alloc [(s [])])),(st 1 9 32)]) (q (q (R [(m 33 5),(o 34 (.lenSl t33)),(o 35 (.bin .gtr t34 (I 1)))]) (.cond t35 (R [(l 36 1 9),(o 37 (.bin .add (sc [123,32]) t36)),(o 38 (.bin .add t37 (sc [32,125]))),(st 1 9 38)]) .skip)) (q (R [(o 39 (.mkFunc 25 [] [t9])),(m 10 39)]) (q (R [(m 40 10),(f 41 1 2),(l 42 1 41),(o 43 (.callVal t40 [t42,(sc [32,58,101,110,100,108,111,111,112,48])]))]) (q (R [(m 44 10),(f 45 2 2),(l 46 1 45),(o 47 (.callVal t44 [t46,(sc [32,58,101,110,100,108,111,111,112,49])]))]) (q (R [(m 48 10),(f 49 3 2),(l 50 1 49),(o 51 (.callVal t48 [t50,(sc [32,58,114,97,119])]))]) (q (R [(l 52 1 9),(m 4 52)]) .ret)))))))
end
open Z in def ir10 : IFunc := ⟨53,[.tmp 4],(q (R [(o 2 (.box t0)),(o 4 (.move (sc [])))]) (q (R [(o 5 (.move (.c .nilSlice)))]) (q (q (R [(f 11 0 2),(l 12 1 11),(o 13 (.lenSl t12)),(mi 14 0)]) (.block 0 pK2l0)) pK2l1)))⟩
open Z in def ir25 : IFunc := ⟨9,[],(q (R [(m 5 0)]) (.cond t5 (R [(l 6 1 2),(m 7 1),(o 8 (.bin .add t6 t7)),(st 1 2 8)]) .skip))⟩
section
variable {T : Tab}
set_option maxHeartbeats 8000000 in
theorem sp_loop {Q : Post} {s0 : St} {pb : Nat} {x : AV} {L : List In} (hx : RdI s0 x L) (hok : ∀ i ∈ L, i.ok = true) (hL : L.length ≤ 6)
    (hI : ∀ (s : St), Ext s0 s → ∀ i ∈ L, Ran T 7 [.agg i.cells, .nilFunc] s fun v s' => v = .str (instS i []) ∧ Ext s s')
    (Kn : [] ∉ strsS L → ∀ (e : Env) (s : St) (v : AV), Ext s0 s → Slc s0.next s 1 L.length v ((strsS L).map .str) → opd e (.t 2) = .ptr ⟨pb, 0, 0, 5⟩ → opd e (.t 5) = v → Ret T Q [.seq pK2l1] .normal e s)
    (Kr : [] ∈ strsS L → ∀ (e : Env) (s : St), Ext s0 s → opd e (.t 4) = .str [] → Ret T Q [.seq pK2l1] .ret e s) :
    ∀ (m k : Nat) (e : Env) (s : St) (v : AV), m + k = L.length → [] ∉ (strsS L).take k → Ext s0 s → Slc s0.next s 1 k v (((strsS L).take k).map .str) → opd e (.t 1) = .nilFunc → opd e (.t 2) = .ptr ⟨pb, 0, 0, 5⟩ → opd e (.t 5) = v → opd e (.t 12) = x → opd e (.t 13) = .int .i64 (L.length : Int) → opd e (.t 14) = .int .i64 (k : Int) →
      Go T Q (pK2l0) [.block 0, .seq pK2l1] e s := by
  intro m
  induction m with
  | zero =>
    intro k e s v hm hne hE hS h1 h2 h5 h12 h13 h14
    have hkL : k = L.length := by omega
    subst hkL
    have hk : ¬ (L.length : Int) < (L.length : Int) := by omega
    have hall : (strsS L).take L.length = strsS L := List.take_of_length_le (by simp [strsS])
    rw [hall] at hne hS
    rw [go_loop]
    generalize ([.seq pK2l1] : List Fr) = FF at *
    simp only [h13, h14, hk, wk, wk1, wk2, Option.some.injEq, exists_eq_left', decide_true, decide_false, seval, go_regionPw, pw_normal]
    refine Kn hne _ s v hE hS ?_ ?_
    all_goals simp only [h2, h5, wk, wk1, wk2, Option.some.injEq, exists_eq_left', decide_true, decide_false, seval, go_regionPw, pw_normal]
  | succ m ih =>
    intro k e s v hm hne hE hS h1 h2 h5 h12 h13 h14
    have hxs := hx.ext hE
    have hkn : k < L.length := by omega
    have hk : (k : Int) < (L.length : Int) := by omega
    obtain ⟨i, hi⟩ : ∃ i, L[k]? = some i := ⟨_, List.getElem?_eq_getElem hkn⟩
    have him := List.mem_of_getElem? hi
    obtain ⟨id, lo, inc', inc, lim, cap, ex, ro, cs, rfl, g1, g2, g3, g4, g5, g6⟩ := hxs.at hi
    have w1 : wrapF .i64 ((k : Int) + 1) = ((k + 1 : Nat) : Int) := by rw [wrap_i64 _ (by omega) (by omega)]; omega
    have cells : i.cells = [.int .u8 i.op, .int .u8 i.d, .int .u8 i.s, .int .u8 i.t, .int .u8 i.n, .int .u8 i.pred, .int .u8 i.mode, .bool i.nw, .bool i.ext, .int .u16 i.count, .int .i64 i.imm] := rfl
    have l2 := inst_len (hok i him) (nm := []) (by simp)
    have hE1 : Ext s0 (s.add (.cells i.cells 0 0 false)) := hE.add _
    have hI1 := hI _ hE1 i him
    rw [cells] at g5 hI1
    rw [go_loop]
    generalize ([.seq pK2l1] : List Fr) = FF at *
    simp only [h1, h2, h5, h12, h13, h14, hk, g1, g2, g3, g4, g5, g6, wk, wk1, wk2, Option.some.injEq, exists_eq_left', decide_true, decide_false, seval, go_regionPw, pw_normal]
    refine goCall_by hI1 ?_
    rintro r s1 ⟨rfl, hE2⟩
    have hS1 : Slc s0.next s1 1 k v (((strsS L).take k).map .str) := (hS.ext (.add (.refl hE.1) _)).ext hE2
    have hEs : Ext s0 s1 := hE1.trans hE2
    have ht1 := strs_at hi
    by_cases ht : instS i [] = []
    · simp only [h1, h2, h5, h12, h13, h14, ht, wk, wk1, wk2, Option.some.injEq, exists_eq_left', decide_true, decide_false, seval, go_regionPw, pw_normal]
      refine Kr ?_ _ s1 hEs ?_
      · have : [] ∈ (strsS L).take (k + 1) := by rw [ht1, ht]; simp
        exact List.mem_of_mem_take this
      · simp only [wk, wk1, wk2, Option.some.injEq, exists_eq_left', decide_true, decide_false, seval, go_regionPw, pw_normal]
    · have hne' : [] ∉ (strsS L).take (k + 1) := by
        rw [ht1, List.mem_append, List.mem_singleton]
        rintro (h | h)
        · exact hne h
        · exact ht h.symm
      obtain ⟨v', s2, a1, a2, a3, a4⟩ := Slc.app (more := [.str (instS i [])]) hS1 hEs rfl rfl (by omega) (by omega)
      simp only [h1, h2, h5, h12, h13, h14, ht, a1, w1, wk, wk1, wk2, Option.some.injEq, exists_eq_left', decide_true, decide_false, seval, go_regionPw, pw_normal]
      refine ih (k + 1) _ s2 v' (by omega) hne' a3 (by rw [ht1, List.map_append]; exact a2) ?_ ?_ ?_ ?_ ?_ ?_
      all_goals simp only [h1, h2, h5, h12, h13, h14, wk, wk1, wk2, Option.some.injEq, exists_eq_left', decide_true, decide_false, seval, go_regionPw, pw_normal]
theorem tag_ran {pt : Nat} (hc : T 25 = some (.code ir25)) (s0 s : St) (hE : Ext s0 s) (hp : s0.next ≤ pt) (hps : pt < s.next) (b : Bool) (tx l : List UInt8) (hl : l.length + tx.length ≤ 100000) (ho : s.heap.get pt = some (.cells [.str l] 0 0 false)) :
    Ran T 25 [.bool b, .str tx, .ptr ⟨pt, 0, 0, 1⟩] s fun v s' => v = .tuple [] ∧ Ext s0 s' ∧ pt < s'.next ∧ s'.heap.get pt = some (.cells [.str (l ++ if b = true then tx else [])] 0 0 false) ∧ (∀ id, id ≠ pt → s'.heap.get id = s.heap.get id) := by
  refine ran_code hc (Nat.le_of_ble_eq_true rfl) ?_
  cases b with
  | true =>
    simp (disch := first | assumption | ((repeat (apply ps_add)); assumption) | ((try simp only [List.length_append, List.length_cons, List.length_nil]); omega)) only [ir25, ho, if_pos, wk, wk1, wk2, Option.some.injEq, exists_eq_left', decide_true, decide_false, seval, go_regionPw, pw_normal]
    exact ⟨hE.put hp hps _, hps, fun id hid => by rw [if_neg hid]⟩
  | false =>
    simp (disch := first | assumption | ((repeat (apply ps_add)); assumption) | ((try simp only [List.length_append, List.length_cons, List.length_nil]); omega)) only [ir25, ho, if_pos, wk, wk1, wk2, Option.some.injEq, exists_eq_left', decide_true, decide_false, seval, go_regionPw, pw_normal]
    exact ⟨hE, hps, fun _ _ => trivial⟩
theorem strsOf_map : ∀ xs : List (List UInt8), strsOf (xs.map .str) = some xs
  | [] => rfl
  | x :: xs => by simp only [List.map_cons, strsOf, strsOf_map xs]
theorem join_eq {b n : Nat} {s : St} {v : AV} {xs : List (List UInt8)} (hS : Slc b s 1 n v (xs.map .str)) (hn : 0 < n) (hx : n ≤ 6) (hl : (joinL sepS xs).length ≤ 3000) : joinH [v, .str sepS] s = some (.str (joinL sepS xs), s) := by
  obtain ⟨h1, ⟨h2, _⟩ | ⟨h0, id, inc, rfl, h3, h4, h5, h6⟩⟩ := hS
  · omega
  · have hr : s.readAt ⟨id, 0, inc, n * 1⟩ n = some (xs.map .str) := by
      unfold St.readAt
      simp only [h5]
      rw [if_pos ⟨Nat.zero_le _, Nat.le_refl _, by omega⟩, List.drop_zero, List.take_of_length_le (by omega)]
    have b1 : Nat.beq 1 1 = true := rfl
    have b2 : (Nat.ble n 1000000 && Nat.ble (joinL sepS xs).length 1000000) = true := by
      rw [Bool.and_eq_true]; exact ⟨Nat.ble_eq_true_of_le (by omega), Nat.ble_eq_true_of_le (by omega)⟩
    simp only [joinH, joinG, b1, hr, strsOf_map, b2]
    rfl
set_option maxHeartbeats 8000000 in
theorem spacket_ran (hc : T 10 = some (.code ir10)) (hj : T 24 = some (.hook joinH)) (ht : T 25 = some (.code ir25)) {s : St} (hs : WFS s) {x : AV} {L : List In} {e0 e1 raw : Bool} {y : AV} (hx : RdI s x L) (hok : ∀ i ∈ L, i.ok = true) (hL : L.length ≤ 6)
    (hI : ∀ (s1 : St), Ext s s1 → ∀ i ∈ L, Ran T 7 [.agg i.cells, .nilFunc] s1 fun v s' => v = .str (instS i []) ∧ Ext s1 s') :
    Ran T 10 [.agg [x, .bool e0, .bool e1, .bool raw, y], .nilFunc] s fun v s' => v = .str (packS (strsS L) e0 e1 raw) ∧ Ext s s' := by
  refine ran_code hc (Nat.le_of_ble_eq_true rfl) ?_
  generalize hQ : Fin _ _ = Q
  have hE0 : Ext s (s.add (.cells [x, .bool e0, .bool e1, .bool raw, y] 0 0 false)) := .add (.refl hs) _
  have hb0 : (s.add (.cells [x, .bool e0, .bool e1, .bool raw, y] 0 0 false)).heap.get s.next = some (.cells [x, .bool e0, .bool e1, .bool raw, y] 0 0 false) := by rw [add_get, if_pos rfl]
  have lj := strs_join hok L.length hL
  have hall : (strsS L).take L.length = strsS L := List.take_of_length_le (by simp [strsS])
  rw [hall] at lj
  have hlenS : (strsS L).length = L.length := by simp [strsS]
  have hlen := len_op hx.lens
  have LL := sp_loop (T := T) (Q := Q) (s0 := s.add (.cells [x, .bool e0, .bool e1, .bool raw, y] 0 0 false)) (pb := s.next) (hx.ext hE0) hok hL (fun s1 h1 => hI s1 (hE0.trans h1)) ?_ ?_ L.length 0
  · simp only [ir10, ↓hlen, wk, wk1, wk2, Option.some.injEq, exists_eq_left', decide_true, decide_false, seval, go_regionPw, pw_normal]
    refine LL _ _ .nilSlice (by omega) (by simp) (.refl hE0.1) (Slc.nil _ _ _) ?_ ?_ ?_ ?_ ?_ ?_
    all_goals simp only [wk, wk1, wk2, Option.some.injEq, exists_eq_left', decide_true, decide_false, seval, go_regionPw, pw_normal]
  · intro hne e s1 v hE hS h2 h5
    have hbs : s1.heap.get s.next = some (.cells [x, .bool e0, .bool e1, .bool raw, y] 0 0 false) := by rw [hE.2.2 s.next (by show s.next < s.next + 1; omega)]; exact hb0
    by_cases hz : L.length = 0
    · have hl0 : L = [] := List.length_eq_zero_iff.1 hz
      have hv : v = .nilSlice := by
        obtain ⟨_, ⟨_, h⟩ | ⟨h, _⟩⟩ := hS
        · exact h
        · omega
      subst hv
      subst hQ
      simp only [ir10, h2, h5, hbs, wk, wk1, wk2, Option.some.injEq, exists_eq_left', decide_true, decide_false, seval, go_regionPw, pw_normal]
      exact ⟨by rw [hl0]; rfl, hE0.trans hE⟩
    · have hj1 := join_eq hS (by omega) hL lj
      have kj := goCall_hook hj
      have hSv := hS
      obtain ⟨a, rfl⟩ : ∃ a, v = .slice a L.length L.length false 1 := by
        obtain ⟨_, ⟨h, _⟩ | ⟨_, id, inc, h, _⟩⟩ := hSv
        · exact absurd h hz
        · exact ⟨_, h⟩
      have hk : ¬ ((L.length : Nat) : Int) = 0 := by omega
      simp only [sepS] at hj1
      simp (disch := first | assumption | ((repeat (apply ps_add)); assumption) | ((try simp only [List.length_append, List.length_cons, List.length_nil]); omega)) only [h2, h5, hbs, hk, mkInt_eq, kj, hj1, if_pos, wk, wk1, wk2, Option.some.injEq, exists_eq_left', decide_true, decide_false, seval, go_regionPw, pw_normal]
      have hS2 : ¬ (strsS L = [] ∨ [] ∈ strsS L) := by
        rintro (h | h)
        · rw [h] at hlenS; simp at hlenS; omega
        · exact hne h
      have hlt : s.next < s1.next := hE.2.1
      have hn1 : ¬ s.next = s1.next := by omega
      have hEs : Ext s s1 := hE0.trans hE
      simp only [sepS] at lj
      generalize hB : joinL [32, 59, 32] (strsS L) = B at *
      by_cases h1n : 1 < L.length
      · have hk1 : (1 : Int) < (L.length : Int) := by omega
        simp (disch := first | assumption | ((repeat (apply ps_add)); assumption) | ((try simp only [List.length_append, List.length_cons, List.length_nil]); omega)) only [h2, h5, hk1, hbs, hn1, if_pos, goCV_func, wk, wk1, wk2, Option.some.injEq, exists_eq_left', decide_true, decide_false, seval, go_regionPw, pw_normal]
        refine goCall_by (tag_ran ht s (s1.add (.cells [.str (123 :: 32 :: (B ++ [32, 125]))] 0 0 false)) (hEs.add _) (Nat.le_of_lt hlt) (by show s1.next < s1.next + 1; omega) e0 [32, 58, 101, 110, 100, 108, 111, 111, 112, 48] (123 :: 32 :: (B ++ [32, 125])) (by simp only [List.length_append, List.length_cons, List.length_nil]; omega) (by rw [add_get, if_pos rfl])) ?_
        rintro r s2 ⟨rfl, hE2, hp2, ho2, hk2⟩
        have hb2 : s2.heap.get s.next = some (.cells [x, .bool e0, .bool e1, .bool raw, y] 0 0 false) := by
          rw [hk2 s.next hn1]; rw [add_get, if_neg hn1]; exact hbs
        have hL2 : ((123 :: 32 :: (B ++ [32, 125])) ++ if e0 = true then [32, 58, 101, 110, 100, 108, 111, 111, 112, 48] else []).length ≤ 3100 := by
          have h1 : (if e0 = true then [32, 58, 101, 110, 100, 108, 111, 111, 112, 48] else [] : List UInt8).length ≤ 10 := by split <;> simp
          have h0 := lj
          simp only [List.length_append, List.length_cons, List.length_nil] at *; omega
        simp (disch := first | assumption | ((repeat (apply ps_add)); assumption) | ((try simp only [List.length_append, List.length_cons, List.length_nil]); omega)) only [h2, h5, hb2, if_pos, goCV_func, wk, wk1, wk2, Option.some.injEq, exists_eq_left', decide_true, decide_false, seval, go_regionPw, pw_normal]
        refine goCall_by (tag_ran ht s s2 hE2 (Nat.le_of_lt hlt) hp2 e1 [32, 58, 101, 110, 100, 108, 111, 111, 112, 49] ((123 :: 32 :: (B ++ [32, 125])) ++ if e0 = true then [32, 58, 101, 110, 100, 108, 111, 111, 112, 48] else []) (by have := hL2; simp only [List.length_cons, List.length_nil]; omega) ho2) ?_
        rintro r s3 ⟨rfl, hE3, hp3, ho3, hk3⟩
        have hb3 : s3.heap.get s.next = some (.cells [x, .bool e0, .bool e1, .bool raw, y] 0 0 false) := by
          rw [hk3 s.next hn1]; exact hb2
        have hL3 : (((123 :: 32 :: (B ++ [32, 125])) ++ if e0 = true then [32, 58, 101, 110, 100, 108, 111, 111, 112, 48] else []) ++ if e1 = true then [32, 58, 101, 110, 100, 108, 111, 111, 112, 49] else []).length ≤ 3200 := by
          have h1 : (if e1 = true then [32, 58, 101, 110, 100, 108, 111, 111, 112, 49] else [] : List UInt8).length ≤ 10 := by split <;> simp
          have h0 := hL2
          simp only [List.length_append, List.length_cons, List.length_nil] at *; omega
        simp (disch := first | assumption | ((repeat (apply ps_add)); assumption) | ((try simp only [List.length_append, List.length_cons, List.length_nil]); omega)) only [h2, h5, hb3, if_pos, goCV_func, wk, wk1, wk2, Option.some.injEq, exists_eq_left', decide_true, decide_false, seval, go_regionPw, pw_normal]
        refine goCall_by (tag_ran ht s s3 hE3 (Nat.le_of_lt hlt) hp3 raw [32, 58, 114, 97, 119] (((123 :: 32 :: (B ++ [32, 125])) ++ if e0 = true then [32, 58, 101, 110, 100, 108, 111, 111, 112, 48] else []) ++ if e1 = true then [32, 58, 101, 110, 100, 108, 111, 111, 112, 49] else []) (by have := hL3; simp only [List.length_cons, List.length_nil]; omega) ho3) ?_
        rintro r s4 ⟨rfl, hE4, hp4, ho4, hk4⟩
        have hb4 : s4.heap.get s.next = some (.cells [x, .bool e0, .bool e1, .bool raw, y] 0 0 false) := by
          rw [hk4 s.next hn1]; exact hb3
        subst hQ
        simp (disch := first | assumption | ((repeat (apply ps_add)); assumption) | ((try simp only [List.length_append, List.length_cons, List.length_nil]); omega)) only [ir10, h2, h5, ho4, if_pos, wk, wk1, wk2, Option.some.injEq, exists_eq_left', decide_true, decide_false, seval, go_regionPw, pw_normal]
        exact ⟨by rw [packS, if_neg hS2, if_pos (show 1 < (strsS L).length by omega), sepS, hB]; simp [tagS], hE4⟩
      · have hk1 : ¬ (1 : Int) < (L.length : Int) := by omega
        simp (disch := first | assumption | ((repeat (apply ps_add)); assumption) | ((try simp only [List.length_append, List.length_cons, List.length_nil]); omega)) only [h2, h5, hk1, hbs, hn1, if_pos, goCV_func, wk, wk1, wk2, Option.some.injEq, exists_eq_left', decide_true, decide_false, seval, go_regionPw, pw_normal]
        refine goCall_by (tag_ran ht s (s1.add (.cells [.str (B)] 0 0 false)) (hEs.add _) (Nat.le_of_lt hlt) (by show s1.next < s1.next + 1; omega) e0 [32, 58, 101, 110, 100, 108, 111, 111, 112, 48] (B) (by simp only [List.length_append, List.length_cons, List.length_nil]; omega) (by rw [add_get, if_pos rfl])) ?_
        rintro r s2 ⟨rfl, hE2, hp2, ho2, hk2⟩
        have hb2 : s2.heap.get s.next = some (.cells [x, .bool e0, .bool e1, .bool raw, y] 0 0 false) := by
          rw [hk2 s.next hn1]; rw [add_get, if_neg hn1]; exact hbs
        have hL2 : ((B) ++ if e0 = true then [32, 58, 101, 110, 100, 108, 111, 111, 112, 48] else []).length ≤ 3100 := by
          have h1 : (if e0 = true then [32, 58, 101, 110, 100, 108, 111, 111, 112, 48] else [] : List UInt8).length ≤ 10 := by split <;> simp
          have h0 := lj
          simp only [List.length_append, List.length_cons, List.length_nil] at *; omega
        simp (disch := first | assumption | ((repeat (apply ps_add)); assumption) | ((try simp only [List.length_append, List.length_cons, List.length_nil]); omega)) only [h2, h5, hb2, if_pos, goCV_func, wk, wk1, wk2, Option.some.injEq, exists_eq_left', decide_true, decide_false, seval, go_regionPw, pw_normal]
        refine goCall_by (tag_ran ht s s2 hE2 (Nat.le_of_lt hlt) hp2 e1 [32, 58, 101, 110, 100, 108, 111, 111, 112, 49] ((B) ++ if e0 = true then [32, 58, 101, 110, 100, 108, 111, 111, 112, 48] else []) (by have := hL2; simp only [List.length_cons, List.length_nil]; omega) ho2) ?_
        rintro r s3 ⟨rfl, hE3, hp3, ho3, hk3⟩
        have hb3 : s3.heap.get s.next = some (.cells [x, .bool e0, .bool e1, .bool raw, y] 0 0 false) := by
          rw [hk3 s.next hn1]; exact hb2
        have hL3 : (((B) ++ if e0 = true then [32, 58, 101, 110, 100, 108, 111, 111, 112, 48] else []) ++ if e1 = true then [32, 58, 101, 110, 100, 108, 111, 111, 112, 49] else []).length ≤ 3200 := by
          have h1 : (if e1 = true then [32, 58, 101, 110, 100, 108, 111, 111, 112, 49] else [] : List UInt8).length ≤ 10 := by split <;> simp
          have h0 := hL2
          simp only [List.length_append, List.length_cons, List.length_nil] at *; omega
        simp (disch := first | assumption | ((repeat (apply ps_add)); assumption) | ((try simp only [List.length_append, List.length_cons, List.length_nil]); omega)) only [h2, h5, hb3, if_pos, goCV_func, wk, wk1, wk2, Option.some.injEq, exists_eq_left', decide_true, decide_false, seval, go_regionPw, pw_normal]
        refine goCall_by (tag_ran ht s s3 hE3 (Nat.le_of_lt hlt) hp3 raw [32, 58, 114, 97, 119] (((B) ++ if e0 = true then [32, 58, 101, 110, 100, 108, 111, 111, 112, 48] else []) ++ if e1 = true then [32, 58, 101, 110, 100, 108, 111, 111, 112, 49] else []) (by have := hL3; simp only [List.length_cons, List.length_nil]; omega) ho3) ?_
        rintro r s4 ⟨rfl, hE4, hp4, ho4, hk4⟩
        have hb4 : s4.heap.get s.next = some (.cells [x, .bool e0, .bool e1, .bool raw, y] 0 0 false) := by
          rw [hk4 s.next hn1]; exact hb3
        subst hQ
        simp (disch := first | assumption | ((repeat (apply ps_add)); assumption) | ((try simp only [List.length_append, List.length_cons, List.length_nil]); omega)) only [ir10, h2, h5, ho4, if_pos, wk, wk1, wk2, Option.some.injEq, exists_eq_left', decide_true, decide_false, seval, go_regionPw, pw_normal]
        exact ⟨by rw [packS, if_neg hS2, if_neg (show ¬ 1 < (strsS L).length by omega), sepS, hB]; simp [tagS], hE4⟩
  · intro hm e s1 hE h4
    subst hQ
    simp only [ir10, h4, wk, wk1, wk2, Option.some.injEq, exists_eq_left', decide_true, decide_false, seval, go_regionPw, pw_normal]
    exact ⟨by rw [packS, if_pos (.inr hm)], hE0.trans hE⟩
end
end Go.V
/- ShowTells. -/
namespace Go.V
open Go
set_option linter.unusedSimpArgs false
set_option linter.unusedVariables false
open Z in def ir4 : IFunc := ⟨43,[.tmp 6],(q (R [(o 3 (.box t0)),(o 4 (.box t1)),(o 5 (.box t2)),(o 6 (.move F))]) (q (q (R [(f 8 0 4),(l 9 1 8),(o 10 (.lenSl t9)),(o 11 (.bin .gtr t10 (I 6))),(m 12 11),(og 13 12 false (.load false 1 t5)),(og 14 12 false (.lenStr t13)),(og 15 12 false (.bin .gtr t14 (I 20))),(o 16 (.pick t12 T t15))]) (.cond t16 (q (R [(o 17 (.call 6 [])),(m 6 17)]) .ret) .skip)) (q (R [(o 18 (.mkFunc 8 [] [t5])),(m 7 18)]) (q (.regionP [(la 19 11 3),(la 21 11 3),⟨some 20,none,[t3],(.call 7 [t19,(.c .nilFunc)])⟩,(o 22 (.call 9 [t21,(sc [])])),(o 23 (.bin .eql t20 t22)),(m 24 23),(og 25 24 true (.load true 11 t3)),(og 26 24 true (.move t7)),(og 28 24 true (.load true 11 t3)),(og 29 24 true (.load false 1 t5)),⟨some 27,some (24,true),[t3,t5],(.call 7 [t25,t26])⟩,(og 30 24 true (.call 9 [t28,t29])),(og 31 24 true (.bin .eql t27 t30)),(o 32 (.pick t24 t31 F)),(m 33 32),(og 34 33 true (.load true 5 t4)),(og 36 33 true (.load true 5 t4)),⟨some 35,some (33,true),[t4],(.call 10 [t34,(.c .nilFunc)])⟩,(og 37 33 true (.call 11 [t36])),(og 38 33 true (.bin .eql t35 t37)),(o 39 (.pick t33 t38 F)),(m 40 39),(og 41 40 true (.call 6 [])),(o 42 (.pick t40 t41 F)),(m 6 42)]) .ret))))⟩
structure ShTab (T : Tab) : Prop where
  inst : T 7 = some (.code ir7)
  right : T 5 = some (.hook (pureH (inF rightR)))
  targ : T 16 = some (.hook (pureH (inF targetR)))
  cond : T 18 = some (.hook (gateH pTab (inT condS)))
  bare : T 19 = some (.hook (gateH pTab (in2T bareS)))
  tgt : T 17 = some (.code ir17)
  fmt : T 30 = some (.hook fmt2)
structure PkTab (T : Tab) : Prop where
  pack : T 10 = some (.code ir10)
  join : T 24 = some (.hook joinH)
  tag : T 25 = some (.code ir25)
  rinst : T 9 = some (.code ir9)
  rright : T 20 = some (.hook (pureH (inF refRR)))
  dig : T 21 = some (.hook (pureH digitsG))
  pat : T 22 = some (.hook (litH patG))
  put : T 23 = some (.hook (pureH putG))
  rpack : T 11 = some (.code ir11)
  nm : T 8 = some (.code ir8)
section
variable {T : Tab}
theorem sInst (hT : ShTab T) {s : St} (hp : PS s) {i : In} (hi : i.ok = true) {fv : AV} {nm : List UInt8} (hl : nm.length ≤ 60) (hn : Nm T fv nm s) : Ran T 7 [.agg i.cells, fv] s fun v s' => v = .str (instS i nm) ∧ Ext s s' :=
  inst_ran hT.inst hT.right hT.targ hT.cond hT.bare hT.tgt hT.fmt s hp i hi hl hn
theorem rInst (hK : PkTab T) {s : St} (hs : WFS s) {i : In} (hi : i.ok = true) {nm : List UInt8} (hl : nm.length ≤ 60) : Ran T 9 [.agg i.cells, .str nm] s fun v s' => v = .str (instS i nm) ∧ Ext s s' := by
  rw [inst_eq]
  exact rinst_ran hK.rinst hK.rright hK.dig hK.pat hK.put s hs i hi nm hl
set_option maxHeartbeats 8000000 in
theorem showTells_ran (hc : T 4 = some (.code ir4)) (hT : ShTab T) (hK : PkTab T) {s : St} (hp : PS s) (haw : ∀ s', Ext s s' → Ran T 6 [] s' fun v _ => v = .bool true)
    {i : In} (hi : i.ok = true) {x : AV} {L : List In} {e0 e1 raw : Bool} {y : AV} (hy : y.isCell = true) (hxc : x.isCell = true) (hx : RdI s x L) (hok : ∀ i ∈ L, i.ok = true) (name : List UInt8) :
    Ran T 4 [.agg i.cells, .agg [x, .bool e0, .bool e1, .bool raw, y], .str name] s fun v _ => v = .bool true := by
  refine ran_code hc (Nat.le_of_ble_eq_true rfl) ?_
  generalize hQ : Fin _ _ = Q
  have hs := hp.wf
  have cells : i.cells = [.int .u8 i.op, .int .u8 i.d, .int .u8 i.s, .int .u8 i.t, .int .u8 i.n, .int .u8 i.pred, .int .u8 i.mode, .bool i.nw, .bool i.ext, .int .u16 i.count, .int .i64 i.imm] := rfl
  have hlen := len_op hx.lens
  by_cases h6 : L.length ≤ 6
  · have hd6 : ¬ (6 : Int) < (L.length : Int) := by omega
    by_cases h20 : name.length ≤ 20
    · have hd20 : ¬ (20 : Int) < (name.length : Int) := by omega
      simp only [ir4, cells, ↓hlen, hd6, hd20, wk, wk1, wk2, Option.some.injEq, exists_eq_left', decide_true, decide_false, seval, go_regionPw, pw_normal]
      rw [← cells]
      generalize hsB : ((s.add (.cells i.cells 0 0 false)).add (.cells [x, .bool e0, .bool e1, .bool raw, y] 0 0 false)).add (.cells [.str name] 0 0 false) = sB
      have hEB : Ext s sB := by rw [← hsB]; exact .add (.add (.add (.refl hs) _) _) _
      have hpB : PS sB := hp.ext hEB
      have hnx : sB.next = s.next + 3 := by rw [← hsB]; show s.next + 1 + 1 + 1 = _; omega
      have nA : s.next < sB.next := by omega
      have nB : s.next + 1 < sB.next := by omega
      have nC : s.next + 2 < sB.next := by omega
      have oA : sB.heap.get s.next = some (.cells i.cells 0 0 false) := by rw [← hsB]; simp only [wk, wk1, wk2, Option.some.injEq, exists_eq_left', decide_true, decide_false, seval, go_regionPw, pw_normal]
      have oB : sB.heap.get (s.next + 1) = some (.cells [x, .bool e0, .bool e1, .bool raw, y] 0 0 false) := by rw [← hsB]; simp only [wk, wk1, wk2, Option.some.injEq, exists_eq_left', decide_true, decide_false, seval, go_regionPw, pw_normal]
      have oC : sB.heap.get (s.next + 2) = some (.cells [.str name] 0 0 false) := by rw [← hsB]; simp only [wk, wk1, wk2, Option.some.injEq, exists_eq_left', decide_true, decide_false, seval, go_regionPw, pw_normal]
      clear hsB
      refine goCall ((sInst hT hpB hi (nm := []) (by simp) (.inl ⟨rfl, rfl⟩)).mono ?_)
      rintro v s1 ⟨rfl, E1⟩
      have F1 := E1
      rw [cells] at oA
      have a1 : s1.heap.get s.next = some (.cells [.int .u8 i.op, .int .u8 i.d, .int .u8 i.s, .int .u8 i.t, .int .u8 i.n, .int .u8 i.pred, .int .u8 i.mode, .bool i.nw, .bool i.ext, .int .u16 i.count, .int .i64 i.imm] 0 0 false) := by rw [F1.2.2 _ nA]; exact oA
      have b1 : s1.heap.get (s.next + 1) = some (.cells [x, .bool e0, .bool e1, .bool raw, y] 0 0 false) := by rw [F1.2.2 _ nB]; exact oB
      have c1 : s1.heap.get (s.next + 2) = some (.cells [.str name] 0 0 false) := by rw [F1.2.2 _ nC]; exact oC
      have hp1 := hpB.ext F1
      refine ⟨by simp only [oA, a1, goR_watch, watch_cons, watch_nil, wat_ptr, wat_map, sameObj_refl, Bool.and_self, true_and, wk, wk1, wk2, Option.some.injEq, exists_eq_left', decide_true, decide_false, seval, go_regionPw, pw_normal], ?_⟩
      simp only [a1, b1, c1, wk, wk1, wk2, Option.some.injEq, exists_eq_left', decide_true, decide_false, seval, go_regionPw, pw_normal]
      try rw [← cells]
      refine goCall_by (rInst hK hp1.wf hi (nm := []) (by simp)) ?_
      rintro v s2 ⟨rfl, E2⟩
      have F2 := F1.trans E2
      have a2 : s2.heap.get s.next = some (.cells [.int .u8 i.op, .int .u8 i.d, .int .u8 i.s, .int .u8 i.t, .int .u8 i.n, .int .u8 i.pred, .int .u8 i.mode, .bool i.nw, .bool i.ext, .int .u16 i.count, .int .i64 i.imm] 0 0 false) := by rw [F2.2.2 _ nA]; exact oA
      have b2 : s2.heap.get (s.next + 1) = some (.cells [x, .bool e0, .bool e1, .bool raw, y] 0 0 false) := by rw [F2.2.2 _ nB]; exact oB
      have c2 : s2.heap.get (s.next + 2) = some (.cells [.str name] 0 0 false) := by rw [F2.2.2 _ nC]; exact oC
      have hp2 := hpB.ext F2
      simp only [a2, b2, c2, eq_self, wk, wk1, wk2, Option.some.injEq, exists_eq_left', decide_true, decide_false, seval, go_regionPw, pw_normal]
      try rw [← cells]
      refine goCall ((sInst hT hp2 hi (nm := name) (by omega) (.inr ⟨s.next + 2, rfl, hK.nm, by have := F2.2.1; omega, c2⟩)).mono ?_)
      rintro v s3 ⟨rfl, E3⟩
      have F3 := F2.trans E3
      have a3 : s3.heap.get s.next = some (.cells [.int .u8 i.op, .int .u8 i.d, .int .u8 i.s, .int .u8 i.t, .int .u8 i.n, .int .u8 i.pred, .int .u8 i.mode, .bool i.nw, .bool i.ext, .int .u16 i.count, .int .i64 i.imm] 0 0 false) := by rw [F3.2.2 _ nA]; exact oA
      have b3 : s3.heap.get (s.next + 1) = some (.cells [x, .bool e0, .bool e1, .bool raw, y] 0 0 false) := by rw [F3.2.2 _ nB]; exact oB
      have c3 : s3.heap.get (s.next + 2) = some (.cells [.str name] 0 0 false) := by rw [F3.2.2 _ nC]; exact oC
      have hp3 := hpB.ext F3
      refine ⟨by simp only [a2, b2, c2, a3, b3, c3, goR_watch, watch_cons, watch_nil, wat_ptr, wat_map, sameObj_refl, Bool.and_self, true_and, wk, wk1, wk2, Option.some.injEq, exists_eq_left', decide_true, decide_false, seval, go_regionPw, pw_normal], ?_⟩
      simp only [a3, b3, c3, eq_self, wk, wk1, wk2, Option.some.injEq, exists_eq_left', decide_true, decide_false, seval, go_regionPw, pw_normal]
      refine goCall_by (rInst hK hp3.wf hi (nm := name) (by omega)) ?_
      rintro v s4 ⟨rfl, E4⟩
      have F4 := F3.trans E4
      have b4 : s4.heap.get (s.next + 1) = some (.cells [x, .bool e0, .bool e1, .bool raw, y] 0 0 false) := by rw [F4.2.2 _ nB]; exact oB
      have hp4 := hpB.ext F4
      simp only [b4, eq_self, wk, wk1, wk2, Option.some.injEq, exists_eq_left', decide_true, decide_false, seval, go_regionPw, pw_normal]
      refine goCall ((spacket_ran hK.pack hK.join hK.tag hp4.wf (hx.ext (hEB.trans F4)) hok h6 (fun s5 h5 j hj => sInst hT (hp4.ext h5) (hok j hj) (by simp) (.inl ⟨rfl, rfl⟩))).mono ?_)
      rintro v s5 ⟨rfl, E5⟩
      have F5 := F4.trans E5
      have b5 : s5.heap.get (s.next + 1) = some (.cells [x, .bool e0, .bool e1, .bool raw, y] 0 0 false) := by rw [F5.2.2 _ nB]; exact oB
      have hp5 := hpB.ext F5
      refine ⟨by simp only [b4, b5, goR_watch, watch_cons, watch_nil, wat_ptr, wat_map, sameObj_refl, Bool.and_self, true_and, wk, wk1, wk2, Option.some.injEq, exists_eq_left', decide_true, decide_false, seval, go_regionPw, pw_normal], ?_⟩
      simp only [b5, eq_self, wk, wk1, wk2, Option.some.injEq, exists_eq_left', decide_true, decide_false, seval, go_regionPw, pw_normal]
      refine goCall_by (rpacket_ran hK.rpack hp5.wf (hx.ext (hEB.trans F5)) hok h6 (fun s6 h6' j hj => rInst hK h6'.1 (hok j hj) (by simp))) ?_
      rintro v s6 ⟨rfl, E6⟩
      have F6 := F5.trans E6
      simp only [eq_self, wk, wk1, wk2, Option.some.injEq, exists_eq_left', decide_true, decide_false, seval, go_regionPw, pw_normal]
      refine goCall_by (haw _ (hEB.trans F6)) ?_
      rintro v s7 rfl
      subst hQ
      simp only [ir4, wk, wk1, wk2, Option.some.injEq, exists_eq_left', decide_true, decide_false, seval, go_regionPw, pw_normal]
    · have hd20 : (20 : Int) < (name.length : Int) := by omega
      simp only [ir4, cells, ↓hlen, hd6, hd20, wk, wk1, wk2, Option.some.injEq, exists_eq_left', decide_true, decide_false, seval, go_regionPw, pw_normal]
      refine goCall_by (haw _ (.add (.add (.add (.refl hs) _) _) _)) ?_
      rintro v s1 rfl
      subst hQ
      simp only [ir4, wk, wk1, wk2, Option.some.injEq, exists_eq_left', decide_true, decide_false, seval, go_regionPw, pw_normal]
  · have hd6 : (6 : Int) < (L.length : Int) := by omega
    simp only [ir4, cells, ↓hlen, hd6, wk, wk1, wk2, Option.some.injEq, exists_eq_left', decide_true, decide_false, seval, go_regionPw, pw_normal]
    refine goCall_by (haw _ (.add (.add (.add (.refl hs) _) _) _)) ?_
    rintro v s1 rfl
    subst hQ
    simp only [ir4, wk, wk1, wk2, Option.some.injEq, exists_eq_left', decide_true, decide_false, seval, go_regionPw, pw_normal]
end
end Go.V
