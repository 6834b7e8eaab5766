/- Rows that are read, rows that grow; packets. -/
import Derived.Test.YtkjddipkaaelaaaDoorSE
import Derived.Test.YtkjddipkaaelaaaDoorJoinH
import Derived.Test.YtkjddipkaaelaaaDoorVZ
set_option linter.unusedVariables false
set_option linter.unusedSimpArgs false
set_option linter.unusedSectionVars false
/- Rows that are read, rows that grow; packets. -/
/- Rows that are read, rows that grow; packets. -/
namespace Go.V
open Go
set_option linter.unusedSimpArgs false
set_option linter.unusedVariables false
/- what is read -/
def Lens (v : AV) (n : Nat) : Prop := (n = 0 ∧ (v = .nilSlice ∨ v = .empty)) ∨ ∃ a cap ex es, v = .slice a n cap ex es
def RdS (s : St) (es n : Nat) (v : AV) (xs : List AV) : Prop := xs.length = n * es ∧ ((n = 0 ∧ (v = .nilSlice ∨ v = .empty)) ∨ ∃ id lo inc' inc lim cap ex ro cs, v = .slice ⟨id, 0, inc, lim⟩ n cap ex es ∧ id < s.next ∧ s.heap.get id = some (.cells cs lo inc' ro) ∧ lo ≤ inc ∧ inc ≤ inc' ∧ n * es ≤ lim ∧ cs.take (n * es) = xs)
theorem RdS.ext {s s' : St} {es n : Nat} {v : AV} {xs : List AV} (h : RdS s es n v xs) (he : Ext s s') : RdS s' es n v xs := by
  obtain ⟨h0, h | ⟨id, lo, inc', inc, lim, cap, ex, ro, cs, h1, h2, h3, h4⟩⟩ := h
  · exact ⟨h0, .inl h⟩
  · exact ⟨h0, .inr ⟨id, lo, inc', inc, lim, cap, ex, ro, cs, h1, Nat.lt_of_lt_of_le h2 he.2.1, by rw [he.2.2 id h2]; exact h3, h4⟩⟩
theorem RdS.nil (s : St) (es : Nat) : RdS s es 0 .nilSlice [] := ⟨by simp, .inl ⟨rfl, .inl rfl⟩⟩
theorem RdS.more {s : St} {es n : Nat} {v : AV} {xs : List AV} (h : RdS s es n v xs) : moreV s es v = some xs := by
  obtain ⟨h0, ⟨rfl, h⟩ | ⟨id, lo, inc', inc, lim, cap, ex, ro, cs, rfl, h2, h3, h4, h5, h6, h7⟩⟩ := h
  · have : xs = [] := List.length_eq_zero_iff.1 (by simpa using h0)
    subst this
    rcases h with rfl | rfl <;> rfl
  · rw [more_sl, if_pos rfl, h3, rdCells_eq, if_pos ⟨h4, h5, by show 0 + n * es ≤ lim; omega⟩, List.drop_zero, h7]
theorem take_drop_take {α : Type} (l : List α) (m j k : Nat) (h : j + k ≤ m) : ((l.take m).drop j).take k = (l.drop j).take k := by
  rw [List.drop_take, List.take_take, Nat.min_eq_left (by omega)]
/-- An element of a row. -/
theorem RdS.at {s : St} {es n : Nat} {v : AV} {xs : List AV} (h : RdS s es n v xs) {i : Nat} (hi : i < n) : ∃ id lo inc' inc lim cap ex ro cs, v = .slice ⟨id, 0, inc, lim⟩ n cap ex es ∧ s.heap.get id = some (.cells cs lo inc' ro) ∧ lo ≤ inc ∧ inc ≤ inc' ∧ n * es ≤ lim ∧ (∀ j k, j + k ≤ n * es → (cs.drop j).take k = (xs.drop j).take k) := by
  obtain ⟨h0, ⟨rfl, h⟩ | ⟨id, lo, inc', inc, lim, cap, ex, ro, cs, rfl, h2, h3, h4, h5, h6, h7⟩⟩ := h
  · omega
  · refine ⟨id, lo, inc', inc, lim, cap, ex, ro, cs, rfl, h3, h4, h5, h6, fun j k hjk => ?_⟩
    rw [← h7, take_drop_take _ _ _ _ hjk]
def Slc (b : Nat) (s : St) (es n : Nat) (v : AV) (xs : List AV) : Prop := xs.length = n * es ∧ ((n = 0 ∧ v = .nilSlice) ∨ (0 < n ∧ ∃ id inc, v = .slice ⟨id, 0, inc, n * es⟩ n n false es ∧ b ≤ id ∧ id < s.next ∧ s.heap.get id = some (.cells xs 0 inc false) ∧ inc ≤ n))
theorem Slc.nil (b : Nat) (s : St) (es : Nat) : Slc b s es 0 .nilSlice [] := ⟨by simp, .inl ⟨rfl, rfl⟩⟩
theorem Slc.ext {b : Nat} {s s' : St} {es n : Nat} {v : AV} {xs : List AV} (h : Slc b s es n v xs) (he : Ext s s') : Slc b s' es n v xs := by
  obtain ⟨h1, h2 | ⟨h0, id, inc, h2, h3, h4, h5, h6⟩⟩ := h
  · exact ⟨h1, .inl h2⟩
  · exact ⟨h1, .inr ⟨h0, id, inc, h2, h3, Nat.lt_of_lt_of_le h4 he.2.1, by rw [he.2.2 id h4]; exact h5, h6⟩⟩
theorem Slc.app {s0 s : St} {es n : Nat} {v : AV} {xs more : List AV} (h : Slc s0.next s es n v xs) (he : Ext s0 s) (hm : more.length = es) (hc : more.all AV.isCell = true) (h0 : 0 < es) (hn : n < 1000000) :
    ∃ v' s', appendV (s.add (.cells more 0 0 false)) es v 1 more = some (v', s') ∧ Slc s0.next s' es (n + 1) v' (xs ++ more) ∧ Ext s0 s' ∧ s.next ≤ s'.next := by
  have hlim : (n + 1) * 65536 ≤ maxApp := by unfold maxApp; omega
  obtain ⟨h1, ⟨hn0, rfl⟩ | ⟨hn0, id, inc, rfl, h3, h4, h5, h6⟩⟩ := h
  · subst hn0
    have hx : xs = [] := List.length_eq_zero_iff.1 (by rw [h1]; omega)
    subst hx
    rw [app_nil, if_pos ⟨by omega, hc, h0⟩, if_neg (by omega), if_pos (by simpa using hlim)]
    refine ⟨_, _, rfl, ⟨by simp [hm], .inr ⟨by omega, s.next + 1, 0, rfl, ?_, ?_, ?_, by omega⟩⟩, (he.add _).add _, by show s.next ≤ s.next + 1 + 1; omega⟩
    · have := he.2.1; show s0.next ≤ s.next + 1; omega
    · show s.next + 1 < s.next + 1 + 1; omega
    · rw [add_get, if_pos (show s.next + 1 = (s.add (.cells more 0 0 false)).next from rfl)]; rfl
  · rw [app_slice, if_pos ⟨by omega, hc, h0⟩, if_neg (by omega), if_pos ⟨rfl, hlim⟩]
    have hg : (s.add (.cells more 0 0 false)).heap.get id = some (.cells xs 0 inc false) := by rw [add_get, if_neg (by omega)]; exact h5
    rw [hg, appObj_eq, if_neg (by omega), if_neg (by simp), if_pos ⟨rfl, rfl, by omega, by simp, .inl (Nat.div_eq_of_lt (by unfold tyBase; omega))⟩]
    have hp : 0 + n * es = xs.length := by omega
    simp only [hp, if_true, List.take_length]
    have hn1 : xs.length + more.length = (n + 1) * es := by rw [h1, hm, Nat.succ_mul]
    refine ⟨_, _, rfl, ⟨by simp [hn1], .inr ⟨by omega, id, inc + 1, by rw [hn1], h3, ?_, ?_, by omega⟩⟩, Ext.put (he.add _) h3 (by show id < s.next + 1; omega) _, by show s.next ≤ s.next + 1; omega⟩
    · show id < s.next + 1; omega
    · rw [put_get, if_pos rfl]
theorem take_w {α : Type} {f : α → List AV} {w : Nat} (hf : ∀ x, (f x).length = w) (l : List α) (i : Nat) (x : α) (h : l[i]? = some x) : List.take w (List.drop (i * w) (l.flatMap f)) = f x := by
  induction l generalizing i with
  | nil => simp at h
  | cons y l ih =>
    rw [List.flatMap_cons]
    cases i with
    | zero =>
      simp at h; subst h
      rw [Nat.zero_mul, List.drop_zero, List.take_append_of_le_length (by rw [hf]; omega), List.take_of_length_le (by rw [hf]; omega)]
    | succ i =>
      have h2 : (i + 1) * w = (f y).length + i * w := by rw [hf, Nat.succ_mul]; omega
      rw [h2, List.drop_append, Nat.add_sub_cancel_left, List.drop_eq_nil_of_le (by omega), List.nil_append]
      exact ih i (by simpa using h)
def RdI (s : St) (v : AV) (L : List In) : Prop := RdS s 11 L.length v (L.flatMap In.cells)
theorem RdI.ext {s s' : St} {v : AV} {L : List In} (h : RdI s v L) (he : Ext s s') : RdI s' v L := RdS.ext h he
theorem RdI.at {s : St} {v : AV} {L : List In} (h : RdI s v L) {k : Nat} {i : In} (hx : L[k]? = some i) : ∃ id lo inc' inc lim cap ex ro cs, v = .slice ⟨id, 0, inc, lim⟩ L.length cap ex 11 ∧ s.heap.get id = some (.cells cs lo inc' ro) ∧ lo ≤ inc ∧ inc ≤ inc' ∧ k * 11 + 11 ≤ lim ∧ (cs.drop (k * 11)).take 11 = i.cells ∧ k < L.length := by
  have hi : k < L.length := (List.getElem?_eq_some_iff.1 hx).1
  obtain ⟨id, lo, inc', inc, lim, cap, ex, ro, cs, h1, h2, h3, h4, h5, h6⟩ := RdS.at h hi
  refine ⟨id, lo, inc', inc, lim, cap, ex, ro, cs, h1, h2, h3, h4, by omega, ?_, hi⟩
  rw [h6 _ _ (by omega)]
  exact take_w (f := In.cells) (w := 11) (fun _ => rfl) L k i hx
def sepS : List UInt8 := [32, 59, 32]
def tagS (e0 e1 raw : Bool) : List UInt8 := (if e0 = true then [32, 58, 101, 110, 100, 108, 111, 111, 112, 48] else []) ++ ((if e1 = true then [32, 58, 101, 110, 100, 108, 111, 111, 112, 49] else []) ++ (if raw = true then [32, 58, 114, 97, 119] else []))
def packS (xs : List (List UInt8)) (e0 e1 raw : Bool) : List UInt8 := if xs = [] ∨ [] ∈ xs then [] else (if 1 < xs.length then [123, 32] ++ (joinL sepS xs ++ [32, 125]) else joinL sepS xs) ++ tagS e0 e1 raw
def strsS (L : List In) : List (List UInt8) := L.map fun i => instS i []
end Go.V
/- show's document: Packet. -/
namespace Go.V
open Go
set_option linter.unusedSimpArgs false
set_option linter.unusedVariables false
section
open Z
abbrev pK1l0 : ICode := .loop (q (q (R [(m 6 4),(f 7 0 1),(l 8 1 7),(o 9 (.lenSl t8)),(o 10 (.bin .lss t6 t9))]) (.cond t10 .skip (.exit 0))) (q (.block 1 (q (R [(f 13 0 1),(l 14 1 13),(m 15 4),(ix 16 11 14 15),(la 17 11 16),(o 18 (.call 9 [t17,(sc [])])),(m 5 18)]) (q (q (R [(m 19 5),(o 20 (.bin .eql t19 (sc [])))]) (.cond t20 (q (R [(o 2 (.move (sc [])))]) .ret) .skip)) (q (q (R [(m 21 4),(o 22 (.bin .gtr t21 (I 0)))]) (.cond t22 (R [(m 23 3),(o 24 (.bin .add t23 (sc [32,59,32]))),(m 3 24)]) .skip)) (R [(m 25 3),(m 26 5),(o 27 (.bin .add t25 t26)),(m 3 27)]))))) (R [(m 11 4),(o 12 (.bin .add t11 (I 1))),(m 4 12)])))
abbrev pK1l1 : ICode := .seq (q (R [(f 28 0 1),(l 29 1 28),(o 30 (.lenSl t29)),(o 31 (.bin .eql t30 (I 0)))]) (.cond t31 (q (R [(o 2 (.move (sc [])))]) .ret) .skip)) (q (q (R [(f 32 0 1),(l 33 1 32),(o 34 (.lenSl t33)),(o 35 (.bin .gtr t34 (I 1)))]) (.cond t35 (R [(m 36 3),(o 37 (.bin .add (sc [123,32]) t36)),(o 38 (.bin .add t37 (sc [32,125]))),(m 3 38)]) .skip)) (q (q (R [(f 39 1 1),(l 40 1 39)]) (.cond t40 (R [(m 41 3),(o 42 (.bin .add t41 (sc [32,58,101,110,100,108,111,111,112,48]))),(m 3 42)]) .skip)) (q (q (R [(f 43 2 1),(l 44 1 43)]) (.cond t44 (R [(m 45 3),(o 46 (.bin .add t45 (sc [32,58,101,110,100,108,111,111,112,49]))),(m 3 46)]) .skip)) (q (q (R [(f 47 3 1),(l 48 1 47)]) (.cond t48 (R [(m 49 3),(o 50 (.bin .add t49 (sc [32,58,114,97,119]))),(m 3 50)]) .skip)) (q (R [(m 51 3),(m 2 51)]) .ret)))))
end
open Z in def ir11 : IFunc := ⟨52,[.tmp 2],(q (R [(o 1 (.box t0)),(o 2 (.move (sc [])))]) (q (R [(o 3 (.move (sc [])))]) (q (q (R [(mi 4 0)]) (.block 0 pK1l0)) pK1l1)))⟩
section
variable {T : Tab}
end
end Go.V
/- show: Packet. -/
namespace Go.V
open Go
set_option linter.unusedSimpArgs false
set_option linter.unusedVariables false
section
open Z
abbrev pK2l0 : ICode := .loop (q (R [(o 15 (.bin .lss t14 t13))]) (q (.cond t15 .skip (.exit 0)) (q (.block 1 (q (R [(ix 16 11 12 14),(la 17 11 16),(o 7 (.alloc [(b 0),(b 0),(b 0),(b 0),(b 0),(b 0),(b 0),z,z,(.int .u16 0),(i 0)])),(st 11 7 17)]) (q (R [(la 18 11 7),(m 19 1),(o 20 (.call 7 [t18,t19])),(m 8 20)]) (q (q (R [(m 21 8),(o 22 (.bin .eql t21 (sc [])))]) (.cond t22 (q (R [(o 4 (.move (sc [])))]) .ret) .skip)) (R [(m 23 5),(m 24 8),(o 25 (.buildSlice 1 1 [(s [])] [(0,1,t24)])),(o 26 (.append 1 16 t23 t25)),(m 5 26)]))))) (R [(o 27 (.bin .add t14 (I 1))),(m 14 27)]))))
abbrev pK2l1 : ICode := .seq (q (R [(m 28 5),(o 29 (.lenSl t28)),(o 30 (.bin .eql t29 (I 0)))]) (.cond t30 (q (R [(o 4 (.move (sc [])))]) .ret) .skip)) (q (R [(m 31 5),(o 32 (.call 24 [t31,(sc [32,59,32])])),(o 9 (.alloc [(s [])])),(st 1 9 32)]) (q (q (R [(m 33 5),(o 34 (.lenSl t33)),(o 35 (.bin .gtr t34 (I 1)))]) (.cond t35 (R [(l 36 1 9),(o 37 (.bin .add (sc [123,32]) t36)),(o 38 (.bin .add t37 (sc [32,125]))),(st 1 9 38)]) .skip)) (q (R [(o 39 (.mkFunc 25 [] [t9])),(m 10 39)]) (q (R [(m 40 10),(f 41 1 2),(l 42 1 41),(o 43 (.callVal t40 [t42,(sc [32,58,101,110,100,108,111,111,112,48])]))]) (q (R [(m 44 10),(f 45 2 2),(l 46 1 45),(o 47 (.callVal t44 [t46,(sc [32,58,101,110,100,108,111,111,112,49])]))]) (q (R [(m 48 10),(f 49 3 2),(l 50 1 49),(o 51 (.callVal t48 [t50,(sc [32,58,114,97,119])]))]) (q (R [(l 52 1 9),(m 4 52)]) .ret)))))))
end
open Z in def ir10 : IFunc := ⟨53,[.tmp 4],(q (R [(o 2 (.box t0)),(o 4 (.move (sc [])))]) (q (R [(o 5 (.move (.c .nilSlice)))]) (q (q (R [(f 11 0 2),(l 12 1 11),(o 13 (.lenSl t12)),(mi 14 0)]) (.block 0 pK2l0)) pK2l1)))⟩
open Z in def ir25 : IFunc := ⟨9,[],(q (R [(m 5 0)]) (.cond t5 (R [(l 6 1 2),(m 7 1),(o 8 (.bin .add t6 t7)),(st 1 2 8)]) .skip))⟩
section
variable {T : Tab}
end
end Go.V
/- ShowTells. -/
namespace Go.V
open Go
set_option linter.unusedSimpArgs false
set_option linter.unusedVariables false
open Z in def ir4 : IFunc := ⟨43,[.tmp 6],(q (R [(o 3 (.box t0)),(o 4 (.box t1)),(o 5 (.box t2)),(o 6 (.move F))]) (q (q (R [(f 8 0 4),(l 9 1 8),(o 10 (.lenSl t9)),(o 11 (.bin .gtr t10 (I 6))),(m 12 11),(og 13 12 false (.load false 1 t5)),(og 14 12 false (.lenStr t13)),(og 15 12 false (.bin .gtr t14 (I 20))),(o 16 (.pick t12 T t15))]) (.cond t16 (q (R [(o 17 (.call 6 [])),(m 6 17)]) .ret) .skip)) (q (R [(o 18 (.mkFunc 8 [] [t5])),(m 7 18)]) (q (.regionP [(la 19 11 3),(la 21 11 3),⟨some 20,none,[t3],(.call 7 [t19,(.c .nilFunc)])⟩,(o 22 (.call 9 [t21,(sc [])])),(o 23 (.bin .eql t20 t22)),(m 24 23),(og 25 24 true (.load true 11 t3)),(og 26 24 true (.move t7)),(og 28 24 true (.load true 11 t3)),(og 29 24 true (.load false 1 t5)),⟨some 27,some (24,true),[t3,t5],(.call 7 [t25,t26])⟩,(og 30 24 true (.call 9 [t28,t29])),(og 31 24 true (.bin .eql t27 t30)),(o 32 (.pick t24 t31 F)),(m 33 32),(og 34 33 true (.load true 5 t4)),(og 36 33 true (.load true 5 t4)),⟨some 35,some (33,true),[t4],(.call 10 [t34,(.c .nilFunc)])⟩,(og 37 33 true (.call 11 [t36])),(og 38 33 true (.bin .eql t35 t37)),(o 39 (.pick t33 t38 F)),(m 40 39),(og 41 40 true (.call 6 [])),(o 42 (.pick t40 t41 F)),(m 6 42)]) .ret))))⟩
structure ShTab (T : Tab) : Prop where
  inst : T 7 = some (.code ir7)
  right : T 5 = some (.hook (pureH (inF rightR)))
  targ : T 16 = some (.hook (pureH (inF targetR)))
  cond : T 18 = some (.hook (gateH pTab (inT condS)))
  bare : T 19 = some (.hook (gateH pTab (in2T bareS)))
  tgt : T 17 = some (.code ir17)
  fmt : T 30 = some (.hook fmt2)
structure PkTab (T : Tab) : Prop where
  pack : T 10 = some (.code ir10)
  join : T 24 = some (.hook joinH)
  tag : T 25 = some (.code ir25)
  rinst : T 9 = some (.code ir9)
  rright : T 20 = some (.hook (pureH (inF refRR)))
  dig : T 21 = some (.hook (pureH digitsG))
  pat : T 22 = some (.hook (litH patG))
  put : T 23 = some (.hook (pureH putG))
  rpack : T 11 = some (.code ir11)
  nm : T 8 = some (.code ir8)
section
variable {T : Tab}
theorem sInst (hT : ShTab T) {s : St} (hp : PS s) {i : In} (hi : i.ok = true) {fv : AV} {nm : List UInt8} (hl : nm.length ≤ 60) (hn : Nm T fv nm s) : Ran T 7 [.agg i.cells, fv] s fun v s' => v = .str (instS i nm) ∧ Ext s s' :=
  inst_ran hT.inst hT.right hT.targ hT.cond hT.bare hT.tgt hT.fmt s hp i hi hl hn
end
end Go.V
