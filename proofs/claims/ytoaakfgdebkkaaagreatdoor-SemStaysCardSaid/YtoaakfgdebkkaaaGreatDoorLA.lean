/- Rows that are read, rows that grow; rows of instructions. -/
import Derived.Test.YtoaakfgdebkkaaaGreatDoorSA
import Derived.Test.YtoaakfgdebkkaaaGreatDoorVE
import Derived.Test.YtoaakfgdebkkaaaGreatDoorPA
import Derived.Test.YtoaakfgdebkkaaaGreatDoorVZ
import Derived.KernelRfl
set_option linter.unusedVariables false
set_option linter.unusedSimpArgs false
set_option linter.unusedSectionVars false
/- Rows that are read, rows that grow; rows of instructions. -/
/- Rows that are read, rows that grow; rows of instructions. -/
namespace Go.V
open Go
set_option linter.unusedSimpArgs false
set_option linter.unusedVariables false
/- what is read -/
def Lens (v : AV) (n : Nat) : Prop := (n = 0 ∧ (v = .nilSlice ∨ v = .empty)) ∨ ∃ a cap ex es, v = .slice a n cap ex es
theorem len_op {v : AV} {n : Nat} (hv : Lens v n) (T : Tab) (Q : Post) (fs : List Fr) (d : Bool) (l : List IOp) (dst : Option Nat) (w : List Opd) (x : Opd) (e : Env) (s : St) (h : opd e x = v) :
 GoOps T Q d (⟨dst, none, w, .lenSl x⟩ :: l) fs e s ↔ GoR T Q d dst w (.val (.int .i64 (n : Int)) s) l fs e s := by
 rw [wo_lenSl, h]
 rcases hv with ⟨rfl, rfl | rfl⟩ | ⟨a, cap, ex, es, rfl⟩
 · exact Iff.rfl
 · exact Iff.rfl
 · show GoR T Q d dst w (.val (mkInt .i64 n) s) l fs e s ↔ _
   rw [mkInt_eq]
def RdS (s : St) (es n : Nat) (v : AV) (xs : List AV) : Prop := xs.length = n * es ∧ ((n = 0 ∧ (v = .nilSlice ∨ v = .empty)) ∨ ∃ id lo inc' inc lim cap ex ro cs, v = .slice ⟨id, 0, inc, lim⟩ n cap ex es ∧ id < s.next ∧ s.heap.get id = some (.cells cs lo inc' ro) ∧ lo ≤ inc ∧ inc ≤ inc' ∧ n * es ≤ lim ∧ cs.take (n * es) = xs ∧ n ≤ cap)
theorem RdS.lens {s : St} {es n : Nat} {v : AV} {xs : List AV} (h : RdS s es n v xs) : Lens v n := by
 obtain ⟨_, h | ⟨id, lo, inc', inc, lim, cap, ex, ro, cs, rfl, _⟩⟩ := h
 · exact .inl h
 · exact .inr ⟨_, _, _, _, rfl⟩
theorem RdS.ext {s s' : St} {es n : Nat} {v : AV} {xs : List AV} (h : RdS s es n v xs) (he : Ext s s') : RdS s' es n v xs := by
 obtain ⟨h0, h | ⟨id, lo, inc', inc, lim, cap, ex, ro, cs, h1, h2, h3, h4⟩⟩ := h
 · exact ⟨h0, .inl h⟩
 · exact ⟨h0, .inr ⟨id, lo, inc', inc, lim, cap, ex, ro, cs, h1, Nat.lt_of_lt_of_le h2 he.2.1, by rw [he.2.2 id h2]; exact h3, h4⟩⟩
theorem RdS.nil (s : St) (es : Nat) : RdS s es 0 .nilSlice [] := ⟨by simp, .inl ⟨rfl, .inl rfl⟩⟩
theorem RdS.more {s : St} {es n : Nat} {v : AV} {xs : List AV} (h : RdS s es n v xs) : moreV s es v = some xs := by
 obtain ⟨h0, ⟨rfl, h⟩ | ⟨id, lo, inc', inc, lim, cap, ex, ro, cs, rfl, h2, h3, h4, h5, h6, h7, h8⟩⟩ := h
 · have : xs = [] := List.length_eq_zero_iff.1 (by simpa using h0)
   subst this
   rcases h with rfl | rfl <;> rfl
 · rw [more_sl, if_pos rfl, h3, rdCells_eq, if_pos ⟨h4, h5, by show 0 + n * es ≤ lim; omega⟩, List.drop_zero, h7]
theorem take_drop_take {α : Type} (l : List α) (m j k : Nat) (h : j + k ≤ m) : ((l.take m).drop j).take k = (l.drop j).take k := by
 rw [List.drop_take, List.take_take, Nat.min_eq_left (by omega)]
/-- An element of a row. -/
theorem RdS.at {s : St} {es n : Nat} {v : AV} {xs : List AV} (h : RdS s es n v xs) {i : Nat} (hi : i < n) : ∃ id lo inc' inc lim cap ex ro cs, v = .slice ⟨id, 0, inc, lim⟩ n cap ex es ∧ s.heap.get id = some (.cells cs lo inc' ro) ∧ lo ≤ inc ∧ inc ≤ inc' ∧ n * es ≤ lim ∧ (∀ j k, j + k ≤ n * es → (cs.drop j).take k = (xs.drop j).take k) := by
 obtain ⟨h0, ⟨rfl, h⟩ | ⟨id, lo, inc', inc, lim, cap, ex, ro, cs, rfl, h2, h3, h4, h5, h6, h7, h8⟩⟩ := h
 · omega
 · refine ⟨id, lo, inc', inc, lim, cap, ex, ro, cs, rfl, h3, h4, h5, h6, fun j k hjk => ?_⟩
   rw [← h7, take_drop_take _ _ _ _ hjk]
def Slc (b : Nat) (s : St) (es n : Nat) (v : AV) (xs : List AV) : Prop := xs.length = n * es ∧ ((n = 0 ∧ v = .nilSlice) ∨ (0 < n ∧ ∃ id inc, v = .slice ⟨id, 0, inc, n * es⟩ n n false es ∧ b ≤ id ∧ id < s.next ∧ s.heap.get id = some (.cells xs 0 inc false) ∧ inc ≤ n))
theorem Slc.nil (b : Nat) (s : St) (es : Nat) : Slc b s es 0 .nilSlice [] := ⟨by simp, .inl ⟨rfl, rfl⟩⟩
theorem Slc.ext {b : Nat} {s s' : St} {es n : Nat} {v : AV} {xs : List AV} (h : Slc b s es n v xs) (he : Ext s s') : Slc b s' es n v xs := by
 obtain ⟨h1, h2 | ⟨h0, id, inc, h2, h3, h4, h5, h6⟩⟩ := h
 · exact ⟨h1, .inl h2⟩
 · exact ⟨h1, .inr ⟨h0, id, inc, h2, h3, Nat.lt_of_lt_of_le h4 he.2.1, by rw [he.2.2 id h4]; exact h5, h6⟩⟩
theorem Slc.app {s0 s : St} {es n : Nat} {v : AV} {xs more : List AV} (h : Slc s0.next s es n v xs) (he : Ext s0 s) (hm : more.length = es) (hc : more.all AV.isCell = true) (h0 : 0 < es) (hn : n < 1000000) :
 ∃ v' s', appendV (s.add (.cells more 0 0 false)) es v 1 more = some (v', s') ∧ Slc s0.next s' es (n + 1) v' (xs ++ more) ∧ Ext s0 s' ∧ s.next ≤ s'.next := by
 have hlim : (n + 1) * 65536 ≤ maxApp := by unfold maxApp; omega
 obtain ⟨h1, ⟨hn0, rfl⟩ | ⟨hn0, id, inc, rfl, h3, h4, h5, h6⟩⟩ := h
 · subst hn0
   have hx : xs = [] := List.length_eq_zero_iff.1 (by rw [h1]; omega)
   subst hx
   rw [app_nil, if_pos ⟨by omega, hc, h0⟩, if_neg (by omega), if_pos (by simpa using hlim)]
   refine ⟨_, _, rfl, ⟨by simp [hm], .inr ⟨by omega, s.next + 1, 0, rfl, ?_, ?_, ?_, by omega⟩⟩, (he.add _).add _, by show s.next ≤ s.next + 1 + 1; omega⟩
   · have := he.2.1; show s0.next ≤ s.next + 1; omega
   · show s.next + 1 < s.next + 1 + 1; omega
   · rw [add_get, if_pos (show s.next + 1 = (s.add (.cells more 0 0 false)).next from rfl)]; rfl
 · rw [app_slice, if_pos ⟨by omega, hc, h0⟩, if_neg (by omega), if_pos ⟨rfl, hlim⟩]
   have hg : (s.add (.cells more 0 0 false)).heap.get id = some (.cells xs 0 inc false) := by rw [add_get, if_neg (by omega)]; exact h5
   rw [hg, appObj_eq, if_neg (by omega), if_neg (by simp), if_pos ⟨rfl, rfl, by omega, by simp, .inl (Nat.div_eq_of_lt (by unfold tyBase; omega))⟩]
   have hp : 0 + n * es = xs.length := by omega
   simp only [hp, if_true, List.take_length]
   have hn1 : xs.length + more.length = (n + 1) * es := by rw [h1, hm, Nat.succ_mul]
   refine ⟨_, _, rfl, ⟨by simp [hn1], .inr ⟨by omega, id, inc + 1, by rw [hn1], h3, ?_, ?_, by omega⟩⟩, Ext.put (he.add _) h3 (by show id < s.next + 1; omega) _, by show s.next ≤ s.next + 1; omega⟩
   · show id < s.next + 1; omega
   · rw [put_get, if_pos rfl]
theorem take_w {α : Type} {f : α → List AV} {w : Nat} (hf : ∀ x, (f x).length = w) (l : List α) (i : Nat) (x : α) (h : l[i]? = some x) : List.take w (List.drop (i * w) (l.flatMap f)) = f x := by
 induction l generalizing i with
 | nil => simp at h
 | cons y l ih =>
  rw [List.flatMap_cons]
  cases i with
  | zero =>
   simp at h; subst h
   rw [Nat.zero_mul, List.drop_zero, List.take_append_of_le_length (by rw [hf]; omega), List.take_of_length_le (by rw [hf]; omega)]
  | succ i =>
   have h2 : (i + 1) * w = (f y).length + i * w := by rw [hf, Nat.succ_mul]; omega
   rw [h2, List.drop_append, Nat.add_sub_cancel_left, List.drop_eq_nil_of_le (by omega), List.nil_append]
   exact ih i (by simpa using h)
def RdI (s : St) (v : AV) (L : List In) : Prop := RdS s 11 L.length v (L.flatMap In.cells)
theorem RdI.ext {s s' : St} {v : AV} {L : List In} (h : RdI s v L) (he : Ext s s') : RdI s' v L := RdS.ext h he
theorem RdI.lens {s : St} {v : AV} {L : List In} (h : RdI s v L) : Lens v L.length := RdS.lens h
theorem RdI.at {s : St} {v : AV} {L : List In} (h : RdI s v L) {k : Nat} {i : In} (hx : L[k]? = some i) : ∃ id lo inc' inc lim cap ex ro cs, v = .slice ⟨id, 0, inc, lim⟩ L.length cap ex 11 ∧ s.heap.get id = some (.cells cs lo inc' ro) ∧ lo ≤ inc ∧ inc ≤ inc' ∧ k * 11 + 11 ≤ lim ∧ (cs.drop (k * 11)).take 11 = i.cells ∧ k < L.length := by
 have hi : k < L.length := (List.getElem?_eq_some_iff.1 hx).1
 obtain ⟨id, lo, inc', inc, lim, cap, ex, ro, cs, h1, h2, h3, h4, h5, h6⟩ := RdS.at h hi
 refine ⟨id, lo, inc', inc, lim, cap, ex, ro, cs, h1, h2, h3, h4, by omega, ?_, hi⟩
 rw [h6 _ _ (by omega)]
 exact take_w (f := In.cells) (w := 11) (fun _ => rfl) L k i hx
end Go.V
/- match: a slot is sought. -/
namespace Go.V
open Go
set_option linter.unusedSimpArgs false
set_option linter.unusedVariables false
section
open Z
abbrev lG1l1 : ICode := .seq (R [(o 8 (.move F))]) .ret
abbrev lG1l0 : ICode := .loop (q (R [(o 12 (.bin .lss t11 (I 4)))]) (q (.cond t12 .skip (.exit 0)) (q (.block 1 (q (R [(m 13 11),(m 9 13)]) (q (q (R [(m 14 0),(k 15 14),(f 16 0 15),(l 17 1 16),(m 18 1),(ix 19 1 17 18),(l 20 1 19),(m 21 9),(o 22 (.bin .shr t20 t21)),(o 23 (.bin .and t22 (B 1))),(o 24 (.bin .eql t23 (B 0))),(m 25 24),(og 26 25 false (.move t2)),(og 27 25 false (.move t9)),(og 28 25 false (.nilCheck t26)),(og 29 25 false (.idxArr 4 1 t28 t27)),(og 30 25 false (.load false 1 t29)),(o 31 (.pick t25 T t30))]) (.cond t31 (.exit 1) .skip)) (q (R [(m 32 2),(m 33 9),(k 34 32),(o 35 (.idxArr 4 1 t34 t33)),(n (.store 1 t35 T))]) (q (R [(m 36 0),(m 37 9),(k 38 36),(f 39 1 38),(o 40 (.idxArr 4 1 t39 t37)),(l 41 1 40),(m 10 41)]) (q (q (R [(m 42 10),(o 43 (.bin .geq t42 (I 0))),(m 44 43),(og 45 44 true (.move t10)),(og 46 44 true (.move t3)),(og 47 44 true (.bin .lss t45 t46)),(og 48 44 true (.move t47)),(og 49 48 false (.move t0)),(og 50 48 false (.move t10)),(og 51 48 false (.move t2)),(og 52 48 false (.move t3)),(og 53 48 false (.call 105 [t49,t50,t51,t52])),(og 54 48 false (.un .not t53)),(og 55 44 true (.pick t48 T t54)),(o 56 (.pick t44 t55 F))]) (.cond t56 (.exit 1) .skip)) (q (R [(m 57 0),(m 58 9),(m 59 1),(k 60 57),(f 61 1 60),(o 62 (.idxArr 4 1 t61 t58)),(st 1 62 59)]) (q (R [(o 8 (.move T))]) .ret)))))))) (R [(o 63 (.bin .add t11 (I 1))),(m 11 63)]))))
end
open Z in def ir105 : IFunc := ⟨64,[.tmp 8],(q (R [(o 8 (.move F))]) (q (q (R [(mi 11 0)]) (.block 0 lG1l0)) lG1l1))⟩
theorem takeM {α β : Type} (f : α → β) (l : List α) (i : Nat) (u : α) (hu : l[i]? = some u) : ((l.map f).drop i).take 1 = [f u] := by
 have h : (l.map f)[i]? = some (f u) := by rw [List.getElem?_map, hu]; rfl
 obtain ⟨hi, he⟩ := List.getElem?_eq_some_iff.1 h
 rw [List.drop_eq_getElem_cons hi, he]
 rfl
theorem spl_map {α : Type} (f : α → AV) (l : List α) (i : Nat) (u : α) (h : i < l.length) : spliceAt (l.map f) i [f u] = (l.set i u).map f := by
 unfold spliceAt
 rw [List.map_set, List.set_eq_take_append_cons_drop, if_pos (by simpa using h)]
 simp
theorem spl_cons {x : AV} (l : List AV) (i : Nat) (v : AV) : spliceAt (x :: l) (i + 1) [v] = x :: spliceAt l i [v] := by
 unfold spliceAt
 simp
abbrev mB : Bool → AV := .bool
abbrev mI : Int → AV := .int .i64
abbrev m8 : Int → AV := .int .u8
def Msk (s : St) (x : AV) (ms : List Int) : Prop := RdS s 1 ms.length x (ms.map m8) ∧ ∀ m ∈ ms, isByte m = true
theorem Msk.at {s : St} {x : AV} {ms : List Int} (h : Msk s x ms) {k : Nat} {m : Int} (hx : ms[k]? = some m) : ∃ id lo inc' inc lim cap ex ro cs, x = .slice ⟨id, 0, inc, lim⟩ ms.length cap ex 1 ∧ s.heap.get id = some (.cells cs lo inc' ro) ∧ lo ≤ inc ∧ inc ≤ inc' ∧ k + 1 ≤ lim ∧ (cs.drop k).take 1 = [.int .u8 m] ∧ k < ms.length ∧ isByte m = true := by
 have hi : k < ms.length := (List.getElem?_eq_some_iff.1 hx).1
 obtain ⟨id, lo, inc', inc, lim, cap, ex, ro, cs, h1, h2, h3, h4, h5, h6⟩ := RdS.at h.1 hi
 refine ⟨id, lo, inc', inc, lim, cap, ex, ro, cs, h1, h2, h3, h4, by omega, ?_, hi, h.2 m (List.mem_of_getElem? hx)⟩
 rw [h6 k 1 (by omega)]
 exact takeM m8 ms k m hx
/-- Two blocks may have changed. -/
def Two (p q : Nat) (s s' : St) : Prop := WFS s' ∧ s.next ≤ s'.next ∧ ∀ id, id < s.next → id ≠ p → id ≠ q → s'.heap.get id = s.heap.get id
theorem Two.refl {p q : Nat} {s : St} (h : WFS s) : Two p q s s := ⟨h, Nat.le_refl _, fun _ _ _ _ => rfl⟩
theorem Two.trans {p q : Nat} {a b c : St} (h : Two p q a b) (k : Two p q b c) : Two p q a c :=
 ⟨k.1, Nat.le_trans h.2.1 k.2.1, fun id h1 h2 h3 => (k.2.2 id (Nat.lt_of_lt_of_le h1 h.2.1) h2 h3).trans (h.2.2 id h1 h2 h3)⟩
theorem Two.putp {p q : Nat} {a b : St} (h : Two p q a b) (hp : p < b.next) (o : AObj) : Two p q a (b.put p o) :=
 ⟨h.1.put hp o, h.2.1, fun id h1 h2 h3 => by rw [put_get, if_neg h2]; exact h.2.2 id h1 h2 h3⟩
theorem Two.putq {p q : Nat} {a b : St} (h : Two p q a b) (hq : q < b.next) (o : AObj) : Two p q a (b.put q o) :=
 ⟨h.1.put hq o, h.2.1, fun id h1 h2 h3 => by rw [put_get, if_neg h3]; exact h.2.2 id h1 h2 h3⟩
theorem shr8 (m : Int) (h : isByte m = true) (q : Nat) : ∃ z : Int, binV .shr (.int .u8 m) (.int .i64 (q : Int)) = some (.int .u8 z) := by
 show ∃ z : Int, binInt .shr .u8 m .i64 (Int.ofNat q) = _
 simp only [binInt, mkInt_eq]
 exact ⟨_, rfl⟩
theorem and8 (m n : Int) : ∃ z : Int, binV .and (.int .u8 m) (.int .u8 n) = some (.int .u8 z) := by
 refine ⟨IntKind.wrap .u8 ((BitVec.ofInt 8 m &&& BitVec.ofInt 8 n).toNat : Int), ?_⟩
 show binInt .and .u8 m .u8 n = _
 have h1 : Op.intBits .and .u8 m n = (pure (.int .u8 (IntKind.wrap .u8 ((BitVec.ofInt 8 m &&& BitVec.ofInt 8 n).toNat : Int))) : Sem Value) := by
  simp only [Op.intBits]
  rfl
 simp only [binInt, if_true, h1]
 show pureAV (.pure (.int .u8 _)) = _
 simp only [pureAV, mkInt_eq]
def cnt (B : List Bool) : Nat := B.countP fun b => !b
theorem cnt_set (B : List Bool) (q : Nat) (h : B[q]? = some false) : cnt (B.set q true) < cnt B := by
 induction B generalizing q with
 | nil => simp at h
 | cons b B ih =>
  cases q with
  | zero => simp at h; subst h; simp [cnt]
  | succ q =>
   have := ih q (by simpa using h)
   simp only [List.set_cons_succ]
   cases b <;> simp [cnt] at * <;> omega
section
variable {T : Tab}
set_option maxHeartbeats 8000000 in
theorem takes_ran (hc : T 105 = some (.code ir105)) {pid sid : Nat} (hne : pid ≠ sid) {x : AV} {ms : List Int} (fx : Int) :
 ∀ (k : Nat) (s : St) (i : Nat) (B : List Bool) (O : List Int), WFS s → pid < s.next → sid < s.next → i < ms.length → ms.length ≤ 100 → cnt B ≤ k → B.length = 4 → O.length = 4 → (∀ o ∈ O, -1 ≤ o ∧ o < (ms.length : Int)) →
  (∀ s', Two pid sid s s' → Msk s' x ms) → s.heap.get pid = some (.cells (x :: O.map mI) 0 0 false) → s.heap.get sid = some (.cells (B.map mB) 0 0 false) →
  Ran T 105 [.ptr ⟨pid, 0, 0, 5⟩, .int .i64 (i : Int), .ptr ⟨sid, 0, 0, 4⟩, .int .i64 fx] s fun v s' => ∃ (r : Bool) (B' : List Bool) (O' : List Int), v = .bool r ∧ Two pid sid s s' ∧ B'.length = 4 ∧ O'.length = 4 ∧ (∀ o ∈ O', -1 ≤ o ∧ o < (ms.length : Int)) ∧ cnt B' ≤ cnt B ∧ s'.heap.get pid = some (.cells (x :: O'.map mI) 0 0 false) ∧ s'.heap.get sid = some (.cells (B'.map mB) 0 0 false) := by
 intro k
 induction k using Nat.strongRecOn with
 | ind k ih =>
  intro s i B O hw hp hq hi hn hcn hB hO hOr hM o1 o2
  refine ran_code hc (Nat.le_of_ble_eq_true rfl) ?_
  generalize hQ : Fin _ _ = Q
  have LL : ∀ (m q : Nat) (e : Env) (s1 : St) (B1 : List Bool) (O1 : List Int), m + q = 4 → Two pid sid s s1 → B1.length = 4 → O1.length = 4 → (∀ o ∈ O1, -1 ≤ o ∧ o < (ms.length : Int)) → cnt B1 ≤ cnt B → s1.heap.get pid = some (.cells (x :: O1.map mI) 0 0 false) → s1.heap.get sid = some (.cells (B1.map mB) 0 0 false) →
   opd e (.t 0) = .ptr ⟨pid, 0, 0, 5⟩ → opd e (.t 1) = .int .i64 (i : Int) → opd e (.t 2) = .ptr ⟨sid, 0, 0, 4⟩ → opd e (.t 3) = .int .i64 fx → opd e (.t 11) = .int .i64 (q : Int) →
   Go T Q (lG1l0) [.block 0, .seq lG1l1] e s1 := by
   intro m
   induction m with
   | zero =>
    intro q e s1 B1 O1 hm h2 hB1 hO1 hOr1 hcn1 p1 p2 h0 h1 h2' h3 h11
    have hk : ¬ (q : Int) < 4 := by omega
    rw [go_loop]
    simp only [h11, hk, wr, seval]
    subst hQ
    simp only [ir105, wr, seval]
    exact ⟨_, _, _, rfl, h2, hB1, hO1, hOr1, hcn1, p1, p2⟩
   | succ m ihm =>
    intro q e s1 B1 O1 hm h2 hB1 hO1 hOr1 hcn1 p1 p2 h0 h1 h2' h3 h11
    have hk : (q : Int) < 4 := by omega
    have hk' : q < 4 := by omega
    obtain ⟨mk, hmk⟩ : ∃ mk, ms[i]? = some mk := ⟨_, List.getElem?_eq_getElem hi⟩
    obtain ⟨id, lo, inc', inc, lim, cap, ex, ro, cs, rfl, g1, g2, g3, g4, g5, g6, g7⟩ := (hM s1 h2).at hmk
    obtain ⟨z1, hz1⟩ := shr8 mk g7 q
    obtain ⟨z2, hz2⟩ := and8 z1 1
    obtain ⟨b, hb⟩ : ∃ b, B1[q]? = some b := ⟨_, List.getElem?_eq_getElem (by omega)⟩
    obtain ⟨o, ho⟩ : ∃ o, O1[q]? = some o := ⟨_, List.getElem?_eq_getElem (by omega)⟩
    have t1 := takeM mB B1 q b hb
    have t2 := takeM mI O1 q o ho
    have or := hOr1 o (List.mem_of_getElem? ho)
    have w1 : wrapF .i64 ((q : Int) + 1) = ((q + 1 : Nat) : Int) := by rw [wrap_i64 _ (by omega) (by omega)]; omega
    have c1 : q + 1 ≤ 4 := by omega
    have c2 : 1 + (q + 1) ≤ 5 := by omega
    have t2' : ∀ y : AV, List.take 1 (List.drop (1 + q) (y :: O1.map mI)) = [.int .i64 o] := fun y => by rw [Nat.add_comm 1 q, List.drop_succ_cons]; exact t2
    rw [go_loop]
    by_cases hz : z2 = 0
    · subst hz
      simp only [h0, h1, h2', h3, h11, hk, hk', p1, p2, g1, g2, g3, g4, g5, g6, hz1, hz2, t1, t2, w1, c1, c2, Nat.mul_one, wr, seval]
      refine ihm (q + 1) _ s1 B1 O1 (by omega) h2 hB1 hO1 hOr1 hcn1 p1 p2 ?_ ?_ ?_ ?_ ?_
      all_goals simp only [h0, h1, h2', h3, h11, w1, wr, seval]
    · simp only [h0, h1, h2', h3, h11, hk, hk', p1, p2, g1, g2, g3, g4, g5, g6, hz, hz1, hz2, t1, t2, w1, c1, c2, Nat.mul_one, wr, seval]
      cases b with
      | true =>
       simp only [h0, h1, h2', h3, h11, w1, wr, seval]
       refine ihm (q + 1) _ s1 B1 O1 (by omega) h2 hB1 hO1 hOr1 hcn1 p1 p2 ?_ ?_ ?_ ?_ ?_
       all_goals simp only [h0, h1, h2', h3, h11, w1, wr, seval]
      | false =>
       have st1 := spl_map mB B1 q true (by omega)
       have hq1 : sid < s1.next := Nat.lt_of_lt_of_le hq h2.2.1
       have hp1 : pid < s1.next := Nat.lt_of_lt_of_le hp h2.2.1
       have h2b : Two pid sid s (s1.put sid (.cells ((B1.set q true).map mB) 0 0 false)) := h2.putq hq1 _
       have hcs := cnt_set B1 q hb
       have e1 : (s1.put sid (.cells ((B1.set q true).map mB) 0 0 false)).heap.get pid = some (.cells (.slice ⟨id, 0, inc, lim⟩ ms.length cap ex 1 :: O1.map mI) 0 0 false) := by rw [put_get, if_neg hne]; exact p1
       have e2 : (s1.put sid (.cells ((B1.set q true).map mB) 0 0 false)).heap.get sid = some (.cells ((B1.set q true).map mB) 0 0 false) := by rw [put_get, if_pos rfl]
       have hne' : ¬ pid = sid := hne
       simp only [mB] at st1
       simp only [h0, h1, h2', h3, h11, hk, hk', p1, p2, st1, hne', t2', c1, c2, Nat.mul_one, wr, seval]
       have hlenB : (B1.set q true).length = 4 := by rw [List.length_set]; exact hB1
       have hcB : cnt (B1.set q true) ≤ cnt B := by omega
       by_cases ho0 : 0 ≤ o
       · by_cases hof : o < fx
         · simp only [h0, h1, h2', h3, h11, ho0, hof, w1, wr, seval]
           refine ihm (q + 1) _ _ (B1.set q true) O1 (by omega) h2b hlenB hO1 hOr1 hcB e1 e2 ?_ ?_ ?_ ?_ ?_
           all_goals simp only [h0, h1, h2', h3, h11, w1, wr, seval]
         · obtain ⟨jj, hjj⟩ := Int.eq_ofNat_of_zero_le ho0
           have hrec := ih (cnt (B1.set q true)) (by omega) (s1.put sid (.cells ((B1.set q true).map mB) 0 0 false)) jj (B1.set q true) O1 h2b.1 (by have := h2b.2.1; omega) (by have := h2b.2.1; omega) (by omega) hn (Nat.le_refl _) hlenB hO1 hOr1 (fun s' h' => hM s' (h2b.trans h')) e1 e2
           rw [hjj] at ho0 hof
           simp only [hjj, h0, h1, h2', h3, h11, ho0, hof, w1, wr, seval]
           refine goCall_by hrec ?_
           rintro v s3 ⟨r, B3, O3, rfl, h23, hB3, hO3, hOr3, hcn3, p31, p32⟩
           have h2c := h2b.trans h23
           have hcn4 : cnt B3 ≤ cnt B := by omega
           cases r with
           | false =>
            simp only [h0, h1, h2', h3, h11, w1, wr, seval]
            refine ihm (q + 1) _ s3 B3 O3 (by omega) h2c hB3 hO3 hOr3 hcn4 p31 p32 ?_ ?_ ?_ ?_ ?_
            all_goals simp only [h0, h1, h2', h3, h11, w1, wr, seval]
           | true =>
            have f1 : spliceAt (.slice ⟨id, 0, inc, lim⟩ ms.length cap ex 1 :: List.map mI O3) (1 + q) [.int .i64 (i : Int)] = .slice ⟨id, 0, inc, lim⟩ ms.length cap ex 1 :: List.map mI (O3.set q (i : Int)) := by rw [Nat.add_comm 1 q, spl_cons]; rw [show (AV.int .i64 (i : Int)) = mI (i : Int) from rfl, spl_map mI O3 q (i : Int) (by omega)]
            simp only [h0, h1, h2', h3, h11, p31, p32, f1, hk', c1, c2, Nat.mul_one, wr, seval]
            subst hQ
            simp only [ir105, wr, seval]
            refine ⟨true, B3, O3.set q (i : Int), rfl, (h2c).putp (by have := (h2c).2.1; omega) _, hB3, by rw [List.length_set]; exact hO3, ?_, hcn4, rfl, by rw [if_neg (Ne.symm hne)]; exact p32⟩
            intro o' ho'
            rcases List.mem_or_eq_of_mem_set ho' with h | h
            · exact hOr3 o' h
            · subst h; omega
       ·
        have f1 : spliceAt (.slice ⟨id, 0, inc, lim⟩ ms.length cap ex 1 :: List.map mI O1) (1 + q) [.int .i64 (i : Int)] = .slice ⟨id, 0, inc, lim⟩ ms.length cap ex 1 :: List.map mI (O1.set q (i : Int)) := by rw [Nat.add_comm 1 q, spl_cons]; rw [show (AV.int .i64 (i : Int)) = mI (i : Int) from rfl, spl_map mI O1 q (i : Int) (by omega)]
        simp only [h0, h1, h2', h3, h11, ho0, e1, e2, f1, hk', c1, c2, Nat.mul_one, wr, seval]
        subst hQ
        simp only [ir105, wr, seval]
        refine ⟨true, (B1.set q true), O1.set q (i : Int), rfl, (h2b).putp (by have := (h2b).2.1; omega) _, hlenB, by rw [List.length_set]; exact hO1, ?_, hcB, rfl, by rw [if_neg (Ne.symm hne)]⟩
        intro o' ho'
        rcases List.mem_or_eq_of_mem_set ho' with h | h
        · exact hOr1 o' h
        · subst h; omega
  simp only [ir105, wr, seval]
  refine LL 4 0 _ s B O (by omega) (.refl hw) hB hO hOr (Nat.le_refl _) o1 o2 ?_ ?_ ?_ ?_ ?_
  all_goals simp only [wr, seval]
  all_goals rfl
end
end Go.V
/- match: Fits answers, and changes nothing that was there. -/
namespace Go.V
open Go
set_option linter.unusedSimpArgs false
set_option linter.unusedVariables false
section
open Z
abbrev lG2l1 : ICode := .seq (R [(o 4 (.move T))]) .ret
abbrev lG2l0 : ICode := .loop (q (q (R [(m 7 5),(m 8 0),(k 9 8),(f 10 0 9),(l 11 1 10),(o 12 (.lenSl t11)),(o 13 (.bin .lss t7 t12))]) (.cond t13 .skip (.exit 0))) (q (.block 1 (q (R [(m 16 0),(m 17 5),(o 18 (.build [z,z,z,z] [])),(o 19 (.box t18)),(m 20 1),(o 21 (.call 105 [t16,t17,t19,t20])),(o 22 (.un .not t21))]) (.cond t22 (q (R [(o 4 (.move F))]) .ret) .skip))) (R [(m 14 5),(o 15 (.bin .add t14 (I 1))),(m 5 15)])))
end
open Z in def ir83 : IFunc := ⟨23,[.tmp 4],(q (R [(o 4 (.move F))]) (q (q (R [(m 6 1),(m 5 6)]) (.block 0 lG2l0)) lG2l1))⟩
open Z in def ir82 : IFunc := ⟨27,[.tmp 4],(q (R [(o 4 (.move (.c .nilPtr)))]) (q (R [(m 8 0),(o 9 (.build [(i 0),(i 0),(i 0),(i 0)] [(0,1,(I (-1))),(1,1,(I (-1))),(2,1,(I (-1))),(3,1,(I (-1)))])),(o 10 (.build [.nilSlice,(i 0),(i 0),(i 0),(i 0)] [(0,1,t8),(1,4,t9)])),(o 11 (.box t10)),(m 5 11)]) (q (q (R [(m 12 1),(o 13 (.lenSl t12)),(mi 14 0)]) (.block 0 (.loop (q (R [(o 15 (.bin .lss t14 t13))]) (q (.cond t15 .skip (.exit 0)) (q (.block 1 (q (R [(m 16 14),(ix 17 1 12 14),(l 18 1 17),(m 6 16),(m 7 18)]) (R [(m 19 5),(m 20 7),(m 21 6),(k 22 19),(f 23 1 22),(o 24 (.idxArr 4 1 t23 t20)),(st 1 24 21)]))) (R [(o 25 (.bin .add t14 (I 1))),(m 14 25)]))))))) (q (R [(m 26 5),(m 4 26)]) .ret))))⟩
open Z in def ir48 : IFunc := ⟨11,[.tmp 2],(q (R [(o 2 (.move F))]) (q (R [(m 3 0),(o 4 (.lenSl t3)),(o 5 (.bin .leq t4 (I 4))),(m 6 5),(og 7 6 true (.move t0)),(og 8 6 true (.call 82 [t7,(.c .nilSlice)])),(og 9 6 true (.call 83 [t8,(I 0)])),(o 10 (.pick t6 t9 F)),(m 2 10)]) .ret))⟩
theorem ext_two {s0 s1 s2 : St} {p q : Nat} (h : Ext s0 s1) (k : Two p q s1 s2) (hp : s0.next ≤ p) (hq : s0.next ≤ q) : Ext s0 s2 :=
 ⟨k.1, Nat.le_trans h.2.1 k.2.1, fun id hid => by rw [k.2.2 id (Nat.lt_of_lt_of_le hid h.2.1) (by omega) (by omega)]; exact h.2.2 id hid⟩
theorem Msk.ext {s s' : St} {x : AV} {ms : List Int} (h : Msk s x ms) (he : Ext s s') : Msk s' x ms := ⟨RdS.ext h.1 he, h.2⟩
section
variable {T : Tab}
set_option maxHeartbeats 8000000 in
theorem all_ran (hc : T 83 = some (.code ir83)) (ht : T 105 = some (.code ir105)) {s0 s : St} {pid : Nat} {x : AV} {ms : List Int} (hM : Msk s0 x ms) (hn : ms.length ≤ 4) {O : List Int} (hO : O.length = 4) (hOr : ∀ o ∈ O, -1 ≤ o ∧ o < (ms.length : Int)) (hE : Ext s0 s) (hp0 : s0.next ≤ pid) (hp : pid < s.next) (o1 : s.heap.get pid = some (.cells (x :: O.map mI) 0 0 false)) :
 Ran T 83 [.ptr ⟨pid, 0, 0, 5⟩, .int .i64 0] s fun v s' => ∃ r : Bool, v = .bool r ∧ Ext s0 s' := by
 refine ran_code hc (Nat.le_of_ble_eq_true rfl) ?_
 generalize hQ : Fin _ _ = Q
 have hlenx := len_op hM.1.lens
 have LL : ∀ (m k : Nat) (e : Env) (s1 : St) (O1 : List Int), m + k = ms.length → Ext s0 s1 → pid < s1.next → O1.length = 4 → (∀ o ∈ O1, -1 ≤ o ∧ o < (ms.length : Int)) → s1.heap.get pid = some (.cells (x :: O1.map mI) 0 0 false) →
  opd e (.t 0) = .ptr ⟨pid, 0, 0, 5⟩ → opd e (.t 1) = .int .i64 0 → opd e (.t 5) = .int .i64 (k : Int) →
  Go T Q (lG2l0) [.block 0, .seq lG2l1] e s1 := by
  intro m
  induction m with
  | zero =>
   intro k e s1 O1 hm h2 hp1 hO1 hOr1 p1 h0 h1 h5
   have hk : ¬ (k : Int) < (ms.length : Int) := by omega
   rw [go_loop]
   simp only [h0, h5, p1, ↓hlenx, hk, wr, seval]
   subst hQ
   simp only [ir83, wr, seval]
   exact ⟨_, rfl, h2⟩
  | succ m ihm =>
   intro k e s1 O1 hm h2 hp1 hO1 hOr1 p1 h0 h1 h5
   have hk : (k : Int) < (ms.length : Int) := by omega
   have hE1 : Ext s0 (s1.add (.cells [.bool false, .bool false, .bool false, .bool false] 0 0 false)) := h2.add _
   have hs0 : s0.next ≤ s1.next := h2.2.1
   have w1 : wrapF .i64 ((k : Int) + 1) = ((k + 1 : Nat) : Int) := by rw [wrap_i64 _ (by omega) (by omega)]; omega
   have hrec := takes_ran ht (pid := pid) (sid := s1.next) (by omega) (x := x) (ms := ms) 0 4 (s1.add (.cells [.bool false, .bool false, .bool false, .bool false] 0 0 false)) k [false, false, false, false] O1 hE1.1 (by show pid < s1.next + 1; omega) (by show s1.next < s1.next + 1; omega) (by omega) (by omega) (by decide) rfl hO1 hOr1 (fun s' h' => hM.ext (ext_two hE1 h' hp0 hs0)) (by rw [add_get, if_neg (by omega)]; exact p1) (by rw [add_get, if_pos rfl]; rfl)
   rw [go_loop]
   simp only [h0, h1, h5, p1, ↓hlenx, hk, wr, seval]
   refine goCall_by hrec ?_
   rintro v s2 ⟨r, B2, O2, rfl, h22, _, hO2, hOr2, _, p2, _⟩
   have hE2 := ext_two hE1 h22 hp0 hs0
   cases r with
   | true =>
    simp only [h0, h1, h5, w1, wr, seval]
    refine ihm (k + 1) _ s2 O2 (by omega) hE2 (by have := h22.2.1; have : s1.next + 1 ≤ s2.next := this; omega) hO2 hOr2 p2 ?_ ?_ ?_
    all_goals simp only [h0, h1, h5, w1, wr, seval]
   | false =>
    simp only [h0, h1, h5, w1, wr, seval]
    subst hQ
    simp only [ir83, wr, seval]
    exact ⟨_, rfl, hE2⟩
 simp only [ir83, wr, seval]
 refine LL ms.length 0 _ s O (by omega) hE hp hO hOr o1 ?_ ?_ ?_
 all_goals simp only [wr, seval]
 all_goals rfl
set_option maxHeartbeats 8000000 in
theorem fits_ran2 (hc : T 48 = some (.code ir48)) (hb : T 82 = some (.code ir82)) (ha : T 83 = some (.code ir83)) (ht : T 105 = some (.code ir105)) {s : St} (hs : WFS s) {x : AV} {ms : List Int} (hM : Msk s x ms) (hxc : x.isCell = true) :
 Ran T 48 [x] s fun v s' => ∃ r : Bool, v = .bool r ∧ Ext s s' := by
 refine ran_code hc (Nat.le_of_ble_eq_true rfl) ?_
 have hlenx := len_op hM.1.lens
 have hxx : x.cells = [x] := by cases x <;> first | rfl | cases hxc
 by_cases hn : ms.length ≤ 4
 · have hn' : (ms.length : Int) ≤ 4 := by omega
   simp only [ir48, ↓hlenx, hn', wr, seval]
   refine goCall_by (K := fun v s' => v = .ptr ⟨s.next, 0, 0, 5⟩ ∧ s' = s.add (.cells [x, .int .i64 (-1), .int .i64 (-1), .int .i64 (-1), .int .i64 (-1)] 0 0 false)) ?_ ?_
   · refine ran_code hb (Nat.le_of_ble_eq_true rfl) ?_
     simp only [ir82, hxx, hxc, wr, seval]
     rw [go_loop]
     simp only [wr, seval]
   · rintro v s1 ⟨rfl, rfl⟩
     simp only [wr, seval]
     refine goCall_by (all_ran ha ht hM hn (O := [-1, -1, -1, -1]) rfl (by intro o ho; simp at ho; subst ho; omega) (.add (.refl hs) _) (Nat.le_refl _) (by show s.next < s.next + 1; omega) (by rw [add_get, if_pos rfl]; rfl)) ?_
     rintro v s2 ⟨r, rfl, hE⟩
     simp only [wr, seval]
     exact ⟨r, rfl, hE⟩
 · have hn' : ¬ (ms.length : Int) ≤ 4 := by omega
   simp only [ir48, ↓hlenx, hn', wr, seval]
   exact ⟨_, rfl, .refl hs⟩
end
end Go.V
/- legal: the masks of a row of instructions. -/
namespace Go.V
open Go
set_option linter.unusedSimpArgs false
set_option linter.unusedVariables false
section
open Z
abbrev lG3l1 : ICode := .seq (R [(m 28 5),(m 4 28)]) .ret
abbrev lG3l0 : ICode := .loop (q (R [(o 12 (.bin .lss t11 t10))]) (q (.cond t12 .skip (.exit 0)) (q (.block 1 (q (R [(ix 13 11 9 11),(la 14 11 13),(o 7 (.alloc [(b 0),(b 0),(b 0),(b 0),(b 0),(b 0),(b 0),z,z,(.int .u16 0),(i 0)])),(st 11 7 14)]) (q (R [(la 15 11 7),(o 16 (.call 69 [t15])),(o 17 (.call 84 [t16])),(m 18 1),(o 19 (.bin .and t17 t18)),(m 8 19)]) (q (q (R [(la 20 11 7),(o 21 (.call 43 [t20])),(o 22 (.un .not t21))]) (.cond t22 (R [(o 8 (.move (B 0)))]) .skip)) (R [(m 23 5),(m 24 8),(o 25 (.buildSlice 1 1 [(b 0)] [(0,1,t24)])),(o 26 (.append 1 1 t23 t25)),(m 5 26)]))))) (R [(o 27 (.bin .add t11 (I 1))),(m 11 27)]))))
end
open Z in def ir49 : IFunc := ⟨29,[.tmp 4],(q (R [(o 4 (.move (.c .nilSlice)))]) (q (R [(o 5 (.move (.c .nilSlice)))]) (q (q (R [(m 9 0),(o 10 (.lenSl t9)),(mi 11 0)]) (.block 0 lG3l0)) lG3l1)))⟩
theorem Slc.rd {b : Nat} {s : St} {es n : Nat} {v : AV} {xs : List AV} (h : Slc b s es n v xs) : RdS s es n v xs := by
 obtain ⟨h1, ⟨h2, h3⟩ | ⟨h0, id, inc, h2, h3, h4, h5, h6⟩⟩ := h
 · exact ⟨h1, .inl ⟨h2, .inl h3⟩⟩
 · exact ⟨h1, .inr ⟨id, 0, inc, inc, n * es, n, false, false, xs, h2, h4, h5, Nat.zero_le _, Nat.le_refl _, Nat.le_refl _, List.take_of_length_le (by omega), Nat.le_refl _⟩⟩
theorem Slc.cell {b : Nat} {s : St} {es n : Nat} {v : AV} {xs : List AV} (h : Slc b s es n v xs) : v.isCell = true := by
 obtain ⟨_, ⟨_, h3⟩ | ⟨_, id, inc, h2, _⟩⟩ := h
 · rw [h3]; rfl
 · rw [h2]; rfl
theorem wrap8 (n : Int) : isByte (IntKind.wrap .u8 n) = true := by
 have h : 0 ≤ IntKind.wrap .u8 n ∧ IntKind.wrap .u8 n ≤ 255 := by
  unfold IntKind.wrap
  simp [IntKind.signed, IntKind.bits]
  omega
 obtain ⟨h1, h2⟩ := h
 cases hw : IntKind.wrap .u8 n with
 | ofNat k => rw [hw] at h2; simp [isByte]; have : (k : Int) ≤ 255 := h2; omega
 | negSucc k => rw [hw] at h1; exact absurd h1 (by omega)
theorem and8b (m n : Int) : ∃ z : Int, isByte z = true ∧ binV .and (.int .u8 m) (.int .u8 n) = some (.int .u8 z) := by
 refine ⟨IntKind.wrap .u8 ((BitVec.ofInt 8 m &&& BitVec.ofInt 8 n).toNat : Int), wrap8 _, ?_⟩
 show binInt .and .u8 m .u8 n = _
 have h1 : Op.intBits .and .u8 m n = (pure (.int .u8 (IntKind.wrap .u8 ((BitVec.ofInt 8 m &&& BitVec.ofInt 8 n).toNat : Int))) : Sem Value) := by
  simp only [Op.intBits]
  rfl
 simp only [binInt, if_true, h1]
 show pureAV (.pure (.int .u8 _)) = _
 simp only [pureAV, mkInt_eq]
section
variable {T : Tab}
theorem slotsOf_ran (hc : T 84 = some (.code ir84)) (s : St) (hs : WFS s) (c : Int) : Ran T 84 [.int .u8 c] s fun v s' => ∃ m : Int, v = .int .u8 m ∧ s' = s := by
 refine ran_code hc (Nat.le_of_ble_eq_true rfl) ?_
 generalize hQ : Fin _ _ = Q
 simp only [ir84, wr, seval]
 repeat' (first | refine goC_split (fun h => ?_) (fun h => ?_) | refine goG_split_t (fun h => ?_) (fun h => ?_) | refine goG_split_f (fun h => ?_) (fun h => ?_)) <;> (try simp only [Bool.not_eq_true', Bool.not_eq_false'] at h) <;> (try simp only [h, wr, seval])
 all_goals subst hQ
 all_goals simp only [ir84, wr, seval]
 all_goals exact ⟨_, rfl⟩
structure InTab (T : Tab) : Prop where
 right : T 43 = some (.hook (pureH (inF rightR)))
 cls : T 69 = some (.hook (pureH classG))
 slo : T 84 = some (.code ir84)
set_option maxHeartbeats 8000000 in
theorem slots_ran (hc : T 49 = some (.code ir49)) (hT : InTab T) {s : St} (hs : WFS s) {x : AV} {L : List In} (hx : RdI s x L) (hok : ∀ i ∈ L, i.ok = true) (hL : L.length ≤ 1000) (w : Int) :
 Ran T 49 [x, .int .u8 w] s fun v s' => ∃ ms : List Int, Msk s' v ms ∧ v.isCell = true ∧ Ext s s' := by
 refine ran_code hc (Nat.le_of_ble_eq_true rfl) ?_
 generalize hQ : Fin _ _ = Q
 have hlen := len_op hx.lens
 have k1 := goCall_hook hT.right
 have k2 := goCall_hook hT.cls
 have LL : ∀ (m k : Nat) (e : Env) (s1 : St) (v : AV) (ms : List Int), m + k = L.length → Ext s s1 → Slc s.next s1 1 k v (ms.map m8) → ms.length = k → (∀ z ∈ ms, isByte z = true) → opd e (.t 1) = .int .u8 w → opd e (.t 5) = v → opd e (.t 9) = x → opd e (.t 10) = .int .i64 (L.length : Int) → opd e (.t 11) = .int .i64 (k : Int) →
  Go T Q (lG3l0) [.block 0, .seq lG3l1] e s1 := by
  intro m
  induction m with
  | zero =>
   intro k e s1 v ms hm hE hS hml hmb h1 h5 h9 h10 h11
   have hk : ¬ (k : Int) < (L.length : Int) := by omega
   rw [go_loop]
   simp only [h5, h10, h11, hk, wr, seval]
   subst hQ
   simp only [ir49, h5, wr, seval]
   subst hml
   exact ⟨ms, ⟨hS.rd, hmb⟩, hS.cell, hE⟩
  | succ m ih =>
   intro k e s1 v ms hm hE hS hml hmb h1 h5 h9 h10 h11
   have hxs := hx.ext hE
   have hkn : k < L.length := by omega
   have hk : (k : Int) < (L.length : Int) := by omega
   obtain ⟨i, hi⟩ : ∃ i, L[k]? = some i := ⟨_, List.getElem?_eq_getElem hkn⟩
   have him := List.mem_of_getElem? hi
   have oi := hok i him
   have b1 : isByte i.op = true := by simp only [In.ok, Bool.and_eq_true] at oi; exact oi.1
   have hoI : okI i = true := by simp only [In.ok, Bool.and_eq_true] at oi; simp only [okI, b1, oi.2.2.2.2.2.2.2.2.2, Bool.and_self]
   have q1 := fun s => inF_eq rightR i s hoI
   have q2 := fun s => classH_eq i s b1
   obtain ⟨id, lo, inc', inc, lim, cap, ex, ro, cs, rfl, g1, g2, g3, g4, g5, g6⟩ := hxs.at hi
   have w1 : wrapF .i64 ((k : Int) + 1) = ((k + 1 : Nat) : Int) := by rw [wrap_i64 _ (by omega) (by omega)]; omega
   have cells : i.cells = [.int .u8 i.op, .int .u8 i.d, .int .u8 i.s, .int .u8 i.t, .int .u8 i.n, .int .u8 i.pred, .int .u8 i.mode, .bool i.nw, .bool i.ext, .int .u16 i.count, .int .i64 i.imm] := rfl
   rw [cells] at g5
   simp only [cells, rightR] at q1 q2
   rw [go_loop]
   simp only [h1, h5, h9, h10, h11, hk, g1, g2, g3, g4, g5, g6, k2, q2, wr, seval]
   refine goCall_by (slotsOf_ran hT.slo _ (hE.add _).1 _) ?_
   rintro r s2 ⟨c, rfl, rfl⟩
   obtain ⟨z, hz, hz2⟩ := and8b c w
   have hE2 : Ext s (s1.add (.cells [.int .u8 i.op, .int .u8 i.d, .int .u8 i.s, .int .u8 i.t, .int .u8 i.n, .int .u8 i.pred, .int .u8 i.mode, .bool i.nw, .bool i.ext, .int .u16 i.count, .int .i64 i.imm] 0 0 false)) := hE.add _
   have hS2 := hS.ext (.add (.refl hE.1) (.cells [.int .u8 i.op, .int .u8 i.d, .int .u8 i.s, .int .u8 i.t, .int .u8 i.n, .int .u8 i.pred, .int .u8 i.mode, .bool i.nw, .bool i.ext, .int .u16 i.count, .int .i64 i.imm] 0 0 false))
   cases hR : rightF i with
   | true =>
    rw [hR] at q1
    obtain ⟨v', s3, a1, a2, a3, a4⟩ := Slc.app (more := [.int .u8 z]) hS2 hE2 rfl rfl (by omega) (by omega)
    simp only [h1, h5, h9, h10, h11, hz2, k1, q1, a1, w1, wr, seval]
    refine ih (k + 1) _ s3 v' (ms ++ [z]) (by omega) a3 (by rw [List.map_append]; exact a2) (by simp [hml]) (by intro y hy; rcases List.mem_append.1 hy with h | h; exact hmb y h; rw [List.mem_singleton] at h; subst h; exact hz) ?_ ?_ ?_ ?_ ?_
    all_goals simp only [h1, h5, h9, h10, h11, wr, seval]
   | false =>
    rw [hR] at q1
    obtain ⟨v', s3, a1, a2, a3, a4⟩ := Slc.app (more := [.int .u8 0]) hS2 hE2 rfl rfl (by omega) (by omega)
    simp only [h1, h5, h9, h10, h11, hz2, k1, q1, a1, w1, wr, seval]
    refine ih (k + 1) _ s3 v' (ms ++ [0]) (by omega) a3 (by rw [List.map_append]; exact a2) (by simp [hml]) (by intro y hy; rcases List.mem_append.1 hy with h | h; exact hmb y h; rw [List.mem_singleton] at h; subst h; rfl) ?_ ?_ ?_ ?_ ?_
    all_goals simp only [h1, h5, h9, h10, h11, wr, seval]
 simp only [ir49, ↓hlen, wr, seval]
 refine LL L.length 0 _ s .nilSlice [] (by omega) (.refl hs) (Slc.nil _ _ _) rfl (by simp) ?_ ?_ ?_ ?_ ?_
 all_goals simp only [wr, seval]
 all_goals rfl
end
end Go.V
/- legal: Words, long. -/
namespace Go.V
open Go
set_option linter.unusedSimpArgs false
set_option linter.unusedVariables false
section
open Z
abbrev lG4l1 : ICode := .seq (q (R [(f 21 4 1),(l 22 1 21)]) (.cond t22 (R [(m 23 3),(o 24 (.bin .sub t23 (I 1))),(m 3 24)]) .skip)) (q (R [(m 25 3),(m 2 25)]) .ret)
abbrev lG4l0 : ICode := .loop (q (R [(o 13 (.bin .lss t12 t11))]) (q (.cond t13 .skip (.exit 0)) (q (.block 1 (q (R [(ix 14 11 10 12),(la 15 11 14),(o 5 (.alloc [(b 0),(b 0),(b 0),(b 0),(b 0),(b 0),(b 0),z,z,(.int .u16 0),(i 0)])),(st 11 5 15)]) (q (R [(f 16 8 5),(l 17 1 16)]) (.cond t17 (R [(m 18 3),(o 19 (.bin .add t18 (I 1))),(m 3 19)]) .skip)))) (R [(o 20 (.bin .add t12 (I 1))),(m 12 20)]))))
end
open Z in def ir16 : IFunc := ⟨26,[.tmp 2],(q (R [(o 1 (.box t0)),(mi 2 0)]) (q (R [(f 6 0 1),(l 7 1 6),(o 8 (.lenSl t7)),(m 3 8)]) (q (q (R [(f 9 0 1),(l 10 1 9),(o 11 (.lenSl t10)),(mi 12 0)]) (.block 0 lG4l0)) lG4l1)))⟩
open Z in def ir17 : IFunc := ⟨21,[.tmp 2],(q (R [(o 1 (.box t0)),(o 2 (.move F))]) (q (R [(la 4 5 1),(o 5 (.call 16 [t4])),(m 3 5)]) (q (R [(f 6 1 1),(l 7 1 6),(m 8 7),(og 9 8 true (.move t3)),(og 10 8 true (.bin .lss t9 (I 2))),(o 11 (.pick t8 t10 F)),(m 12 11),(og 13 12 false (.fieldAddr 2 t1)),(og 14 12 false (.load false 1 t13)),(og 15 12 false (.move t14)),(og 16 15 true (.move t3)),(og 17 15 true (.bin .lss t16 (I 3))),(og 18 12 false (.pick t15 t17 F)),(o 19 (.pick t12 T t18)),(o 20 (.un .not t19)),(m 2 20)]) .ret)))⟩
section
variable {T : Tab}
set_option maxHeartbeats 8000000 in
theorem words_ran (hc : T 16 = some (.code ir16)) {s : St} (hs : WFS s) {x : AV} {L : List In} (hx : RdI s x L) (hL : L.length ≤ 1000) {e0 e1 raw dup : Bool} :
 Ran T 16 [.agg [x, .bool e0, .bool e1, .bool raw, .bool dup]] s fun v s' => ∃ n : Int, v = .int .i64 n ∧ Ext s s' := by
 refine ran_code hc (Nat.le_of_ble_eq_true rfl) ?_
 generalize hQ : Fin _ _ = Q
 have hlen := len_op hx.lens
 have hE0 : Ext s (s.add (.cells [x, .bool e0, .bool e1, .bool raw, .bool dup] 0 0 false)) := .add (.refl hs) _
 have hb0 : (s.add (.cells [x, .bool e0, .bool e1, .bool raw, .bool dup] 0 0 false)).heap.get s.next = some (.cells [x, .bool e0, .bool e1, .bool raw, .bool dup] 0 0 false) := by rw [add_get, if_pos rfl]
 generalize hs0 : s.add (.cells [x, .bool e0, .bool e1, .bool raw, .bool dup] 0 0 false) = sB at *
 have hnx : s.next < sB.next := by rw [← hs0]; show s.next < s.next + 1; omega
 have LL : ∀ (m k : Nat) (e : Env) (s1 : St) (n : Int), m + k = L.length → Ext sB s1 → opd e (.t 1) = .ptr ⟨s.next, 0, 0, 5⟩ → opd e (.t 3) = .int .i64 n → opd e (.t 10) = x → opd e (.t 11) = .int .i64 (L.length : Int) → opd e (.t 12) = .int .i64 (k : Int) →
  Go T Q (lG4l0) [.block 0, .seq lG4l1] e s1 := by
  intro m
  induction m with
  | zero =>
   intro k e s1 n hm hE h1 h3 h10 h11 h12
   have hk : ¬ (k : Int) < (L.length : Int) := by omega
   have hb : s1.heap.get s.next = some (.cells [x, .bool e0, .bool e1, .bool raw, .bool dup] 0 0 false) := by rw [hE.2.2 _ hnx]; exact hb0
   rw [go_loop]
   cases dup <;>
    (simp only [h1, h3, h11, h12, hk, hb, wr, seval]
     subst hQ
     simp only [ir16, h1, h3, h11, h12, hk, hb, wr, seval]
     exact ⟨_, rfl, hE0.trans hE⟩)
  | succ m ih =>
   intro k e s1 n hm hE h1 h3 h10 h11 h12
   have hxs := hx.ext (hE0.trans hE)
   have hkn : k < L.length := by omega
   have hk : (k : Int) < (L.length : Int) := by omega
   obtain ⟨i, hi⟩ : ∃ i, L[k]? = some i := ⟨_, List.getElem?_eq_getElem hkn⟩
   obtain ⟨id, lo, inc', inc, lim, cap, ex, ro, cs, rfl, g1, g2, g3, g4, g5, g6⟩ := hxs.at hi
   have cells : i.cells = [.int .u8 i.op, .int .u8 i.d, .int .u8 i.s, .int .u8 i.t, .int .u8 i.n, .int .u8 i.pred, .int .u8 i.mode, .bool i.nw, .bool i.ext, .int .u16 i.count, .int .i64 i.imm] := rfl
   rw [cells] at g5
   have w1 : wrapF .i64 ((k : Int) + 1) = ((k + 1 : Nat) : Int) := by rw [wrap_i64 _ (by omega) (by omega)]; omega
   rw [go_loop]
   cases hx8 : i.ext with
   | true =>
    rw [hx8] at g5
    simp only [h1, h3, h10, h11, h12, hk, g1, g2, g3, g4, g5, g6, w1, wr, seval]
    refine ih (k + 1) _ _ (wrapF .i64 (n + 1)) (by omega) (hE.add _) ?_ ?_ ?_ ?_ ?_
    all_goals simp only [h1, h3, h10, h11, h12, wr, seval]
   | false =>
    rw [hx8] at g5
    simp only [h1, h3, h10, h11, h12, hk, g1, g2, g3, g4, g5, g6, w1, wr, seval]
    refine ih (k + 1) _ _ n (by omega) (hE.add _) ?_ ?_ ?_ ?_ ?_
    all_goals simp only [h1, h3, h10, h11, h12, wr, seval]
 simp only [ir16, ↓hlen, hs0, hb0, wr, seval]
 refine LL L.length 0 _ sB (L.length : Int) (by omega) (.refl hE0.1) ?_ ?_ ?_ ?_ ?_
 all_goals simp only [wr, seval]
 all_goals rfl
theorem long_ran (hc : T 17 = some (.code ir17)) (hW : T 16 = some (.code ir16)) {s : St} (hs : WFS s) {x : AV} {L : List In} (hx : RdI s x L) (hL : L.length ≤ 1000) {e0 e1 raw dup : Bool} :
 Ran T 17 [.agg [x, .bool e0, .bool e1, .bool raw, .bool dup]] s fun v s' => ∃ b : Bool, v = .bool b ∧ Ext s s' := by
 refine ran_code hc (Nat.le_of_ble_eq_true rfl) ?_
 generalize hQ : Fin _ _ = Q
 have hE0 : Ext s (s.add (.cells [x, .bool e0, .bool e1, .bool raw, .bool dup] 0 0 false)) := .add (.refl hs) _
 simp only [ir17, wr, seval]
 refine goCall_by (words_ran hW hE0.1 (hx.ext hE0) hL) ?_
 rintro v s1 ⟨n, rfl, hE⟩
 have hb : s1.heap.get s.next = some (.cells [x, .bool e0, .bool e1, .bool raw, .bool dup] 0 0 false) := by rw [hE.2.2 _ (by show s.next < s.next + 1; omega), add_get, if_pos rfl]
 subst hQ
 by_cases n2 : n < 2 <;> by_cases n3 : n < 3 <;> cases e0 <;> cases e1 <;>
  (simp only [ir17, hb, n2, n3, wr, seval]
   exact ⟨_, rfl, hE0.trans hE⟩)
end
end Go.V
/- Parts of rows; and parts of them. -/
namespace Go.V
open Go
set_option linter.unusedSimpArgs false
set_option linter.unusedVariables false
def RdIo (s : St) (v : AV) (L : List In) : Prop := (L = [] ∧ Lens v 0) ∨ ∃ id off lo inc' inc lim cap ex ro cs, v = .slice ⟨id, off, inc, lim⟩ L.length cap ex 11 ∧ id < s.next ∧ s.heap.get id = some (.cells cs lo inc' ro) ∧ lo ≤ inc ∧ inc ≤ inc' ∧ off + L.length * 11 ≤ lim ∧ (cs.drop off).take (L.length * 11) = L.flatMap In.cells
theorem RdIo.ext {s s' : St} {v : AV} {L : List In} (h : RdIo s v L) (he : Ext s s') : RdIo s' v L := by
 obtain h | ⟨id, off, lo, inc', inc, lim, cap, ex, ro, cs, h1, h2, h3, h4⟩ := h
 · exact .inl h
 · exact .inr ⟨id, off, lo, inc', inc, lim, cap, ex, ro, cs, h1, Nat.lt_of_lt_of_le h2 he.2.1, by rw [he.2.2 id h2]; exact h3, h4⟩
theorem RdIo.lens {s : St} {v : AV} {L : List In} (h : RdIo s v L) : Lens v L.length := by
 obtain ⟨rfl, h⟩ | ⟨id, off, lo, inc', inc, lim, cap, ex, ro, cs, h1, _⟩ := h
 · exact h
 · exact .inr ⟨_, _, _, _, h1⟩
theorem RdI.o {s : St} {v : AV} {L : List In} (h : RdI s v L) : RdIo s v L := by
 obtain ⟨h0, ⟨h1, h2⟩ | ⟨id, lo, inc', inc, lim, cap, ex, ro, cs, h1, h2, h3, h4, h5, h6, h7, h8⟩⟩ := h
 · exact .inl ⟨List.length_eq_zero_iff.1 h1, .inl ⟨rfl, h2⟩⟩
 · exact .inr ⟨id, 0, lo, inc', inc, lim, cap, ex, ro, cs, h1, h2, h3, h4, h5, by omega, by rw [List.drop_zero]; exact h7⟩
theorem RdIo.at {s : St} {v : AV} {L : List In} (h : RdIo s v L) {k : Nat} {i : In} (hx : L[k]? = some i) : ∃ id off lo inc' inc lim cap ex ro cs, v = .slice ⟨id, off, inc, lim⟩ L.length cap ex 11 ∧ s.heap.get id = some (.cells cs lo inc' ro) ∧ lo ≤ inc ∧ inc ≤ inc' ∧ off + (k * 11 + 11) ≤ lim ∧ (cs.drop (off + k * 11)).take 11 = i.cells ∧ k < L.length := by
 have hi : k < L.length := (List.getElem?_eq_some_iff.1 hx).1
 obtain ⟨rfl, _⟩ | ⟨id, off, lo, inc', inc, lim, cap, ex, ro, cs, h1, h2, h3, h4, h5, h6, h7⟩ := h
 · simp at hx
 · refine ⟨id, off, lo, inc', inc, lim, cap, ex, ro, cs, h1, h3, h4, h5, by omega, ?_, hi⟩
   have := take_w (f := In.cells) (w := 11) (fun _ => rfl) L k i hx
   rw [← h7, List.drop_take, List.take_take, List.drop_drop, Nat.min_eq_left (by omega)] at this
   exact this
theorem RdIo.part {s : St} {v : AV} {L : List In} (h : RdI s v L) {k : Nat} (hk : k ≤ L.length) (hL : 0 < L.length) : ∃ v', sliceSlV 11 v (some (.int .i64 (k : Int))) none none = some v' ∧ RdIo s v' (L.drop k) := by
 obtain ⟨h0, ⟨h1, _⟩ | ⟨id, lo, inc', inc, lim, cap, ex, ro, cs, rfl, h2, h3, h4, h5, h6, h7, h8⟩⟩ := h
 · omega
 · have e : sliceSlV 11 (.slice ⟨id, 0, inc, lim⟩ L.length cap ex 11) (some (.int .i64 (k : Int))) none none = if k < cap then some (.slice ⟨id, 0 + k * 11, inc, lim⟩ (L.length - k) (cap - k) (ex || false) 11) else if (ex || false) = true then some (.slice ⟨id, 0, inc, lim⟩ 0 0 true 11) else some .empty := by
    show (if (11 : Nat) = 11 then (match (if k ≤ L.length then some k else none) with
     | none => none
     | some l => if 0 + L.length * 11 ≤ lim then (if l < cap then some (AV.slice ⟨id, 0 + l * 11, inc, lim⟩ (L.length - l) (cap - l) (ex || false) 11) else if (ex || false) = true then some (.slice ⟨id, 0, inc, lim⟩ 0 0 true 11) else some .empty) else none) else none) = _
    rw [if_pos rfl, if_pos hk]
    simp only []
    rw [if_pos (by omega)]
   rw [e]
   by_cases hc : k < cap
   · rw [if_pos hc]
     refine ⟨_, rfl, .inr ⟨id, 0 + k * 11, lo, inc', inc, lim, cap - k, ex || false, ro, cs, by rw [List.length_drop], h2, h3, h4, h5, by rw [List.length_drop]; omega, ?_⟩⟩
     rw [List.length_drop]
     have hd : ∀ (k : Nat) (L : List In), (L.flatMap In.cells).drop (k * 11) = (L.drop k).flatMap In.cells := by
      intro k
      induction k with
      | zero => intro L; simp
      | succ k ih =>
       intro L
       cases L with
       | nil => simp
       | cons a L =>
        rw [List.flatMap_cons, List.drop_succ_cons, ← ih L, show (k + 1) * 11 = a.cells.length + k * 11 by rw [show a.cells.length = 11 from rfl]; omega, List.drop_append, Nat.add_sub_cancel_left, List.drop_eq_nil_of_le (by omega), List.nil_append]
     rw [← hd, ← h7, List.drop_take, Nat.zero_add, ← Nat.sub_mul]
   · have hkL : k = L.length := by omega
     have hd0 : L.drop k = [] := List.drop_eq_nil_of_le (by omega)
     rw [if_neg hc, hd0]
     cases ex
     · exact ⟨_, rfl, .inl ⟨rfl, .inl ⟨rfl, .inr rfl⟩⟩⟩
     · exact ⟨_, rfl, .inl ⟨rfl, .inr ⟨_, _, _, _, rfl⟩⟩⟩
end Go.V
/- rules: functions that ask of an instruction; a row asked by one. -/
namespace Go.V
open Go
set_option linter.unusedSimpArgs false
set_option linter.unusedVariables false
section
open Z
abbrev lG5l2 : ICode := .seq (R [(mi 4 (-1))]) .ret
abbrev lG5l0 : ICode := .loop (q (R [(o 9 (.bin .lss t8 t7))]) (q (.cond t9 .skip (.exit 0)) (q (.block 1 (q (R [(m 10 8),(m 5 10)]) (q (R [(m 11 1),(m 12 0),(m 13 5),(ix 14 1 12 13),(l 15 1 14),(o 16 (.bin .eql t11 t15))]) (.cond t16 (q (R [(m 17 5),(m 4 17)]) .ret) .skip)))) (R [(o 18 (.bin .add t8 (I 1))),(m 8 18)]))))
abbrev lG5l1 : ICode := .loop (q (R [(o 9 (.bin .lss t8 t7))]) (q (.cond t9 .skip (.exit 0)) (q (.block 1 (q (R [(m 10 8),(m 5 10)]) (q (R [(m 11 1),(m 12 0),(m 13 5),(ix 14 11 12 13),(la 15 11 14),(o 16 (.callVal t11 [t15]))]) (.cond t16 (q (R [(m 17 5),(m 4 17)]) .ret) .skip)))) (R [(o 18 (.bin .add t8 (I 1))),(m 8 18)]))))
end
open Z in def ir98 : IFunc := ⟨19,[.tmp 4],(q (R [(mi 4 0)]) (q (q (R [(m 6 0),(o 7 (.lenSl t6)),(mi 8 0)]) (.block 0 lG5l0)) lG5l2))⟩
open Z in def ir68 : IFunc := ⟨9,[.tmp 4],(q (R [(o 4 (.move F))]) (q (R [(m 5 0),(m 6 1),(o 7 (.call 98 [t5,t6])),(o 8 (.bin .geq t7 (I 0))),(m 4 8)]) .ret))⟩
open Z in def ir70 : IFunc := ⟨19,[.tmp 4],(q (R [(mi 4 0)]) (q (q (R [(m 6 0),(o 7 (.lenSl t6)),(mi 8 0)]) (.block 0 lG5l1)) lG5l2))⟩
open Z in def ir41 : IFunc := ⟨9,[.tmp 4],(q (R [(o 4 (.move F))]) (q (R [(m 5 0),(m 6 1),(o 7 (.call 70 [t5,t6])),(o 8 (.bin .geq t7 (I 0))),(m 4 8)]) .ret))⟩
open Z in def ir40 : IFunc := ⟨4,[.tmp 2],(q (R [(o 1 (.box t0)),(o 2 (.move (.c .nilFunc)))]) (q (R [(o 3 (.mkFunc 67 [] [t1])),(m 2 3)]) .ret))⟩
open Z in def ir67 : IFunc := ⟨8,[.tmp 3],(q (R [(o 2 (.box t0)),(o 3 (.move F))]) (q (.regionP [(l 4 1 1),(la 5 11 2),⟨some 6,none,[t1],(.call 69 [t5])⟩,(o 7 (.call 68 [t4,t6])),(m 3 7)]) .ret))⟩
open Z in def ir42 : IFunc := ⟨6,[.tmp 2],(q (R [(o 1 (.box t0)),(o 2 (.move F))]) (q (R [(la 3 11 1),(o 4 (.call 43 [t3])),(o 5 (.un .not t4)),(m 2 5)]) .ret))⟩
section
variable {T : Tab}
set_option maxHeartbeats 4000000 in
theorem idx8_ran (hc : T 98 = some (.code ir98)) (s : St) (hs : WFS s) {x : AV} {ms : List Int} (hM : Msk s x ms) (hn : ms.length ≤ 1000) (z : Int) :
 Ran T 98 [x, .int .u8 z] s fun v s' => ∃ r : Int, v = .int .i64 r ∧ s' = s := by
 refine ran_code hc (Nat.le_of_ble_eq_true rfl) ?_
 generalize hQ : Fin _ _ = Q
 have hlen := len_op hM.1.lens
 have LL : ∀ (m k : Nat) (e : Env), m + k = ms.length → opd e (.t 0) = x → opd e (.t 1) = .int .u8 z → opd e (.t 7) = .int .i64 (ms.length : Int) → opd e (.t 8) = .int .i64 (k : Int) →
  Go T Q (lG5l0) [.block 0, .seq lG5l2] e s := by
  intro m
  induction m with
  | zero =>
   intro k e hm h0 h1 h7 h8
   have hk : ¬ (k : Int) < (ms.length : Int) := by omega
   rw [go_loop]
   simp only [h7, h8, hk, wr, seval]
   subst hQ
   simp only [ir98, wr, seval]
   exact ⟨_, rfl⟩
  | succ m ih =>
   intro k e hm h0 h1 h7 h8
   have hk : (k : Int) < (ms.length : Int) := by omega
   have hkn : k < ms.length := by omega
   obtain ⟨mk, hmk⟩ : ∃ mk, ms[k]? = some mk := ⟨_, List.getElem?_eq_getElem hkn⟩
   obtain ⟨id, lo, inc', inc, lim, cap, ex, ro, cs, rfl, g1, g2, g3, g4, g5, g6, g7⟩ := hM.at hmk
   have w1 : wrapF .i64 ((k : Int) + 1) = ((k + 1 : Nat) : Int) := by rw [wrap_i64 _ (by omega) (by omega)]; omega
   rw [go_loop]
   by_cases hz : z = mk
   · simp only [h0, h1, h7, h8, hk, g1, g2, g3, g4, g5, g6, hz, w1, Nat.mul_one, wr, seval]
     subst hQ
     simp only [ir98, wr, seval]
     exact ⟨_, rfl⟩
   · simp only [h0, h1, h7, h8, hk, g1, g2, g3, g4, g5, g6, hz, w1, Nat.mul_one, wr, seval]
     refine ih (k + 1) _ (by omega) ?_ ?_ ?_ ?_
     all_goals simp only [h0, h1, h7, h8, wr, seval]
 simp only [ir98, ↓hlen, wr, seval]
 refine LL ms.length 0 _ (by omega) ?_ ?_ ?_ ?_
 all_goals simp only [wr, seval]
 all_goals rfl
theorem cont8_ran (hc : T 68 = some (.code ir68)) (hi : T 98 = some (.code ir98)) (s : St) (hs : WFS s) {x : AV} {ms : List Int} (hM : Msk s x ms) (hn : ms.length ≤ 1000) (z : Int) :
 Ran T 68 [x, .int .u8 z] s fun v s' => ∃ r : Bool, v = .bool r ∧ s' = s := by
 refine ran_code hc (Nat.le_of_ble_eq_true rfl) ?_
 simp only [ir68, wr, seval]
 refine goCall_by (idx8_ran hi s hs hM hn z) ?_
 rintro v s' ⟨r, rfl, rfl⟩
 simp only [wr, seval]
 exact ⟨_, rfl⟩
/-- A function that answers of any instruction, and changes nothing that was there. -/
def FnB (T : Tab) (s0 : St) (fv : AV) : Prop := ∃ f fst cap, fv = .func f fst cap ∧ ∀ s, Ext s0 s → ∀ i : In, i.ok = true → Ran T f (fst ++ [.agg i.cells] ++ cap) s fun v s' => ∃ b : Bool, v = .bool b ∧ Ext s s'
theorem FnB.ext {s0 s1 : St} {fv : AV} (h : FnB T s0 fv) (hE : Ext s0 s1) : FnB T s1 fv := by
 obtain ⟨f, fst, cap, h1, h2⟩ := h
 exact ⟨f, fst, cap, h1, fun s h3 => h2 s (hE.trans h3)⟩
set_option maxHeartbeats 4000000 in
theorem ifunc_ran (hc : T 70 = some (.code ir70)) {s : St} (hs : WFS s) {x fv : AV} {L : List In} (hx : RdIo s x L) (hok : ∀ i ∈ L, i.ok = true) (hL : L.length ≤ 1000) (hF : FnB T s fv) :
 Ran T 70 [x, fv] s fun v s' => ∃ r : Int, v = .int .i64 r ∧ Ext s s' := by
 refine ran_code hc (Nat.le_of_ble_eq_true rfl) ?_
 generalize hQ : Fin _ _ = Q
 have hlen := len_op hx.lens
 obtain ⟨f, fst, cap, rfl, hf⟩ := hF
 have LL : ∀ (m k : Nat) (e : Env) (s1 : St), m + k = L.length → Ext s s1 → opd e (.t 0) = x → opd e (.t 1) = .func f fst cap → opd e (.t 7) = .int .i64 (L.length : Int) → opd e (.t 8) = .int .i64 (k : Int) →
  Go T Q (lG5l1) [.block 0, .seq lG5l2] e s1 := by
  intro m
  induction m with
  | zero =>
   intro k e s1 hm hE h0 h1 h7 h8
   have hk : ¬ (k : Int) < (L.length : Int) := by omega
   rw [go_loop]
   simp only [h7, h8, hk, wr, seval]
   subst hQ
   simp only [ir70, wr, seval]
   exact ⟨_, rfl, hE⟩
  | succ m ih =>
   intro k e s1 hm hE h0 h1 h7 h8
   have hxs := hx.ext hE
   have hkn : k < L.length := by omega
   have hk : (k : Int) < (L.length : Int) := by omega
   obtain ⟨i, hi⟩ : ∃ i, L[k]? = some i := ⟨_, List.getElem?_eq_getElem hkn⟩
   have him := List.mem_of_getElem? hi
   obtain ⟨id, off, lo, inc', inc, lim, cp, ex, ro, cs, rfl, g1, g2, g3, g4, g5, g6⟩ := hxs.at hi
   have w1 : wrapF .i64 ((k : Int) + 1) = ((k + 1 : Nat) : Int) := by rw [wrap_i64 _ (by omega) (by omega)]; omega
   rw [go_loop]
   simp only [h0, h1, h7, h8, hk, g1, g2, g3, g4, g5, g6, goCV_func, wr, seval]
   refine goCall_by (hf s1 hE i (hok i him)) ?_
   rintro v s2 ⟨b, rfl, hE2⟩
   cases b with
   | true =>
    simp only [h0, h1, h7, h8, w1, wr, seval]
    subst hQ
    simp only [ir70, wr, seval]
    exact ⟨_, rfl, hE.trans hE2⟩
   | false =>
    simp only [h0, h1, h7, h8, w1, wr, seval]
    refine ih (k + 1) _ s2 (by omega) (hE.trans hE2) ?_ ?_ ?_ ?_
    all_goals simp only [h0, h1, h7, h8, wr, seval]
 simp only [ir70, ↓hlen, wr, seval]
 refine LL L.length 0 _ s (by omega) (.refl hs) ?_ ?_ ?_ ?_
 all_goals simp only [wr, seval]
 all_goals rfl
theorem cfunc_ran (hc : T 41 = some (.code ir41)) (hi : T 70 = some (.code ir70)) {s : St} (hs : WFS s) {x fv : AV} {L : List In} (hx : RdIo s x L) (hok : ∀ i ∈ L, i.ok = true) (hL : L.length ≤ 1000) (hF : FnB T s fv) :
 Ran T 41 [x, fv] s fun v s' => ∃ r : Bool, v = .bool r ∧ Ext s s' := by
 refine ran_code hc (Nat.le_of_ble_eq_true rfl) ?_
 simp only [ir41, wr, seval]
 refine goCall_by (ifunc_ran hi hs hx hok hL hF) ?_
 rintro v s' ⟨r, rfl, hE⟩
 simp only [wr, seval]
 exact ⟨_, rfl, hE⟩
theorem okB {i : In} (oi : i.ok = true) : isByte i.op = true ∧ okI i = true := by
 simp only [In.ok, Bool.and_eq_true] at oi
 exact ⟨oi.1, by simp only [okI, oi.1, oi.2.2.2.2.2.2.2.2.2, Bool.and_self]⟩
structure RuTab (T : Tab) : Prop where
 inn : InTab T
 idx : T 98 = some (.code ir98)
 cont : T 68 = some (.code ir68)
 ifun : T 70 = some (.code ir70)
 cfun : T 41 = some (.code ir41)
 of_ : T 40 = some (.code ir40)
 of1 : T 67 = some (.code ir67)
 ch1 : T 42 = some (.code ir42)
set_option maxHeartbeats 4000000 in
theorem of_ran (hT : RuTab T) {s : St} (hs : WFS s) {x : AV} {ms : List Int} (hM : Msk s x ms) (hn : ms.length ≤ 1000) (hxc : x.isCell = true) :
 Ran T 40 [x] s fun v s' => FnB T s' v ∧ v.isCell = true ∧ Ext s s' := by
 refine ran_code hT.of_ (Nat.le_of_ble_eq_true rfl) ?_
 have hxx : x.cells = [x] := by cases x <;> first | rfl | cases hxc
 simp only [ir40, hxx, hxc, wr, seval]
 have hE0 : Ext s (s.add (.cells [x] 0 0 false)) := .add (.refl hs) _
 refine ⟨⟨67, [], [.ptr ⟨s.next, 0, 0, 1⟩], rfl, ?_⟩, hE0⟩
 intro s1 hE i hi
 have hb : s1.heap.get s.next = some (.cells [x] 0 0 false) := by rw [hE.2.2 _ (by show s.next < s.next + 1; omega), add_get, if_pos rfl]
 obtain ⟨b1, oI⟩ := okB hi
 have k2 := goCall_hook hT.inn.cls
 have q2 := fun s => classH_eq i s b1
 have cells : i.cells = [.int .u8 i.op, .int .u8 i.d, .int .u8 i.s, .int .u8 i.t, .int .u8 i.n, .int .u8 i.pred, .int .u8 i.mode, .bool i.nw, .bool i.ext, .int .u16 i.count, .int .i64 i.imm] := rfl
 simp only [cells] at q2
 have hlt : s.next < s1.next := Nat.lt_of_lt_of_le (by show s.next < s.next + 1; omega) hE.2.1
 have hne : ¬ s.next = s1.next := by omega
 refine ran_code hT.of1 (Nat.le_of_ble_eq_true rfl) ?_
 simp only [ir67, cells, hb, hne, k2, q2, goR_watch, watch_cons, watch_nil, wat_ptr, wat_map, sameObj_refl, Bool.and_self, true_and, wr, seval]
 have hE2 : Ext s (s1.add (.cells [.int .u8 i.op, .int .u8 i.d, .int .u8 i.s, .int .u8 i.t, .int .u8 i.n, .int .u8 i.pred, .int .u8 i.mode, .bool i.nw, .bool i.ext, .int .u16 i.count, .int .i64 i.imm] 0 0 false)) := (hE0.trans hE).add _
 refine goCall_by (cont8_ran hT.cont hT.idx _ hE2.1 (hM.ext hE2) hn _) ?_
 rintro v s2 ⟨b, rfl, rfl⟩
 simp only [wr, seval]
 exact ⟨_, rfl, .add (.refl hE.1) _⟩
theorem ch1_fn (hT : RuTab T) {s : St} (hs : WFS s) : FnB T s (.func 42 [] []) := by
 refine ⟨_, _, _, rfl, fun s1 hE i hi => ?_⟩
 obtain ⟨b1, oI⟩ := okB hi
 have k1 := goCall_hook hT.inn.right
 have q1 := fun s => inF_eq rightR i s oI
 have cells : i.cells = [.int .u8 i.op, .int .u8 i.d, .int .u8 i.s, .int .u8 i.t, .int .u8 i.n, .int .u8 i.pred, .int .u8 i.mode, .bool i.nw, .bool i.ext, .int .u16 i.count, .int .i64 i.imm] := rfl
 simp only [cells, rightR] at q1
 refine ran_code hT.ch1 (Nat.le_of_ble_eq_true rfl) ?_
 simp only [ir42, cells, k1, q1, wr, seval]
 exact ⟨_, rfl, .add (.refl hE.1) _⟩
end
end Go.V
/- rules: what clashes. -/
namespace Go.V
open Go
set_option linter.unusedSimpArgs false
set_option linter.unusedVariables false
open Z in def ir103 : IFunc := ⟨36,[.tmp 4],(q (R [(o 2 (.box t0)),(o 3 (.box t1)),(o 4 (.move F))]) (q (q (R [(f 7 5 2),(l 8 1 7),(f 9 5 3),(l 10 1 9),(o 11 (.bin .neq t8 t10))]) (.cond t11 (q (R [(o 4 (.move F))]) .ret) .skip)) (q (.region [(f 12 6 2),(l 13 1 12),(f 14 6 3),(l 15 1 14),(o 16 (.minmax false [t13,t15])),(f 17 6 2),(l 18 1 17),(f 19 6 3),(l 20 1 19),(o 21 (.minmax true [t18,t20])),(m 5 16),(m 6 21)] true) (q (R [(m 22 5),(o 23 (.bin .eql t22 (B 1))),(m 24 23),(og 25 24 true (.move t6)),(og 26 24 true (.bin .eql t25 (B 2))),(o 27 (.pick t24 t26 F)),(m 28 27),(og 29 28 false (.move t5)),(og 30 28 false (.bin .eql t29 (B 3))),(og 31 28 false (.move t30)),(og 32 31 true (.move t6)),(og 33 31 true (.bin .eql t32 (B 4))),(og 34 28 false (.pick t31 t33 F)),(o 35 (.pick t28 T t34)),(m 4 35)]) .ret))))⟩
open Z in def ir76 : IFunc := ⟨53,[.tmp 4],(q (R [(o 2 (.box t0)),(o 3 (.box t1)),(o 4 (.move F))]) (q (R [(la 12 11 2),(o 13 (.call 80 [t12])),(m 11 13),(x 14 11 0),(x 15 11 1),(m 5 14),(m 6 15)]) (q (R [(la 17 11 3),(o 18 (.call 80 [t17])),(m 16 18),(x 19 16 0),(x 20 16 1),(m 7 19),(m 8 20)]) (q (q (R [(m 21 6),(m 22 21),(og 23 22 true (.move t8)),(o 24 (.pick t22 t23 F)),(m 25 24),(og 26 25 true (.move t5)),(og 27 25 true (.move t7)),(og 28 25 true (.bin .eql t26 t27)),(o 29 (.pick t25 t28 F))]) (.cond t29 (q (R [(la 30 11 2),(la 31 11 3),(o 32 (.call 103 [t30,t31])),(o 33 (.un .not t32)),(m 4 33)]) .ret) .skip)) (q (R [(la 35 11 2),(o 36 (.call 79 [t35])),(m 34 36),(x 37 34 0),(x 38 34 1),(m 9 37),(m 6 38)]) (q (R [(la 40 11 3),(o 41 (.call 79 [t40])),(m 39 41),(x 42 39 0),(x 43 39 1),(m 10 42),(m 8 43)]) (q (R [(m 44 6),(m 45 44),(og 46 45 true (.move t8)),(o 47 (.pick t45 t46 F)),(m 48 47),(og 49 48 true (.move t9)),(og 50 48 true (.move t10)),(og 51 48 true (.bin .eql t49 t50)),(o 52 (.pick t48 t51 F)),(m 4 52)]) .ret)))))))⟩
open Z in def ir44 : IFunc := ⟨19,[.tmp 2],(q (R [(o 2 (.move F))]) (q (q (R [(m 5 0),(o 6 (.lenSl t5)),(mi 7 0)]) (.block 0 (.loop (q (R [(o 8 (.bin .lss t7 t6))]) (q (.cond t8 .skip (.exit 0)) (q (.block 1 (q (R [(m 9 7),(ix 10 11 5 7),(la 11 11 10),(o 4 (.alloc [(b 0),(b 0),(b 0),(b 0),(b 0),(b 0),(b 0),z,z,(.int .u16 0),(i 0)])),(m 3 9),(st 11 4 11)]) (q (R [(m 12 0),(m 13 3),(o 14 (.bin .add t13 (I 1))),(o 15 (.sliceSl 11 t12 (some t14) none none)),(o 16 (.mkFunc 75 [] [t4])),(o 17 (.call 41 [t15,t16]))]) (.cond t17 (q (R [(o 2 (.move T))]) .ret) .skip)))) (R [(o 18 (.bin .add t7 (I 1))),(m 7 18)]))))))) (q (R [(o 2 (.move F))]) .ret)))⟩
open Z in def ir75 : IFunc := ⟨7,[.tmp 3],(q (R [(o 2 (.box t0)),(o 3 (.move F))]) (q (R [(la 4 11 1),(la 5 11 2),(o 6 (.call 76 [t4,t5])),(m 3 6)]) .ret))⟩
section
variable {T : Tab}
structure WrTab (T : Tab) : Prop where
 wr : T 80 = some (.hook (pureH (inF writesR)))
 wp : T 79 = some (.hook (pureH (inF writesPredR)))
 rp : T 77 = some (.hook (pureH (inF readsPredR)))
 apart : T 103 = some (.code ir103)
 clash : T 76 = some (.code ir76)
 clashes : T 44 = some (.code ir44)
 cl1 : T 75 = some (.code ir75)
theorem mm8 (f : Bool) (a b : Int) : ∃ m : Int, minmaxV f (.int .u8 a) [.int .u8 b] = some (.int .u8 m) := by
 simp only [minmaxV, minmax2]
 repeat' split
 all_goals simp_all
set_option maxHeartbeats 4000000 in
theorem apart_ran (hc : T 103 = some (.code ir103)) (s : St) (hs : WFS s) (i j : In) :
 Ran T 103 [.agg i.cells, .agg j.cells] s fun v s' => ∃ b : Bool, v = .bool b ∧ Ext s s' := by
 refine ran_code hc (Nat.le_of_ble_eq_true rfl) ?_
 generalize hQ : Fin _ _ = Q
 have hE : Ext s ((s.add (.cells i.cells 0 0 false)).add (.cells j.cells 0 0 false)) := .add (.add (.refl hs) _) _
 simp only [In.cells] at hE
 by_cases hp : i.pred = j.pred
 · obtain ⟨a, ha⟩ := mm8 false i.mode j.mode
   obtain ⟨b, hb⟩ := mm8 true i.mode j.mode
   rw [hp] at hE
   by_cases a1 : a = 1 <;> by_cases a3 : a = 3 <;> by_cases b2 : b = 2 <;> by_cases b4 : b = 4 <;>
    (simp only [ir103, In.cells, hp, ha, hb, a1, a3, b2, b4, wr, seval]
     first | omega | (subst hQ; simp only [ir103, wr, seval]; exact ⟨_, rfl, hE⟩))
 · simp only [ir103, In.cells, hp, wr, seval]
   subst hQ
   simp only [ir103, wr, seval]
   exact ⟨_, rfl, hE⟩
set_option maxHeartbeats 4000000 in
theorem clash_ran (hT : WrTab T) (s : St) (hs : WFS s) (i j : In) (hi : i.ok = true) (hj : j.ok = true) :
 Ran T 76 [.agg i.cells, .agg j.cells] s fun v s' => ∃ b : Bool, v = .bool b ∧ Ext s s' := by
 refine ran_code hT.clash (Nat.le_of_ble_eq_true rfl) ?_
 generalize hQ : Fin _ _ = Q
 have hE : Ext s ((s.add (.cells i.cells 0 0 false)).add (.cells j.cells 0 0 false)) := .add (.add (.refl hs) _) _
 obtain ⟨b1, oi⟩ := okB hi
 obtain ⟨b2, oj⟩ := okB hj
 have k1 := goCall_hook hT.wr
 have k2 := goCall_hook hT.wp
 have q1 := fun s => inF_eq writesR i s oi
 have q2 := fun s => inF_eq writesR j s oj
 have q3 := fun s => inF_eq writesPredR i s oi
 have q4 := fun s => inF_eq writesPredR j s oj
 have ci : i.cells = [.int .u8 i.op, .int .u8 i.d, .int .u8 i.s, .int .u8 i.t, .int .u8 i.n, .int .u8 i.pred, .int .u8 i.mode, .bool i.nw, .bool i.ext, .int .u16 i.count, .int .i64 i.imm] := rfl
 have cj : j.cells = [.int .u8 j.op, .int .u8 j.d, .int .u8 j.s, .int .u8 j.t, .int .u8 j.n, .int .u8 j.pred, .int .u8 j.mode, .bool j.nw, .bool j.ext, .int .u16 j.count, .int .i64 j.imm] := rfl
 simp only [ci, cj, writesR, writesPredR] at q1 q2 q3 q4 hE
 generalize (writesF i) = wi at *
 generalize (writesF j) = wj at *
 generalize (writesPredF i) = pi at *
 generalize (writesPredF j) = pj at *
 obtain ⟨r, ok1⟩ := wi
 obtain ⟨r', ok2⟩ := wj
 obtain ⟨p, ok3⟩ := pi
 obtain ⟨p', ok4⟩ := pj
 cases ok1 <;> cases ok2 <;> by_cases hr : r = r' <;> cases ok3 <;> cases ok4
 all_goals simp only [ir76, ci, cj, k1, k2, q1, q2, q3, q4, hr, wr, seval]
 all_goals (first | (subst hQ; simp only [ir76, wr, seval]; exact ⟨_, rfl, hE⟩) | skip)
 all_goals
  have ap := apart_ran hT.apart _ hE.1 i j
  rw [ci, cj] at ap
  refine goCall_by ap ?_
  rintro v s2 ⟨b, rfl, hE2⟩
  simp only [wr, seval]
  subst hQ
  simp only [ir76, wr, seval]
  exact ⟨_, rfl, hE.trans hE2⟩
theorem cl1_fn (hT : WrTab T) {s : St} (hs : WFS s) {id : Nat} {i : In} (hi : i.ok = true) (hid : id < s.next) (ho : s.heap.get id = some (.cells i.cells 0 0 false)) : FnB T s (.func 75 [] [.ptr ⟨id, 0, 0, 11⟩]) := by
 refine ⟨_, _, _, rfl, fun s1 hE j hj => ?_⟩
 have hb : s1.heap.get id = some (.cells i.cells 0 0 false) := by rw [hE.2.2 _ hid]; exact ho
 have hlt : id < s1.next := Nat.lt_of_lt_of_le hid hE.2.1
 have hne : ¬ id = s1.next := by omega
 have ci : i.cells = [.int .u8 i.op, .int .u8 i.d, .int .u8 i.s, .int .u8 i.t, .int .u8 i.n, .int .u8 i.pred, .int .u8 i.mode, .bool i.nw, .bool i.ext, .int .u16 i.count, .int .i64 i.imm] := rfl
 have cj : j.cells = [.int .u8 j.op, .int .u8 j.d, .int .u8 j.s, .int .u8 j.t, .int .u8 j.n, .int .u8 j.pred, .int .u8 j.mode, .bool j.nw, .bool j.ext, .int .u16 j.count, .int .i64 j.imm] := rfl
 have cl := clash_ran hT (s1.add (.cells j.cells 0 0 false)) (Ext.add (.refl hE.1) _).1 i j hi hj
 rw [ci, cj] at cl
 rw [ci] at hb
 refine ran_code hT.cl1 (Nat.le_of_ble_eq_true rfl) ?_
 simp only [ir75, cj, hb, hne, wr, seval]
 refine goCall_by cl ?_
 rintro v s2 ⟨b, rfl, hE2⟩
 simp only [wr, seval]
 exact ⟨_, rfl, (Ext.add (.refl hE.1) _).trans hE2⟩
end
end Go.V
/- rules: clashes. -/
namespace Go.V
open Go
set_option linter.unusedSimpArgs false
set_option linter.unusedVariables false
section
open Z
abbrev lG7l1 : ICode := .seq (R [(o 2 (.move F))]) .ret
abbrev lG7l0 : ICode := .loop (q (R [(o 8 (.bin .lss t7 t6))]) (q (.cond t8 .skip (.exit 0)) (q (.block 1 (q (R [(m 9 7),(ix 10 11 5 7),(la 11 11 10),(o 4 (.alloc [(b 0),(b 0),(b 0),(b 0),(b 0),(b 0),(b 0),z,z,(.int .u16 0),(i 0)])),(m 3 9),(st 11 4 11)]) (q (R [(m 12 0),(m 13 3),(o 14 (.bin .add t13 (I 1))),(o 15 (.sliceSl 11 t12 (some t14) none none)),(o 16 (.mkFunc 75 [] [t4])),(o 17 (.call 41 [t15,t16]))]) (.cond t17 (q (R [(o 2 (.move T))]) .ret) .skip)))) (R [(o 18 (.bin .add t7 (I 1))),(m 7 18)]))))
end
section
variable {T : Tab}
set_option maxHeartbeats 8000000 in
theorem clashes_ran (hW : WrTab T) (hT : RuTab T) {s : St} (hs : WFS s) {x : AV} {L : List In} (hx : RdI s x L) (hok : ∀ i ∈ L, i.ok = true) (hL : L.length ≤ 1000) :
 Ran T 44 [x] s fun v s' => ∃ b : Bool, v = .bool b ∧ Ext s s' := by
 refine ran_code hW.clashes (Nat.le_of_ble_eq_true rfl) ?_
 generalize hQ : Fin _ _ = Q
 have hlen := len_op hx.lens
 have LL : ∀ (m k : Nat) (e : Env) (s1 : St), m + k = L.length → Ext s s1 → opd e (.t 0) = x → opd e (.t 5) = x → opd e (.t 6) = .int .i64 (L.length : Int) → opd e (.t 7) = .int .i64 (k : Int) →
  Go T Q (lG7l0) [.block 0, .seq lG7l1] e s1 := by
  intro m
  induction m with
  | zero =>
   intro k e s1 hm hE h0 h5 h6 h7
   have hk : ¬ (k : Int) < (L.length : Int) := by omega
   rw [go_loop]
   simp only [h6, h7, hk, wr, seval]
   subst hQ
   simp only [ir44, wr, seval]
   exact ⟨_, rfl, hE⟩
  | succ m ih =>
   intro k e s1 hm hE h0 h5 h6 h7
   have hxs := hx.ext hE
   have hkn : k < L.length := by omega
   have hk : (k : Int) < (L.length : Int) := by omega
   obtain ⟨i, hi⟩ : ∃ i, L[k]? = some i := ⟨_, List.getElem?_eq_getElem hkn⟩
   have him := List.mem_of_getElem? hi
   obtain ⟨x', hp1, hp2⟩ := RdIo.part hxs (k := k + 1) (by omega) (by omega)
   obtain ⟨id, lo, inc', inc, lim, cp, ex, ro, cs, rfl, g1, g2, g3, g4, g5, g6⟩ := hxs.at hi
   have w1 : wrapF .i64 ((k : Int) + 1) = ((k + 1 : Nat) : Int) := by rw [wrap_i64 _ (by omega) (by omega)]; omega
   have ci : i.cells = [.int .u8 i.op, .int .u8 i.d, .int .u8 i.s, .int .u8 i.t, .int .u8 i.n, .int .u8 i.pred, .int .u8 i.mode, .bool i.nw, .bool i.ext, .int .u16 i.count, .int .i64 i.imm] := rfl
   have hE2 := hE.add (.cells i.cells 0 0 false)
   have hf := cl1_fn hW (s := s1.add (.cells i.cells 0 0 false)) (id := s1.next) hE2.1 (hok i him) (by show s1.next < s1.next + 1; omega) (by rw [add_get, if_pos rfl])
   have cf := cfunc_ran hT.cfun hT.ifun hE2.1 (hp2.ext (.add (.refl hE.1) (.cells i.cells 0 0 false))) (fun j hj => hok j (List.mem_of_mem_drop hj)) (by rw [List.length_drop]; omega) hf
   rw [ci] at g5 cf
   rw [go_loop]
   simp only [h0, h5, h6, h7, hk, g1, g2, g3, g4, g5, g6, w1, hp1, wr, seval]
   refine goCall_by cf ?_
   rintro v s2 ⟨b, rfl, hE3⟩
   rw [ci] at hE2
   cases b with
   | true =>
    simp only [h0, h5, h6, h7, w1, wr, seval]
    subst hQ
    simp only [ir44, wr, seval]
    exact ⟨_, rfl, hE2.trans hE3⟩
   | false =>
    simp only [h0, h5, h6, h7, w1, wr, seval]
    refine ih (k + 1) _ s2 (by omega) (hE2.trans hE3) ?_ ?_ ?_ ?_
    all_goals simp only [h0, h5, h6, h7, wr, seval]
 simp only [ir44, ↓hlen, wr, seval]
 refine LL L.length 0 _ s (by omega) (.refl hs) ?_ ?_ ?_ ?_
 all_goals simp only [wr, seval]
 all_goals rfl
end
end Go.V
/- rules: fed. -/
namespace Go.V
open Go
set_option linter.unusedSimpArgs false
set_option linter.unusedVariables false
section
open Z
abbrev lG8l1 : ICode := .seq (R [(m 57 8),(o 58 (.bin .eql t57 (I 1))),(m 59 58),(og 60 59 true (.move t9)),(o 61 (.pick t59 t60 F)),(m 4 61)]) .ret
abbrev lG8l0 : ICode := .loop (q (R [(o 30 (.bin .lss t29 t28))]) (q (.cond t30 .skip (.exit 0)) (q (.block 1 (q (R [(ix 31 11 27 29),(la 32 11 31),(o 11 (.alloc [(b 0),(b 0),(b 0),(b 0),(b 0),(b 0),(b 0),z,z,(.int .u16 0),(i 0)])),(st 11 11 32)]) (q (R [(la 34 11 11),(o 35 (.call 80 [t34])),(m 33 35),(x 36 33 0),(x 37 33 1),(m 12 36),(m 13 37)]) (q (R [(m 38 13),(m 39 38),(og 40 39 true (.move t12)),(og 41 39 true (.fieldAddr 3 t2)),(og 42 39 true (.load false 1 t41)),(og 43 39 true (.bin .eql t40 t42)),(o 44 (.pick t39 t43 F))]) (.cond t44 (q (R [(m 45 8),(o 46 (.bin .add t45 (I 1))),(m 8 46)]) (.regionP [(f 47 6 11),(l 48 1 47),(o 49 (.bin .eql t48 (B 0))),(m 50 49),(og 53 50 true (.load true 11 t11)),(og 51 50 true (.buildSlice 2 1 [(b 0)] [(0,1,(B 1)),(1,1,(B 2))])),⟨some 52,some (50,true),[t11],(.call 40 [t51])⟩,(og 54 50 true (.callVal t52 [t53])),(o 55 (.pick t50 t54 F)),(m 9 55)])) .skip))))) (R [(o 56 (.bin .add t29 (I 1))),(m 29 56)]))))
end
open Z in def ir46 : IFunc := ⟨62,[.tmp 4],(q (R [(o 2 (.box t0)),(o 4 (.move F))]) (q (q (R [(la 15 11 2),(o 16 (.call 77 [t15])),(m 14 16),(x 17 14 0),(x 18 14 1),(x 19 14 2),(o 5 (.alloc [(b 0)])),(st 1 5 17),(m 6 18),(m 7 19)]) (q (R [(m 20 6)]) (.cond t20 (q (R [(m 21 1),(o 22 (.mkFunc 78 [] [t5])),(o 23 (.call 41 [t21,t22])),(m 4 23)]) .ret) .skip))) (q (q (R [(f 24 7 2),(l 25 1 24),(o 26 (.un .not t25))]) (.cond t26 lG2l1 .skip)) (q (R [(mi 8 0),(o 9 (.move T))]) (q (q (R [(m 27 1),(o 28 (.lenSl t27)),(mi 29 0)]) (.block 0 lG8l0)) lG8l1)))))⟩
open Z in def ir78 : IFunc := ⟨17,[.tmp 3],(q (R [(o 2 (.box t0)),(o 3 (.move F))]) (q (R [(la 7 11 2),(o 8 (.call 79 [t7])),(m 6 8),(x 9 6 0),(x 10 6 1),(m 4 9),(m 5 10)]) (q (R [(m 11 5),(m 12 11),(og 13 12 true (.move t4)),(og 14 12 true (.load false 1 t1)),(og 15 12 true (.bin .eql t13 t14)),(o 16 (.pick t12 t15 F)),(m 3 16)]) .ret)))⟩
section
variable {T : Tab}
structure FeTab (T : Tab) : Prop where
 fed : T 46 = some (.code ir46)
 fe1 : T 78 = some (.code ir78)
theorem fe1_fn (hF : FeTab T) (hW : WrTab T) {s : St} (hs : WFS s) {id : Nat} {p : Int} (hid : id < s.next) (ho : s.heap.get id = some (.cells [.int .u8 p] 0 0 false)) : FnB T s (.func 78 [] [.ptr ⟨id, 0, 0, 1⟩]) := by
 refine ⟨_, _, _, rfl, fun s1 hE j hj => ?_⟩
 have hb : s1.heap.get id = some (.cells [.int .u8 p] 0 0 false) := by rw [hE.2.2 _ hid]; exact ho
 have hlt : id < s1.next := Nat.lt_of_lt_of_le hid hE.2.1
 have hne : ¬ id = s1.next := by omega
 obtain ⟨b2, oj⟩ := okB hj
 have k2 := goCall_hook hW.wp
 have q4 := fun s => inF_eq writesPredR j s oj
 have cj : j.cells = [.int .u8 j.op, .int .u8 j.d, .int .u8 j.s, .int .u8 j.t, .int .u8 j.n, .int .u8 j.pred, .int .u8 j.mode, .bool j.nw, .bool j.ext, .int .u16 j.count, .int .i64 j.imm] := rfl
 simp only [cj, writesPredR] at q4
 generalize (writesPredF j) = pj at *
 obtain ⟨p', ok4⟩ := pj
 refine ran_code hF.fe1 (Nat.le_of_ble_eq_true rfl) ?_
 cases ok4 <;>
  (simp only [ir78, cj, hb, hne, k2, q4, wr, seval]
   exact ⟨_, rfl, Ext.add (.refl hE.1) _⟩)
set_option maxHeartbeats 8000000 in
theorem fed_ran (hF : FeTab T) (hW : WrTab T) (hT : RuTab T) {s : St} (hs : WFS s) {i : In} (hi : i.ok = true) {x : AV} {L : List In} (hx : RdI s x L) (hok : ∀ i ∈ L, i.ok = true) (hL : L.length ≤ 1000) :
 Ran T 46 [.agg i.cells, x] s fun v s' => ∃ b : Bool, v = .bool b ∧ Ext s s' := by
 refine ran_code hF.fed (Nat.le_of_ble_eq_true rfl) ?_
 generalize hQ : Fin _ _ = Q
 have hlen := len_op hx.lens
 obtain ⟨b1, oi⟩ := okB hi
 have k1 := goCall_hook hW.rp
 have q1 := fun s => inF_eq readsPredR i s oi
 have ci : i.cells = [.int .u8 i.op, .int .u8 i.d, .int .u8 i.s, .int .u8 i.t, .int .u8 i.n, .int .u8 i.pred, .int .u8 i.mode, .bool i.nw, .bool i.ext, .int .u16 i.count, .int .i64 i.imm] := rfl
 simp only [ci, readsPredR] at q1
 generalize (readsPredF i) = rp at *
 obtain ⟨p, fresh, ok⟩ := rp
 have hE0 : ∀ o, Ext s ((s.add (.cells i.cells 0 0 false)).add o) := fun o => .add (.add (.refl hs) _) o
 rw [ci] at hE0
 cases fresh with
 | true =>
  simp only [ir46, ci, k1, q1, wr, seval]
  refine goCall_by (cfunc_ran hT.cfun hT.ifun (hE0 _).1 (hx.ext (hE0 _)).o hok hL (fe1_fn hF hW (p := p) (hE0 _).1 (by show s.next + 1 < s.next + 1 + 1; omega) (by simp only [wr, seval]))) ?_
  rintro v s1 ⟨b, rfl, hE1⟩
  simp only [wr, seval]
  subst hQ
  simp only [ir46, wr, seval]
  exact ⟨_, rfl, (hE0 _).trans hE1⟩
 | false =>
  cases hnw : i.nw with
  | false =>
   rw [hnw] at q1 ci
   simp only [ir46, ci, k1, q1, wr, seval]
   subst hQ
   simp only [ir46, wr, seval]
   rw [hnw] at hE0
   exact ⟨_, rfl, hE0 _⟩
  | true =>
   rw [hnw] at q1 ci hE0
   have hEB := hE0 (.cells [.int .u8 p] 0 0 false)
   generalize hsB : (s.add (.cells [.int .u8 i.op, .int .u8 i.d, .int .u8 i.s, .int .u8 i.t, .int .u8 i.n, .int .u8 i.pred, .int .u8 i.mode, .bool true, .bool i.ext, .int .u16 i.count, .int .i64 i.imm] 0 0 false)).add (.cells [.int .u8 p] 0 0 false) = sB at *
   have oA : sB.heap.get s.next = some (.cells [.int .u8 i.op, .int .u8 i.d, .int .u8 i.s, .int .u8 i.t, .int .u8 i.n, .int .u8 i.pred, .int .u8 i.mode, .bool true, .bool i.ext, .int .u16 i.count, .int .i64 i.imm] 0 0 false) := by rw [← hsB]; simp only [wr, seval]
   have nA : s.next < sB.next := by rw [← hsB]; show s.next < s.next + 1 + 1; omega
   have LL : ∀ (m k : Nat) (e : Env) (s1 : St) (n : Int) (g : Bool), m + k = L.length → Ext sB s1 → opd e (.t 2) = .ptr ⟨s.next, 0, 0, 11⟩ → opd e (.t 8) = .int .i64 n → opd e (.t 9) = .bool g → opd e (.t 27) = x → opd e (.t 28) = .int .i64 (L.length : Int) → opd e (.t 29) = .int .i64 (k : Int) →
    Go T Q (lG8l0) [.block 0, .seq lG8l1] e s1 := by
    intro m
    induction m with
    | zero =>
     intro k e s1 n g hm hE h2 h8 h9 h27 h28 h29
     have hk : ¬ (k : Int) < (L.length : Int) := by omega
     rw [go_loop]
     by_cases hn1 : n = 1
     · simp only [h8, h9, h28, h29, hk, hn1, wr, seval]
       subst hQ
       simp only [ir46, h9, wr, seval]
       exact ⟨_, rfl, hEB.trans hE⟩
     · simp only [h8, h9, h28, h29, hk, hn1, wr, seval]
       subst hQ
       simp only [ir46, wr, seval]
       exact ⟨_, rfl, hEB.trans hE⟩
    | succ m ih =>
     intro k e s1 n g hm hE h2 h8 h9 h27 h28 h29
     have hxs := hx.ext (hEB.trans hE)
     have hkn : k < L.length := by omega
     have hk : (k : Int) < (L.length : Int) := by omega
     obtain ⟨j, hj⟩ : ∃ j, L[k]? = some j := ⟨_, List.getElem?_eq_getElem hkn⟩
     have hjm := List.mem_of_getElem? hj
     obtain ⟨id, lo, inc', inc, lim, cp, ex, ro, cs, rfl, g1, g2, g3, g4, g5, g6⟩ := hxs.at hj
     have w1 : wrapF .i64 ((k : Int) + 1) = ((k + 1 : Nat) : Int) := by rw [wrap_i64 _ (by omega) (by omega)]; omega
     have cj : j.cells = [.int .u8 j.op, .int .u8 j.d, .int .u8 j.s, .int .u8 j.t, .int .u8 j.n, .int .u8 j.pred, .int .u8 j.mode, .bool j.nw, .bool j.ext, .int .u16 j.count, .int .i64 j.imm] := rfl
     obtain ⟨b2, oj⟩ := okB (hok j hjm)
     have k2 := goCall_hook hW.wr
     have q2 := fun s => inF_eq writesR j s oj
     have hb : s1.heap.get s.next = some (.cells [.int .u8 i.op, .int .u8 i.d, .int .u8 i.s, .int .u8 i.t, .int .u8 i.n, .int .u8 i.pred, .int .u8 i.mode, .bool true, .bool i.ext, .int .u16 i.count, .int .i64 i.imm] 0 0 false) := by rw [hE.2.2 _ nA]; exact oA
     have hlt : s.next < s1.next := Nat.lt_of_lt_of_le nA hE.2.1
     have hne : ¬ s.next = s1.next := by omega
     have hE2 := hE.add (.cells j.cells 0 0 false)
     rw [cj] at g5 hE2
     simp only [cj, writesR] at q2
     generalize (writesF j) = wj at *
     obtain ⟨r, okr⟩ := wj
     rw [go_loop]
     cases okr with
     | false =>
      simp only [h2, h8, h9, h27, h28, h29, hk, g1, g2, g3, g4, g5, g6, k2, q2, w1, wr, seval]
      refine ih (k + 1) _ _ n g (by omega) hE2 ?_ ?_ ?_ ?_ ?_ ?_
      all_goals simp only [h2, h8, h9, h27, h28, h29, wr, seval]
     | true =>
      by_cases hr : r = i.t
      · by_cases hmo : j.mode = 0
        · rw [hmo] at g5 hE2 cj
          simp only [hmo] at q2
          simp only [h2, h8, h9, h27, h28, h29, hk, g1, g2, g3, g4, g5, g6, k2, q2, w1, hb, hne, hr, wr, seval]
          have hE3 := hE2.add (.cells [.int .u8 1, .int .u8 2] 0 0 false)
          have hMs : Msk ((s1.add (.cells [.int .u8 j.op, .int .u8 j.d, .int .u8 j.s, .int .u8 j.t, .int .u8 j.n, .int .u8 j.pred, .int .u8 0, .bool j.nw, .bool j.ext, .int .u16 j.count, .int .i64 j.imm] 0 0 false)).add (.cells [.int .u8 1, .int .u8 2] 0 0 false)) (.slice ⟨s1.next + 1, 0, 0, 2⟩ 2 2 true 1) [1, 2] :=
           ⟨⟨rfl, .inr ⟨s1.next + 1, 0, 0, 0, 2, 2, true, false, [.int .u8 1, .int .u8 2], rfl, by show s1.next + 1 < s1.next + 1 + 1; omega, by simp only [wr, seval], Nat.le_refl _, Nat.le_refl _, Nat.le_refl _, rfl, Nat.le_refl _⟩⟩, by decide⟩
          refine goCall ((of_ran hT hE3.1 hMs (by decide) rfl).mono ?_)
          rintro fv s2 ⟨hfn, hfc, hE4⟩
          have hb2 : s2.heap.get s1.next = some (.cells [.int .u8 j.op, .int .u8 j.d, .int .u8 j.s, .int .u8 j.t, .int .u8 j.n, .int .u8 j.pred, .int .u8 0, .bool j.nw, .bool j.ext, .int .u16 j.count, .int .i64 j.imm] 0 0 false) := by
           rw [hE4.2.2 _ (by show s1.next < s1.next + 1 + 1; omega)]; simp only [wr, seval]
          refine ⟨by simp only [hb2, goR_watch, watch_cons, watch_nil, wat_ptr, wat_map, sameObj_refl, Bool.and_self, true_and, wr, seval], ?_⟩
          obtain ⟨f, fst, cap, rfl, hf⟩ := hfn
          have hfj := hf s2 (.refl hE4.1) j (hok j hjm)
          rw [cj] at hfj
          simp only [goCV_func, wr, seval]
          refine goCall_by hfj ?_
          rintro v s3 ⟨b, rfl, hE5⟩
          simp only [h2, h8, h9, h27, h28, h29, w1, wr, seval]
          refine ih (k + 1) _ s3 (wrapF .i64 (n + 1)) b (by omega) ((hE3.trans hE4).trans hE5) ?_ ?_ ?_ ?_ ?_ ?_
          all_goals simp only [h2, h8, h9, h27, h28, h29, wr, seval]
        · simp only [h2, h8, h9, h27, h28, h29, hk, g1, g2, g3, g4, g5, g6, k2, q2, w1, hb, hne, hr, hmo, wr, seval]
          refine ih (k + 1) _ _ (wrapF .i64 (n + 1)) false (by omega) hE2 ?_ ?_ ?_ ?_ ?_ ?_
          all_goals simp only [h2, h8, h9, h27, h28, h29, wr, seval]
      · simp only [h2, h8, h9, h27, h28, h29, hk, g1, g2, g3, g4, g5, g6, k2, q2, w1, hb, hne, hr, wr, seval]
        refine ih (k + 1) _ _ n g (by omega) hE2 ?_ ?_ ?_ ?_ ?_ ?_
        all_goals simp only [h2, h8, h9, h27, h28, h29, wr, seval]
   simp only [ir46, ci, k1, q1, ↓hlen, hsB, oA, wr, seval]
   refine LL L.length 0 _ sB 0 true (by omega) (.refl hEB.1) ?_ ?_ ?_ ?_ ?_ ?_
   all_goals simp only [wr, seval]
   all_goals rfl
end
end Go.V
/- rules: Check. -/
namespace Go.V
open Go
set_option linter.unusedSimpArgs false
set_option linter.unusedVariables false
section
open Z
abbrev lG9l0 : ICode := .loop (q (R [(o 12 (.bin .lss t11 t10))]) (q (.cond t12 .skip (.exit 0)) (q (.block 1 (q (R [(ix 13 11 9 11),(la 14 11 13),(o 6 (.alloc [(b 0),(b 0),(b 0),(b 0),(b 0),(b 0),(b 0),z,z,(.int .u16 0),(i 0)])),(st 11 6 14)]) (q (.regionP [(la 17 11 6),(o 15 (.buildSlice 1 1 [(b 0)] [(0,1,(B 5))])),⟨some 16,none,[t6],(.call 40 [t15])⟩,(o 18 (.callVal t16 [t17]))]) (.cond t18 (R [(m 19 4),(o 20 (.bin .add t19 (I 1))),(m 4 20)]) .skip)))) (R [(o 21 (.bin .add t11 (I 1))),(m 11 21)]))))
abbrev lG9l1 : ICode := .seq (.block 2 (q (R [(l 23 1 3),(o 24 (.lenSl t23)),(o 25 (.bin .lss t24 (I 1))),(m 26 25),(og 27 26 false (.load false 1 t3)),(og 28 26 false (.lenSl t27)),(og 29 26 false (.bin .gtr t28 (I 4))),(o 30 (.pick t26 T t29)),(m 31 30),(og 32 31 false (.fieldAddr 3 t1)),(og 33 31 false (.load false 1 t32)),(og 34 31 false (.move t33)),(og 35 34 true (.fieldAddr 4 t1)),(og 36 34 true (.load false 1 t35)),(og 37 31 false (.pick t34 t36 F)),(o 38 (.pick t31 T t37)),(m 22 38)]) (.cond t22 (q (R [(mi 2 8)]) .ret) (q (R [(l 40 1 3),(o 41 (.call 41 [t40,(.c (.func 42 [] []))])),(m 39 41)]) (.cond t39 (q (R [(mi 2 8)]) .ret) (q (R [(m 43 4),(o 44 (.bin .gtr t43 (I 1))),(m 42 44)]) (.cond t42 (q (R [(mi 2 14)]) .ret) (q (R [(l 46 1 3),(o 47 (.call 44 [t46])),(m 45 47)]) (.cond t45 (q (R [(mi 2 11)]) .ret) (q (R [(l 49 1 3),(o 50 (.mkFunc 45 [] [t3])),(o 51 (.call 41 [t49,t50])),(m 48 51)]) (.cond t48 (q (R [(mi 2 12)]) .ret) (q (.regionP [(f 53 1 1),(l 54 1 53),(m 55 54),(og 56 55 false (.fieldAddr 2 t1)),(og 57 55 false (.load false 1 t56)),(o 58 (.pick t55 T t57)),(m 59 58),(og 60 59 true (.load false 1 t3)),(og 61 59 true (.buildSlice 2 1 [(b 0)] [(0,1,(B 5)),(1,1,(B 6))])),⟨some 62,some (59,true),[t3],(.call 40 [t61])⟩,(og 63 59 true (.call 41 [t60,t62])),(o 64 (.pick t59 t63 F)),(m 52 64)]) (.cond t52 (q (R [(mi 2 13)]) .ret) .skip))))))))))))) (q (R [(mi 2 0)]) .ret)
end
open Z in def ir14 : IFunc := ⟨65,[.tmp 2],(q (R [(o 1 (.box t0)),(mi 2 0)]) (q (R [(f 7 0 1),(l 8 1 7),(o 3 (.alloc [.nilSlice])),(st 1 3 8)]) (q (R [(mi 4 0)]) (q (q (R [(l 9 1 3),(o 10 (.lenSl t9)),(mi 11 0)]) (.block 0 lG9l0)) lG9l1))))⟩
open Z in def ir45 : IFunc := ⟨8,[.tmp 3],(q (R [(o 2 (.box t0)),(o 3 (.move F))]) (q (R [(la 4 11 2),(l 5 1 1),(o 6 (.call 46 [t4,t5])),(o 7 (.un .not t6)),(m 3 7)]) .ret))⟩
section
variable {T : Tab}
structure CkTab (T : Tab) : Prop where
 ru : RuTab T
 wr : WrTab T
 fe : FeTab T
 chk : T 14 = some (.code ir14)
 ch2 : T 45 = some (.code ir45)
theorem ch2_fn (hC : CkTab T) {s : St} (hs : WFS s) {id : Nat} {x : AV} {L : List In} (hx : RdI s x L) (hok : ∀ i ∈ L, i.ok = true) (hL : L.length ≤ 1000) (hid : id < s.next) (ho : s.heap.get id = some (.cells [x] 0 0 false)) : FnB T s (.func 45 [] [.ptr ⟨id, 0, 0, 1⟩]) := by
 refine ⟨_, _, _, rfl, fun s1 hE j hj => ?_⟩
 have hb : s1.heap.get id = some (.cells [x] 0 0 false) := by rw [hE.2.2 _ hid]; exact ho
 have hlt : id < s1.next := Nat.lt_of_lt_of_le hid hE.2.1
 have hne : ¬ id = s1.next := by omega
 have cj : j.cells = [.int .u8 j.op, .int .u8 j.d, .int .u8 j.s, .int .u8 j.t, .int .u8 j.n, .int .u8 j.pred, .int .u8 j.mode, .bool j.nw, .bool j.ext, .int .u16 j.count, .int .i64 j.imm] := rfl
 have hE1 : Ext s1 (s1.add (.cells j.cells 0 0 false)) := .add (.refl hE.1) _
 have fd := fed_ran hC.fe hC.wr hC.ru hE1.1 hj (hx.ext (hE.trans hE1)) hok hL
 rw [cj] at fd hE1
 refine ran_code hC.ch2 (Nat.le_of_ble_eq_true rfl) ?_
 simp only [ir45, cj, hb, hne, wr, seval]
 refine goCall_by fd ?_
 rintro v s2 ⟨b, rfl, hE2⟩
 simp only [wr, seval]
 exact ⟨_, rfl, hE1.trans hE2⟩
set_option maxHeartbeats 8000000 in
theorem rcheck_ran (hC : CkTab T) {s : St} (hs : WFS s) {x : AV} {L : List In} (hx : RdI s x L) (hok : ∀ i ∈ L, i.ok = true) (hL : L.length ≤ 1000) (hxc : x.isCell = true) {e0 e1 raw dup : Bool} :
 Ran T 14 [.agg [x, .bool e0, .bool e1, .bool raw, .bool dup]] s fun v s' => ∃ n : Int, v = .int .i64 n ∧ Ext s s' := by
 refine ran_code hC.chk (Nat.le_of_ble_eq_true rfl) ?_
 generalize hQ : Fin _ _ = Q
 have hxx : x.cells = [x] := by cases x <;> first | rfl | cases hxc
 have hlen := len_op hx.lens
 have hE0 : Ext s ((s.add (.cells [x, .bool e0, .bool e1, .bool raw, .bool dup] 0 0 false)).add (.cells [x] 0 0 false)) := .add (.add (.refl hs) _) _
 generalize hsB : (s.add (.cells [x, .bool e0, .bool e1, .bool raw, .bool dup] 0 0 false)).add (.cells [x] 0 0 false) = sB at *
 have nA : s.next < sB.next := by rw [← hsB]; show s.next < s.next + 1 + 1; omega
 have nB : s.next + 1 < sB.next := by rw [← hsB]; show s.next + 1 < s.next + 1 + 1; omega
 have oA : sB.heap.get s.next = some (.cells [x, .bool e0, .bool e1, .bool raw, .bool dup] 0 0 false) := by rw [← hsB]; simp only [wr, seval]
 have oB : sB.heap.get (s.next + 1) = some (.cells [x] 0 0 false) := by rw [← hsB]; simp only [wr, seval]
 have LL : ∀ (m k : Nat) (e : Env) (s1 : St) (n : Int), m + k = L.length → Ext sB s1 → opd e (.t 1) = .ptr ⟨s.next, 0, 0, 5⟩ → opd e (.t 3) = .ptr ⟨s.next + 1, 0, 0, 1⟩ → opd e (.t 4) = .int .i64 n → opd e (.t 9) = x → opd e (.t 10) = .int .i64 (L.length : Int) → opd e (.t 11) = .int .i64 (k : Int) →
  Go T Q (lG9l0) [.block 0, .seq lG9l1] e s1 := by
  intro m
  induction m with
  | zero =>
   intro k e s1 n hm hE h1 h3 h4 h9 h10 h11
   have hk : ¬ (k : Int) < (L.length : Int) := by omega
   have hb1 : s1.heap.get s.next = some (.cells [x, .bool e0, .bool e1, .bool raw, .bool dup] 0 0 false) := by rw [hE.2.2 _ nA]; exact oA
   have hb2 : s1.heap.get (s.next + 1) = some (.cells [x] 0 0 false) := by rw [hE.2.2 _ nB]; exact oB
   rw [go_loop]
   have hEs := hE0.trans hE
   have done : ∀ (z : Int) (s2 : St), Ext s s2 → ∃ y : Int, AV.int .i64 z = .int .i64 y ∧ Ext s s2 := fun z s2 h => ⟨z, rfl, h⟩
   by_cases bad : L.length < 1 ∨ 4 < L.length ∨ (raw = true ∧ dup = true)
   · rcases bad with a1 | a4 | ⟨rfl, rfl⟩
     · have a1' : (L.length : Int) < 1 := by omega
       simp only [h1, h3, h4, h10, h11, hk, hb1, hb2, ↓hlen, a1', wr, seval]
       subst hQ
       simp only [ir14, wr, seval]
       exact done _ _ hEs
     · have a1' : ¬ (L.length : Int) < 1 := by omega
       have a4' : (4 : Int) < (L.length : Int) := by omega
       simp only [h1, h3, h4, h10, h11, hk, hb1, hb2, ↓hlen, a1', a4', wr, seval]
       subst hQ
       simp only [ir14, wr, seval]
       exact done _ _ hEs
     · by_cases a1 : (L.length : Int) < 1 <;> by_cases a4 : (4 : Int) < (L.length : Int) <;>
        (simp only [h1, h3, h4, h10, h11, hk, hb1, hb2, ↓hlen, a1, a4, wr, seval]
         subst hQ
         simp only [ir14, wr, seval]
         exact done _ _ hEs)
   · have a1' : ¬ (L.length : Int) < 1 := by omega
     have a4' : ¬ (4 : Int) < (L.length : Int) := by omega
     have hrd : (raw && dup) = false := by cases raw <;> cases dup <;> simp_all
     have cf1 := cfunc_ran hC.ru.cfun hC.ru.ifun hE.1 (hx.ext hEs).o hok hL (ch1_fn hC.ru hE.1)
     cases raw <;> cases dup <;> first | (cases hrd; done) | skip
     all_goals
      simp only [h1, h3, h4, h10, h11, hk, hb1, hb2, ↓hlen, a1', a4', wr, seval]
      refine goCall_by cf1 ?_
      rintro v s2 ⟨b, rfl, hE2⟩
      have hE2s := hE.trans hE2
      have c1 := (hE2s.2.2 _ nA).trans oA
      have c2 := (hE2s.2.2 _ nB).trans oB
      cases b with
      | true =>
       simp only [h1, h3, h4, c1, c2, wr, seval]
       subst hQ; simp only [ir14, wr, seval]; exact done _ _ (hEs.trans hE2)
      | false =>
       by_cases nj : 1 < n
       · simp only [h1, h3, h4, c1, c2, nj, wr, seval]
         subst hQ; simp only [ir14, wr, seval]; exact done _ _ (hEs.trans hE2)
       · simp only [h1, h3, h4, c1, c2, nj, wr, seval]
         refine goCall_by (clashes_ran hC.wr hC.ru hE2.1 (hx.ext (hEs.trans hE2)) hok hL) ?_
         rintro v s3 ⟨b3, rfl, hE3⟩
         have hE3s := hE2s.trans hE3
         have d1 := (hE3s.2.2 _ nA).trans oA
         have d2 := (hE3s.2.2 _ nB).trans oB
         cases b3 with
         | true =>
          simp only [h1, h3, h4, d1, d2, wr, seval]
          subst hQ; simp only [ir14, wr, seval]; exact done _ _ ((hEs.trans hE2).trans hE3)
         | false =>
          have hx3 := hx.ext ((hEs.trans hE2).trans hE3)
          simp only [h1, h3, h4, d1, d2, wr, seval]
          refine goCall_by (cfunc_ran hC.ru.cfun hC.ru.ifun hE3.1 hx3.o hok hL (ch2_fn hC hE3.1 hx3 hok hL (Nat.lt_of_lt_of_le nB hE3s.2.1) d2)) ?_
          rintro v s4 ⟨b4, rfl, hE4⟩
          have hE4s := hE3s.trans hE4
          have f1 := (hE4s.2.2 _ nA).trans oA
          have f2 := (hE4s.2.2 _ nB).trans oB
          have hE4t := ((hEs.trans hE2).trans hE3).trans hE4
          cases b4 with
          | true =>
           simp only [h1, h3, h4, f1, f2, wr, seval]
           subst hQ; simp only [ir14, wr, seval]; exact done _ _ hE4t
          | false =>
           by_cases he : (e0 || e1) = true
           · have hE5 := (Ext.refl hE4.1).add (.cells [.int .u8 5, .int .u8 6] 0 0 false)
             have nB4 : s.next + 1 < s4.next := Nat.lt_of_lt_of_le nB hE4s.2.1
             have hMs : Msk (s4.add (.cells [.int .u8 5, .int .u8 6] 0 0 false)) (.slice ⟨s4.next, 0, 0, 2⟩ 2 2 true 1) [5, 6] :=
              ⟨⟨rfl, .inr ⟨s4.next, 0, 0, 0, 2, 2, true, false, [.int .u8 5, .int .u8 6], rfl, by show s4.next < s4.next + 1; omega, by simp only [wr, seval], Nat.le_refl _, Nat.le_refl _, Nat.le_refl _, rfl, Nat.le_refl _⟩⟩, by decide⟩
             have hn4 : ¬ s.next + 1 = s4.next := by omega
             cases e0 <;> cases e1 <;> first | (cases he; done) | skip
             all_goals
              simp only [h1, h3, h4, f1, f2, wr, seval]
              refine goCall ((of_ran hC.ru hE5.1 hMs (by decide) rfl).mono ?_)
              rintro fv s5 ⟨hfn, hfc, hE6⟩
              have g2 : s5.heap.get (s.next + 1) = some (.cells [x] 0 0 false) := by rw [(hE5.trans hE6).2.2 _ nB4]; exact f2
              refine ⟨by simp only [h3, f2, g2, hn4, goR_watch, watch_cons, watch_nil, wat_ptr, wat_map, sameObj_refl, Bool.and_self, true_and, wr, seval], ?_⟩
              simp only [wr, seval]
              refine goCall_by (cfunc_ran hC.ru.cfun hC.ru.ifun hE6.1 (hx.ext ((hE4t.trans hE5).trans hE6)).o hok hL hfn) ?_
              rintro v s6 ⟨b6, rfl, hE7⟩
              cases b6 <;>
               (simp only [wr, seval]
                subst hQ
                simp only [ir14, wr, seval]
                exact done _ _ (((hE4t.trans hE5).trans hE6).trans hE7))
           · cases e0 <;> cases e1 <;> first | (exact absurd rfl he) | skip
             simp only [h1, h3, h4, f1, f2, wr, seval]
             subst hQ; simp only [ir14, wr, seval]; exact done _ _ hE4t
  | succ m ih =>
   intro k e s1 n hm hE h1 h3 h4 h9 h10 h11
   have hxs := hx.ext (hE0.trans hE)
   have hkn : k < L.length := by omega
   have hk : (k : Int) < (L.length : Int) := by omega
   obtain ⟨j, hj⟩ : ∃ j, L[k]? = some j := ⟨_, List.getElem?_eq_getElem hkn⟩
   have hjm := List.mem_of_getElem? hj
   obtain ⟨id, lo, inc', inc, lim, cp, ex, ro, cs, rfl, g1, g2, g3, g4, g5, g6⟩ := hxs.at hj
   have w1 : wrapF .i64 ((k : Int) + 1) = ((k + 1 : Nat) : Int) := by rw [wrap_i64 _ (by omega) (by omega)]; omega
   have cj : j.cells = [.int .u8 j.op, .int .u8 j.d, .int .u8 j.s, .int .u8 j.t, .int .u8 j.n, .int .u8 j.pred, .int .u8 j.mode, .bool j.nw, .bool j.ext, .int .u16 j.count, .int .i64 j.imm] := rfl
   have hE2 := hE.add (.cells j.cells 0 0 false)
   have hE3 := hE2.add (.cells [.int .u8 5] 0 0 false)
   have hMs : Msk ((s1.add (.cells j.cells 0 0 false)).add (.cells [.int .u8 5] 0 0 false)) (.slice ⟨s1.next + 1, 0, 0, 1⟩ 1 1 true 1) [5] :=
    ⟨⟨rfl, .inr ⟨s1.next + 1, 0, 0, 0, 1, 1, true, false, [.int .u8 5], rfl, by show s1.next + 1 < s1.next + 1 + 1; omega, by simp only [wr, seval], Nat.le_refl _, Nat.le_refl _, Nat.le_refl _, rfl, Nat.le_refl _⟩⟩, by decide⟩
   have hof := of_ran hC.ru hE3.1 hMs (by decide) rfl
   rw [cj] at g5 hE2 hE3 hof
   rw [go_loop]
   simp only [h1, h3, h4, h9, h10, h11, hk, g1, g2, g3, g4, g5, g6, w1, wr, seval]
   refine goCall (hof.mono ?_)
   rintro fv s2 ⟨hfn, hfc, hE4⟩
   have hb2 : s2.heap.get s1.next = some (.cells [.int .u8 j.op, .int .u8 j.d, .int .u8 j.s, .int .u8 j.t, .int .u8 j.n, .int .u8 j.pred, .int .u8 j.mode, .bool j.nw, .bool j.ext, .int .u16 j.count, .int .i64 j.imm] 0 0 false) := by
    rw [hE4.2.2 _ (by show s1.next < s1.next + 1 + 1; omega)]; simp only [wr, seval]
   refine ⟨by simp only [hb2, goR_watch, watch_cons, watch_nil, wat_ptr, wat_map, sameObj_refl, Bool.and_self, true_and, wr, seval], ?_⟩
   obtain ⟨f, fst, cap, rfl, hf⟩ := hfn
   have hfj := hf s2 (.refl hE4.1) j (hok j hjm)
   rw [cj] at hfj
   simp only [goCV_func, wr, seval]
   refine goCall_by hfj ?_
   rintro v s3 ⟨b, rfl, hE5⟩
   have hE6 := (hE3.trans hE4).trans hE5
   cases b with
   | true =>
    simp only [h1, h3, h4, h9, h10, h11, w1, wr, seval]
    refine ih (k + 1) _ s3 (wrapF .i64 (n + 1)) (by omega) hE6 ?_ ?_ ?_ ?_ ?_ ?_
    all_goals simp only [h1, h3, h4, h9, h10, h11, wr, seval]
   | false =>
    simp only [h1, h3, h4, h9, h10, h11, w1, wr, seval]
    refine ih (k + 1) _ s3 n (by omega) hE6 ?_ ?_ ?_ ?_ ?_ ?_
    all_goals simp only [h1, h3, h4, h9, h10, h11, wr, seval]
 simp only [ir14, hxx, hxc, ↓hlen, wr, seval]
 rw [hsB]
 refine LL L.length 0 _ sB 0 (by omega) (.refl hE0.1) ?_ ?_ ?_ ?_ ?_ ?_
 all_goals simp only [wr, seval]
 all_goals rfl
end
end Go.V
/- legal: paired, Choose, placed, Check. -/
namespace Go.V
open Go
set_option linter.unusedSimpArgs false
set_option linter.unusedVariables false
section
open Z
abbrev lG10l1 : ICode := .seq (R [(m 46 9),(o 47 (.call 49 [t46,(B 12)])),(o 48 (.call 48 [t47])),(m 6 48)]) .ret
abbrev lG10l0 : ICode := .loop (q (R [(o 29 (.bin .lss t28 t27))]) (q (.cond t29 .skip (.exit 0)) (q (.block 1 (q (R [(m 30 28),(ix 31 11 26 28),(la 32 11 31),(o 11 (.alloc [(b 0),(b 0),(b 0),(b 0),(b 0),(b 0),(b 0),z,z,(.int .u16 0),(i 0)])),(m 10 30),(st 11 11 32)]) (q (R [(m 33 10),(m 34 1),(o 35 (.bin .neq t33 t34)),(m 36 35),(og 37 36 true (.move t10)),(og 38 36 true (.move t2)),(og 39 36 true (.bin .neq t37 t38)),(o 40 (.pick t36 t39 F))]) (.cond t40 (R [(m 41 9),(la 42 11 11),(o 43 (.buildSlice 1 11 [(b 0),(b 0),(b 0),(b 0),(b 0),(b 0),(b 0),z,z,(.int .u16 0),(i 0)] [(0,11,t42)])),(o 44 (.append 11 24 t41 t43)),(m 9 44)]) .skip)))) (R [(o 45 (.bin .add t28 (I 1))),(m 28 45)]))))
end
open Z in def ir81 : IFunc := ⟨49,[.tmp 6],(q (R [(o 6 (.move F))]) (q (q (.regionP [(m 13 0),(m 14 1),(ix 15 11 13 14),(la 16 11 15),(m 17 0),(m 18 2),(ix 19 11 17 18),(la 20 11 19),(o 21 (.call 104 [t16,t20])),(m 12 21),(x 22 12 0),(x 23 12 1),(m 7 22),(m 8 23)]) (q (R [(m 24 8),(o 25 (.un .not t24))]) (.cond t25 (q (R [(o 6 (.move F))]) .ret) .skip))) (q (R [(o 9 (.move (.c .nilSlice)))]) (q (q (R [(m 26 0),(o 27 (.lenSl t26)),(mi 28 0)]) (.block 0 lG10l0)) lG10l1))))⟩
open Z in def ir47 : IFunc := ⟨27,[.tmp 2,.tmp 3,.tmp 4],(q (R [(mi 2 0),(mi 3 0),(o 4 (.move F))]) (q (q (R [(m 7 0),(o 8 (.lenSl t7)),(mi 9 0)]) (.block 0 (.loop (q (R [(o 10 (.bin .lss t9 t8))]) (q (.cond t10 .skip (.exit 0)) (q (.block 1 (q (R [(m 11 9),(m 5 11)]) (q (R [(m 12 5),(o 13 (.bin .add t12 (I 1))),(m 6 13)]) (.block 2 (.loop (q (q (R [(m 14 6),(m 15 0),(o 16 (.lenSl t15)),(o 17 (.bin .lss t14 t16))]) (.cond t17 .skip (.exit 2))) (q (.block 3 (q (R [(m 20 0),(m 21 5),(m 22 6),(o 23 (.call 81 [t20,t21,t22]))]) (.cond t23 (q (R [(m 24 5),(m 25 6),(m 2 24),(m 3 25),(o 4 (.move T))]) .ret) .skip))) (R [(m 18 6),(o 19 (.bin .add t18 (I 1))),(m 6 19)])))))))) (R [(o 26 (.bin .add t9 (I 1))),(m 9 26)]))))))) (q (R [(mi 2 0),(mi 3 0),(o 4 (.move F))]) .ret)))⟩
open Z in def ir15 : IFunc := ⟨20,[.tmp 2],(q (R [(o 1 (.box t0)),(o 2 (.move F))]) (q (q (R [(f 6 4 1),(l 7 1 6)]) (.cond t7 (q (R [(f 9 0 1),(l 10 1 9),(o 11 (.call 47 [t10])),(m 8 11),(x 12 8 0),(x 13 8 1),(x 14 8 2),(m 3 12),(m 4 13),(m 5 14)]) (q (R [(m 15 5),(m 2 15)]) .ret)) .skip)) (q (R [(f 16 0 1),(l 17 1 16),(o 18 (.call 49 [t17,(B 15)])),(o 19 (.call 48 [t18])),(m 2 19)]) .ret)))⟩
open Z in def ir6 : IFunc := ⟨26,[.tmp 2],(q (R [(o 1 (.box t0)),(mi 2 0)]) (q (R [(la 4 5 1),(o 5 (.call 14 [t4])),(m 3 5)]) (q (.block 0 (q (R [(m 7 3),(o 8 (.bin .eql t7 (I 8))),(m 6 8)]) (.cond t6 (q (R [(m 9 3),(m 2 9)]) .ret) (q (R [(la 11 5 1),(o 12 (.call 15 [t11])),(o 13 (.un .not t12)),(m 10 13)]) (.cond t10 (q (R [(mi 2 9)]) .ret) (q (R [(la 15 5 1),(o 16 (.call 16 [t15])),(o 17 (.bin .gtr t16 (I 4))),(m 14 17)]) (.cond t14 (q (R [(mi 2 10)]) .ret) (q (R [(m 19 3),(o 20 (.bin .neq t19 (I 0))),(m 18 20)]) (.cond t18 (q (R [(m 21 3),(m 2 21)]) .ret) (q (R [(la 23 5 1),(o 24 (.call 17 [t23])),(o 25 (.un .not t24)),(m 22 25)]) (.cond t22 (q (R [(mi 2 13)]) .ret) .skip))))))))))) (q (R [(mi 2 0)]) .ret))))⟩
section
variable {T : Tab}
/-- Two as a word: answered, of any two. -/
def PairB (T : Tab) (s0 : St) : Prop := ∀ s, Ext s0 s → ∀ i j : In, i.ok = true → j.ok = true → Ran T 104 [.agg i.cells, .agg j.cells] s fun v s' => ∃ (w : Int) (b : Bool), v = .tuple [.int .u32 w, .bool b] ∧ Ext s s'
structure LgTab (T : Tab) : Prop where
 ck : CkTab T
 slots : T 49 = some (.code ir49)
 fits : T 48 = some (.code ir48)
 begun : T 82 = some (.code ir82)
 all : T 83 = some (.code ir83)
 takes : T 105 = some (.code ir105)
 words : T 16 = some (.code ir16)
 long : T 17 = some (.code ir17)
 paired : T 81 = some (.code ir81)
 choose : T 47 = some (.code ir47)
 placed : T 15 = some (.code ir15)
 check : T 6 = some (.code ir6)
set_option maxHeartbeats 8000000 in
theorem paired_ran (hG : LgTab T) {s : St} (hP : PairB T s) (hs : WFS s) {x : AV} {L : List In} (hx : RdI s x L) (hok : ∀ i ∈ L, i.ok = true) (hL : L.length ≤ 1000) {a b : Nat} (ha : a < L.length) (hb : b < L.length) :
 Ran T 81 [x, .int .i64 (a : Int), .int .i64 (b : Int)] s fun v s' => ∃ r : Bool, v = .bool r ∧ Ext s s' := by
 refine ran_code hG.paired (Nat.le_of_ble_eq_true rfl) ?_
 generalize hQ : Fin _ _ = Q
 have hlen := len_op hx.lens
 have LL : ∀ (m k : Nat) (e : Env) (s1 : St) (v : AV) (M : List In), m + k = L.length → Ext s s1 → Slc s.next s1 11 M.length v (M.flatMap In.cells) → M.length ≤ k → (∀ i ∈ M, i.ok = true) → opd e (.t 1) = .int .i64 (a : Int) → opd e (.t 2) = .int .i64 (b : Int) → opd e (.t 9) = v → opd e (.t 26) = x → opd e (.t 27) = .int .i64 (L.length : Int) → opd e (.t 28) = .int .i64 (k : Int) →
  Go T Q (lG10l0) [.block 0, .seq lG10l1] e s1 := by
  intro m
  induction m with
  | zero =>
   intro k e s1 v M hm hE hS hM hMok h1 h2 h9 h26 h27 h28
   have hk : ¬ (k : Int) < (L.length : Int) := by omega
   have hMx : RdI s1 v M := hS.rd
   rw [go_loop]
   simp only [h9, h27, h28, hk, wr, seval]
   refine goCall_by (slots_ran hG.slots hG.ck.ru.inn hE.1 hMx hMok (by omega) 12) ?_
   rintro mv s2 ⟨ms, hms, hmc, hE2⟩
   simp only [wr, seval]
   refine goCall_by (fits_ran2 hG.fits hG.begun hG.all hG.takes hE2.1 hms hmc) ?_
   rintro r s3 ⟨r, rfl, hE3⟩
   subst hQ
   simp only [ir81, wr, seval]
   exact ⟨_, rfl, (hE.trans hE2).trans hE3⟩
  | succ m ih =>
   intro k e s1 v M hm hE hS hM hMok h1 h2 h9 h26 h27 h28
   have hxs := hx.ext hE
   have hkn : k < L.length := by omega
   have hk : (k : Int) < (L.length : Int) := by omega
   obtain ⟨i, hi⟩ : ∃ i, L[k]? = some i := ⟨_, List.getElem?_eq_getElem hkn⟩
   have him := List.mem_of_getElem? hi
   obtain ⟨id, lo, inc', inc, lim, cap, ex, ro, cs, rfl, g1, g2, g3, g4, g5, g6⟩ := hxs.at hi
   have w1 : wrapF .i64 ((k : Int) + 1) = ((k + 1 : Nat) : Int) := by rw [wrap_i64 _ (by omega) (by omega)]; omega
   have ci : i.cells = [.int .u8 i.op, .int .u8 i.d, .int .u8 i.s, .int .u8 i.t, .int .u8 i.n, .int .u8 i.pred, .int .u8 i.mode, .bool i.nw, .bool i.ext, .int .u16 i.count, .int .i64 i.imm] := rfl
   have hE2 := hE.add (.cells i.cells 0 0 false)
   have hS2 := hS.ext (.add (.refl hE.1) (.cells i.cells 0 0 false))
   obtain ⟨v', s3, a1, a2, a3, a4⟩ := Slc.app (more := i.cells) hS2 hE2 rfl rfl (by omega) (by omega)
   rw [ci] at g5 hE2 a1
   rw [go_loop]
   by_cases e1 : k = a
   · subst e1
     simp only [h1, h2, h9, h26, h27, h28, hk, g1, g2, g3, g4, g5, g6, w1, eq_self, wr, seval]
     refine ih (k + 1) _ _ v M (by omega) hE2 (by rw [ci] at hS2; exact hS2) (by omega) hMok ?_ ?_ ?_ ?_ ?_ ?_
     all_goals simp only [h1, h2, h9, h26, h27, h28, wr, seval]
   · have e1' : ¬ (k : Int) = (a : Int) := by omega
     by_cases e2 : k = b
     · subst e2
       simp only [h1, h2, h9, h26, h27, h28, hk, g1, g2, g3, g4, g5, g6, w1, e1', eq_self, wr, seval]
       refine ih (k + 1) _ _ v M (by omega) hE2 (by rw [ci] at hS2; exact hS2) (by omega) hMok ?_ ?_ ?_ ?_ ?_ ?_
       all_goals simp only [h1, h2, h9, h26, h27, h28, wr, seval]
     · have e2' : ¬ (k : Int) = (b : Int) := by omega
       simp only [h1, h2, h9, h26, h27, h28, hk, g1, g2, g3, g4, g5, g6, w1, e1', e2', a1, wr, seval]
       refine ih (k + 1) _ s3 v' (M ++ [i]) (by omega) a3 (by rw [List.length_append, List.flatMap_append]; simpa using a2) (by simp; omega) (by intro y hy; rcases List.mem_append.1 hy with h | h; exact hMok y h; rw [List.mem_singleton] at h; subst h; exact hok _ him) ?_ ?_ ?_ ?_ ?_ ?_
       all_goals simp only [h1, h2, h9, h26, h27, h28, wr, seval]
 obtain ⟨ia, hia⟩ : ∃ i, L[a]? = some i := ⟨_, List.getElem?_eq_getElem ha⟩
 obtain ⟨ib, hib⟩ : ∃ i, L[b]? = some i := ⟨_, List.getElem?_eq_getElem hb⟩
 have pr := hP s (.refl hs) ia ib (hok _ (List.mem_of_getElem? hia)) (hok _ (List.mem_of_getElem? hib))
 have HX : ∀ (s1 : St), Ext s s1 → True := fun _ _ => trivial
 obtain ⟨id, lo, inc', inc, lim, cap, ex, ro, cs, hxe, g1, g2, g3, g4, g5, g6⟩ := hx.at hia
 obtain ⟨id', lo', inc2, inc3, lim', cap', ex', ro', cs', hxe', g1', g2', g3', g4', g5', g6'⟩ := hx.at hib
 rw [hxe] at hxe'
 cases hxe'
 rw [g1] at g1'
 cases g1'
 subst hxe
 have ci : ∀ i : In, i.cells = [.int .u8 i.op, .int .u8 i.d, .int .u8 i.s, .int .u8 i.t, .int .u8 i.n, .int .u8 i.pred, .int .u8 i.mode, .bool i.nw, .bool i.ext, .int .u16 i.count, .int .i64 i.imm] := fun _ => rfl
 have ha' : (a : Int) < (L.length : Int) := by omega
 simp only [ir81, g1, g2, g3, g4, g5, g6, g4', g5', g6', wr, seval]
 refine goCall_by pr ?_
 rintro v s1 ⟨w, b0, rfl, hE1⟩
 cases b0 with
 | false =>
  simp only [wr, seval]
  subst hQ
  simp only [ir81, wr, seval]
  exact ⟨_, rfl, hE1⟩
 | true =>
  simp only [mkInt_eq, wr, seval]
  refine LL L.length 0 _ s1 .nilSlice [] (by omega) hE1 (Slc.nil _ _ _) (by simp) (by simp) ?_ ?_ ?_ ?_ ?_ ?_
  all_goals simp only [wr, seval]
end
end Go.V
/- legal: Choose, placed, Check. -/
namespace Go.V
open Go
set_option linter.unusedSimpArgs false
set_option linter.unusedVariables false
section
open Z
abbrev lG11l3 : ICode := .region [(o 26 (.bin .add t9 (I 1))),(m 9 26)] false
abbrev lG11l2 : ICode := .seq (R [(mi 2 0),(mi 3 0),(o 4 (.move F))]) .ret
abbrev lG11l1 : ICode := .loop (q (q (R [(m 14 6),(m 15 0),(o 16 (.lenSl t15)),(o 17 (.bin .lss t14 t16))]) (.cond t17 .skip (.exit 2))) (q (.block 3 (q (R [(m 20 0),(m 21 5),(m 22 6),(o 23 (.call 81 [t20,t21,t22]))]) (.cond t23 (q (R [(m 24 5),(m 25 6),(m 2 24),(m 3 25),(o 4 (.move T))]) .ret) .skip))) (R [(m 18 6),(o 19 (.bin .add t18 (I 1))),(m 6 19)])))
abbrev lG11l4 : ICode := .seq (R [(o 10 (.bin .lss t9 t8))]) (q (.cond t10 .skip (.exit 0)) (q (.block 1 (q (R [(m 11 9),(m 5 11)]) (q (R [(m 12 5),(o 13 (.bin .add t12 (I 1))),(m 6 13)]) (.block 2 lG11l1)))) lG11l3))
abbrev lG11l0 : ICode := .loop lG11l4
end
section
variable {T : Tab}
theorem PairB.ext {T : Tab} {s s' : St} (h : PairB T s) (hE : Ext s s') : PairB T s' := fun s2 h2 i j hi hj => h s2 (hE.trans h2) i j hi hj
set_option maxHeartbeats 8000000 in
theorem choose_ran (hG : LgTab T) {s : St} (hP : PairB T s) (hs : WFS s) {x : AV} {L : List In} (hx : RdI s x L) (hok : ∀ i ∈ L, i.ok = true) (hL : L.length ≤ 1000) :
 Ran T 47 [x] s fun v s' => ∃ (i j : Int) (b : Bool), v = .tuple [.int .i64 i, .int .i64 j, .bool b] ∧ Ext s s' := by
 refine ran_code hG.choose (Nat.le_of_ble_eq_true rfl) ?_
 generalize hQ : Fin _ _ = Q
 have hlen := len_op hx.lens
 have LO : ∀ (mo a : Nat) (e : Env) (s1 : St), mo + a = L.length → Ext s s1 → opd e (.t 0) = x → opd e (.t 8) = .int .i64 (L.length : Int) → opd e (.t 9) = .int .i64 (a : Int) →
  Go T Q (lG11l0) [.block 0, .seq lG11l2] e s1 := by
  intro mo
  induction mo with
  | zero =>
   intro a e s1 hm hE h0 h8 h9
   have hk : ¬ (a : Int) < (L.length : Int) := by omega
   rw [go_loop]
   simp only [h8, h9, hk, wr, seval]
   subst hQ
   simp only [ir47, wr, seval]
   exact ⟨_, _, _, rfl, hE⟩
  | succ mo iho =>
   intro a e s1 hm hE h0 h8 h9
   have ha : a < L.length := by omega
   have hk : (a : Int) < (L.length : Int) := by omega
   have w1 : wrapF .i64 ((a : Int) + 1) = ((a + 1 : Nat) : Int) := by rw [wrap_i64 _ (by omega) (by omega)]; omega
   have LI : ∀ (m k : Nat) (e : Env) (s1 : St), m + k = L.length → Ext s s1 → opd e (.t 0) = x → opd e (.t 5) = .int .i64 (a : Int) → opd e (.t 6) = .int .i64 (k : Int) → opd e (.t 8) = .int .i64 (L.length : Int) → opd e (.t 9) = .int .i64 (a : Int) →
    Go T Q (lG11l1) [.block 2, .block 1, .seq lG11l3, .loop lG11l4, .block 0, .seq lG11l2] e s1 := by
    intro m
    induction m with
    | zero =>
     intro k e s1 hm hE h0 h5 h6 h8 h9
     have hk2 : ¬ (k : Int) < (L.length : Int) := by omega
     rw [go_loop]
     simp only [h0, h5, h6, h8, h9, ↓hlen, hk2, w1, wr, seval]
     refine iho (a + 1) _ s1 (by omega) hE ?_ ?_ ?_
     all_goals simp only [h0, h5, h6, h8, h9, w1, wr, seval]
    | succ m ih =>
     intro k e s1 hm hE h0 h5 h6 h8 h9
     have hk2 : (k : Int) < (L.length : Int) := by omega
     have w2 : wrapF .i64 ((k : Int) + 1) = ((k + 1 : Nat) : Int) := by rw [wrap_i64 _ (by omega) (by omega)]; omega
     rw [go_loop]
     simp only [h0, h5, h6, h8, h9, ↓hlen, hk2, wr, seval]
     refine goCall_by (paired_ran hG (hP.ext hE) hE.1 (hx.ext hE) hok hL ha (show k < L.length by omega)) ?_
     rintro v s2 ⟨b, rfl, hE2⟩
     cases b with
     | true =>
      simp only [h0, h5, h6, h8, h9, wr, seval]
      subst hQ
      simp only [ir47, wr, seval]
      exact ⟨_, _, _, rfl, hE.trans hE2⟩
     | false =>
      simp only [h0, h5, h6, h8, h9, w2, wr, seval]
      refine ih (k + 1) _ s2 (by omega) (hE.trans hE2) ?_ ?_ ?_ ?_ ?_
      all_goals simp only [h0, h5, h6, h8, h9, w2, wr, seval]
   rw [go_loop]
   simp only [h0, h8, h9, hk, w1, wr, seval]
   refine LI mo (a + 1) _ s1 (by omega) hE ?_ ?_ ?_ ?_ ?_
   all_goals simp only [h0, h8, h9, w1, wr, seval]
 simp only [ir47, ↓hlen, wr, seval]
 refine LO L.length 0 _ s (by omega) (.refl hs) ?_ ?_ ?_
 all_goals simp only [wr, seval]
 all_goals rfl
set_option maxHeartbeats 8000000 in
theorem placed_ran (hG : LgTab T) {s : St} (hP : PairB T s) (hs : WFS s) {x : AV} {L : List In} (hx : RdI s x L) (hok : ∀ i ∈ L, i.ok = true) (hL : L.length ≤ 100) (hxc : x.isCell = true) {e0 e1 raw dup : Bool} :
 Ran T 15 [.agg [x, .bool e0, .bool e1, .bool raw, .bool dup]] s fun v s' => ∃ b : Bool, v = .bool b ∧ Ext s s' := by
 refine ran_code hG.placed (Nat.le_of_ble_eq_true rfl) ?_
 generalize hQ : Fin _ _ = Q
 have hxx : x.cells = [x] := by cases x <;> first | rfl | cases hxc
 have hE1 : Ext s (s.add (.cells [x, .bool e0, .bool e1, .bool raw, .bool dup] 0 0 false)) := .add (.refl hs) _
 cases dup with
 | true =>
  simp only [ir15, hxx, hxc, wr, seval]
  refine goCall_by (choose_ran hG (hP.ext hE1) hE1.1 (hx.ext hE1) hok (by omega)) ?_
  rintro v s2 ⟨i, j, b, rfl, hE2⟩
  simp only [wr, seval]
  subst hQ
  simp only [ir15, wr, seval]
  exact ⟨_, rfl, hE1.trans hE2⟩
 | false =>
  simp only [ir15, hxx, hxc, wr, seval]
  refine goCall_by (slots_ran hG.slots hG.ck.ru.inn hE1.1 (hx.ext hE1) hok (by omega) 15) ?_
  rintro mv s2 ⟨ms, hms, hmc, hE2⟩
  simp only [wr, seval]
  refine goCall_by (fits_ran2 hG.fits hG.begun hG.all hG.takes hE2.1 hms hmc) ?_
  rintro r s3 ⟨r, rfl, hE3⟩
  subst hQ
  simp only [ir15, wr, seval]
  exact ⟨_, rfl, (hE1.trans hE2).trans hE3⟩
set_option maxHeartbeats 8000000 in
theorem lcheck_ran (hG : LgTab T) {s : St} (hP : PairB T s) (hs : WFS s) {x : AV} {L : List In} (hx : RdI s x L) (hok : ∀ i ∈ L, i.ok = true) (hL : L.length ≤ 100) (hxc : x.isCell = true) {e0 e1 raw dup : Bool} :
 Ran T 6 [.agg [x, .bool e0, .bool e1, .bool raw, .bool dup]] s fun v s' => ∃ n : Int, v = .int .i64 n ∧ Ext s s' := by
 refine ran_code hG.check (Nat.le_of_ble_eq_true rfl) ?_
 generalize hQ : Fin _ _ = Q
 have hxx : x.cells = [x] := by cases x <;> first | rfl | cases hxc
 have done : ∀ (z : Int) (s2 : St), Ext s s2 → ∃ y : Int, AV.int .i64 z = .int .i64 y ∧ Ext s s2 := fun z s2 h => ⟨z, rfl, h⟩
 have hE1 : Ext s (s.add (.cells [x, .bool e0, .bool e1, .bool raw, .bool dup] 0 0 false)) := .add (.refl hs) _
 have hb1 : (s.add (.cells [x, .bool e0, .bool e1, .bool raw, .bool dup] 0 0 false)).heap.get s.next = some (.cells [x, .bool e0, .bool e1, .bool raw, .bool dup] 0 0 false) := by simp only [wr, seval]
 generalize hsB : s.add (.cells [x, .bool e0, .bool e1, .bool raw, .bool dup] 0 0 false) = sB at *
 have hn1 : s.next < sB.next := by rw [← hsB]; show s.next < s.next + 1; omega
 simp only [ir6, hsB, hb1, hxx, hxc, wr, seval]
 refine goCall_by (rcheck_ran hG.ck hE1.1 (hx.ext hE1) hok (by omega) hxc) ?_
 rintro v s2 ⟨n, rfl, hE2⟩
 have hb2 := (hE2.2.2 _ hn1).trans hb1
 have hF2 := hE1.trans hE2
 by_cases e8 : n = 8
 · simp only [e8, hb2, wr, seval]
   subst hQ
   simp only [ir6, wr, seval]
   exact done _ _ hF2
 · simp only [e8, hb2, wr, seval]
   refine goCall_by (placed_ran hG (hP.ext hF2) hE2.1 (hx.ext hF2) hok hL hxc) ?_
   rintro v s3 ⟨b, rfl, hE3⟩
   have hn2 := Nat.lt_of_lt_of_le hn1 hE2.2.1
   have hb3 := (hE3.2.2 _ hn2).trans hb2
   have hF3 := hF2.trans hE3
   cases b with
   | false =>
    simp only [hb3, wr, seval]
    subst hQ
    simp only [ir6, wr, seval]
    exact done _ _ hF3
   | true =>
    simp only [hb3, wr, seval]
    refine goCall_by (words_ran hG.words hE3.1 (hx.ext hF3) (by omega)) ?_
    rintro v s4 ⟨w, rfl, hE4⟩
    have hn3 := Nat.lt_of_lt_of_le hn2 hE3.2.1
    have hb4 := (hE4.2.2 _ hn3).trans hb3
    have hF4 := hF3.trans hE4
    by_cases w4 : 4 < w
    · simp only [hb4, w4, wr, seval]
      subst hQ
      simp only [ir6, wr, seval]
      exact done _ _ hF4
    · by_cases n0 : n = 0
      · subst n0
        simp only [hb4, w4, wr, seval]
        refine goCall_by (long_ran hG.long hG.words hE4.1 (hx.ext hF4) (by omega)) ?_
        rintro v s5 ⟨b5, rfl, hE5⟩
        cases b5 <;>
         (simp only [wr, seval]
          subst hQ
          simp only [ir6, wr, seval]
          exact done _ _ (hF4.trans hE5))
      · simp only [hb4, w4, n0, wr, seval]
        subst hQ
        simp only [ir6, wr, seval]
        exact done _ _ hF4
end
end Go.V
