/- mem: the plain facts. -/
import Derived.Test.YtlpdekocilhciaaVE
import Derived.Test.YtlpdekocilhciaaMemTab
import Derived.Test.YtlpdekocilhciaaPA
import Derived.Test.YtlpdekocilhciaaKU6
set_option linter.unusedVariables false
set_option linter.unusedSimpArgs false
set_option linter.unusedSectionVars false
/- mem: the plain facts. -/
/- mem: the plain facts. -/
namespace Go.V
open Go
set_option linter.unusedSimpArgs false
set_option linter.unusedVariables false
structure ME where
  k : Nat
  b : Nat
  t : Nat
def ments (L : List ME) : List AEntry := L.map fun e => ⟨.int .u32 (e.k : Int), .int .u8 (e.b : Int), e.t⟩
def mget (L : List ME) (k : Nat) : Nat := match L with
  | [] => 0
  | e :: l => if e.k = k then e.b else mget l k
/-- Set, the row's clock with it. -/
def mset (L : List ME) (k b c : Nat) : List ME := match L with
  | [] => [⟨k, b, c⟩]
  | e :: l => if e.k = k then ⟨k, b, e.t⟩ :: l else e :: mset l k b c
def mhas (L : List ME) (k : Nat) : Bool := L.any fun e => decide (e.k = k)
def mdel (L : List ME) (k : Nat) : List ME := match L with
  | [] => []
  | e :: l => if e.k = k then l else e :: mdel l k

theorem mfind (L : List ME) (k : Nat) (i : Nat) : findV (.int .u32) (.int .u32 (k : Int)) (ments L) i = some (if mhas L k = true then some (i + (L.findIdx fun e => decide (e.k = k)), .int .u8 (mget L k : Int)) else none) := by
  induction L generalizing i with
  | nil => rfl
  | cons e l ih =>
    have hk : keyEq (.int .u32) (.int .u32 (k : Int)) (.int .u32 (e.k : Int)) = some (decide (k = e.k)) := by
      simp only [keyEq, if_true]
      congr 1
      rw [decide_eq_decide]; omega
    show (match keyEq (.int .u32) (.int .u32 (k : Int)) (.int .u32 (e.k : Int)) with | some true => some (some (i, AV.int .u8 (e.b : Int))) | some false => findV (.int .u32) (.int .u32 (k : Int)) (ments l) (i + 1) | none => none) = _
    rw [hk]
    by_cases h : e.k = k
    · rw [decide_eq_true h.symm]
      simp [mhas, mget, h, List.findIdx_cons]
    · rw [decide_eq_false (fun e' => h e'.symm)]
      simp only [ih]
      have : mhas (e :: l) k = mhas l k := by simp [mhas, h]
      rw [this]
      split
      · simp [mget, h, List.findIdx_cons]; omega
      · rfl
theorem mget_not {L : List ME} {k : Nat} (h : mhas L k = false) : mget L k = 0 := by
  induction L with
  | nil => rfl
  | cons e l ih =>
    simp [mhas] at h
    simp only [mget]
    rw [if_neg h.1]
    exact ih (by simp [mhas]; exact h.2)
theorem mlook (L : List ME) (k : Nat) : lookIn (.int .u32) (.int .u8 0) false (.int .u32 (k : Int)) (ments L) = some (.int .u8 (mget L k : Int)) := by
  unfold lookIn
  rw [mfind]
  simp only []
  cases h : mhas L k with
  | true => simp [lookRes]
  | false => simp [lookRes, mget_not h]
theorem mset_ents (L : List ME) (k b c : Nat) : ments (mset L k b c) = if mhas L k = true then setEnt (.int .u32 (k : Int)) (.int .u8 (b : Int)) (ments L) (L.findIdx fun e => decide (e.k = k)) else ments L ++ [⟨.int .u32 (k : Int), .int .u8 (b : Int), c⟩] := by
  induction L with
  | nil => simp [mset, ments, mhas]
  | cons e l ih =>
    by_cases h : e.k = k
    · simp [mset, h, ments, mhas, List.findIdx_cons, setEnt]
    · have h1 : mhas (e :: l) k = mhas l k := by simp [mhas, h]
      rw [h1]
      simp only [mset, if_neg h]
      show _ :: ments (mset l k b c) = _
      rw [ih]
      split
      · simp [List.findIdx_cons, h, ments, setEnt]
      · simp [ments]
theorem mdel_ents (L : List ME) (k : Nat) : ments (mdel L k) = if mhas L k = true then (ments L).eraseIdx (L.findIdx fun e => decide (e.k = k)) else ments L := by
  induction L with
  | nil => simp [mdel, ments, mhas]
  | cons e l ih =>
    by_cases h : e.k = k
    · simp [mdel, h, ments, mhas, List.findIdx_cons]
    · have h1 : mhas (e :: l) k = mhas l k := by simp [mhas, h]
      rw [h1]
      simp only [mdel, if_neg h]
      show _ :: ments (mdel l k) = _
      rw [ih]
      split
      · simp [List.findIdx_cons, h, ments]
      · simp [ments]

/-- The row's order. -/
structure MOk (L : List ME) (c : Nat) : Prop where
  val : ∀ e ∈ L, e.k < 4294967296 ∧ 0 < e.b ∧ e.b < 256 ∧ e.t < c
  keys : (L.map (·.k)).Nodup
  born : (L.map (·.t)).Nodup
  len : L.length ≤ c
theorem MOk.nil : MOk [] 0 := ⟨by simp, .nil, .nil, Nat.le_refl _⟩

def mclk (L : List ME) (k c : Nat) : Nat := if mhas L k = true then c else c + 1
theorem mset_mem {L : List ME} {k b c : Nat} {e : ME} (h : e ∈ mset L k b c) : (∃ e' ∈ L, e = e' ∧ e.k ≠ k) ∨ e ∈ L ∨ (e.k = k ∧ e.b = b ∧ ((∃ e' ∈ L, e'.k = k ∧ e.t = e'.t) ∨ e.t = c)) := by
  induction L with
  | nil => simp [mset] at h; subst h; exact .inr (.inr ⟨rfl, rfl, .inr rfl⟩)
  | cons x l ih =>
    simp only [mset] at h
    split at h
    · rename_i hk
      rcases List.mem_cons.1 h with rfl | h
      · exact .inr (.inr ⟨rfl, rfl, .inl ⟨x, by simp, hk, rfl⟩⟩)
      · exact .inr (.inl (List.mem_cons_of_mem _ h))
    · rcases List.mem_cons.1 h with rfl | h
      · exact .inr (.inl (by simp))
      · rcases ih h with ⟨e', h1, h2⟩ | h1 | ⟨h1, h2, h3⟩
        · exact .inl ⟨e', List.mem_cons_of_mem _ h1, h2⟩
        · exact .inr (.inl (List.mem_cons_of_mem _ h1))
        · refine .inr (.inr ⟨h1, h2, ?_⟩)
          rcases h3 with ⟨e', h4, h5⟩ | h4
          · exact .inl ⟨e', List.mem_cons_of_mem _ h4, h5⟩
          · exact .inr h4
theorem mset_keys (L : List ME) (k b c : Nat) : (mset L k b c).map (·.k) = if mhas L k = true then L.map (·.k) else L.map (·.k) ++ [k] := by
  induction L with
  | nil => simp [mset, mhas]
  | cons e l ih =>
    by_cases h : e.k = k
    · simp [mset, h, mhas]
    · have h1 : mhas (e :: l) k = mhas l k := by simp [mhas, h]
      rw [h1]
      simp only [mset, if_neg h, List.map_cons, ih]
      split <;> simp
theorem mset_born (L : List ME) (k b c : Nat) : (mset L k b c).map (·.t) = if mhas L k = true then L.map (·.t) else L.map (·.t) ++ [c] := by
  induction L with
  | nil => simp [mset, mhas]
  | cons e l ih =>
    by_cases h : e.k = k
    · simp [mset, h, mhas]
    · have h1 : mhas (e :: l) k = mhas l k := by simp [mhas, h]
      rw [h1]
      simp only [mset, if_neg h, List.map_cons, ih]
      split <;> simp
theorem mhas_iff {L : List ME} {k : Nat} : mhas L k = true ↔ k ∈ L.map (·.k) := by
  simp [mhas]
theorem MOk.set {L : List ME} {c k b : Nat} (h : MOk L c) (hk : k < 4294967296) (hb : 0 < b) (hb2 : b < 256) : MOk (mset L k b c) (mclk L k c) := by
  have hlen : (mset L k b c).length ≤ mclk L k c := by
    have h1 := congrArg List.length (mset_keys L k b c)
    have h2 := h.len
    unfold mclk
    split at h1 <;> simp at h1
    · rename_i hh; rw [if_pos hh]; omega
    · rename_i hh; rw [if_neg hh]; omega
  refine ⟨fun e he => ?_, ?_, ?_, hlen⟩
  · rcases mset_mem he with ⟨e', h1, rfl, _⟩ | h1 | ⟨h1, h2, h3⟩
    · have := h.val _ h1; unfold mclk; split <;> omega
    · have := h.val _ h1; unfold mclk; split <;> omega
    · rcases h3 with ⟨e', h4, h5, h6⟩ | h4
      · have := h.val _ h4; unfold mclk; split <;> omega
      · unfold mclk
        split
        · rename_i hh
          -- the key was there: its entry keeps its number
          exfalso
          have hb' : e.t ∈ (mset L k b c).map (·.t) := List.mem_map_of_mem he
          rw [mset_born, if_pos hh] at hb'
          obtain ⟨x, hx, hxt⟩ := List.mem_map.1 hb'
          have := h.val _ hx; omega
        · omega
  · rw [mset_keys]
    split
    · exact h.keys
    · rename_i hh
      rw [List.nodup_append]
      refine ⟨h.keys, by simp, ?_⟩
      intro a ha x hx
      simp at hx
      subst hx
      intro e; subst e
      exact hh (mhas_iff.2 ha)
  · rw [mset_born]
    split
    · exact h.born
    · rw [List.nodup_append]
      refine ⟨h.born, by simp, ?_⟩
      intro a ha x hx
      simp at hx
      subst hx
      intro e; subst e
      obtain ⟨x, hx, hxt⟩ := List.mem_map.1 ha
      have := h.val _ hx; omega
theorem mdel_sub : ∀ (L : List ME) (k : Nat), List.Sublist (mdel L k) L
  | [], _ => .slnil
  | e :: l, k => by
    simp only [mdel]
    split
    · exact .cons _ (List.Sublist.refl l)
    · exact .cons_cons _ (mdel_sub l k)
theorem MOk.del {L : List ME} {c k : Nat} (h : MOk L c) : MOk (mdel L k) c :=
  ⟨fun e he => h.val e ((mdel_sub L k).subset he), List.Pairwise.sublist ((mdel_sub L k).map _) h.keys, List.Pairwise.sublist ((mdel_sub L k).map _) h.born, Nat.le_trans (mdel_sub L k).length_le h.len⟩

theorem mget_set (L : List ME) (k b c k' : Nat) : mget (mset L k b c) k' = if k' = k then b else mget L k' := by
  induction L with
  | nil =>
    simp only [mset, mget]
    by_cases h : k' = k
    · subst h; simp
    · rw [if_neg (fun e => h e.symm), if_neg h]
  | cons e l ih =>
    simp only [mset]
    split
    · rename_i h
      simp only [mget]
      by_cases h2 : k' = k
      · subst h2; simp
      · rw [if_neg (fun e => h2 e.symm), if_neg h2, if_neg (by omega)]
    · rename_i h
      simp only [mget, ih]
      by_cases h2 : k' = k
      · subst h2; simp [h]
      · simp [h2]
theorem mget_del {L : List ME} (hn : (L.map (·.k)).Nodup) (k k' : Nat) : mget (mdel L k) k' = if k' = k then 0 else mget L k' := by
  induction L with
  | nil => simp [mdel, mget]
  | cons e l ih =>
    simp only [List.map_cons, List.nodup_cons] at hn
    simp only [mdel]
    split
    · rename_i h
      simp only [mget]
      by_cases h2 : k' = k
      · subst h2
        rw [if_pos rfl]
        refine mget_not ?_
        cases hh : mhas l k' with
        | false => rfl
        | true => exact absurd (mhas_iff.1 hh) (h ▸ hn.1)
      · rw [if_neg h2, if_neg (by omega)]
    · rename_i h
      simp only [mget, ih hn.2]
      by_cases h2 : k' = k
      · subst h2; simp [h]
      · simp [h2]
theorem mget_mem {L : List ME} {c : Nat} (h : MOk L c) : ∀ e ∈ L, mget L e.k = e.b := by
  have hn := h.keys
  clear h
  intro e he
  induction L with
  | nil => simp at he
  | cons x l ih =>
    simp only [List.map_cons, List.nodup_cons] at hn
    simp only [mget]
    rcases List.mem_cons.1 he with rfl | he
    · rw [if_pos rfl]
    · rw [if_neg, ih hn.2 he]
      intro e2
      exact hn.1 (e2 ▸ List.mem_map_of_mem he)
theorem mget_pos {L : List ME} {c : Nat} (h : MOk L c) (k : Nat) : k ∈ L.map (·.k) ↔ mget L k ≠ 0 := by
  constructor
  · intro hk
    obtain ⟨e, he, rfl⟩ := List.mem_map.1 hk
    rw [mget_mem h e he]
    have := h.val e he; omega
  · intro hk
    refine mhas_iff.1 ?_
    cases hh : mhas L k with
    | true => rfl
    | false => exact absurd (mget_not hh) hk
theorem mget_lt {L : List ME} {c : Nat} (h : MOk L c) (k : Nat) : mget L k < 256 := by
  by_cases hk : mget L k = 0
  · omega
  · obtain ⟨e, he, rfl⟩ := List.mem_map.1 ((mget_pos h k).2 hk)
    rw [mget_mem h e he]
    exact (h.val e he).2.2.1
end Go.V
/- mem: its small functions over the small language. -/
namespace Go.V
open Go
set_option linter.unusedSimpArgs false
set_option linter.unusedVariables false
structure MemAt (s : St) (pm r : Nat) (L : List ME) (c : Nat) : Prop where
  box : s.heap.get pm = some (.cells [.map r] 0 0 false)
  map : s.heap.get r = some (.map (ments L) c)
  ok : MOk L c
  lt1 : pm < s.next
  lt2 : r < s.next
  wfs : WFS s
theorem MemAt.ne {s : St} {pm r : Nat} {L : List ME} {c : Nat} (h : MemAt s pm r L c) : pm ≠ r := by
  intro e; have := h.box; rw [e, h.map] at this; cases this
theorem MemAt.look {s : St} {pm r : Nat} {L : List ME} {c : Nat} (h : MemAt s pm r L c) (k : Nat) : lookupV s (.int .u32) (.int .u8 0) false (.map r) (.int .u32 (k : Int)) = some (.int .u8 (mget L k : Int)) := by
  simp only [lookupV, h.map, mlook]
theorem MemAt.setV {s : St} {pm r : Nat} {L : List ME} {c : Nat} (h : MemAt s pm r L c) (k b : Nat) : mapSetV s (.int .u32) (.map r) (.int .u32 (k : Int)) (.int .u8 (b : Int)) = some (s.put r (.map (ments (mset L k b c)) (mclk L k c))) := by
  simp only [mapSetV, h.map, mfind, mset_ents, mclk]
  cases mhas L k <;> simp
theorem MemAt.delV {s : St} {pm r : Nat} {L : List ME} {c : Nat} (h : MemAt s pm r L c) (k : Nat) : deleteV s (.int .u32) (.map r) (.int .u32 (k : Int)) = some (s.put r (.map (ments (mdel L k)) c)) := by
  simp only [deleteV, h.map, mfind, mdel_ents]
  cases mhas L k <;> simp

/-- What a put makes of the row. -/
def mput (L : List ME) (c k b : Nat) : List ME × Nat := if b = 0 then (mdel L k, c) else (mset L k b c, mclk L k c)
theorem mput_ok {L : List ME} {c k b : Nat} (h : MOk L c) (hk : k < 4294967296) (hb : b < 256) : MOk (mput L c k b).1 (mput L c k b).2 := by
  unfold mput
  split
  · exact h.del
  · exact h.set hk (by omega) hb
theorem mput_get {L : List ME} {c k b : Nat} (h : MOk L c) (k' : Nat) : mget (mput L c k b).1 k' = if k' = k then b else mget L k' := by
  unfold mput
  split
  · rename_i hb; rw [mget_del h.keys, hb]
  · rw [mget_set]
theorem mput_clk (L : List ME) (c k b : Nat) : (mput L c k b).2 ≤ c + 1 := by
  unfold mput mclk
  split
  · simp
  · simp only []; split <;> omega
theorem MemAt.put {s : St} {pm r : Nat} {L : List ME} {c k b : Nat} (h : MemAt s pm r L c) (hk : k < 4294967296) (hb : b < 256) : MemAt (s.put r (.map (ments (mput L c k b).1) (mput L c k b).2)) pm r (mput L c k b).1 (mput L c k b).2 :=
  ⟨by rw [put_get, if_neg h.ne]; exact h.box, by rw [put_get, if_pos rfl], mput_ok h.ok hk hb, h.lt1, h.lt2, h.wfs.put h.lt2 _⟩

/-- Only one thing that was there has turned. -/
structure Only (r : Nat) (s s' : St) : Prop where
  wfs : WFS s'
  next : s.next ≤ s'.next
  same : ∀ id, id < s.next → id ≠ r → s'.heap.get id = s.heap.get id
theorem Only.refl {r : Nat} {s : St} (h : WFS s) : Only r s s := ⟨h, Nat.le_refl _, fun _ _ _ => rfl⟩
theorem Only.trans {r : Nat} {a b c : St} (h : Only r a b) (h' : Only r b c) : Only r a c :=
  ⟨h'.wfs, Nat.le_trans h.next h'.next, fun id i1 i2 => by rw [h'.same id (Nat.lt_of_lt_of_le i1 h.next) i2, h.same id i1 i2]⟩
theorem Only.ext {r : Nat} {s s' : St} (h : Ext s s') : Only r s s' := ⟨h.1, h.2.1, fun id i1 _ => h.2.2 id i1⟩
theorem Only.put {r : Nat} {s : St} (h : WFS s) (hr : r < s.next) (o : AObj) : Only r s (s.put r o) := ⟨h.put hr o, Nat.le_refl _, fun id _ i2 => by rw [put_get, if_neg i2]⟩

abbrev mptr (pm : Nat) : AV := .ptr ⟨pm, 0, 0, 1⟩
def strB (v : AV) (s : St) : Res := match v with
  | .str l => if l.length * 65536 ≤ maxApp then .val (.slice ⟨s.next, 0, 0, l.length⟩ l.length l.length false 1) (s.add (.cells (l.map fun b => .int .u8 b.toNat) 0 0 false)) else .fail
  | _ => .fail
theorem wo_strBytes (x : Opd) (T : Tab) (Q : Post) (fs : List Fr) (d : Bool) (l : List IOp) (dst : Option Nat) (w : List Opd) (e : Env) (s : St) : GoOps T Q d (⟨dst, none, w, .conv .strBytes x⟩ :: l) fs e s ↔ GoR T Q d dst w (strB (opd e x) s) l fs e s := by
  rw [ops_ins rfl]
  have : insV e s (.conv .strBytes x) = strB (opd e x) s := by
    unfold insV strB
    simp only [evalIns]
    cases opd e x <;> simp [convV, ofOpt]
  rw [this]
section
variable {T : Tab}
theorem get_ran (hc : T 26 = some (.code ir26)) {s : St} {pm r : Nat} {L : List ME} {c : Nat} (h : MemAt s pm r L c) (k : Nat) :
    Ran T 26 [mptr pm, .int .u32 (k : Int)] s fun v s' => v = .int .u8 (mget L k : Int) ∧ s' = s := by
  refine ran_code hc (Nat.le_of_ble_eq_true rfl) ?_
  have h1 := h.box
  have h2 := h.look k
  simp only [ir26, h1, h2, eqV, nilEq, wk, wk1, wk2, Option.some.injEq, exists_eq_left', decide_true, decide_false, Nat.reduceAdd, Nat.reduceEqDiff, Nat.reduceLeDiff, Nat.reduceLT, Nat.reduceMul, Nat.reduceBEq, Int.reduceLT, Int.reduceLE, Int.reduceEq, Int.reduceAdd, Int.reduceSub, Int.reduceMul, Int.reduceMod, Int.reduceTMod, Int.reduceTDiv, Int.reduceNeg, Nat.reduceSub, Nat.reduceDiv, reduceIte, reduceCtorEq]
theorem put_ran (hc : T 57 = some (.code ir57)) {s : St} {pm r : Nat} {L : List ME} {c : Nat} (h : MemAt s pm r L c) (k b : Nat) :
    Ran T 57 [mptr pm, .int .u32 (k : Int), .int .u8 (b : Int)] s fun v s' => v = .tuple [] ∧ s' = s.put r (.map (ments (mput L c k b).1) (mput L c k b).2) := by
  refine ran_code hc (Nat.le_of_ble_eq_true rfl) ?_
  have h1 := h.box
  have h2 := h.setV k b
  have h3 := h.delV k
  generalize hQ : Fin _ _ = Q
  by_cases hb : b = 0
  · have c1 : (b : Int) = 0 := by omega
    simp only [ir57, h1, h3, c1, eqV, nilEq, wk, wk1, wk2, Option.some.injEq, exists_eq_left', decide_true, decide_false, Nat.reduceAdd, Nat.reduceEqDiff, Nat.reduceLeDiff, Nat.reduceLT, Nat.reduceMul, Nat.reduceBEq, Int.reduceLT, Int.reduceLE, Int.reduceEq, Int.reduceAdd, Int.reduceSub, Int.reduceMul, Int.reduceMod, Int.reduceTMod, Int.reduceTDiv, Int.reduceNeg, Nat.reduceSub, Nat.reduceDiv, reduceIte, reduceCtorEq]
    subst hQ
    simp only [ir57, wk, wk1, wk2, Option.some.injEq, exists_eq_left', decide_true, decide_false, Nat.reduceAdd, Nat.reduceEqDiff, Nat.reduceLeDiff, Nat.reduceLT, Nat.reduceMul, Nat.reduceBEq, Int.reduceLT, Int.reduceLE, Int.reduceEq, Int.reduceAdd, Int.reduceSub, Int.reduceMul, Int.reduceMod, Int.reduceTMod, Int.reduceTDiv, Int.reduceNeg, Nat.reduceSub, Nat.reduceDiv, reduceIte, reduceCtorEq, mput, hb, if_true]
  · have c1 : ¬ (b : Int) = 0 := by omega
    simp only [ir57, h1, h2, c1, eqV, nilEq, wk, wk1, wk2, Option.some.injEq, exists_eq_left', decide_true, decide_false, Nat.reduceAdd, Nat.reduceEqDiff, Nat.reduceLeDiff, Nat.reduceLT, Nat.reduceMul, Nat.reduceBEq, Int.reduceLT, Int.reduceLE, Int.reduceEq, Int.reduceAdd, Int.reduceSub, Int.reduceMul, Int.reduceMod, Int.reduceTMod, Int.reduceTDiv, Int.reduceNeg, Nat.reduceSub, Nat.reduceDiv, reduceIte, reduceCtorEq]
    subst hQ
    simp only [ir57, wk, wk1, wk2, Option.some.injEq, exists_eq_left', decide_true, decide_false, Nat.reduceAdd, Nat.reduceEqDiff, Nat.reduceLeDiff, Nat.reduceLT, Nat.reduceMul, Nat.reduceBEq, Int.reduceLT, Int.reduceLE, Int.reduceEq, Int.reduceAdd, Int.reduceSub, Int.reduceMul, Int.reduceMod, Int.reduceTMod, Int.reduceTDiv, Int.reduceNeg, Nat.reduceSub, Nat.reduceDiv, reduceIte, reduceCtorEq, mput, hb, if_false]
theorem Put_ran (hc : T 21 = some (.code ir21)) (hp : T 57 = some (.code ir57)) {s : St} {pm r : Nat} {L : List ME} {c : Nat} (h : MemAt s pm r L c) (k b : Nat) :
    Ran T 21 [mptr pm, .int .u32 (k : Int), .int .u8 (b : Int)] s fun v s' => v = .int .i64 0 ∧ s' = s.put r (.map (ments (mput L c k b).1) (mput L c k b).2) := by
  refine ran_code hc (Nat.le_of_ble_eq_true rfl) ?_
  generalize hQ : Fin _ _ = Q
  simp only [ir21, eqV, nilEq, wk, wk1, wk2, Option.some.injEq, exists_eq_left', decide_true, decide_false, Nat.reduceAdd, Nat.reduceEqDiff, Nat.reduceLeDiff, Nat.reduceLT, Nat.reduceMul, Nat.reduceBEq, Int.reduceLT, Int.reduceLE, Int.reduceEq, Int.reduceAdd, Int.reduceSub, Int.reduceMul, Int.reduceMod, Int.reduceTMod, Int.reduceTDiv, Int.reduceNeg, Nat.reduceSub, Nat.reduceDiv, reduceIte, reduceCtorEq]
  refine goCall_by (put_ran hp h k b) ?_
  rintro v s' ⟨rfl, rfl⟩
  subst hQ
  simp only [ir21, wk, wk1, wk2, Option.some.injEq, exists_eq_left', decide_true, decide_false, Nat.reduceAdd, Nat.reduceEqDiff, Nat.reduceLeDiff, Nat.reduceLT, Nat.reduceMul, Nat.reduceBEq, Int.reduceLT, Int.reduceLE, Int.reduceEq, Int.reduceAdd, Int.reduceSub, Int.reduceMul, Int.reduceMod, Int.reduceTMod, Int.reduceTDiv, Int.reduceNeg, Nat.reduceSub, Nat.reduceDiv, reduceIte, reduceCtorEq]
def rightW (at_ : Nat) (n : Int) : Bool := decide (n = 1) || ((decide (n = 2) && decide (at_ % 2 = 0)) || (decide (n = 4) && decide (at_ % 4 = 0)))
theorem may_ran (hc : T 52 = some (.code ir52)) (s : St) (pm k : Nat) (n : Int) :
    Ran T 52 [mptr pm, .int .u32 (k : Int), .int .i64 n] s fun v s' => v = .int .i64 (if rightW k n = true then 0 else 1) ∧ s' = s := by
  refine ran_code hc (Nat.le_of_ble_eq_true rfl) ?_
  generalize hQ : Fin _ _ = Q
  by_cases h1 : n = 1
  · subst h1
    have e1 : Int.tmod (k : Int) 1 = 0 := by rw [Int.tmod_eq_emod_of_nonneg (by omega)]; omega
    simp only [ir52, e1, eqV, nilEq, wk, wk1, wk2, Option.some.injEq, exists_eq_left', decide_true, decide_false, Nat.reduceAdd, Nat.reduceEqDiff, Nat.reduceLeDiff, Nat.reduceLT, Nat.reduceMul, Nat.reduceBEq, Int.reduceLT, Int.reduceLE, Int.reduceEq, Int.reduceAdd, Int.reduceSub, Int.reduceMul, Int.reduceMod, Int.reduceTMod, Int.reduceTDiv, Int.reduceNeg, Nat.reduceSub, Nat.reduceDiv, reduceIte, reduceCtorEq]
    subst hQ
    simp only [ir52, wk, wk1, wk2, Option.some.injEq, exists_eq_left', decide_true, decide_false, Nat.reduceAdd, Nat.reduceEqDiff, Nat.reduceLeDiff, Nat.reduceLT, Nat.reduceMul, Nat.reduceBEq, Int.reduceLT, Int.reduceLE, Int.reduceEq, Int.reduceAdd, Int.reduceSub, Int.reduceMul, Int.reduceMod, Int.reduceTMod, Int.reduceTDiv, Int.reduceNeg, Nat.reduceSub, Nat.reduceDiv, reduceIte, reduceCtorEq, rightW, decide_true, Bool.true_or, if_true]
  · by_cases h2 : n = 2
    · subst h2
      have e1 : Int.tmod (k : Int) 2 = ((k % 2 : Nat) : Int) := by rw [Int.tmod_eq_emod_of_nonneg (by omega)]; omega
      by_cases h3 : k % 2 = 0
      · have e2 : ((k % 2 : Nat) : Int) = 0 := by omega
        simp only [ir52, e1, e2, eqV, nilEq, wk, wk1, wk2, Option.some.injEq, exists_eq_left', decide_true, decide_false, Nat.reduceAdd, Nat.reduceEqDiff, Nat.reduceLeDiff, Nat.reduceLT, Nat.reduceMul, Nat.reduceBEq, Int.reduceLT, Int.reduceLE, Int.reduceEq, Int.reduceAdd, Int.reduceSub, Int.reduceMul, Int.reduceMod, Int.reduceTMod, Int.reduceTDiv, Int.reduceNeg, Nat.reduceSub, Nat.reduceDiv, reduceIte, reduceCtorEq]
        subst hQ
        simp only [ir52, wk, wk1, wk2, Option.some.injEq, exists_eq_left', decide_true, decide_false, Nat.reduceAdd, Nat.reduceEqDiff, Nat.reduceLeDiff, Nat.reduceLT, Nat.reduceMul, Nat.reduceBEq, Int.reduceLT, Int.reduceLE, Int.reduceEq, Int.reduceAdd, Int.reduceSub, Int.reduceMul, Int.reduceMod, Int.reduceTMod, Int.reduceTDiv, Int.reduceNeg, Nat.reduceSub, Nat.reduceDiv, reduceIte, reduceCtorEq, rightW, h3]
        simp
      · have e2 : ¬ ((k % 2 : Nat) : Int) = 0 := by omega
        simp only [ir52, e1, e2, eqV, nilEq, wk, wk1, wk2, Option.some.injEq, exists_eq_left', decide_true, decide_false, Nat.reduceAdd, Nat.reduceEqDiff, Nat.reduceLeDiff, Nat.reduceLT, Nat.reduceMul, Nat.reduceBEq, Int.reduceLT, Int.reduceLE, Int.reduceEq, Int.reduceAdd, Int.reduceSub, Int.reduceMul, Int.reduceMod, Int.reduceTMod, Int.reduceTDiv, Int.reduceNeg, Nat.reduceSub, Nat.reduceDiv, reduceIte, reduceCtorEq]
        subst hQ
        simp only [ir52, wk, wk1, wk2, Option.some.injEq, exists_eq_left', decide_true, decide_false, Nat.reduceAdd, Nat.reduceEqDiff, Nat.reduceLeDiff, Nat.reduceLT, Nat.reduceMul, Nat.reduceBEq, Int.reduceLT, Int.reduceLE, Int.reduceEq, Int.reduceAdd, Int.reduceSub, Int.reduceMul, Int.reduceMod, Int.reduceTMod, Int.reduceTDiv, Int.reduceNeg, Nat.reduceSub, Nat.reduceDiv, reduceIte, reduceCtorEq, rightW, h3]
        simp
    · by_cases h4 : n = 4
      · subst h4
        have e1 : Int.tmod (k : Int) 4 = ((k % 4 : Nat) : Int) := by rw [Int.tmod_eq_emod_of_nonneg (by omega)]; omega
        by_cases h3 : k % 4 = 0
        · have e2 : ((k % 4 : Nat) : Int) = 0 := by omega
          simp only [ir52, e1, e2, eqV, nilEq, wk, wk1, wk2, Option.some.injEq, exists_eq_left', decide_true, decide_false, Nat.reduceAdd, Nat.reduceEqDiff, Nat.reduceLeDiff, Nat.reduceLT, Nat.reduceMul, Nat.reduceBEq, Int.reduceLT, Int.reduceLE, Int.reduceEq, Int.reduceAdd, Int.reduceSub, Int.reduceMul, Int.reduceMod, Int.reduceTMod, Int.reduceTDiv, Int.reduceNeg, Nat.reduceSub, Nat.reduceDiv, reduceIte, reduceCtorEq]
          subst hQ
          simp only [ir52, wk, wk1, wk2, Option.some.injEq, exists_eq_left', decide_true, decide_false, Nat.reduceAdd, Nat.reduceEqDiff, Nat.reduceLeDiff, Nat.reduceLT, Nat.reduceMul, Nat.reduceBEq, Int.reduceLT, Int.reduceLE, Int.reduceEq, Int.reduceAdd, Int.reduceSub, Int.reduceMul, Int.reduceMod, Int.reduceTMod, Int.reduceTDiv, Int.reduceNeg, Nat.reduceSub, Nat.reduceDiv, reduceIte, reduceCtorEq, rightW, h3]
          simp
        · have e2 : ¬ ((k % 4 : Nat) : Int) = 0 := by omega
          simp only [ir52, e1, e2, eqV, nilEq, wk, wk1, wk2, Option.some.injEq, exists_eq_left', decide_true, decide_false, Nat.reduceAdd, Nat.reduceEqDiff, Nat.reduceLeDiff, Nat.reduceLT, Nat.reduceMul, Nat.reduceBEq, Int.reduceLT, Int.reduceLE, Int.reduceEq, Int.reduceAdd, Int.reduceSub, Int.reduceMul, Int.reduceMod, Int.reduceTMod, Int.reduceTDiv, Int.reduceNeg, Nat.reduceSub, Nat.reduceDiv, reduceIte, reduceCtorEq]
          subst hQ
          simp only [ir52, wk, wk1, wk2, Option.some.injEq, exists_eq_left', decide_true, decide_false, Nat.reduceAdd, Nat.reduceEqDiff, Nat.reduceLeDiff, Nat.reduceLT, Nat.reduceMul, Nat.reduceBEq, Int.reduceLT, Int.reduceLE, Int.reduceEq, Int.reduceAdd, Int.reduceSub, Int.reduceMul, Int.reduceMod, Int.reduceTMod, Int.reduceTDiv, Int.reduceNeg, Nat.reduceSub, Nat.reduceDiv, reduceIte, reduceCtorEq, rightW, h3]
          simp
      · simp only [ir52, h1, h2, h4, eqV, nilEq, wk, wk1, wk2, Option.some.injEq, exists_eq_left', decide_true, decide_false, Nat.reduceAdd, Nat.reduceEqDiff, Nat.reduceLeDiff, Nat.reduceLT, Nat.reduceMul, Nat.reduceBEq, Int.reduceLT, Int.reduceLE, Int.reduceEq, Int.reduceAdd, Int.reduceSub, Int.reduceMul, Int.reduceMod, Int.reduceTMod, Int.reduceTDiv, Int.reduceNeg, Nat.reduceSub, Nat.reduceDiv, reduceIte, reduceCtorEq]
        subst hQ
        simp only [ir52, wk, wk1, wk2, Option.some.injEq, exists_eq_left', decide_true, decide_false, Nat.reduceAdd, Nat.reduceEqDiff, Nat.reduceLeDiff, Nat.reduceLT, Nat.reduceMul, Nat.reduceBEq, Int.reduceLT, Int.reduceLE, Int.reduceEq, Int.reduceAdd, Int.reduceSub, Int.reduceMul, Int.reduceMod, Int.reduceTMod, Int.reduceTDiv, Int.reduceNeg, Nat.reduceSub, Nat.reduceDiv, reduceIte, reduceCtorEq, rightW, h1, h2, h4]
        simp
theorem new_ran (hc : T 12 = some (.code ir12)) (s : St) (hs : WFS s) :
    Ran T 12 [] s fun v s' => ∃ pm r, v = mptr pm ∧ s.next ≤ pm ∧ s.next ≤ r ∧ MemAt s' pm r [] 0 ∧ Ext s s' := by
  refine ran_code hc (Nat.le_of_ble_eq_true rfl) ?_
  simp only [ir12, wk, wk1, wk2, Option.some.injEq, exists_eq_left', decide_true, decide_false, Nat.reduceAdd, Nat.reduceEqDiff, Nat.reduceLeDiff, Nat.reduceLT, Nat.reduceMul, Nat.reduceBEq, Int.reduceLT, Int.reduceLE, Int.reduceEq, Int.reduceAdd, Int.reduceSub, Int.reduceMul, Int.reduceMod, Int.reduceTMod, Int.reduceTDiv, Int.reduceNeg, Nat.reduceSub, Nat.reduceDiv, reduceIte, reduceCtorEq]
  refine ⟨s.next + 1, s.next, rfl, by omega, by omega, ⟨?_, ?_, .nil, ?_, ?_, (hs.add _).add _⟩, (Ext.add (Ext.add (Ext.refl hs) _) _)⟩
  all_goals simp only [wk, wk1, Nat.reduceEqDiff, reduceIte, decide_true]
  all_goals first | rfl | omega
end
end Go.V
/- mem: Word, Store, Load over the small language. -/
namespace Go.V
open Go
set_option linter.unusedSimpArgs false
set_option linter.unusedVariables false
abbrev memCl0 : ICode := (.loop (.seq (.region [⟨some 20, none, [], (.bin .lss (.t 19) (.t 18))⟩] false)
 (.seq (.cond (.t 20) .skip (.exit 0))
 (.seq (.block 1 (.seq (.region [⟨some 21, none, [], (.move (.t 19))⟩, ⟨some 10, none, [], (.move (.t 21))⟩] false)
 (.region [⟨some 22, none, [], (.move (.t 9))⟩, ⟨some 23, none, [], (.move (.t 0))⟩, ⟨some 24, none, [], (.nilCheck (.t 23))⟩, ⟨some 25, none, [], (.fieldAddr 0 (.t 24))⟩, ⟨some 26, none, [], (.load false 1 (.t 25))⟩, ⟨some 27, none, [], (.move (.t 1))⟩, ⟨some 28, none, [], (.move (.t 10))⟩, ⟨some 29, none, [], (.conv (.intInt .u32) (.t 28))⟩, ⟨some 30, none, [], (.bin .add (.t 27) (.t 29))⟩, ⟨some 31, none, [], (.lookup (.int .u32) (.int .u8 0) false (.t 26) (.t 30))⟩, ⟨some 32, none, [], (.conv (.intInt .u32) (.t 31))⟩, ⟨some 33, none, [], (.move (.t 10))⟩, ⟨some 34, none, [], (.bin .mul (.c (.int .i64 8)) (.t 33))⟩, ⟨some 35, none, [], (.bin .shl (.t 32) (.t 34))⟩, ⟨some 36, none, [], (.bin .or (.t 22) (.t 35))⟩, ⟨some 9, none, [], (.move (.t 36))⟩] false)))
 (.region [⟨some 37, none, [], (.bin .add (.t 19) (.c (.int .i64 1)))⟩, ⟨some 19, none, [], (.move (.t 37))⟩] false)))))
abbrev memCl1 : ICode := (.loop (.seq (.region [⟨some 20, none, [], (.bin .lss (.t 19) (.t 18))⟩] false)
 (.seq (.cond (.t 20) .skip (.exit 0))
 (.seq (.block 1 (.seq (.region [⟨some 21, none, [], (.move (.t 19))⟩, ⟨some 10, none, [], (.move (.t 21))⟩] false)
 (.region [⟨some 22, none, [], (.move (.t 0))⟩, ⟨some 23, none, [], (.move (.t 1))⟩, ⟨some 24, none, [], (.move (.t 10))⟩, ⟨some 25, none, [], (.conv (.intInt .u32) (.t 24))⟩, ⟨some 26, none, [], (.bin .add (.t 23) (.t 25))⟩, ⟨some 27, none, [], (.move (.t 3))⟩, ⟨some 28, none, [], (.move (.t 10))⟩, ⟨some 29, none, [], (.bin .mul (.c (.int .i64 8)) (.t 28))⟩, ⟨some 30, none, [], (.bin .shr (.t 27) (.t 29))⟩, ⟨some 31, none, [], (.conv (.intInt .u8) (.t 30))⟩, ⟨some 32, none, [], (.call 57 [(.t 22), (.t 26), (.t 31)])⟩] false)))
 (.region [⟨some 33, none, [], (.bin .add (.t 19) (.c (.int .i64 1)))⟩, ⟨some 19, none, [], (.move (.t 33))⟩] false)))))
abbrev memCl2 : ICode := (.loop (.seq (.region [⟨some 29, none, [], (.bin .lss (.t 28) (.t 27))⟩] false)
 (.seq (.cond (.t 29) .skip (.exit 1))
 (.seq (.block 2 (.seq (.region [⟨some 30, none, [], (.move (.t 28))⟩, ⟨some 31, none, [], (.idxSl 1 (.t 26) (.t 28))⟩, ⟨some 32, none, [], (.load false 1 (.t 31))⟩, ⟨some 7, none, [], (.move (.t 30))⟩, ⟨some 8, none, [], (.move (.t 32))⟩] false)
 (.region [⟨some 33, none, [], (.move (.t 0))⟩, ⟨some 34, none, [], (.move (.t 1))⟩, ⟨some 35, none, [], (.move (.t 7))⟩, ⟨some 36, none, [], (.conv (.intInt .u32) (.t 35))⟩, ⟨some 37, none, [], (.bin .add (.t 34) (.t 36))⟩, ⟨some 38, none, [], (.move (.t 8))⟩, ⟨some 39, none, [], (.call 57 [(.t 33), (.t 37), (.t 38)])⟩] false)))
 (.region [⟨some 40, none, [], (.bin .add (.t 28) (.c (.int .i64 1)))⟩, ⟨some 28, none, [], (.move (.t 40))⟩] false)))))
abbrev memCq3 : Fr := .seq (.seq (.region [⟨some 38, none, [], (.move (.t 9))⟩, ⟨some 6, none, [], (.move (.t 38))⟩, ⟨some 7, none, [], (.move (.c (.int .i64 0)))⟩] false)
 .ret)
def wordN (L : List ME) (k : Nat) : Nat → Nat
  | 0 => 0
  | i + 1 => wordN L k i + mget L (k + i) * 256 ^ i
theorem wordN_lt {L : List ME} {c : Nat} (h : MOk L c) (k : Nat) : ∀ n, wordN L k n < 256 ^ n
  | 0 => by simp [wordN]
  | n + 1 => by
    have h1 := wordN_lt h k n
    have h2 := mget_lt h (k + n)
    simp only [wordN, Nat.pow_succ]
    have h3 : mget L (k + n) * 256 ^ n ≤ 255 * 256 ^ n := Nat.mul_le_mul_right _ (by omega)
    omega
def storeN (k v : Nat) : Nat → List ME × Nat → List ME × Nat
  | 0, p => p
  | i + 1, p => mput (storeN k v i p).1 (storeN k v i p).2 (k + i) (v / 256 ^ i % 256)
def loadN (k : Nat) (bs : List UInt8) : Nat → List ME × Nat → List ME × Nat
  | 0, p => p
  | i + 1, p => mput (loadN k bs i p).1 (loadN k bs i p).2 (k + i) (bs.getD i 0).toNat

theorem pow8 (i : Nat) : 2 ^ (8 * i) = 256 ^ i := by rw [Nat.pow_mul]
theorem shl_u32 (g i : Nat) (hi : i < 4) (hg : g < 256) : binV .shl (.int .u32 (g : Int)) (.int .i64 ((8 * i : Nat) : Int)) = some (.int .u32 ((g * 256 ^ i : Nat) : Int)) := by
  rw [b_shl, wrap_u32]
  have h1 : min (8 * i) IntKind.u32.bits = 8 * i := by simp [IntKind.bits]; omega
  rw [h1]
  have h2 : (g : Int) * 2 ^ (8 * i) = ((g * 256 ^ i : Nat) : Int) := by rw [← pow8]; simp
  rw [h2]
  have h3 : 256 ^ i ≤ 256 ^ 3 := Nat.pow_le_pow_right (by omega) (by omega)
  have h4 : g * 256 ^ i ≤ 255 * 256 ^ 3 := Nat.mul_le_mul (by omega) h3
  congr 2
  omega
theorem or_u32 (x g i : Nat) (hi : i < 4) (hg : g < 256) (hx : x < 256 ^ i) : binV .or (.int .u32 (x : Int)) (.int .u32 ((g * 256 ^ i : Nat) : Int)) = some (.int .u32 ((x + g * 256 ^ i : Nat) : Int)) := by
  have h3 : 256 ^ i ≤ 256 ^ 3 := Nat.pow_le_pow_right (by omega) (by omega)
  have h4 : g * 256 ^ i ≤ 255 * 256 ^ 3 := Nat.mul_le_mul (by omega) h3
  have h0 : x ||| g * 256 ^ i = x + g * 256 ^ i := by
    rw [← pow8] at hx ⊢
    rw [Nat.or_comm, Nat.mul_comm, Nat.add_comm, Nat.two_pow_add_eq_or_of_lt hx]
  show some (mkInt .u32 (IntKind.u32.wrap ((BitVec.ofInt 32 (x : Int) ||| BitVec.ofInt 32 ((g * 256 ^ i : Nat) : Int)).toNat : Int))) = _
  rw [mkInt_eq, ← wrapF_eq, wrap_u32]
  have h1 : (BitVec.ofInt 32 (x : Int) ||| BitVec.ofInt 32 ((g * 256 ^ i : Nat) : Int)).toNat = x ||| g * 256 ^ i := by
    rw [BitVec.toNat_or, BitVec.toNat_ofInt, BitVec.toNat_ofInt]
    have e : ((2 ^ 32 : Nat) : Int) = 4294967296 := rfl
    rw [e]
    have e1 : ((x : Int) % 4294967296).toNat = x := by omega
    have e2 : (((g * 256 ^ i : Nat) : Int) % 4294967296).toNat = g * 256 ^ i := by omega
    rw [e1, e2]
  rw [h1, h0]
  congr 2
  omega
theorem shr_u32 (v i : Nat) (hi : i < 4) : binV .shr (.int .u32 (v : Int)) (.int .i64 ((8 * i : Nat) : Int)) = some (.int .u32 ((v / 256 ^ i : Nat) : Int)) := by
  rw [b_shr]
  have h1 : min (8 * i) IntKind.u32.bits = 8 * i := by simp [IntKind.bits]; omega
  rw [h1, ← pow8]
  simp

section
variable {T : Tab}
set_option maxHeartbeats 4000000 in
theorem word_loop {Q : Post} {s : St} {pm r : Nat} {L : List ME} {c : Nat} (h : MemAt s pm r L c) (k n : Nat) (hn : n ≤ 4) (hk : k + n ≤ 4294967296)
    (K : ∀ e : Env, opd e (.t 9) = .int .u32 (wordN L k n : Int) → Ret T Q [memCq3] .normal e s) :
    ∀ (m i : Nat) (e : Env), m + i = n → opd e (.t 0) = mptr pm → opd e (.t 1) = .int .u32 (k : Int) → opd e (.t 18) = .int .i64 (n : Int) → opd e (.t 19) = .int .i64 (i : Int) → opd e (.t 9) = .int .u32 (wordN L k i : Int) →
      Go T Q (memCl0) [.block 0, memCq3] e s := by
  have hb := h.box
  intro m
  induction m with
  | zero =>
    intro i e hm h0 h1 h18 h19 h9
    have hin : i = n := by omega
    subst hin
    rw [go_loop]
    generalize ([memCq3] : List Fr) = FF at *
    simp only [h0, h1, h18, h19, h9, wk, wk1, wk2, Option.some.injEq, exists_eq_left', decide_true, decide_false, Nat.reduceAdd, Nat.reduceEqDiff, Nat.reduceLeDiff, Nat.reduceLT, Nat.reduceMul, Nat.reduceBEq, Int.reduceLT, Int.reduceLE, Int.reduceEq, Int.reduceAdd, Int.reduceSub, Int.reduceMul, Int.reduceMod, Int.reduceTMod, Int.reduceTDiv, Int.reduceNeg, Nat.reduceSub, Nat.reduceDiv, reduceIte, reduceCtorEq]
    exact K _ (by simp only [h9, wk, wk1, Nat.reduceEqDiff, reduceIte, decide_true])
  | succ m ih =>
    intro i e hm h0 h1 h18 h19 h9
    have hc : (i : Int) < (n : Int) := by omega
    have hl := h.look (k + i)
    have hg := mget_lt h.ok (k + i)
    have u1 : (i : Int) % 4294967296 = (i : Int) := by omega
    have u2 : ((k : Int) + (i : Int)) % 4294967296 = ((k + i : Nat) : Int) := by omega
    have u3 : (mget L (k + i) : Int) % 4294967296 = (mget L (k + i) : Int) := by omega
    have u4 : wrapF .i64 (8 * (i : Int)) = ((8 * i : Nat) : Int) := by rw [wrap_i64 _ (by omega) (by omega)]; omega
    have u5 : wrapF .i64 ((i : Int) + 1) = ((i + 1 : Nat) : Int) := i64_add1 (by omega)
    have u6 := shl_u32 (mget L (k + i)) i (by omega) hg
    have u7 := or_u32 (wordN L k i) (mget L (k + i)) i (by omega) hg (wordN_lt h.ok k i)
    rw [go_loop]
    simp only [h0, h1, h18, h19, h9, hc, hb, hl, u1, u2, u3, u4, u5, u6, u7, wk, wk1, wk2, Option.some.injEq, exists_eq_left', decide_true, decide_false, Nat.reduceAdd, Nat.reduceEqDiff, Nat.reduceLeDiff, Nat.reduceLT, Nat.reduceMul, Nat.reduceBEq, Int.reduceLT, Int.reduceLE, Int.reduceEq, Int.reduceAdd, Int.reduceSub, Int.reduceMul, Int.reduceMod, Int.reduceTMod, Int.reduceTDiv, Int.reduceNeg, Nat.reduceSub, Nat.reduceDiv, reduceIte, reduceCtorEq]
    refine ih (i + 1) _ (by omega) ?_ ?_ ?_ ?_ ?_ <;> simp only [h0, h1, h18, h19, u5, wordN, wk, wk1, Nat.reduceEqDiff, reduceIte, decide_true]

theorem rightW_n {k : Nat} {n : Int} (h : rightW k n = true) : ∃ m : Nat, n = (m : Int) ∧ m ≤ 4 ∧ 1 ≤ m ∧ (k < 4294967296 → k + m ≤ 4294967296) := by
  simp only [rightW, Bool.or_eq_true, Bool.and_eq_true, decide_eq_true_eq] at h
  rcases h with rfl | ⟨rfl, h⟩ | ⟨rfl, h⟩
  · exact ⟨1, rfl, by omega, by omega, by omega⟩
  · exact ⟨2, rfl, by omega, by omega, by omega⟩
  · exact ⟨4, rfl, by omega, by omega, by omega⟩

set_option maxHeartbeats 4000000 in
theorem word_ran (hc : T 14 = some (.code ir14)) (hm : T 52 = some (.code ir52)) {s : St} {pm r : Nat} {L : List ME} {c : Nat} (h : MemAt s pm r L c) (k : Nat) (hk : k < 4294967296) (n : Int) :
    Ran T 14 [mptr pm, .int .u32 (k : Int), .int .i64 n] s fun v s' => s' = s ∧ v = if rightW k n = true then .tuple [.int .u32 (wordN L k n.toNat : Int), .int .i64 0] else .tuple [.int .u32 0, .int .i64 1] := by
  refine ran_code hc (Nat.le_of_ble_eq_true rfl) ?_
  generalize hQ : Fin _ _ = Q
  simp only [ir14, wk, wk1, wk2, Option.some.injEq, exists_eq_left', decide_true, decide_false, Nat.reduceAdd, Nat.reduceEqDiff, Nat.reduceLeDiff, Nat.reduceLT, Nat.reduceMul, Nat.reduceBEq, Int.reduceLT, Int.reduceLE, Int.reduceEq, Int.reduceAdd, Int.reduceSub, Int.reduceMul, Int.reduceMod, Int.reduceTMod, Int.reduceTDiv, Int.reduceNeg, Nat.reduceSub, Nat.reduceDiv, reduceIte, reduceCtorEq]
  refine goCall_by (may_ran hm s pm k n) ?_
  rintro v s' ⟨rfl, rfl⟩
  cases hr : rightW k n with
  | false =>
    simp only [Bool.false_eq_true, if_false, wk, wk1, wk2, Option.some.injEq, exists_eq_left', decide_true, decide_false, Nat.reduceAdd, Nat.reduceEqDiff, Nat.reduceLeDiff, Nat.reduceLT, Nat.reduceMul, Nat.reduceBEq, Int.reduceLT, Int.reduceLE, Int.reduceEq, Int.reduceAdd, Int.reduceSub, Int.reduceMul, Int.reduceMod, Int.reduceTMod, Int.reduceTDiv, Int.reduceNeg, Nat.reduceSub, Nat.reduceDiv, reduceIte, reduceCtorEq]
    subst hQ
    simp only [ir14, hr, Bool.false_eq_true, if_false, wk, wk1, wk2, Option.some.injEq, exists_eq_left', decide_true, decide_false, Nat.reduceAdd, Nat.reduceEqDiff, Nat.reduceLeDiff, Nat.reduceLT, Nat.reduceMul, Nat.reduceBEq, Int.reduceLT, Int.reduceLE, Int.reduceEq, Int.reduceAdd, Int.reduceSub, Int.reduceMul, Int.reduceMod, Int.reduceTMod, Int.reduceTDiv, Int.reduceNeg, Nat.reduceSub, Nat.reduceDiv, reduceIte, reduceCtorEq]
  | true =>
    obtain ⟨m, rfl, hm4, hm1, hkm⟩ := rightW_n hr
    simp only [if_true, wk, wk1, wk2, Option.some.injEq, exists_eq_left', decide_true, decide_false, Nat.reduceAdd, Nat.reduceEqDiff, Nat.reduceLeDiff, Nat.reduceLT, Nat.reduceMul, Nat.reduceBEq, Int.reduceLT, Int.reduceLE, Int.reduceEq, Int.reduceAdd, Int.reduceSub, Int.reduceMul, Int.reduceMod, Int.reduceTMod, Int.reduceTDiv, Int.reduceNeg, Nat.reduceSub, Nat.reduceDiv, reduceIte, reduceCtorEq]
    refine word_loop h k m hm4 (hkm hk) ?_ m 0 _ (by omega) ?_ ?_ ?_ ?_ ?_
    · intro e h9
      simp only [h9, wk, wk1, wk2, Option.some.injEq, exists_eq_left', decide_true, decide_false, Nat.reduceAdd, Nat.reduceEqDiff, Nat.reduceLeDiff, Nat.reduceLT, Nat.reduceMul, Nat.reduceBEq, Int.reduceLT, Int.reduceLE, Int.reduceEq, Int.reduceAdd, Int.reduceSub, Int.reduceMul, Int.reduceMod, Int.reduceTMod, Int.reduceTDiv, Int.reduceNeg, Nat.reduceSub, Nat.reduceDiv, reduceIte, reduceCtorEq]
      subst hQ
      simp only [ir14, h9, hr, if_true, wk, wk1, wk2, Option.some.injEq, exists_eq_left', decide_true, decide_false, Nat.reduceAdd, Nat.reduceEqDiff, Nat.reduceLeDiff, Nat.reduceLT, Nat.reduceMul, Nat.reduceBEq, Int.reduceLT, Int.reduceLE, Int.reduceEq, Int.reduceAdd, Int.reduceSub, Int.reduceMul, Int.reduceMod, Int.reduceTMod, Int.reduceTDiv, Int.reduceNeg, Nat.reduceSub, Nat.reduceDiv, reduceIte, reduceCtorEq]
      simp
    all_goals (try simp only [wordN, wk, wk1, Nat.reduceEqDiff, reduceIte, decide_true])
    all_goals rfl

theorem storeN_ok {k v n : Nat} {L : List ME} {c : Nat} (h : MOk L c) (hk : k + n ≤ 4294967296) : MOk (storeN k v n (L, c)).1 (storeN k v n (L, c)).2 := by
  induction n with
  | zero => exact h
  | succ n ih => exact mput_ok (ih (by omega)) (by omega) (by omega)
set_option maxHeartbeats 4000000 in
theorem store_loop (hp : T 57 = some (.code ir57)) {Q : Post} {s0 : St} {pm r : Nat} {L : List ME} {c : Nat} (k v n : Nat) (hn : n ≤ 4) (hk : k + n ≤ 4294967296)
    (K : ∀ (e : Env) (s : St), MemAt s pm r (storeN k v n (L, c)).1 (storeN k v n (L, c)).2 → Only r s0 s → Ret T Q [.seq (.seq (.region [⟨some 8, none, [], (.move (.c (.int .i64 0)))⟩] false)
 .ret)] .normal e s) :
    ∀ (m i : Nat) (e : Env) (s : St), m + i = n → MemAt s pm r (storeN k v i (L, c)).1 (storeN k v i (L, c)).2 → Only r s0 s → opd e (.t 0) = mptr pm → opd e (.t 1) = .int .u32 (k : Int) → opd e (.t 3) = .int .u32 (v : Int) → opd e (.t 18) = .int .i64 (n : Int) → opd e (.t 19) = .int .i64 (i : Int) →
      Go T Q (memCl1) [.block 0, .seq (.seq (.region [⟨some 8, none, [], (.move (.c (.int .i64 0)))⟩] false)
 .ret)] e s := by
  intro m
  induction m with
  | zero =>
    intro i e s hm h hO h0 h1 h3 h18 h19
    have hin : i = n := by omega
    subst hin
    have hK := fun e => K e s h hO
    rw [go_loop]
    generalize ([.seq (.seq (.region [⟨some 8, none, [], (.move (.c (.int .i64 0)))⟩] false)
 .ret)] : List Fr) = FF at *
    simp only [h0, h1, h18, h19, hK, wk, wk1, wk2, Option.some.injEq, exists_eq_left', decide_true, decide_false, Nat.reduceAdd, Nat.reduceEqDiff, Nat.reduceLeDiff, Nat.reduceLT, Nat.reduceMul, Nat.reduceBEq, Int.reduceLT, Int.reduceLE, Int.reduceEq, Int.reduceAdd, Int.reduceSub, Int.reduceMul, Int.reduceMod, Int.reduceTMod, Int.reduceTDiv, Int.reduceNeg, Nat.reduceSub, Nat.reduceDiv, reduceIte, reduceCtorEq]
  | succ m ih =>
    intro i e s hm h hO h0 h1 h3 h18 h19
    have hc : (i : Int) < (n : Int) := by omega
    have u1 : (i : Int) % 4294967296 = (i : Int) := by omega
    have u2 : ((k : Int) + (i : Int)) % 4294967296 = ((k + i : Nat) : Int) := by omega
    have u4 : wrapF .i64 (8 * (i : Int)) = ((8 * i : Nat) : Int) := by rw [wrap_i64 _ (by omega) (by omega)]; omega
    have u5 : wrapF .i64 ((i : Int) + 1) = ((i + 1 : Nat) : Int) := i64_add1 (by omega)
    have u6 := shr_u32 v i (by omega)
    have u7 : ((v / 256 ^ i : Nat) : Int) % 256 = ((v / 256 ^ i % 256 : Nat) : Int) := by omega
    rw [go_loop]
    simp only [h0, h1, h3, h18, h19, hc, u1, u2, u4, u6, u7, wk, wk1, wk2, Option.some.injEq, exists_eq_left', decide_true, decide_false, Nat.reduceAdd, Nat.reduceEqDiff, Nat.reduceLeDiff, Nat.reduceLT, Nat.reduceMul, Nat.reduceBEq, Int.reduceLT, Int.reduceLE, Int.reduceEq, Int.reduceAdd, Int.reduceSub, Int.reduceMul, Int.reduceMod, Int.reduceTMod, Int.reduceTDiv, Int.reduceNeg, Nat.reduceSub, Nat.reduceDiv, reduceIte, reduceCtorEq]
    refine goCall_by (put_ran hp h (k + i) (v / 256 ^ i % 256)) ?_
    rintro v' s' ⟨rfl, rfl⟩
    simp only [h0, h1, h3, h18, h19, u5, wk, wk1, wk2, Option.some.injEq, exists_eq_left', decide_true, decide_false, Nat.reduceAdd, Nat.reduceEqDiff, Nat.reduceLeDiff, Nat.reduceLT, Nat.reduceMul, Nat.reduceBEq, Int.reduceLT, Int.reduceLE, Int.reduceEq, Int.reduceAdd, Int.reduceSub, Int.reduceMul, Int.reduceMod, Int.reduceTMod, Int.reduceTDiv, Int.reduceNeg, Nat.reduceSub, Nat.reduceDiv, reduceIte, reduceCtorEq]
    refine ih (i + 1) _ _ (by omega) (h.put (by omega) (by omega)) (hO.trans (Only.put h.wfs h.lt2 _)) ?_ ?_ ?_ ?_ ?_ <;> simp only [h0, h1, h3, h18, h19, u5, wk, wk1, Nat.reduceEqDiff, reduceIte, decide_true]
set_option maxHeartbeats 4000000 in
theorem store_ran (hc : T 16 = some (.code ir16)) (hm : T 52 = some (.code ir52)) (hp : T 57 = some (.code ir57)) {s : St} {pm r : Nat} {L : List ME} {c : Nat} (h : MemAt s pm r L c) (k v : Nat) (hk : k < 4294967296) (n : Int) :
    Ran T 16 [mptr pm, .int .u32 (k : Int), .int .i64 n, .int .u32 (v : Int)] s fun x s' => if rightW k n = true then x = .int .i64 0 ∧ MemAt s' pm r (storeN k v n.toNat (L, c)).1 (storeN k v n.toNat (L, c)).2 ∧ Only r s s' else x = .int .i64 1 ∧ s' = s := by
  refine ran_code hc (Nat.le_of_ble_eq_true rfl) ?_
  generalize hQ : Fin _ _ = Q
  simp only [ir16, wk, wk1, wk2, Option.some.injEq, exists_eq_left', decide_true, decide_false, Nat.reduceAdd, Nat.reduceEqDiff, Nat.reduceLeDiff, Nat.reduceLT, Nat.reduceMul, Nat.reduceBEq, Int.reduceLT, Int.reduceLE, Int.reduceEq, Int.reduceAdd, Int.reduceSub, Int.reduceMul, Int.reduceMod, Int.reduceTMod, Int.reduceTDiv, Int.reduceNeg, Nat.reduceSub, Nat.reduceDiv, reduceIte, reduceCtorEq]
  refine goCall_by (may_ran hm s pm k n) ?_
  rintro v' s' ⟨rfl, rfl⟩
  cases hr : rightW k n with
  | false =>
    simp only [Bool.false_eq_true, if_false, wk, wk1, wk2, Option.some.injEq, exists_eq_left', decide_true, decide_false, Nat.reduceAdd, Nat.reduceEqDiff, Nat.reduceLeDiff, Nat.reduceLT, Nat.reduceMul, Nat.reduceBEq, Int.reduceLT, Int.reduceLE, Int.reduceEq, Int.reduceAdd, Int.reduceSub, Int.reduceMul, Int.reduceMod, Int.reduceTMod, Int.reduceTDiv, Int.reduceNeg, Nat.reduceSub, Nat.reduceDiv, reduceIte, reduceCtorEq]
    subst hQ
    simp only [ir16, hr, Bool.false_eq_true, if_false, wk, wk1, wk2, Option.some.injEq, exists_eq_left', decide_true, decide_false, Nat.reduceAdd, Nat.reduceEqDiff, Nat.reduceLeDiff, Nat.reduceLT, Nat.reduceMul, Nat.reduceBEq, Int.reduceLT, Int.reduceLE, Int.reduceEq, Int.reduceAdd, Int.reduceSub, Int.reduceMul, Int.reduceMod, Int.reduceTMod, Int.reduceTDiv, Int.reduceNeg, Nat.reduceSub, Nat.reduceDiv, reduceIte, reduceCtorEq]
  | true =>
    obtain ⟨m, rfl, hm4, hm1, hkm⟩ := rightW_n hr
    simp only [if_true, wk, wk1, wk2, Option.some.injEq, exists_eq_left', decide_true, decide_false, Nat.reduceAdd, Nat.reduceEqDiff, Nat.reduceLeDiff, Nat.reduceLT, Nat.reduceMul, Nat.reduceBEq, Int.reduceLT, Int.reduceLE, Int.reduceEq, Int.reduceAdd, Int.reduceSub, Int.reduceMul, Int.reduceMod, Int.reduceTMod, Int.reduceTDiv, Int.reduceNeg, Nat.reduceSub, Nat.reduceDiv, reduceIte, reduceCtorEq]
    refine store_loop (s0 := s') (L := L) (c := c) hp k v m hm4 (hkm hk) ?_ m 0 _ s' (by omega) h (Only.refl h.wfs) ?_ ?_ ?_ ?_ ?_
    · intro e s2 h2 hO
      simp only [wk, wk1, wk2, Option.some.injEq, exists_eq_left', decide_true, decide_false, Nat.reduceAdd, Nat.reduceEqDiff, Nat.reduceLeDiff, Nat.reduceLT, Nat.reduceMul, Nat.reduceBEq, Int.reduceLT, Int.reduceLE, Int.reduceEq, Int.reduceAdd, Int.reduceSub, Int.reduceMul, Int.reduceMod, Int.reduceTMod, Int.reduceTDiv, Int.reduceNeg, Nat.reduceSub, Nat.reduceDiv, reduceIte, reduceCtorEq]
      subst hQ
      simp only [ir16, hr, if_true, wk, wk1, wk2, Option.some.injEq, exists_eq_left', decide_true, decide_false, Nat.reduceAdd, Nat.reduceEqDiff, Nat.reduceLeDiff, Nat.reduceLT, Nat.reduceMul, Nat.reduceBEq, Int.reduceLT, Int.reduceLE, Int.reduceEq, Int.reduceAdd, Int.reduceSub, Int.reduceMul, Int.reduceMod, Int.reduceTMod, Int.reduceTDiv, Int.reduceNeg, Nat.reduceSub, Nat.reduceDiv, reduceIte, reduceCtorEq]
      exact ⟨h2, hO⟩
    all_goals (try simp only [wk, wk1, Nat.reduceEqDiff, reduceIte, decide_true])
    all_goals rfl

theorem loadN_ok {k n : Nat} {bs : List UInt8} {L : List ME} {c : Nat} (h : MOk L c) (hk : k + n ≤ 4294967296) : MOk (loadN k bs n (L, c)).1 (loadN k bs n (L, c)).2 := by
  induction n with
  | zero => exact h
  | succ n ih => exact mput_ok (ih (by omega)) (by omega) (UInt8.toNat_lt _)
set_option maxHeartbeats 4000000 in
theorem load_loop (hp : T 57 = some (.code ir57)) {Q : Post} {s0 : St} {pm r B : Nat} {L : List ME} {c : Nat} (k : Nat) (bs : List UInt8) (hl : bs.length ≤ 1000000) (hk : k + bs.length ≤ 4294967296) (hB : s0.heap.get B = some (.cells (bs.map fun b => .int .u8 b.toNat) 0 0 false)) (hBr : B ≠ r) (hBl : B < s0.next)
    (K : ∀ (e : Env) (s : St), MemAt s pm r (loadN k bs bs.length (L, c)).1 (loadN k bs bs.length (L, c)).2 → Only r s0 s → Ret T Q [.seq (.seq (.region [⟨some 6, none, [], (.move (.c (.int .i64 0)))⟩] false)
 .ret)] .normal e s) :
    ∀ (m i : Nat) (e : Env) (s : St), m + i = bs.length → MemAt s pm r (loadN k bs i (L, c)).1 (loadN k bs i (L, c)).2 → Only r s0 s → opd e (.t 0) = mptr pm → opd e (.t 1) = .int .u32 (k : Int) → opd e (.t 26) = .slice ⟨B, 0, 0, bs.length⟩ bs.length bs.length false 1 → opd e (.t 27) = .int .i64 (bs.length : Int) → opd e (.t 28) = .int .i64 (i : Int) →
      Go T Q (memCl2) [.block 1, .seq (.seq (.region [⟨some 6, none, [], (.move (.c (.int .i64 0)))⟩] false)
 .ret)] e s := by
  intro m
  induction m with
  | zero =>
    intro i e s hm h hO h0 h1 h26 h27 h28
    have hin : i = bs.length := by omega
    subst hin
    have hK := fun e => K e s h hO
    rw [go_loop]
    generalize ([.seq (.seq (.region [⟨some 6, none, [], (.move (.c (.int .i64 0)))⟩] false)
 .ret)] : List Fr) = FF at *
    simp only [h0, h1, h27, h28, hK, wk, wk1, wk2, Option.some.injEq, exists_eq_left', decide_true, decide_false, Nat.reduceAdd, Nat.reduceEqDiff, Nat.reduceLeDiff, Nat.reduceLT, Nat.reduceMul, Nat.reduceBEq, Int.reduceLT, Int.reduceLE, Int.reduceEq, Int.reduceAdd, Int.reduceSub, Int.reduceMul, Int.reduceMod, Int.reduceTMod, Int.reduceTDiv, Int.reduceNeg, Nat.reduceSub, Nat.reduceDiv, reduceIte, reduceCtorEq]
  | succ m ih =>
    intro i e s hm h hO h0 h1 h26 h27 h28
    have hi : i < bs.length := by omega
    have hc : (i : Int) < (bs.length : Int) := by omega
    have hi1 : i + 1 ≤ bs.length := hi
    have u1 : (i : Int) % 4294967296 = (i : Int) := by omega
    have u2 : ((k : Int) + (i : Int)) % 4294967296 = ((k + i : Nat) : Int) := by omega
    have u5 : wrapF .i64 ((i : Int) + 1) = ((i + 1 : Nat) : Int) := i64_add1 (by omega)
    have hrow : s.heap.get B = some (.cells (bs.map fun b => .int .u8 b.toNat) 0 0 false) := by rw [hO.same B hBl hBr]; exact hB
    have hld : List.take 1 (List.drop i (bs.map fun b => AV.int .u8 (b.toNat : Int))) = [.int .u8 ((bs.getD i 0).toNat : Int)] := by
      have hi' : i < (bs.map fun b => AV.int .u8 (b.toNat : Int)).length := by simpa using hi
      rw [List.drop_eq_getElem_cons hi', List.take_succ_cons, List.take_zero]
      simp [List.getD_eq_getElem?_getD, hi]
    rw [go_loop]
    simp only [h0, h1, h26, h27, h28, hc, hi, hi1, hrow, hld, u1, u2, wk, wk1, wk2, Option.some.injEq, exists_eq_left', decide_true, decide_false, Nat.reduceAdd, Nat.reduceEqDiff, Nat.reduceLeDiff, Nat.reduceLT, Nat.reduceMul, Nat.reduceBEq, Int.reduceLT, Int.reduceLE, Int.reduceEq, Int.reduceAdd, Int.reduceSub, Int.reduceMul, Int.reduceMod, Int.reduceTMod, Int.reduceTDiv, Int.reduceNeg, Nat.reduceSub, Nat.reduceDiv, reduceIte, reduceCtorEq]
    refine goCall_by (put_ran hp h (k + i) (bs.getD i 0).toNat) ?_
    rintro v' s' ⟨rfl, rfl⟩
    simp only [h0, h1, h26, h27, h28, u5, wk, wk1, wk2, Option.some.injEq, exists_eq_left', decide_true, decide_false, Nat.reduceAdd, Nat.reduceEqDiff, Nat.reduceLeDiff, Nat.reduceLT, Nat.reduceMul, Nat.reduceBEq, Int.reduceLT, Int.reduceLE, Int.reduceEq, Int.reduceAdd, Int.reduceSub, Int.reduceMul, Int.reduceMod, Int.reduceTMod, Int.reduceTDiv, Int.reduceNeg, Nat.reduceSub, Nat.reduceDiv, reduceIte, reduceCtorEq]
    refine ih (i + 1) _ _ (by omega) (h.put (by omega) (UInt8.toNat_lt _)) (hO.trans (Only.put h.wfs h.lt2 _)) ?_ ?_ ?_ ?_ ?_ <;> simp only [h0, h1, h26, h27, h28, u5, wk, wk1, Nat.reduceEqDiff, reduceIte, decide_true]
set_option maxHeartbeats 4000000 in
/-- Load of the bytes of a string. -/
theorem load_ran (hc : T 25 = some (.code ir25)) (hp : T 57 = some (.code ir57)) {s : St} {pm r B : Nat} {L : List ME} {c : Nat} (h : MemAt s pm r L c) (k : Nat) (hk : k < 4294967296) (bs : List UInt8) (hl : bs.length ≤ 1000000) (hB : s.heap.get B = some (.cells (bs.map fun b => .int .u8 b.toNat) 0 0 false)) (hBr : B ≠ r) (hBl : B < s.next) :
    Ran T 25 [mptr pm, .int .u32 (k : Int), .slice ⟨B, 0, 0, bs.length⟩ bs.length bs.length false 1] s fun x s' => if k + bs.length ≤ 4294967296 then x = .int .i64 0 ∧ MemAt s' pm r (loadN k bs bs.length (L, c)).1 (loadN k bs bs.length (L, c)).2 ∧ Only r s s' else x = .int .i64 1 ∧ s' = s := by
  refine ran_code hc (Nat.le_of_ble_eq_true rfl) ?_
  generalize hQ : Fin _ _ = Q
  have u1 : (k : Int) % 18446744073709551616 = (k : Int) := by omega
  have u2 : (bs.length : Int) % 18446744073709551616 = (bs.length : Int) := by omega
  have u3 : ((k : Int) + (bs.length : Int)) % 18446744073709551616 = ((k + bs.length : Nat) : Int) := by omega
  by_cases h0 : bs.length = 0
  · have c0 : ¬ (0 : Int) < (bs.length : Int) := by omega
    have hfit : k + bs.length ≤ 4294967296 := by omega
    simp only [ir25, c0, eqV, nilEq, wk, wk1, wk2, Option.some.injEq, exists_eq_left', decide_true, decide_false, Nat.reduceAdd, Nat.reduceEqDiff, Nat.reduceLeDiff, Nat.reduceLT, Nat.reduceMul, Nat.reduceBEq, Int.reduceLT, Int.reduceLE, Int.reduceEq, Int.reduceAdd, Int.reduceSub, Int.reduceMul, Int.reduceMod, Int.reduceTMod, Int.reduceTDiv, Int.reduceNeg, Nat.reduceSub, Nat.reduceDiv, reduceIte, reduceCtorEq]
    refine load_loop (s0 := s) (L := L) (c := c) hp k bs hl hfit hB hBr hBl ?_ bs.length 0 _ s (by omega) h (Only.refl h.wfs) ?_ ?_ ?_ ?_ ?_
    · intro e s2 h2 hO
      simp only [wk, wk1, wk2, Option.some.injEq, exists_eq_left', decide_true, decide_false, Nat.reduceAdd, Nat.reduceEqDiff, Nat.reduceLeDiff, Nat.reduceLT, Nat.reduceMul, Nat.reduceBEq, Int.reduceLT, Int.reduceLE, Int.reduceEq, Int.reduceAdd, Int.reduceSub, Int.reduceMul, Int.reduceMod, Int.reduceTMod, Int.reduceTDiv, Int.reduceNeg, Nat.reduceSub, Nat.reduceDiv, reduceIte, reduceCtorEq]
      subst hQ
      simp only [ir25, hfit, if_true, wk, wk1, wk2, Option.some.injEq, exists_eq_left', decide_true, decide_false, Nat.reduceAdd, Nat.reduceEqDiff, Nat.reduceLeDiff, Nat.reduceLT, Nat.reduceMul, Nat.reduceBEq, Int.reduceLT, Int.reduceLE, Int.reduceEq, Int.reduceAdd, Int.reduceSub, Int.reduceMul, Int.reduceMod, Int.reduceTMod, Int.reduceTDiv, Int.reduceNeg, Nat.reduceSub, Nat.reduceDiv, reduceIte, reduceCtorEq]
      exact ⟨h2, hO⟩
    all_goals (try simp only [wk, wk1, Nat.reduceEqDiff, reduceIte, decide_true])
    all_goals rfl
  · have c0 : (0 : Int) < (bs.length : Int) := by omega
    have u4 : (((k + bs.length : Nat) : Int) - 1) % 18446744073709551616 = ((k + bs.length - 1 : Nat) : Int) := by omega
    by_cases hfit : k + bs.length ≤ 4294967296
    · have c1 : ¬ (4294967295 : Int) < ((k + bs.length - 1 : Nat) : Int) := by omega
      simp only [ir25, c0, u1, u2, u3, u4, c1, eqV, nilEq, wk, wk1, wk2, Option.some.injEq, exists_eq_left', decide_true, decide_false, Nat.reduceAdd, Nat.reduceEqDiff, Nat.reduceLeDiff, Nat.reduceLT, Nat.reduceMul, Nat.reduceBEq, Int.reduceLT, Int.reduceLE, Int.reduceEq, Int.reduceAdd, Int.reduceSub, Int.reduceMul, Int.reduceMod, Int.reduceTMod, Int.reduceTDiv, Int.reduceNeg, Nat.reduceSub, Nat.reduceDiv, reduceIte, reduceCtorEq]
      refine load_loop (s0 := s) (L := L) (c := c) hp k bs hl hfit hB hBr hBl ?_ bs.length 0 _ s (by omega) h (Only.refl h.wfs) ?_ ?_ ?_ ?_ ?_
      · intro e s2 h2 hO
        simp only [wk, wk1, wk2, Option.some.injEq, exists_eq_left', decide_true, decide_false, Nat.reduceAdd, Nat.reduceEqDiff, Nat.reduceLeDiff, Nat.reduceLT, Nat.reduceMul, Nat.reduceBEq, Int.reduceLT, Int.reduceLE, Int.reduceEq, Int.reduceAdd, Int.reduceSub, Int.reduceMul, Int.reduceMod, Int.reduceTMod, Int.reduceTDiv, Int.reduceNeg, Nat.reduceSub, Nat.reduceDiv, reduceIte, reduceCtorEq]
        subst hQ
        simp only [ir25, hfit, if_true, wk, wk1, wk2, Option.some.injEq, exists_eq_left', decide_true, decide_false, Nat.reduceAdd, Nat.reduceEqDiff, Nat.reduceLeDiff, Nat.reduceLT, Nat.reduceMul, Nat.reduceBEq, Int.reduceLT, Int.reduceLE, Int.reduceEq, Int.reduceAdd, Int.reduceSub, Int.reduceMul, Int.reduceMod, Int.reduceTMod, Int.reduceTDiv, Int.reduceNeg, Nat.reduceSub, Nat.reduceDiv, reduceIte, reduceCtorEq]
        exact ⟨h2, hO⟩
      all_goals (try simp only [wk, wk1, Nat.reduceEqDiff, reduceIte, decide_true])
      all_goals rfl
    · have c1 : (4294967295 : Int) < ((k + bs.length - 1 : Nat) : Int) := by omega
      simp only [ir25, c0, u1, u2, u3, u4, c1, eqV, nilEq, wk, wk1, wk2, Option.some.injEq, exists_eq_left', decide_true, decide_false, Nat.reduceAdd, Nat.reduceEqDiff, Nat.reduceLeDiff, Nat.reduceLT, Nat.reduceMul, Nat.reduceBEq, Int.reduceLT, Int.reduceLE, Int.reduceEq, Int.reduceAdd, Int.reduceSub, Int.reduceMul, Int.reduceMod, Int.reduceTMod, Int.reduceTDiv, Int.reduceNeg, Nat.reduceSub, Nat.reduceDiv, reduceIte, reduceCtorEq]
      subst hQ
      simp only [ir25, hfit, if_false, wk, wk1, wk2, Option.some.injEq, exists_eq_left', decide_true, decide_false, Nat.reduceAdd, Nat.reduceEqDiff, Nat.reduceLeDiff, Nat.reduceLT, Nat.reduceMul, Nat.reduceBEq, Int.reduceLT, Int.reduceLE, Int.reduceEq, Int.reduceAdd, Int.reduceSub, Int.reduceMul, Int.reduceMod, Int.reduceTMod, Int.reduceTDiv, Int.reduceNeg, Nat.reduceSub, Nat.reduceDiv, reduceIte, reduceCtorEq]
end
end Go.V
/- mem: rows of bytes, sorted; slices that grow. -/
namespace Go.V
open Go
set_option linter.unusedSimpArgs false
set_option linter.unusedVariables false
open Go.V.KU
/-- The keys, rising. -/
def skeys (L : List ME) : List Nat := (srt (L.map fun e => (e.k : Int))).map Int.toNat
theorem skeys_int (L : List ME) : (skeys L).map (fun k : Nat => AV.int .u32 (k : Int)) = (srt (L.map fun e => (e.k : Int))).map aU := by
  unfold skeys
  rw [List.map_map]
  refine List.map_congr_left fun x hx => ?_
  have := (srt_self _).mem_iff.1 hx
  obtain ⟨e, _, rfl⟩ := List.mem_map.1 this
  rfl
theorem skeys_mem {L : List ME} {k : Nat} : k ∈ skeys L ↔ k ∈ L.map (·.k) := by
  unfold skeys
  constructor
  · intro h
    obtain ⟨x, hx, rfl⟩ := List.mem_map.1 h
    obtain ⟨e, he, rfl⟩ := List.mem_map.1 ((srt_self _).mem_iff.1 hx)
    exact List.mem_map.2 ⟨e, he, rfl⟩
  · intro h
    obtain ⟨e, he, rfl⟩ := List.mem_map.1 h
    exact List.mem_map.2 ⟨(e.k : Int), (srt_self _).mem_iff.2 (List.mem_map.2 ⟨e, he, rfl⟩), rfl⟩
theorem skeys_len (L : List ME) : (skeys L).length = L.length := by
  unfold skeys; rw [List.length_map, srt_len, List.length_map]
theorem skeys_perm (L : List ME) : (skeys L).Perm (L.map (·.k)) := by
  unfold skeys
  have := (srt_self (L.map fun e => (e.k : Int))).map Int.toNat
  rw [List.map_map] at this
  exact this
theorem skeys_sorted {L : List ME} {c : Nat} (h : MOk L c) : (skeys L).Pairwise (· < ·) := by
  have h1 : (skeys L).Pairwise (· ≤ ·) := by
    unfold skeys
    rw [List.pairwise_map]
    exact (srt_sorted _).imp fun hab => by omega
  have h2 : (skeys L).Nodup := (skeys_perm L).nodup_iff.2 h.keys
  exact h1.imp₂ (fun a b h1 h2 => by omega) h2
theorem nodupZ_iff : ∀ {l : List Int}, l.Nodup → nodupZ l = true
  | [], _ => rfl
  | x :: l, h => by
    have h := List.nodup_cons.1 h
    simp only [nodupZ, nodupZ_iff h.2, Bool.and_true, Bool.not_eq_true', List.contains_eq_mem, decide_eq_false_iff_not]
    exact h.1
theorem nodupB_iff : ∀ {l : List Nat}, l.Nodup → nodupB l = true
  | [], _ => rfl
  | x :: l, h => by
    have h := List.nodup_cons.1 h
    simp only [nodupB, nodupB_iff h.2, Bool.and_true, Bool.not_eq_true', List.contains_eq_mem, decide_eq_false_iff_not]
    exact h.1
theorem bornsA_ments (L : List ME) : bornsA (ments L) = L.map (·.t) := by
  induction L with
  | nil => rfl
  | cons e l ih => show e.t :: bornsA (ments l) = _; rw [ih]; rfl
theorem keysI_ments {L : List ME} (h : ∀ e ∈ L, e.k < 4294967296) : keysI (ments L) = some (L.map fun e => (e.k : Int)) := by
  induction L with
  | nil => rfl
  | cons e l ih =>
    have h1 : Nat.blt e.k 4294967296 = true := by rw [Nat.blt_eq]; exact h e (by simp)
    have h2 : keyI (.int .u32 (e.k : Int)) = some (e.k : Int) := by
      show (match Nat.blt e.k 4294967296 with | true => some (Int.ofNat e.k) | false => none) = _
      rw [h1]; rfl
    show (match keyI (.int .u32 (e.k : Int)) with | some n => (match keysI (ments l) with | some r => some (n :: r) | none => none) | none => none) = _
    rw [h2, ih (fun e he => h e (List.mem_cons_of_mem _ he))]
    rfl
theorem allLt_iff {c : Nat} : ∀ {l : List Nat}, (∀ x ∈ l, x < c) → allLt c l = true
  | [], _ => rfl
  | x :: l, h => by
    simp only [allLt, allLt_iff (fun y hy => h y (List.mem_cons_of_mem _ hy)), Bool.and_true, Nat.blt_eq]
    exact h x (by simp)
theorem okKeys_ments {N : Nat} {L : List ME} {c : Nat} (h : MOk L c) (hN : c ≤ N) : okKeys N (ments L) c = some (L.map fun e => (e.k : Int)) := by
  unfold okKeys
  rw [keysI_ments (fun e he => (h.val e he).1), bornsA_ments]
  have h1 : allLt c (L.map (·.t)) = true := allLt_iff fun x hx => by
    obtain ⟨e, he, rfl⟩ := List.mem_map.1 hx
    exact (h.val e he).2.2.2
  have h2 : nodupB (L.map (·.t)) = true := nodupB_iff h.born
  have h3 : nodupZ (L.map fun e => (e.k : Int)) = true := nodupZ_iff (by
    have : (L.map fun e => (e.k : Int)) = (L.map (·.k)).map Int.ofNat := by rw [List.map_map]; rfl
    rw [this]
    exact h.keys.map _ (fun a b hab e => hab (Int.ofNat.inj e)))
  have h4 : Nat.ble (L.map fun e => (e.k : Int)).length N = true := by
    rw [Nat.ble_eq, List.length_map]; exact Nat.le_trans h.len hN
  simp only [h1, h2, h3, h4, Bool.and_true]

/- rows of pairs -/
abbrev Pr := Nat × Nat
def wget (W : List Pr) (k : Nat) : Nat := match W with
  | [] => 0
  | p :: w => if p.1 = k then p.2 else wget w k
structure WOk (W : List Pr) : Prop where
  rise : W.Pairwise (fun p q => p.1 < q.1)
  pos : ∀ p ∈ W, p.2 ≠ 0
theorem wget_mem {W : List Pr} (h : WOk W) (k b : Nat) : (k, b) ∈ W ↔ b ≠ 0 ∧ wget W k = b := by
  obtain ⟨h1, h2⟩ := h
  induction W with
  | nil => simp [wget]; omega
  | cons p w ih =>
    have hp := List.pairwise_cons.1 h1
    have ih := ih hp.2 (fun q hq => h2 q (List.mem_cons_of_mem _ hq))
    simp only [List.mem_cons, wget]
    by_cases hk : p.1 = k
    · subst hk
      rw [if_pos rfl]
      constructor
      · rintro (h | h)
        · rw [← h]; exact ⟨h2 p (by simp) |> fun x => by rw [← h] at x; exact x, rfl⟩
        · have := hp.1 _ h; simp at this
      · rintro ⟨_, rfl⟩; exact .inl rfl
    · rw [if_neg hk]
      constructor
      · rintro (h | h)
        · rw [← h] at hk; simp at hk
        · exact ih.1 h
      · exact fun h => .inr (ih.2 h)
theorem WOk.eq {W V : List Pr} (h : WOk W) (h' : WOk V) (hg : ∀ k, wget W k = wget V k) : W = V := by
  have n1 : W.Nodup := h.rise.imp (fun {a b} hab e => by rw [e] at hab; omega)
  have n2 : V.Nodup := h'.rise.imp (fun {a b} hab e => by rw [e] at hab; omega)
  have hp : W.Perm V := (List.perm_ext_iff_of_nodup n1 n2).2 fun ⟨k, b⟩ => by rw [wget_mem h, wget_mem h', hg]
  exact List.Perm.eq_of_pairwise (fun a b _ _ h1 h2 => by omega) h.rise h'.rise hp
def pairs (L : List ME) : List Pr := (skeys L).map fun k => (k, mget L k)
theorem wget_map (f : Nat → Nat) : ∀ (l : List Nat) (k : Nat), wget (l.map fun k => (k, f k)) k = if k ∈ l then f k else 0
  | [], k => by simp [wget]
  | x :: l, k => by
    simp only [List.map_cons, wget, wget_map f l k]
    by_cases h : x = k
    · subst h; simp
    · rw [if_neg h]
      have : (k ∈ x :: l) ↔ k ∈ l := by
        simp only [List.mem_cons]
        constructor
        · rintro (e | e)
          · exact absurd e.symm h
          · exact e
        · exact .inr
      simp only [this]
theorem pairs_ok {L : List ME} {c : Nat} (h : MOk L c) : WOk (pairs L) := by
  constructor
  · unfold pairs; rw [List.pairwise_map]; exact skeys_sorted h
  · intro p hp
    obtain ⟨k, hk, rfl⟩ := List.mem_map.1 hp
    exact (mget_pos h k).1 (skeys_mem.1 hk)
theorem pairs_get {L : List ME} {c : Nat} (h : MOk L c) (k : Nat) : wget (pairs L) k = mget L k := by
  unfold pairs
  rw [wget_map]
  split
  · rfl
  · rename_i hk
    by_cases h0 : mget L k = 0
    · rw [h0]
    · exact absurd (skeys_mem.2 ((mget_pos h k).2 h0)) hk
theorem pairs_of {L : List ME} {c : Nat} (h : MOk L c) {W : List Pr} (hW : WOk W) (hg : ∀ k, wget W k = mget L k) : pairs L = W :=
  (pairs_ok h).eq hW fun k => by rw [pairs_get h, hg]
theorem pairs_iff {L : List ME} {c : Nat} (h : MOk L c) {M : List ME} {d : Nat} (h' : MOk M d) : pairs L = pairs M ↔ ∀ k, mget L k = mget M k :=
  ⟨fun e k => by rw [← pairs_get h, e, pairs_get h'], fun e => (pairs_ok h).eq (pairs_ok h') fun k => by rw [pairs_get h, pairs_get h', e]⟩
theorem pairs_split (L M : List ME) : pairs L = pairs M ↔ skeys L = skeys M ∧ (skeys L).map (mget L) = (skeys M).map (mget M) := by
  unfold pairs
  constructor
  · intro e
    have h1 : skeys L = skeys M := by
      have := congrArg (List.map Prod.fst) e
      simpa [List.map_map, Function.comp_def] using this
    have h2 := congrArg (List.map Prod.snd) e
    rw [List.map_map, List.map_map] at h2
    exact ⟨h1, h2⟩
  · rintro ⟨h1, h2⟩
    rw [h1] at h2 ⊢
    refine List.map_congr_left fun k hk => ?_
    have := List.map_inj_left.1 h2 k hk
    rw [this]

/-- Put, as the document's loop does it. -/
def wpl (k b : Nat) : Bool → List Pr → List Pr
  | d, [] => if d = true then [] else [(k, b)]
  | d, p :: w => (if d = false ∧ k < p.1 then [(k, b)] else []) ++ ((if p.1 = k then [] else [p]) ++ wpl k b (d || decide (k < p.1)) w)
def wput (W : List Pr) (k b : Nat) : List Pr := wpl k b (decide (b = 0)) W
theorem wpl_true (k b : Nat) : ∀ W : List Pr, wpl k b true W = W.filter fun p => p.1 != k
  | [] => rfl
  | p :: w => by
    simp only [wpl, wpl_true k b w, List.filter_cons, Bool.true_or]
    by_cases h : p.1 = k <;> simp [h]
theorem wget_filter (k k' : Nat) : ∀ W : List Pr, wget (W.filter fun p => p.1 != k) k' = if k' = k then 0 else wget W k'
  | [] => by simp [wget]
  | p :: w => by
    simp only [List.filter_cons]
    by_cases h : p.1 = k
    · simp only [h, bne_self_eq_false, Bool.false_eq_true, if_false, wget_filter k k' w, wget]
      by_cases h2 : k' = k
      · simp [h2]
      · rw [if_neg h2, if_neg h2, if_neg (fun e => h2 e.symm)]
    · simp only [bne_iff_ne, ne_eq, h, not_false_eq_true, if_true, wget, wget_filter k k' w]
      by_cases h2 : k' = k
      · subst h2; simp [h]
      · simp [h2]
theorem wpl_mem {k b : Nat} {q : Pr} : ∀ {W : List Pr} {d : Bool}, q ∈ wpl k b d W → q ∈ W ∨ q = (k, b)
  | [], d, h => by
    cases d with
    | true => simp [wpl] at h
    | false => simp [wpl] at h; exact .inr h
  | x :: w, d, h => by
    simp only [wpl] at h
    rcases List.mem_append.1 h with h | h
    · by_cases hc : d = false ∧ k < x.1
      · rw [if_pos hc] at h; exact .inr (List.mem_singleton.1 h)
      · rw [if_neg hc] at h; cases h
    · rcases List.mem_append.1 h with h | h
      · by_cases hc : x.1 = k
        · rw [if_pos hc] at h; cases h
        · rw [if_neg hc] at h; exact .inl (by rw [List.mem_singleton.1 h]; simp)
      · rcases wpl_mem h with h | h
        · exact .inl (List.mem_cons_of_mem _ h)
        · exact .inr h
theorem wpl_rise {k b : Nat} : ∀ {W : List Pr} (d : Bool), W.Pairwise (fun p q => p.1 < q.1) → (wpl k b d W).Pairwise (fun p q => p.1 < q.1)
  | W, true, h => by rw [wpl_true]; exact h.filter _
  | [], false, _ => by simp [wpl]
  | p :: w, false, h => by
    have hp := List.pairwise_cons.1 h
    simp only [wpl, true_and, Bool.false_or]
    by_cases h1 : k < p.1
    · rw [if_pos h1, if_neg (by omega), decide_eq_true h1, wpl_true]
      simp only [List.cons_append, List.nil_append]
      refine List.pairwise_cons.2 ⟨?_, List.pairwise_cons.2 ⟨?_, hp.2.filter _⟩⟩
      · intro q hq
        rcases List.mem_cons.1 hq with rfl | hq
        · exact h1
        · have := hp.1 q ((List.mem_filter.1 hq).1); show k < q.1; omega
      · intro q hq
        exact hp.1 q ((List.mem_filter.1 hq).1)
    · rw [if_neg h1, decide_eq_false h1, List.nil_append]
      have ih := wpl_rise (k := k) (b := b) false hp.2
      split
      · exact ih
      · refine List.pairwise_cons.2 ⟨?_, ih⟩
        intro q hq
        have := wpl_mem hq
        rcases this with h2 | rfl
        · exact hp.1 q h2
        · show p.1 < k; omega
theorem wpl_pos {k b : Nat} (hb : b ≠ 0) : ∀ {W : List Pr} (d : Bool), (∀ p ∈ W, p.2 ≠ 0) → ∀ p ∈ wpl k b d W, p.2 ≠ 0
  | [], d, _ => by cases d <;> simp [wpl, hb]
  | x :: w, d, h => by
    intro p hp
    simp only [wpl] at hp
    rcases List.mem_append.1 hp with hp | hp
    · split at hp
      · simp at hp; rw [hp]; exact hb
      · simp at hp
    · rcases List.mem_append.1 hp with hp | hp
      · split at hp
        · simp at hp
        · simp at hp; rw [hp]; exact h x (by simp)
      · exact wpl_pos hb _ (fun q hq => h q (List.mem_cons_of_mem _ hq)) p hp
theorem wget_out {W : List Pr} {k : Nat} (h : ∀ p ∈ W, k < p.1) : wget W k = 0 := by
  induction W with
  | nil => rfl
  | cons p w ih =>
    simp only [wget]
    rw [if_neg (by have := h p (by simp); omega)]
    exact ih fun q hq => h q (List.mem_cons_of_mem _ hq)
theorem wget_wpl {k b k' : Nat} : ∀ {W : List Pr}, W.Pairwise (fun p q => p.1 < q.1) → wget (wpl k b false W) k' = if k' = k then b else wget W k'
  | [], _ => by
    simp only [wpl, Bool.false_eq_true, if_false, wget]
    by_cases h : k' = k
    · simp [h]
    · rw [if_neg (fun e => h e.symm), if_neg h]
  | p :: w, h => by
    have hp := List.pairwise_cons.1 h
    simp only [wpl, true_and, Bool.false_or]
    by_cases h1 : k < p.1
    · rw [if_pos h1, if_neg (by omega), decide_eq_true h1, wpl_true]
      simp only [List.cons_append, List.nil_append, wget, wget_filter]
      by_cases h2 : k' = k
      · subst h2; simp
      · rw [if_neg (fun e => h2 e.symm), if_neg h2, if_neg h2]
    · rw [if_neg h1, decide_eq_false h1, List.nil_append]
      by_cases h3 : p.1 = k
      · rw [if_pos h3, List.nil_append, wget_wpl hp.2]
        simp only [wget, h3]
        by_cases h2 : k' = k
        · simp [h2]
        · rw [if_neg h2, if_neg h2, if_neg (fun e => h2 e.symm)]
      · rw [if_neg h3]
        simp only [List.cons_append, List.nil_append, wget, wget_wpl hp.2]
        by_cases h2 : k' = k
        · subst h2; simp [h3]
        · simp [h2]
theorem wput_ok {W : List Pr} (h : WOk W) (k b : Nat) : WOk (wput W k b) := by
  refine ⟨wpl_rise _ h.rise, ?_⟩
  unfold wput
  by_cases hb : b = 0
  · rw [decide_eq_true hb, wpl_true]
    exact fun p hp => h.pos p ((List.mem_filter.1 hp).1)
  · exact wpl_pos hb _ h.pos
theorem wput_get {W : List Pr} (h : WOk W) (k b k' : Nat) : wget (wput W k b) k' = if k' = k then b else wget W k' := by
  unfold wput
  by_cases hb : b = 0
  · rw [decide_eq_true hb, wpl_true, wget_filter, hb]
  · rw [decide_eq_false hb]; exact wget_wpl h.rise

/-- The document's row and the memory's say the same. -/
structure Rep (W : List Pr) (L : List ME) : Prop where
  ok : WOk W
  get : ∀ k, wget W k = mget L k
theorem Rep.nil : Rep [] [] := ⟨⟨.nil, by simp⟩, fun _ => rfl⟩
theorem Rep.put {W : List Pr} {L : List ME} {c : Nat} (h : Rep W L) (hm : MOk L c) (k b : Nat) : Rep (wput W k b) (mput L c k b).1 :=
  ⟨wput_ok h.ok k b, fun k' => by rw [wput_get h.ok, mput_get hm, h.get]⟩
theorem Rep.eq {W : List Pr} {L : List ME} {c : Nat} (h : Rep W L) (hm : MOk L c) : pairs L = W := pairs_of hm h.ok h.get

/- slices -/
def Slc (b : Nat) (s : St) (es n : Nat) (v : AV) (xs : List AV) : Prop := xs.length = n * es ∧ ((n = 0 ∧ v = .nilSlice) ∨ (0 < n ∧ ∃ id inc, v = .slice ⟨id, 0, inc, n * es⟩ n n false es ∧ b ≤ id ∧ id < s.next ∧ s.heap.get id = some (.cells xs 0 inc false)))
theorem Slc.nil (b : Nat) (s : St) (es : Nat) : Slc b s es 0 .nilSlice [] := ⟨by simp, .inl ⟨rfl, rfl⟩⟩
theorem Slc.mono {b b' : Nat} {s : St} {es n : Nat} {v : AV} {xs : List AV} (h : Slc b s es n v xs) (hb : b' ≤ b) : Slc b' s es n v xs := by
  obtain ⟨h1, h2 | ⟨h0, id, inc, h2, h3, h4⟩⟩ := h
  · exact ⟨h1, .inl h2⟩
  · exact ⟨h1, .inr ⟨h0, id, inc, h2, Nat.le_trans hb h3, h4⟩⟩
theorem Slc.ext {b : Nat} {s s' : St} {es n : Nat} {v : AV} {xs : List AV} (h : Slc b s es n v xs) (he : Ext s s') : Slc b s' es n v xs := by
  obtain ⟨h1, h2 | ⟨h0, id, inc, h2, h3, h4, h5⟩⟩ := h
  · exact ⟨h1, .inl h2⟩
  · exact ⟨h1, .inr ⟨h0, id, inc, h2, h3, Nat.lt_of_lt_of_le h4 he.2.1, by rw [he.2.2 id h4]; exact h5⟩⟩
theorem Slc.only {b r : Nat} {s s' : St} {es n : Nat} {v : AV} {xs : List AV} (h : Slc b s es n v xs) (hr : r < b) (he : Only r s s') : Slc b s' es n v xs := by
  obtain ⟨h1, h2 | ⟨h0, id, inc, h2, h3, h4, h5⟩⟩ := h
  · exact ⟨h1, .inl h2⟩
  · exact ⟨h1, .inr ⟨h0, id, inc, h2, h3, Nat.lt_of_lt_of_le h4 he.next, by rw [he.same id h4 (by omega)]; exact h5⟩⟩
theorem Slc.len {b : Nat} {s : St} {es n : Nat} {v : AV} {xs : List AV} (h : Slc b s es n v xs) : (0 < n ∧ ∃ a, v = .slice a n n false es) ∨ (v = .nilSlice ∧ n = 0) := by
  obtain ⟨_, ⟨h1, h2⟩ | ⟨h0, id, inc, h2, _⟩⟩ := h
  · exact .inr ⟨h2, h1⟩
  · exact .inl ⟨h0, _, h2⟩
theorem Slc.app {s0 s : St} {es n : Nat} {v : AV} {xs more : List AV} (h : Slc s0.next s es n v xs) (he : Ext s0 s) (hm : more.length = es) (hc : more.all AV.isCell = true) (h0 : 0 < es) (hn : n < 1000000) :
    ∃ v' s', appendV (s.add (.cells more 0 0 false)) es v 1 more = some (v', s') ∧ Slc s0.next s' es (n + 1) v' (xs ++ more) ∧ Ext s0 s' := by
  have hlim : (n + 1) * 65536 ≤ maxApp := by unfold maxApp; omega
  obtain ⟨h1, ⟨hn0, rfl⟩ | ⟨hn0, id, inc, rfl, h3, h4, h5⟩⟩ := h
  · subst hn0
    have hx : xs = [] := List.length_eq_zero_iff.1 (by rw [h1]; omega)
    subst hx
    rw [app_nil, if_pos ⟨by omega, hc, h0⟩, if_neg (by omega), if_pos (by simpa using hlim)]
    refine ⟨_, _, rfl, ⟨by simp [hm], .inr ⟨by omega, s.next + 1, 0, rfl, ?_, ?_, ?_⟩⟩, (he.add _).add _⟩
    · have := he.2.1; show s0.next ≤ s.next + 1; omega
    · show s.next + 1 < s.next + 1 + 1; omega
    · rw [add_get, if_pos (show s.next + 1 = (s.add (.cells more 0 0 false)).next from rfl)]; rfl
  · rw [app_slice, if_pos ⟨by omega, hc, h0⟩, if_neg (by omega), if_pos ⟨rfl, hlim⟩]
    have hg : (s.add (.cells more 0 0 false)).heap.get id = some (.cells xs 0 inc false) := by rw [add_get, if_neg (by omega)]; exact h5
    rw [hg, appObj_eq, if_neg (by omega), if_neg (by simp), if_pos ⟨rfl, rfl, by omega, by simp⟩]
    have hp : 0 + n * es = xs.length := by omega
    simp only [hp, if_true, List.take_length]
    have hn1 : xs.length + more.length = (n + 1) * es := by rw [h1, hm, Nat.succ_mul]
    refine ⟨_, _, rfl, ⟨by simp [hn1], .inr ⟨by omega, id, inc + 1, by rw [hn1], h3, ?_, ?_⟩⟩, Ext.put (he.add _) h3 (by show id < s.next + 1; omega) _⟩
    · show id < s.next + 1; omega
    · rw [put_get, if_pos rfl]
end Go.V
/- mem: Parts, Same, Cells, Copy over the small language. -/
namespace Go.V
open Go
set_option linter.unusedSimpArgs false
set_option linter.unusedVariables false
open Go.V.KU
abbrev memEl0 : ICode := (.loop (.seq (.region [⟨some 17, none, [], (.bin .lss (.t 16) (.t 15))⟩] false)
 (.seq (.cond (.t 17) .skip (.exit 0))
 (.seq (.block 1 (.seq (.region [⟨some 18, none, [], (.idxSl 1 (.t 14) (.t 16))⟩, ⟨some 19, none, [], (.load false 1 (.t 18))⟩, ⟨some 5, none, [], (.move (.t 19))⟩] false)
 (.region [⟨some 20, none, [], (.move (.t 3))⟩, ⟨some 21, none, [], (.move (.t 0))⟩, ⟨some 22, none, [], (.nilCheck (.t 21))⟩, ⟨some 23, none, [], (.fieldAddr 0 (.t 22))⟩, ⟨some 24, none, [], (.load false 1 (.t 23))⟩, ⟨some 25, none, [], (.move (.t 5))⟩, ⟨some 26, none, [], (.lookup (.int .u32) (.int .u8 0) false (.t 24) (.t 25))⟩, ⟨some 27, none, [], (.buildSlice 1 1 [(.int .u8 0)] [(0, 1, (.t 26))])⟩, ⟨some 28, none, [], (.append 1 1 (.t 20) (.t 27))⟩, ⟨some 3, none, [], (.move (.t 28))⟩] false)))
 (.region [⟨some 29, none, [], (.bin .add (.t 16) (.c (.int .i64 1)))⟩, ⟨some 16, none, [], (.move (.t 29))⟩] false)))))
abbrev memEl1 : ICode := (.loop (.seq (.region [⟨some 14, none, [], (.bin .lss (.t 13) (.t 12))⟩] false)
 (.seq (.cond (.t 14) .skip (.exit 0))
 (.seq (.block 1 (.seq (.region [⟨some 15, none, [], (.move (.t 13))⟩, ⟨some 5, none, [], (.move (.t 15))⟩] false)
 (.seq (.region [⟨some 16, none, [], (.move (.t 0))⟩, ⟨some 17, none, [], (.move (.t 5))⟩, ⟨some 18, none, [], (.idxSl 1 (.t 16) (.t 17))⟩, ⟨some 19, none, [], (.load false 1 (.t 18))⟩, ⟨some 20, none, [], (.move (.t 1))⟩, ⟨some 21, none, [], (.move (.t 5))⟩, ⟨some 22, none, [], (.idxSl 1 (.t 20) (.t 21))⟩, ⟨some 23, none, [], (.load false 1 (.t 22))⟩, ⟨some 24, none, [], (.bin .neq (.t 19) (.t 23))⟩] true)
 (.cond (.t 24) (.seq (.region [⟨some 4, none, [], (.move (.c (.bool false)))⟩] false)
 .ret) .skip))))
 (.region [⟨some 25, none, [], (.bin .add (.t 13) (.c (.int .i64 1)))⟩, ⟨some 13, none, [], (.move (.t 25))⟩] false)))))
abbrev memEq2 : Fr := .seq (.seq (.region [⟨some 30, none, [], (.move (.t 2))⟩, ⟨some 31, none, [], (.move (.t 3))⟩, ⟨some 2, none, [], (.move (.t 30))⟩, ⟨some 3, none, [], (.move (.t 31))⟩] false)
 .ret)
theorem MemAt.ext {s s' : St} {pm r : Nat} {L : List ME} {c : Nat} (h : MemAt s pm r L c) (he : Ext s s') : MemAt s' pm r L c :=
  ⟨by rw [he.2.2 _ h.lt1]; exact h.box, by rw [he.2.2 _ h.lt2]; exact h.map, h.ok, Nat.lt_of_lt_of_le h.lt1 he.2.1, Nat.lt_of_lt_of_le h.lt2 he.2.1, he.1⟩
theorem MemAt.only {s s' : St} {pm r r' : Nat} {L : List ME} {c : Nat} (h : MemAt s pm r L c) (he : Only r' s s') (h1 : pm ≠ r') (h2 : r ≠ r') : MemAt s' pm r L c :=
  ⟨by rw [he.same _ h.lt1 h1]; exact h.box, by rw [he.same _ h.lt2 h2]; exact h.map, h.ok, Nat.lt_of_lt_of_le h.lt1 he.next, Nat.lt_of_lt_of_le h.lt2 he.next, he.wfs⟩
def kcells (L : List ME) : List AV := (skeys L).map fun k : Nat => .int .u32 (k : Int)
def bcells (L : List ME) : List AV := (skeys L).map fun k : Nat => .int .u8 (mget L k : Int)
section
variable {T : Tab}
theorem keys_ran (hc : T 59 = some (.code ir59)) (s : St) (r : Nat) :
    Ran T 59 [.map r] s fun v s' => v = .func 82 [] [.ptr ⟨s.next, 0, 0, 1⟩] ∧ s' = s.add (.cells [.map r] 0 0 false) := by
  refine ran_code hc (Nat.le_of_ble_eq_true rfl) ?_
  simp only [ir59, wk, wk1, wk2, Option.some.injEq, exists_eq_left', decide_true, decide_false, Nat.reduceAdd, Nat.reduceEqDiff, Nat.reduceLeDiff, Nat.reduceLT, Nat.reduceMul, Nat.reduceBEq, Int.reduceLT, Int.reduceLE, Int.reduceEq, Int.reduceAdd, Int.reduceSub, Int.reduceMul, Int.reduceMod, Int.reduceTMod, Int.reduceTDiv, Int.reduceNeg, Nat.reduceSub, Nat.reduceDiv, reduceIte, reduceCtorEq]
theorem sorted_ran (hs : T 58 = some (.hook (sortedH 1000000000 82))) {t : St} {a : AAddr} {r : Nat} {tl : List AV} {L : List ME} {c : Nat} (hw : WFS t) (h1 : t.readAt a 1 = some (.map r :: tl)) (h2 : t.heap.get r = some (.map (ments L) c)) (h3 : MOk L c) (hcl : c ≤ 100000) :
    Ran T 58 [.func 82 [] [.ptr a]] t fun v s' => Slc t.next s' 1 L.length v (kcells L) ∧ Ext t s' := by
  refine ran_hook hs (sortedH_eq rfl h1 h2 (okKeys_ments h3 (by omega))) ?_
  have hl : (kcells L).length = L.length := by unfold kcells; rw [List.length_map, skeys_len]
  have hk : kcells L = (srt (L.map fun e => (e.k : Int))).map aU := skeys_int L
  cases L with
  | nil => exact ⟨⟨by simpa using hl, .inl ⟨rfl, rfl⟩⟩, Ext.refl hw⟩
  | cons e l =>
    refine ⟨⟨by simpa using hl, .inr ⟨by simp, t.next, 0, ?_, Nat.le_refl _, ?_, ?_⟩⟩, (Ext.refl hw).add _⟩
    · simp [keysRes]
    · show t.next < t.next + 1; omega
    · rw [hk]
      show (t.add (.cells ((srt ((e :: l).map fun e => (e.k : Int))).map aU) 0 0 false)).heap.get t.next = _
      rw [add_get, if_pos rfl]
theorem take_cell {es : Nat} {α : Type} {f : α → List AV} (hf : ∀ x, (f x).length = es) (l : List α) (i : Nat) (x : α) (h : l[i]? = some x) : List.take es (List.drop (i * es) (l.flatMap f)) = f x := by
  have hi : i < l.length := by
    by_cases hi : i < l.length
    · exact hi
    · rw [List.getElem?_eq_none (by omega)] at h; cases h
  induction l generalizing i with
  | nil => simp at hi
  | cons y l ih =>
    rw [List.flatMap_cons]
    cases i with
    | zero =>
      simp at h; subst h
      rw [Nat.zero_mul, List.drop_zero, List.take_append_of_le_length (by rw [hf]; exact Nat.le_refl _), List.take_of_length_le (by rw [hf]; exact Nat.le_refl _)]
    | succ i =>
      have h2 : (i + 1) * es = (f y).length + i * es := by rw [hf, Nat.succ_mul, Nat.add_comm]
      rw [h2, List.drop_append, Nat.add_sub_cancel_left, List.drop_eq_nil_of_le (by omega), List.nil_append]
      exact ih i (by simpa using h) (by simpa using hi)
theorem take_map {α : Type} {f : α → AV} (l : List α) (i : Nat) (x : α) (h : l[i]? = some x) : List.take 1 (List.drop i (l.map f)) = [f x] := by
  have := take_cell (es := 1) (f := fun x => [f x]) (fun _ => rfl) l i x h
  rw [Nat.mul_one] at this
  rw [← this]
  have : ∀ l : List α, l.map f = l.flatMap fun x => [f x] := by
    intro l
    induction l with
    | nil => rfl
    | cons y l ih => rw [List.map_cons, List.flatMap_cons, ih]; rfl
  rw [this]
set_option maxHeartbeats 4000000 in
theorem parts_loop {Q : Post} {s1 : St} {pm r b : Nat} {L : List ME} {c : Nat} (h : MemAt s1 pm r L c) (hcl : c ≤ 100000) {a : AV} (ha : Slc b s1 1 L.length a (kcells L))
    (K : ∀ (e : Env) (s : St) (v : AV), opd e (.t 2) = a → opd e (.t 3) = v → Slc s1.next s 1 L.length v (bcells L) → Ext s1 s → Ret T Q [memEq2] .normal e s) :
    ∀ (m i : Nat) (e : Env) (s : St) (v : AV), m + i = L.length → Ext s1 s → Slc s1.next s 1 i v ((bcells L).take i) → opd e (.t 0) = mptr pm → opd e (.t 2) = a → opd e (.t 3) = v → opd e (.t 14) = a → opd e (.t 15) = .int .i64 (L.length : Int) → opd e (.t 16) = .int .i64 (i : Int) →
      Go T Q (memEl0) [.block 0, memEq2] e s := by
  have hlen := h.ok.len
  have hbl : (bcells L).length = L.length := by unfold bcells; rw [List.length_map, skeys_len]
  intro m
  induction m with
  | zero =>
    intro i e s v hm hE hv h0 h2 h3 h14 h15 h16
    have hin : i = L.length := by omega
    subst hin
    rw [List.take_of_length_le (by omega)] at hv
    have hK := fun e => K e s v
    rw [go_loop]
    generalize ([memEq2] : List Fr) = FF at *
    simp only [h15, h16, wk, wk1, wk2, Option.some.injEq, exists_eq_left', decide_true, decide_false, Nat.reduceAdd, Nat.reduceEqDiff, Nat.reduceLeDiff, Nat.reduceLT, Nat.reduceMul, Nat.reduceBEq, Int.reduceLT, Int.reduceLE, Int.reduceEq, Int.reduceAdd, Int.reduceSub, Int.reduceMul, Int.reduceMod, Int.reduceTMod, Int.reduceTDiv, Int.reduceNeg, Nat.reduceSub, Nat.reduceDiv, reduceIte, reduceCtorEq]
    refine hK _ ?_ ?_ hv hE <;> simp only [h2, h3, wk, wk1, Nat.reduceEqDiff, reduceIte, decide_true]
  | succ m ih =>
    intro i e s v hm hE hv h0 h2 h3 h14 h15 h16
    have hi : i < L.length := by omega
    obtain ⟨hal, ⟨hn0, _⟩ | ⟨hn0, id, inc, rfl, hid1, hid2, hrow⟩⟩ := ha
    · omega
    have hrow : s.heap.get id = some (.cells (kcells L) 0 inc false) := by rw [hE.2.2 id hid2]; exact hrow
    obtain ⟨x, hx⟩ : ∃ x, (skeys L)[i]? = some x := ⟨_, List.getElem?_eq_getElem (by rw [skeys_len]; exact hi)⟩
    have hld : List.take 1 (List.drop i (kcells L)) = [.int .u32 (x : Int)] := take_map _ i x hx
    have hM := h.ext hE
    have hb := hM.box
    have hl := hM.look x
    have hc : (i : Int) < (L.length : Int) := by omega
    have hi1 : i + 1 ≤ L.length := hi
    have u5 : wrapF .i64 ((i : Int) + 1) = ((i + 1 : Nat) : Int) := i64_add1 (by omega)
    obtain ⟨v', s', hap, hv', hE'⟩ := hv.app hE (more := [.int .u8 (mget L x : Int)]) rfl rfl (by omega) (by omega)
    have htk : (bcells L).take i ++ [AV.int .u8 (mget L x : Int)] = (bcells L).take (i + 1) := by
      rw [List.take_add_one]
      congr 1
      unfold bcells
      rw [List.getElem?_map, hx]
      rfl
    rw [htk] at hv'
    rw [go_loop]
    simp only [h0, h2, h3, h14, h15, h16, hc, hi, hi1, hrow, hld, hb, hl, hap, u5, Nat.mul_one, wk, wk1, wk2, Option.some.injEq, exists_eq_left', decide_true, decide_false, Nat.reduceAdd, Nat.reduceEqDiff, Nat.reduceLeDiff, Nat.reduceLT, Nat.reduceMul, Nat.reduceBEq, Int.reduceLT, Int.reduceLE, Int.reduceEq, Int.reduceAdd, Int.reduceSub, Int.reduceMul, Int.reduceMod, Int.reduceTMod, Int.reduceTDiv, Int.reduceNeg, Nat.reduceSub, Nat.reduceDiv, reduceIte, reduceCtorEq]
    refine ih (i + 1) _ s' v' (by omega) hE' hv' ?_ ?_ ?_ ?_ ?_ ?_ <;> simp only [h0, h2, h3, h14, h15, h16, u5, wk, wk1, Nat.reduceEqDiff, reduceIte, decide_true]
set_option maxHeartbeats 4000000 in
theorem parts_ran (hc : T 30 = some (.code ir30)) (hk : T 59 = some (.code ir59)) (hs : T 58 = some (.hook (sortedH 1000000000 82))) {s : St} {pm r : Nat} {L : List ME} {c : Nat} (h : MemAt s pm r L c) (hcl : c ≤ 100000) :
    Ran T 30 [mptr pm] s fun x s' => Ext s s' ∧ ∃ a b, x = .tuple [a, b] ∧ Slc s.next s' 1 L.length a (kcells L) ∧ Slc s.next s' 1 L.length b (bcells L) := by
  have hb := h.box
  refine ran_code hc (Nat.le_of_ble_eq_true rfl) ?_
  generalize hQ : Fin _ _ = Q
  simp only [ir30, hb, eqV, nilEq, wk, wk1, wk2, Option.some.injEq, exists_eq_left', decide_true, decide_false, Nat.reduceAdd, Nat.reduceEqDiff, Nat.reduceLeDiff, Nat.reduceLT, Nat.reduceMul, Nat.reduceBEq, Int.reduceLT, Int.reduceLE, Int.reduceEq, Int.reduceAdd, Int.reduceSub, Int.reduceMul, Int.reduceMod, Int.reduceTMod, Int.reduceTDiv, Int.reduceNeg, Nat.reduceSub, Nat.reduceDiv, reduceIte, reduceCtorEq]
  refine goCall_by (keys_ran hk s r) ?_
  rintro v s' ⟨rfl, rfl⟩
  simp only [wk, wk1, wk2, Option.some.injEq, exists_eq_left', decide_true, decide_false, Nat.reduceAdd, Nat.reduceEqDiff, Nat.reduceLeDiff, Nat.reduceLT, Nat.reduceMul, Nat.reduceBEq, Int.reduceLT, Int.reduceLE, Int.reduceEq, Int.reduceAdd, Int.reduceSub, Int.reduceMul, Int.reduceMod, Int.reduceTMod, Int.reduceTDiv, Int.reduceNeg, Nat.reduceSub, Nat.reduceDiv, reduceIte, reduceCtorEq]
  have hE0 : Ext s (s.add (.cells [.map r] 0 0 false)) := (Ext.refl h.wfs).add _
  have hM0 := h.ext hE0
  refine goCall_by (sorted_ran hs (a := ⟨s.next, 0, 0, 1⟩) (r := r) (tl := []) hE0.1 ?_ hM0.map h.ok hcl) ?_
  · rw [readAt_rd]
    have : (s.add (.cells [.map r] 0 0 false)).heap.get s.next = some (.cells [.map r] 0 0 false) := by rw [add_get, if_pos rfl]
    rw [this]; rfl
  rintro v s1 ⟨hv, hE1⟩
  have hM1 := hM0.ext hE1
  have hE := hE0.trans hE1
  have hvl : (∃ a, v = .slice a L.length L.length false 1) ∨ (v = .nilSlice ∧ L.length = 0) := by
    obtain ⟨_, ⟨h1, h2⟩ | ⟨_, id, inc, h2, _⟩⟩ := hv
    · exact .inr ⟨h2, h1⟩
    · exact .inl ⟨_, h2⟩
  have hloop := parts_loop (T := T) (Q := Q) hM1 hcl hv ?_ L.length 0
  · rcases hvl with ⟨a, rfl⟩ | ⟨rfl, hl0⟩
    · simp only [wk, wk1, wk2, Option.some.injEq, exists_eq_left', decide_true, decide_false, Nat.reduceAdd, Nat.reduceEqDiff, Nat.reduceLeDiff, Nat.reduceLT, Nat.reduceMul, Nat.reduceBEq, Int.reduceLT, Int.reduceLE, Int.reduceEq, Int.reduceAdd, Int.reduceSub, Int.reduceMul, Int.reduceMod, Int.reduceTMod, Int.reduceTDiv, Int.reduceNeg, Nat.reduceSub, Nat.reduceDiv, reduceIte, reduceCtorEq]
      refine hloop _ s1 .nilSlice (by omega) (Ext.refl hE1.1) ?_ ?_ ?_ ?_ ?_ ?_ ?_
      · exact Slc.nil _ _ _
      all_goals (try simp only [wk, wk1, Nat.reduceEqDiff, reduceIte, decide_true])
      all_goals rfl
    · simp only [wk, wk1, wk2, Option.some.injEq, exists_eq_left', decide_true, decide_false, Nat.reduceAdd, Nat.reduceEqDiff, Nat.reduceLeDiff, Nat.reduceLT, Nat.reduceMul, Nat.reduceBEq, Int.reduceLT, Int.reduceLE, Int.reduceEq, Int.reduceAdd, Int.reduceSub, Int.reduceMul, Int.reduceMod, Int.reduceTMod, Int.reduceTDiv, Int.reduceNeg, Nat.reduceSub, Nat.reduceDiv, reduceIte, reduceCtorEq]
      refine hloop _ s1 .nilSlice (by omega) (Ext.refl hE1.1) ?_ ?_ ?_ ?_ ?_ ?_ ?_
      · exact Slc.nil _ _ _
      all_goals (try simp only [hl0, wk, wk1, Nat.reduceEqDiff, reduceIte, decide_true])
      all_goals rfl
  · intro e s2 w h2 h3 hw hE2
    simp only [h2, h3, wk, wk1, wk2, Option.some.injEq, exists_eq_left', decide_true, decide_false, Nat.reduceAdd, Nat.reduceEqDiff, Nat.reduceLeDiff, Nat.reduceLT, Nat.reduceMul, Nat.reduceBEq, Int.reduceLT, Int.reduceLE, Int.reduceEq, Int.reduceAdd, Int.reduceSub, Int.reduceMul, Int.reduceMod, Int.reduceTMod, Int.reduceTDiv, Int.reduceNeg, Nat.reduceSub, Nat.reduceDiv, reduceIte, reduceCtorEq]
    subst hQ
    simp only [ir30, h2, h3, wk, wk1, wk2, Option.some.injEq, exists_eq_left', decide_true, decide_false, Nat.reduceAdd, Nat.reduceEqDiff, Nat.reduceLeDiff, Nat.reduceLT, Nat.reduceMul, Nat.reduceBEq, Int.reduceLT, Int.reduceLE, Int.reduceEq, Int.reduceAdd, Int.reduceSub, Int.reduceMul, Int.reduceMod, Int.reduceTMod, Int.reduceTDiv, Int.reduceNeg, Nat.reduceSub, Nat.reduceDiv, reduceIte, reduceCtorEq]
    exact ⟨hE.trans hE2, _, _, rfl, (hv.mono hE0.2.1).ext hE2, hw.mono hE.2.1⟩

set_option maxHeartbeats 4000000 in
theorem eqU_loop {Q : Post} {s : St} {b1 b2 : Nat} {x y : AV} {l1 l2 : List Nat} (hx : Slc b1 s 1 l1.length x (l1.map fun k : Nat => .int .u32 (k : Int))) (hy : Slc b2 s 1 l1.length y (l2.map fun k : Nat => .int .u32 (k : Int))) (hl : l1.length < 1000000) (hll : l2.length = l1.length)
    (Kt : l1 = l2 → ∀ e : Env, Ret T Q [.seq (.seq (.region [⟨some 4, none, [], (.move (.c (.bool true)))⟩] false)
 .ret)] .normal e s) (Kf : l1 ≠ l2 → ∀ e : Env, opd e (.t 4) = .bool false → Ret T Q [.seq (.seq (.region [⟨some 4, none, [], (.move (.c (.bool true)))⟩] false)
 .ret)] .ret e s) :
    ∀ (m i : Nat) (e : Env), m + i = l1.length → l1.take i = l2.take i → opd e (.t 0) = x → opd e (.t 1) = y → opd e (.t 12) = .int .i64 (l1.length : Int) → opd e (.t 13) = .int .i64 (i : Int) →
      Go T Q (memEl1) [.block 0, .seq (.seq (.region [⟨some 4, none, [], (.move (.c (.bool true)))⟩] false)
 .ret)] e s := by
  intro m
  induction m with
  | zero =>
    intro i e hm ht h0 h1 h12 h13
    have hin : i = l1.length := by omega
    subst hin
    rw [List.take_length, List.take_of_length_le (by omega)] at ht
    have hK := Kt ht
    rw [go_loop]
    generalize ([.seq (.seq (.region [⟨some 4, none, [], (.move (.c (.bool true)))⟩] false)
 .ret)] : List Fr) = FF at *
    simp only [h12, h13, hK, wk, wk1, wk2, Option.some.injEq, exists_eq_left', decide_true, decide_false, Nat.reduceAdd, Nat.reduceEqDiff, Nat.reduceLeDiff, Nat.reduceLT, Nat.reduceMul, Nat.reduceBEq, Int.reduceLT, Int.reduceLE, Int.reduceEq, Int.reduceAdd, Int.reduceSub, Int.reduceMul, Int.reduceMod, Int.reduceTMod, Int.reduceTDiv, Int.reduceNeg, Nat.reduceSub, Nat.reduceDiv, reduceIte, reduceCtorEq]
  | succ m ih =>
    intro i e hm ht h0 h1 h12 h13
    have hi : i < l1.length := by omega
    obtain ⟨_, ⟨hn0, _⟩ | ⟨hn0, id, inc, rfl, _, _, hrow⟩⟩ := hx
    · omega
    obtain ⟨_, ⟨hn0, _⟩ | ⟨hn0, id2, inc2, rfl, _, _, hrow2⟩⟩ := hy
    · omega
    obtain ⟨u, hu⟩ : ∃ x, l1[i]? = some x := ⟨_, List.getElem?_eq_getElem hi⟩
    obtain ⟨w, hw⟩ : ∃ x, l2[i]? = some x := ⟨_, List.getElem?_eq_getElem (by omega)⟩
    have hld := take_map (f := fun k : Nat => AV.int .u32 (k : Int)) l1 i u hu
    have hld2 := take_map (f := fun k : Nat => AV.int .u32 (k : Int)) l2 i w hw
    have hc : (i : Int) < (l1.length : Int) := by omega
    have hi1 : i + 1 ≤ l1.length := hi
    have u5 : wrapF .i64 ((i : Int) + 1) = ((i + 1 : Nat) : Int) := i64_add1 (by omega)
    rw [go_loop]
    by_cases huw : u = w
    · have huw' : (u : Int) = (w : Int) := by omega
      simp only [h0, h1, h12, h13, hc, hi, hi1, hrow, hrow2, hld, hld2, huw', u5, Nat.mul_one, wk, wk1, wk2, Option.some.injEq, exists_eq_left', decide_true, decide_false, Nat.reduceAdd, Nat.reduceEqDiff, Nat.reduceLeDiff, Nat.reduceLT, Nat.reduceMul, Nat.reduceBEq, Int.reduceLT, Int.reduceLE, Int.reduceEq, Int.reduceAdd, Int.reduceSub, Int.reduceMul, Int.reduceMod, Int.reduceTMod, Int.reduceTDiv, Int.reduceNeg, Nat.reduceSub, Nat.reduceDiv, reduceIte, reduceCtorEq]
      refine ih (i + 1) _ (by omega) ?_ ?_ ?_ ?_ ?_
      · rw [List.take_add_one, List.take_add_one, ht, hu, hw, huw]
      all_goals simp only [h0, h1, h12, h13, u5, wk, wk1, Nat.reduceEqDiff, reduceIte, decide_true]
    · have huw' : ¬ (u : Int) = (w : Int) := by omega
      have hne : l1 ≠ l2 := by intro e; rw [e] at hu; rw [hu] at hw; exact huw (Option.some.inj hw)
      have hKf := Kf hne
      generalize ([.seq (.seq (.region [⟨some 4, none, [], (.move (.c (.bool true)))⟩] false)
 .ret)] : List Fr) = FF at *
      simp only [h0, h1, h12, h13, hc, hi, hi1, hrow, hrow2, hld, hld2, huw', u5, Nat.mul_one, wk, wk1, wk2, Option.some.injEq, exists_eq_left', decide_true, decide_false, Nat.reduceAdd, Nat.reduceEqDiff, Nat.reduceLeDiff, Nat.reduceLT, Nat.reduceMul, Nat.reduceBEq, Int.reduceLT, Int.reduceLE, Int.reduceEq, Int.reduceAdd, Int.reduceSub, Int.reduceMul, Int.reduceMod, Int.reduceTMod, Int.reduceTDiv, Int.reduceNeg, Nat.reduceSub, Nat.reduceDiv, reduceIte, reduceCtorEq]
      refine hKf _ ?_
      simp only [wk, wk1, wk2, Option.some.injEq, exists_eq_left', decide_true, decide_false, Nat.reduceAdd, Nat.reduceEqDiff, Nat.reduceLeDiff, Nat.reduceLT, Nat.reduceMul, Nat.reduceBEq, Int.reduceLT, Int.reduceLE, Int.reduceEq, Int.reduceAdd, Int.reduceSub, Int.reduceMul, Int.reduceMod, Int.reduceTMod, Int.reduceTDiv, Int.reduceNeg, Nat.reduceSub, Nat.reduceDiv, reduceIte, reduceCtorEq]
set_option maxHeartbeats 4000000 in
theorem eqU_ran (hc : T 61 = some (.code ir61)) {s : St} {b1 b2 : Nat} {x y : AV} {l1 l2 : List Nat} (hx : Slc b1 s 1 l1.length x (l1.map fun k : Nat => .int .u32 (k : Int))) (hy : Slc b2 s 1 l2.length y (l2.map fun k : Nat => .int .u32 (k : Int))) (hl : l1.length < 1000000) (hl2 : l2.length < 1000000) :
    Ran T 61 [x, y] s fun v s' => s' = s ∧ v = .bool (decide (l1 = l2)) := by
  refine ran_code hc (Nat.le_of_ble_eq_true rfl) ?_
  generalize hQ : Fin _ _ = Q
  have hlx := hx.len
  have hly := hy.len
  have hloop := fun hll => eqU_loop (T := T) (Q := Q) (l1 := l1) (l2 := l2) hx (hll ▸ hy) hl hll
  have u1 : (l1.length : Int) = (l2.length : Int) ↔ l1.length = l2.length := by omega
  by_cases hll : l2.length = l1.length
  · have hlp := hloop hll ?_ ?_ l1.length 0
    · have hll' : (l2.length : Int) = (l1.length : Int) := by omega
      rcases hlx with ⟨hz, a, rfl⟩ | ⟨rfl, hl0⟩ <;> rcases hly with ⟨hz', b, rfl⟩ | ⟨rfl, hl0'⟩
      · simp only [ir61, hll', wk, wk1, wk2, Option.some.injEq, exists_eq_left', decide_true, decide_false, Nat.reduceAdd, Nat.reduceEqDiff, Nat.reduceLeDiff, Nat.reduceLT, Nat.reduceMul, Nat.reduceBEq, Int.reduceLT, Int.reduceLE, Int.reduceEq, Int.reduceAdd, Int.reduceSub, Int.reduceMul, Int.reduceMod, Int.reduceTMod, Int.reduceTDiv, Int.reduceNeg, Nat.reduceSub, Nat.reduceDiv, reduceIte, reduceCtorEq]
        refine hlp _ (by omega) rfl ?_ ?_ ?_ ?_ <;> simp only [wk, wk1, Nat.reduceEqDiff, reduceIte, decide_true]
      · omega
      · omega
      · simp only [ir61, wk, wk1, wk2, Option.some.injEq, exists_eq_left', decide_true, decide_false, Nat.reduceAdd, Nat.reduceEqDiff, Nat.reduceLeDiff, Nat.reduceLT, Nat.reduceMul, Nat.reduceBEq, Int.reduceLT, Int.reduceLE, Int.reduceEq, Int.reduceAdd, Int.reduceSub, Int.reduceMul, Int.reduceMod, Int.reduceTMod, Int.reduceTDiv, Int.reduceNeg, Nat.reduceSub, Nat.reduceDiv, reduceIte, reduceCtorEq]
        refine hlp _ (by omega) rfl ?_ ?_ ?_ ?_ <;> simp only [hl0, wk, wk1, Nat.reduceEqDiff, reduceIte, decide_true] <;> rfl
    · intro heq e
      subst hQ
      simp only [ir61, heq, wk, wk1, wk2, Option.some.injEq, exists_eq_left', decide_true, decide_false, Nat.reduceAdd, Nat.reduceEqDiff, Nat.reduceLeDiff, Nat.reduceLT, Nat.reduceMul, Nat.reduceBEq, Int.reduceLT, Int.reduceLE, Int.reduceEq, Int.reduceAdd, Int.reduceSub, Int.reduceMul, Int.reduceMod, Int.reduceTMod, Int.reduceTDiv, Int.reduceNeg, Nat.reduceSub, Nat.reduceDiv, reduceIte, reduceCtorEq]
    · intro hne e h4
      subst hQ
      simp only [ir61, h4, hne, wk, wk1, wk2, Option.some.injEq, exists_eq_left', decide_true, decide_false, Nat.reduceAdd, Nat.reduceEqDiff, Nat.reduceLeDiff, Nat.reduceLT, Nat.reduceMul, Nat.reduceBEq, Int.reduceLT, Int.reduceLE, Int.reduceEq, Int.reduceAdd, Int.reduceSub, Int.reduceMul, Int.reduceMod, Int.reduceTMod, Int.reduceTDiv, Int.reduceNeg, Nat.reduceSub, Nat.reduceDiv, reduceIte, reduceCtorEq]
  · have hne : l1 ≠ l2 := by intro e; rw [e] at hll; exact hll rfl
    have hll' : ¬ (l1.length : Int) = (l2.length : Int) := by omega
    subst hQ
    rcases hlx with ⟨hz, a, rfl⟩ | ⟨rfl, hl0⟩ <;> rcases hly with ⟨hz', b, rfl⟩ | ⟨rfl, hl0'⟩
    · simp only [ir61, hll', wk, wk1, wk2, Option.some.injEq, exists_eq_left', decide_true, decide_false, Nat.reduceAdd, Nat.reduceEqDiff, Nat.reduceLeDiff, Nat.reduceLT, Nat.reduceMul, Nat.reduceBEq, Int.reduceLT, Int.reduceLE, Int.reduceEq, Int.reduceAdd, Int.reduceSub, Int.reduceMul, Int.reduceMod, Int.reduceTMod, Int.reduceTDiv, Int.reduceNeg, Nat.reduceSub, Nat.reduceDiv, reduceIte, reduceCtorEq]
      simp [hne]
    · have hz2 : ¬ (l1.length : Int) = 0 := by omega
      simp only [ir61, hz2, wk, wk1, wk2, Option.some.injEq, exists_eq_left', decide_true, decide_false, Nat.reduceAdd, Nat.reduceEqDiff, Nat.reduceLeDiff, Nat.reduceLT, Nat.reduceMul, Nat.reduceBEq, Int.reduceLT, Int.reduceLE, Int.reduceEq, Int.reduceAdd, Int.reduceSub, Int.reduceMul, Int.reduceMod, Int.reduceTMod, Int.reduceTDiv, Int.reduceNeg, Nat.reduceSub, Nat.reduceDiv, reduceIte, reduceCtorEq]
      simp [hne]
    · have hz2 : ¬ (0 : Int) = (l2.length : Int) := by omega
      simp only [ir61, hz2, wk, wk1, wk2, Option.some.injEq, exists_eq_left', decide_true, decide_false, Nat.reduceAdd, Nat.reduceEqDiff, Nat.reduceLeDiff, Nat.reduceLT, Nat.reduceMul, Nat.reduceBEq, Int.reduceLT, Int.reduceLE, Int.reduceEq, Int.reduceAdd, Int.reduceSub, Int.reduceMul, Int.reduceMod, Int.reduceTMod, Int.reduceTDiv, Int.reduceNeg, Nat.reduceSub, Nat.reduceDiv, reduceIte, reduceCtorEq]
      simp [hne]
    · omega

set_option maxHeartbeats 4000000 in
theorem eqB_loop {Q : Post} {s : St} {b1 b2 : Nat} {x y : AV} {l1 l2 : List Nat} (hx : Slc b1 s 1 l1.length x (l1.map fun k : Nat => .int .u8 (k : Int))) (hy : Slc b2 s 1 l1.length y (l2.map fun k : Nat => .int .u8 (k : Int))) (hl : l1.length < 1000000) (hll : l2.length = l1.length)
    (Kt : l1 = l2 → ∀ e : Env, Ret T Q [.seq (.seq (.region [⟨some 4, none, [], (.move (.c (.bool true)))⟩] false)
 .ret)] .normal e s) (Kf : l1 ≠ l2 → ∀ e : Env, opd e (.t 4) = .bool false → Ret T Q [.seq (.seq (.region [⟨some 4, none, [], (.move (.c (.bool true)))⟩] false)
 .ret)] .ret e s) :
    ∀ (m i : Nat) (e : Env), m + i = l1.length → l1.take i = l2.take i → opd e (.t 0) = x → opd e (.t 1) = y → opd e (.t 12) = .int .i64 (l1.length : Int) → opd e (.t 13) = .int .i64 (i : Int) →
      Go T Q (memEl1) [.block 0, .seq (.seq (.region [⟨some 4, none, [], (.move (.c (.bool true)))⟩] false)
 .ret)] e s := by
  intro m
  induction m with
  | zero =>
    intro i e hm ht h0 h1 h12 h13
    have hin : i = l1.length := by omega
    subst hin
    rw [List.take_length, List.take_of_length_le (by omega)] at ht
    have hK := Kt ht
    rw [go_loop]
    generalize ([.seq (.seq (.region [⟨some 4, none, [], (.move (.c (.bool true)))⟩] false)
 .ret)] : List Fr) = FF at *
    simp only [h12, h13, hK, wk, wk1, wk2, Option.some.injEq, exists_eq_left', decide_true, decide_false, Nat.reduceAdd, Nat.reduceEqDiff, Nat.reduceLeDiff, Nat.reduceLT, Nat.reduceMul, Nat.reduceBEq, Int.reduceLT, Int.reduceLE, Int.reduceEq, Int.reduceAdd, Int.reduceSub, Int.reduceMul, Int.reduceMod, Int.reduceTMod, Int.reduceTDiv, Int.reduceNeg, Nat.reduceSub, Nat.reduceDiv, reduceIte, reduceCtorEq]
  | succ m ih =>
    intro i e hm ht h0 h1 h12 h13
    have hi : i < l1.length := by omega
    obtain ⟨_, ⟨hn0, _⟩ | ⟨hn0, id, inc, rfl, _, _, hrow⟩⟩ := hx
    · omega
    obtain ⟨_, ⟨hn0, _⟩ | ⟨hn0, id2, inc2, rfl, _, _, hrow2⟩⟩ := hy
    · omega
    obtain ⟨u, hu⟩ : ∃ x, l1[i]? = some x := ⟨_, List.getElem?_eq_getElem hi⟩
    obtain ⟨w, hw⟩ : ∃ x, l2[i]? = some x := ⟨_, List.getElem?_eq_getElem (by omega)⟩
    have hld := take_map (f := fun k : Nat => AV.int .u8 (k : Int)) l1 i u hu
    have hld2 := take_map (f := fun k : Nat => AV.int .u8 (k : Int)) l2 i w hw
    have hc : (i : Int) < (l1.length : Int) := by omega
    have hi1 : i + 1 ≤ l1.length := hi
    have u5 : wrapF .i64 ((i : Int) + 1) = ((i + 1 : Nat) : Int) := i64_add1 (by omega)
    rw [go_loop]
    by_cases huw : u = w
    · have huw' : (u : Int) = (w : Int) := by omega
      simp only [h0, h1, h12, h13, hc, hi, hi1, hrow, hrow2, hld, hld2, huw', u5, Nat.mul_one, wk, wk1, wk2, Option.some.injEq, exists_eq_left', decide_true, decide_false, Nat.reduceAdd, Nat.reduceEqDiff, Nat.reduceLeDiff, Nat.reduceLT, Nat.reduceMul, Nat.reduceBEq, Int.reduceLT, Int.reduceLE, Int.reduceEq, Int.reduceAdd, Int.reduceSub, Int.reduceMul, Int.reduceMod, Int.reduceTMod, Int.reduceTDiv, Int.reduceNeg, Nat.reduceSub, Nat.reduceDiv, reduceIte, reduceCtorEq]
      refine ih (i + 1) _ (by omega) ?_ ?_ ?_ ?_ ?_
      · rw [List.take_add_one, List.take_add_one, ht, hu, hw, huw]
      all_goals simp only [h0, h1, h12, h13, u5, wk, wk1, Nat.reduceEqDiff, reduceIte, decide_true]
    · have huw' : ¬ (u : Int) = (w : Int) := by omega
      have hne : l1 ≠ l2 := by intro e; rw [e] at hu; rw [hu] at hw; exact huw (Option.some.inj hw)
      have hKf := Kf hne
      generalize ([.seq (.seq (.region [⟨some 4, none, [], (.move (.c (.bool true)))⟩] false)
 .ret)] : List Fr) = FF at *
      simp only [h0, h1, h12, h13, hc, hi, hi1, hrow, hrow2, hld, hld2, huw', u5, Nat.mul_one, wk, wk1, wk2, Option.some.injEq, exists_eq_left', decide_true, decide_false, Nat.reduceAdd, Nat.reduceEqDiff, Nat.reduceLeDiff, Nat.reduceLT, Nat.reduceMul, Nat.reduceBEq, Int.reduceLT, Int.reduceLE, Int.reduceEq, Int.reduceAdd, Int.reduceSub, Int.reduceMul, Int.reduceMod, Int.reduceTMod, Int.reduceTDiv, Int.reduceNeg, Nat.reduceSub, Nat.reduceDiv, reduceIte, reduceCtorEq]
      refine hKf _ ?_
      simp only [wk, wk1, wk2, Option.some.injEq, exists_eq_left', decide_true, decide_false, Nat.reduceAdd, Nat.reduceEqDiff, Nat.reduceLeDiff, Nat.reduceLT, Nat.reduceMul, Nat.reduceBEq, Int.reduceLT, Int.reduceLE, Int.reduceEq, Int.reduceAdd, Int.reduceSub, Int.reduceMul, Int.reduceMod, Int.reduceTMod, Int.reduceTDiv, Int.reduceNeg, Nat.reduceSub, Nat.reduceDiv, reduceIte, reduceCtorEq]
set_option maxHeartbeats 4000000 in
theorem eqB_ran (hc : T 62 = some (.code ir62)) {s : St} {b1 b2 : Nat} {x y : AV} {l1 l2 : List Nat} (hx : Slc b1 s 1 l1.length x (l1.map fun k : Nat => .int .u8 (k : Int))) (hy : Slc b2 s 1 l2.length y (l2.map fun k : Nat => .int .u8 (k : Int))) (hl : l1.length < 1000000) (hl2 : l2.length < 1000000) :
    Ran T 62 [x, y] s fun v s' => s' = s ∧ v = .bool (decide (l1 = l2)) := by
  refine ran_code hc (Nat.le_of_ble_eq_true rfl) ?_
  generalize hQ : Fin _ _ = Q
  have hlx := hx.len
  have hly := hy.len
  have hloop := fun hll => eqB_loop (T := T) (Q := Q) (l1 := l1) (l2 := l2) hx (hll ▸ hy) hl hll
  have u1 : (l1.length : Int) = (l2.length : Int) ↔ l1.length = l2.length := by omega
  by_cases hll : l2.length = l1.length
  · have hlp := hloop hll ?_ ?_ l1.length 0
    · have hll' : (l2.length : Int) = (l1.length : Int) := by omega
      rcases hlx with ⟨hz, a, rfl⟩ | ⟨rfl, hl0⟩ <;> rcases hly with ⟨hz', b, rfl⟩ | ⟨rfl, hl0'⟩
      · simp only [ir62, hll', wk, wk1, wk2, Option.some.injEq, exists_eq_left', decide_true, decide_false, Nat.reduceAdd, Nat.reduceEqDiff, Nat.reduceLeDiff, Nat.reduceLT, Nat.reduceMul, Nat.reduceBEq, Int.reduceLT, Int.reduceLE, Int.reduceEq, Int.reduceAdd, Int.reduceSub, Int.reduceMul, Int.reduceMod, Int.reduceTMod, Int.reduceTDiv, Int.reduceNeg, Nat.reduceSub, Nat.reduceDiv, reduceIte, reduceCtorEq]
        refine hlp _ (by omega) rfl ?_ ?_ ?_ ?_ <;> simp only [wk, wk1, Nat.reduceEqDiff, reduceIte, decide_true]
      · omega
      · omega
      · simp only [ir62, wk, wk1, wk2, Option.some.injEq, exists_eq_left', decide_true, decide_false, Nat.reduceAdd, Nat.reduceEqDiff, Nat.reduceLeDiff, Nat.reduceLT, Nat.reduceMul, Nat.reduceBEq, Int.reduceLT, Int.reduceLE, Int.reduceEq, Int.reduceAdd, Int.reduceSub, Int.reduceMul, Int.reduceMod, Int.reduceTMod, Int.reduceTDiv, Int.reduceNeg, Nat.reduceSub, Nat.reduceDiv, reduceIte, reduceCtorEq]
        refine hlp _ (by omega) rfl ?_ ?_ ?_ ?_ <;> simp only [hl0, wk, wk1, Nat.reduceEqDiff, reduceIte, decide_true] <;> rfl
    · intro heq e
      subst hQ
      simp only [ir62, heq, wk, wk1, wk2, Option.some.injEq, exists_eq_left', decide_true, decide_false, Nat.reduceAdd, Nat.reduceEqDiff, Nat.reduceLeDiff, Nat.reduceLT, Nat.reduceMul, Nat.reduceBEq, Int.reduceLT, Int.reduceLE, Int.reduceEq, Int.reduceAdd, Int.reduceSub, Int.reduceMul, Int.reduceMod, Int.reduceTMod, Int.reduceTDiv, Int.reduceNeg, Nat.reduceSub, Nat.reduceDiv, reduceIte, reduceCtorEq]
    · intro hne e h4
      subst hQ
      simp only [ir62, h4, hne, wk, wk1, wk2, Option.some.injEq, exists_eq_left', decide_true, decide_false, Nat.reduceAdd, Nat.reduceEqDiff, Nat.reduceLeDiff, Nat.reduceLT, Nat.reduceMul, Nat.reduceBEq, Int.reduceLT, Int.reduceLE, Int.reduceEq, Int.reduceAdd, Int.reduceSub, Int.reduceMul, Int.reduceMod, Int.reduceTMod, Int.reduceTDiv, Int.reduceNeg, Nat.reduceSub, Nat.reduceDiv, reduceIte, reduceCtorEq]
  · have hne : l1 ≠ l2 := by intro e; rw [e] at hll; exact hll rfl
    have hll' : ¬ (l1.length : Int) = (l2.length : Int) := by omega
    subst hQ
    rcases hlx with ⟨hz, a, rfl⟩ | ⟨rfl, hl0⟩ <;> rcases hly with ⟨hz', b, rfl⟩ | ⟨rfl, hl0'⟩
    · simp only [ir62, hll', wk, wk1, wk2, Option.some.injEq, exists_eq_left', decide_true, decide_false, Nat.reduceAdd, Nat.reduceEqDiff, Nat.reduceLeDiff, Nat.reduceLT, Nat.reduceMul, Nat.reduceBEq, Int.reduceLT, Int.reduceLE, Int.reduceEq, Int.reduceAdd, Int.reduceSub, Int.reduceMul, Int.reduceMod, Int.reduceTMod, Int.reduceTDiv, Int.reduceNeg, Nat.reduceSub, Nat.reduceDiv, reduceIte, reduceCtorEq]
      simp [hne]
    · have hz2 : ¬ (l1.length : Int) = 0 := by omega
      simp only [ir62, hz2, wk, wk1, wk2, Option.some.injEq, exists_eq_left', decide_true, decide_false, Nat.reduceAdd, Nat.reduceEqDiff, Nat.reduceLeDiff, Nat.reduceLT, Nat.reduceMul, Nat.reduceBEq, Int.reduceLT, Int.reduceLE, Int.reduceEq, Int.reduceAdd, Int.reduceSub, Int.reduceMul, Int.reduceMod, Int.reduceTMod, Int.reduceTDiv, Int.reduceNeg, Nat.reduceSub, Nat.reduceDiv, reduceIte, reduceCtorEq]
      simp [hne]
    · have hz2 : ¬ (0 : Int) = (l2.length : Int) := by omega
      simp only [ir62, hz2, wk, wk1, wk2, Option.some.injEq, exists_eq_left', decide_true, decide_false, Nat.reduceAdd, Nat.reduceEqDiff, Nat.reduceLeDiff, Nat.reduceLT, Nat.reduceMul, Nat.reduceBEq, Int.reduceLT, Int.reduceLE, Int.reduceEq, Int.reduceAdd, Int.reduceSub, Int.reduceMul, Int.reduceMod, Int.reduceTMod, Int.reduceTDiv, Int.reduceNeg, Nat.reduceSub, Nat.reduceDiv, reduceIte, reduceCtorEq]
      simp [hne]
    · omega
end
end Go.V
