/- flow: rows that are read, rows that grow, maps; the plain facts. -/
import Derived.Test.YteepeacefpkmbaaGreatDoorPA
set_option linter.unusedVariables false
set_option linter.unusedSimpArgs false
set_option linter.unusedSectionVars false
/- flow: rows that are read, rows that grow, maps; the plain facts. -/
namespace Go.V
open Go
set_option linter.unusedSimpArgs false
set_option linter.unusedVariables false
/- what is read -/
def Lens (v : AV) (n : Nat) : Prop := (n = 0 ∧ (v = .nilSlice ∨ v = .empty)) ∨ ∃ a cap ex es, v = .slice a n cap ex es
theorem len_op {v : AV} {n : Nat} (hv : Lens v n) (T : Tab) (Q : Post) (fs : List Fr) (d : Bool) (l : List IOp) (dst : Option Nat) (w : List Opd) (x : Opd) (e : Env) (s : St) (h : opd e x = v) :
    GoOps T Q d (⟨dst, none, w, .lenSl x⟩ :: l) fs e s ↔ GoR T Q d dst w (.val (.int .i64 (n : Int)) s) l fs e s := by
  rw [wo_lenSl, h]
  rcases hv with ⟨rfl, rfl | rfl⟩ | ⟨a, cap, ex, es, rfl⟩
  · exact Iff.rfl
  · exact Iff.rfl
  · show GoR T Q d dst w (.val (mkInt .i64 n) s) l fs e s ↔ _
    rw [mkInt_eq]
def RdS (s : St) (es n : Nat) (v : AV) (xs : List AV) : Prop := xs.length = n * es ∧ ((n = 0 ∧ (v = .nilSlice ∨ v = .empty)) ∨ ∃ id lo inc' inc lim cap ex ro cs, v = .slice ⟨id, 0, inc, lim⟩ n cap ex es ∧ id < s.next ∧ s.heap.get id = some (.cells cs lo inc' ro) ∧ lo ≤ inc ∧ inc ≤ inc' ∧ n * es ≤ lim ∧ cs.take (n * es) = xs)
theorem RdS.lens {s : St} {es n : Nat} {v : AV} {xs : List AV} (h : RdS s es n v xs) : Lens v n := by
  obtain ⟨_, h | ⟨id, lo, inc', inc, lim, cap, ex, ro, cs, rfl, _⟩⟩ := h
  · exact .inl h
  · exact .inr ⟨_, _, _, _, rfl⟩
theorem RdS.ext {s s' : St} {es n : Nat} {v : AV} {xs : List AV} (h : RdS s es n v xs) (he : Ext s s') : RdS s' es n v xs := by
  obtain ⟨h0, h | ⟨id, lo, inc', inc, lim, cap, ex, ro, cs, h1, h2, h3, h4⟩⟩ := h
  · exact ⟨h0, .inl h⟩
  · exact ⟨h0, .inr ⟨id, lo, inc', inc, lim, cap, ex, ro, cs, h1, Nat.lt_of_lt_of_le h2 he.2.1, by rw [he.2.2 id h2]; exact h3, h4⟩⟩
theorem RdS.nil (s : St) (es : Nat) : RdS s es 0 .nilSlice [] := ⟨by simp, .inl ⟨rfl, .inl rfl⟩⟩
theorem RdS.more {s : St} {es n : Nat} {v : AV} {xs : List AV} (h : RdS s es n v xs) : moreV s es v = some xs := by
  obtain ⟨h0, ⟨rfl, h⟩ | ⟨id, lo, inc', inc, lim, cap, ex, ro, cs, rfl, h2, h3, h4, h5, h6, h7⟩⟩ := h
  · have : xs = [] := List.length_eq_zero_iff.1 (by simpa using h0)
    subst this
    rcases h with rfl | rfl <;> rfl
  · rw [more_sl, if_pos rfl, h3, rdCells_eq, if_pos ⟨h4, h5, by show 0 + n * es ≤ lim; omega⟩, List.drop_zero, h7]
theorem take_drop_take {α : Type} (l : List α) (m j k : Nat) (h : j + k ≤ m) : ((l.take m).drop j).take k = (l.drop j).take k := by
  rw [List.drop_take, List.take_take, Nat.min_eq_left (by omega)]
/-- An element of a row. -/
theorem RdS.at {s : St} {es n : Nat} {v : AV} {xs : List AV} (h : RdS s es n v xs) {i : Nat} (hi : i < n) : ∃ id lo inc' inc lim cap ex ro cs, v = .slice ⟨id, 0, inc, lim⟩ n cap ex es ∧ s.heap.get id = some (.cells cs lo inc' ro) ∧ lo ≤ inc ∧ inc ≤ inc' ∧ n * es ≤ lim ∧ (∀ j k, j + k ≤ n * es → (cs.drop j).take k = (xs.drop j).take k) := by
  obtain ⟨h0, ⟨rfl, h⟩ | ⟨id, lo, inc', inc, lim, cap, ex, ro, cs, rfl, h2, h3, h4, h5, h6, h7⟩⟩ := h
  · omega
  · refine ⟨id, lo, inc', inc, lim, cap, ex, ro, cs, rfl, h3, h4, h5, h6, fun j k hjk => ?_⟩
    rw [← h7, take_drop_take _ _ _ _ hjk]
abbrev u32s (l : List Nat) : List AV := l.map fun k : Nat => .int .u32 (k : Int)
def U32 (s : St) (v : AV) (l : List Nat) : Prop := RdS s 1 l.length v (u32s l)
theorem U32.lens {s : St} {v : AV} {l : List Nat} (h : U32 s v l) : Lens v l.length := RdS.lens h
theorem U32.ext {s s' : St} {v : AV} {l : List Nat} (h : U32 s v l) (he : Ext s s') : U32 s' v l := RdS.ext h he
theorem takeM1 {α β : Type} (f : α → β) (l : List α) (i : Nat) (u : α) (hu : l[i]? = some u) : ((l.map f).drop i).take 1 = [f u] := by
  have h : (l.map f)[i]? = some (f u) := by rw [List.getElem?_map, hu]; rfl
  obtain ⟨hi, he⟩ := List.getElem?_eq_some_iff.1 h
  rw [List.drop_eq_getElem_cons hi, he]
  rfl
theorem U32.at {s : St} {v : AV} {l : List Nat} (h : U32 s v l) {i x : Nat} (hx : l[i]? = some x) : ∃ id lo inc' inc lim cap ex ro cs, v = .slice ⟨id, 0, inc, lim⟩ l.length cap ex 1 ∧ s.heap.get id = some (.cells cs lo inc' ro) ∧ lo ≤ inc ∧ inc ≤ inc' ∧ i + 1 ≤ lim ∧ (cs.drop i).take 1 = [.int .u32 (x : Int)] ∧ i < l.length := by
  have hi : i < l.length := (List.getElem?_eq_some_iff.1 hx).1
  obtain ⟨id, lo, inc', inc, lim, cap, ex, ro, cs, h1, h2, h3, h4, h5, h6⟩ := RdS.at h hi
  refine ⟨id, lo, inc', inc, lim, cap, ex, ro, cs, h1, h2, h3, h4, by omega, ?_, hi⟩
  rw [h6 i 1 (by omega)]
  exact takeM1 _ l i x hx
/- nodes -/
structure ND where
  at_ : Nat
  w : AV
  nx : AV
  op : AV
  to : List Nat
def ND.cells (n : ND) : List AV := [.int .u32 (n.at_ : Int), n.w, n.nx, n.op]
structure ND.Ok (s : St) (n : ND) : Prop where
  rd : U32 s n.nx n.to
  cw : n.w.isCell = true
  cn : n.nx.isCell = true
  co : n.op.isCell = true
  len : n.to.length ≤ 8
structure NdS (s : St) (v : AV) (L : List ND) : Prop where
  rd : RdS s 4 L.length v (L.flatMap ND.cells)
  ok : ∀ n ∈ L, n.Ok s
  len : L.length ≤ 30
theorem NdS.ext {s s' : St} {v : AV} {L : List ND} (h : NdS s v L) (he : Ext s s') : NdS s' v L :=
  ⟨h.rd.ext he, fun n hn => ⟨(h.ok n hn).rd.ext he, (h.ok n hn).cw, (h.ok n hn).cn, (h.ok n hn).co, (h.ok n hn).len⟩, h.len⟩
theorem NdS.lens {s : St} {v : AV} {L : List ND} (h : NdS s v L) : Lens v L.length := h.rd.lens
theorem take_four {α : Type} {f : α → List AV} (hf : ∀ x, (f x).length = 4) (l : List α) (i : Nat) (x : α) (h : l[i]? = some x) (o k : Nat) (hk : o + k ≤ 4) : List.take k (List.drop (i * 4 + o) (l.flatMap f)) = ((f x).drop o).take k := by
  induction l generalizing i with
  | nil => simp at h
  | cons y l ih =>
    rw [List.flatMap_cons]
    cases i with
    | zero =>
      simp at h; subst h
      rw [Nat.zero_mul, Nat.zero_add, List.drop_append_of_le_length (by rw [hf]; omega), List.take_append_of_le_length (by rw [List.length_drop, hf]; omega)]
    | succ i =>
      have h2 : (i + 1) * 4 + o = (f y).length + (i * 4 + o) := by rw [hf]; omega
      rw [h2, List.drop_append, Nat.add_sub_cancel_left, List.drop_eq_nil_of_le (by omega), List.nil_append]
      exact ih i (by simpa using h)
theorem NdS.at {s : St} {v : AV} {L : List ND} (h : NdS s v L) {i : Nat} {n : ND} (hx : L[i]? = some n) : ∃ id lo inc' inc lim cap ex ro cs, v = .slice ⟨id, 0, inc, lim⟩ L.length cap ex 4 ∧ s.heap.get id = some (.cells cs lo inc' ro) ∧ lo ≤ inc ∧ inc ≤ inc' ∧ i * 4 + 1 ≤ lim ∧ i * 4 + 3 ≤ lim ∧ i * 4 + 4 ≤ lim ∧ (cs.drop (i * 4)).take 1 = [.int .u32 (n.at_ : Int)] ∧ (cs.drop (i * 4 + 2)).take 1 = [n.nx] ∧ (cs.drop (i * 4)).take 4 = [.int .u32 (n.at_ : Int), n.w, n.nx, n.op] ∧ i < L.length ∧ n.Ok s := by
  have hi : i < L.length := (List.getElem?_eq_some_iff.1 hx).1
  obtain ⟨id, lo, inc', inc, lim, cap, ex, ro, cs, h1, h2, h3, h4, h5, h6⟩ := h.rd.at hi
  have hc : ∀ x : ND, x.cells.length = 4 := fun _ => rfl
  refine ⟨id, lo, inc', inc, lim, cap, ex, ro, cs, h1, h2, h3, h4, by omega, by omega, by omega, ?_, ?_, ?_, hi, h.ok n (List.mem_of_getElem? hx)⟩
  · rw [h6 _ _ (by omega)]; exact take_four hc L i n hx 0 1 (by omega)
  · rw [h6 _ _ (by omega)]; exact take_four hc L i n hx 2 1 (by omega)
  · rw [h6 _ _ (by omega)]; exact take_four hc L i n hx 0 4 (by omega)
abbrev Gr := List (Nat × List Nat)
def gr (L : List ND) : Gr := L.map fun n => (n.at_, n.to)
def fnd : Gr → Nat → Option (List Nat)
  | [], _ => none
  | p :: g, k => if p.1 = k then some p.2 else fnd g k
theorem fnd_append (g h : Gr) (k : Nat) : fnd (g ++ h) k = match fnd g k with | some t => some t | none => fnd h k := by
  induction g with
  | nil => rfl
  | cons p g ih =>
    simp only [List.cons_append, fnd, ih]
    by_cases hp : p.1 = k
    · rw [if_pos hp, if_pos hp]
    · rw [if_neg hp, if_neg hp]
theorem gr_take (L : List ND) (i : Nat) : gr (L.take i) = (gr L).take i := by unfold gr; rw [List.map_take]
theorem fnd_none_step {L : List ND} {i k : Nat} {n : ND} (h : fnd (gr (L.take i)) k = none) (hn : L[i]? = some n) (hk : n.at_ ≠ k) : fnd (gr (L.take (i + 1))) k = none := by
  have : L.take (i + 1) = L.take i ++ [n] := by rw [List.take_add_one, hn]; rfl
  rw [this]
  unfold gr at *
  rw [List.map_append, fnd_append, h]
  simp [fnd, hk]
theorem fnd_hit {L : List ND} {i k : Nat} {n : ND} (h : fnd (gr (L.take i)) k = none) (hn : L[i]? = some n) (hk : n.at_ = k) : fnd (gr L) k = some n.to := by
  have hi := (List.getElem?_eq_some_iff.1 hn)
  obtain ⟨hlt, he⟩ := hi
  have : L = L.take i ++ (n :: L.drop (i + 1)) := by
    conv => lhs; rw [← List.take_append_drop i L, List.drop_eq_getElem_cons hlt, he]
  rw [this]
  unfold gr at *
  rw [List.map_append, fnd_append, h]
  simp [fnd, hk]
theorem fnd_mem {g : Gr} {k : Nat} {t : List Nat} (h : fnd g k = some t) : (k, t) ∈ g := by
  induction g with
  | nil => cases h
  | cons p g ih =>
    simp only [fnd] at h
    by_cases hp : p.1 = k
    · rw [if_pos hp] at h; cases h; rw [← hp]; exact List.mem_cons_self
    · rw [if_neg hp] at h; exact List.mem_cons_of_mem _ (ih h)
theorem fnd_of_mem {g : Gr} {k : Nat} {t : List Nat} (h : (k, t) ∈ g) : ∃ t', fnd g k = some t' := by
  induction g with
  | nil => cases h
  | cons p g ih =>
    simp only [fnd]
    by_cases hp : p.1 = k
    · rw [if_pos hp]; exact ⟨_, rfl⟩
    · rw [if_neg hp]
      rcases List.mem_cons.1 h with rfl | h
      · exact absurd rfl hp
      · exact ih h
/- reached -/
inductive Rch (g : Gr) (f : Nat) : Nat → Prop
  | base {t : List Nat} : fnd g f = some t → Rch g f f
  | step {a b : Nat} {t u : List Nat} : Rch g f a → fnd g a = some t → b ∈ t → fnd g b = some u → Rch g f b
theorem Rch.node {g : Gr} {f k : Nat} (h : Rch g f k) : ∃ t, fnd g k = some t := by
  cases h with
  | base h => exact ⟨_, h⟩
  | step _ _ _ h => exact ⟨_, h⟩
/-- A list that holds what is reached at once is closed. -/
theorem rch_sub {g : Gr} {f : Nat} {l : List Nat} (h0 : ∀ t, fnd g f = some t → f ∈ l) (hs : ∀ a ∈ l, ∀ t, fnd g a = some t → ∀ b ∈ t, ∀ u, fnd g b = some u → b ∈ l) {k : Nat} (h : Rch g f k) : k ∈ l := by
  induction h with
  | base h => exact h0 _ h
  | step _ h1 h2 h3 ih => exact hs _ ih _ h1 _ h2 _ h3
theorem sub_len : ∀ {l m : List Nat}, l.Nodup → (∀ x ∈ l, x ∈ m) → l.length ≤ m.length
  | [], _, _, _ => Nat.zero_le _
  | x :: l, m, hn, h => by
    have hn' := List.nodup_cons.1 hn
    have hx : x ∈ m := h x List.mem_cons_self
    have h1 : l.length ≤ (m.erase x).length := sub_len hn'.2 fun y hy => by
      have hne : y ≠ x := fun e => hn'.1 (e ▸ hy)
      exact (List.mem_erase_of_ne hne).2 (h y (List.mem_cons_of_mem _ hy))
    have h2 := List.length_erase_of_mem hx
    have h3 : 0 < m.length := List.length_pos_of_mem hx
    simp only [List.length_cons]
    omega
theorem rise_nodup {l : List Nat} (h : l.Pairwise (· < ·)) : l.Nodup := h.imp fun h => Nat.ne_of_lt h
theorem rise_eq {l m : List Nat} (h1 : l.Pairwise (· < ·)) (h2 : m.Pairwise (· < ·)) (h : ∀ x, x ∈ l ↔ x ∈ m) : l = m :=
  List.Perm.eq_of_pairwise (fun a b _ _ h1 h2 => by omega) h1 h2 ((List.perm_ext_iff_of_nodup (rise_nodup h1) (rise_nodup h2)).2 h)
/- put -/
def putL (k : Nat) : Bool → List Nat → List Nat
  | d, [] => if d = true then [] else [k]
  | d, a :: l => (if d = false ∧ k ≤ a then [k] else []) ++ ((if a = k then [] else [a]) ++ putL k (d || decide (k ≤ a)) l)
theorem putL_true (k : Nat) : ∀ l : List Nat, putL k true l = l.filter fun a => a != k
  | [] => rfl
  | a :: l => by
    simp only [putL, putL_true k l, List.filter_cons, Bool.true_or]
    by_cases h : a = k <;> simp [h]
theorem putL_mem {k x : Nat} : ∀ {l : List Nat}, x ∈ putL k false l ↔ x = k ∨ x ∈ l
  | [] => by simp [putL]
  | a :: l => by
    simp only [putL, true_and, Bool.false_or, List.mem_append, List.mem_cons]
    by_cases h1 : k ≤ a
    · rw [if_pos h1, decide_eq_true h1, putL_true]
      by_cases h2 : a = k
      · subst h2
        simp only [if_pos, List.mem_singleton, List.mem_filter, bne_iff_ne, List.not_mem_nil, false_or]
        constructor
        · rintro (h | ⟨h, _⟩)
          · exact .inl h
          · exact .inr (.inr h)
        · rintro (h | h | h)
          · exact .inl h
          · exact .inl h
          · by_cases hx : x = a
            · exact .inl hx
            · exact .inr ⟨h, hx⟩
      · rw [if_neg h2]
        simp only [List.mem_singleton, List.mem_filter, bne_iff_ne]
        constructor
        · rintro (h | h | ⟨h, _⟩)
          · exact .inl h
          · exact .inr (.inl h)
          · exact .inr (.inr h)
        · rintro (h | h | h)
          · exact .inl h
          · exact .inr (.inl h)
          · by_cases hx : x = k
            · exact .inl hx
            · exact .inr (.inr ⟨h, hx⟩)
    · rw [if_neg h1, if_neg (by omega), decide_eq_false h1, putL_mem]
      simp only [List.not_mem_nil, false_or, List.mem_singleton]
      constructor
      · rintro (h | h | h)
        · exact .inr (.inl h)
        · exact .inl h
        · exact .inr (.inr h)
      · rintro (h | h | h)
        · exact .inr (.inl h)
        · exact .inl h
        · exact .inr (.inr h)
theorem putL_rise {k : Nat} : ∀ {l : List Nat} (d : Bool), l.Pairwise (· < ·) → (putL k d l).Pairwise (· < ·)
  | l, true, h => by rw [putL_true]; exact h.filter _
  | [], false, _ => by simp [putL]
  | a :: l, false, h => by
    have ha := List.pairwise_cons.1 h
    simp only [putL, true_and, Bool.false_or]
    by_cases h1 : k ≤ a
    · rw [if_pos h1, decide_eq_true h1, putL_true]
      by_cases h2 : a = k
      · rw [if_pos h2, List.nil_append]
        refine List.pairwise_cons.2 ⟨fun q hq => ?_, ha.2.filter _⟩
        have := ha.1 q (List.mem_filter.1 hq).1; omega
      · rw [if_neg h2]
        simp only [List.cons_append, List.nil_append]
        refine List.pairwise_cons.2 ⟨fun q hq => ?_, List.pairwise_cons.2 ⟨fun q hq => ha.1 q (List.mem_filter.1 hq).1, ha.2.filter _⟩⟩
        rcases List.mem_cons.1 hq with rfl | hq
        · omega
        · have := ha.1 q (List.mem_filter.1 hq).1; omega
    · rw [if_neg h1, if_neg (by omega), decide_eq_false h1, List.nil_append]
      refine List.pairwise_cons.2 ⟨fun q hq => ?_, putL_rise false ha.2⟩
      rcases putL_mem.1 hq with rfl | hq
      · omega
      · exact ha.1 q hq
theorem putL_len {k : Nat} {l : List Nat} (hr : l.Pairwise (· < ·)) (h : k ∉ l) : (putL k false l).length = l.length + 1 := by
  have h1 : (putL k false l).length ≤ (k :: l).length := sub_len (rise_nodup (putL_rise false hr)) fun x hx => by
    rcases putL_mem.1 hx with rfl | hx
    · exact List.mem_cons_self
    · exact List.mem_cons_of_mem _ hx
  have h2 : (k :: l).length ≤ (putL k false l).length := sub_len (List.nodup_cons.2 ⟨h, rise_nodup hr⟩) fun x hx => putL_mem.2 (List.mem_cons.1 hx)
  simp only [List.length_cons] at h1 h2
  omega
/- rows that grow -/
def Slc (b : Nat) (s : St) (es n : Nat) (v : AV) (xs : List AV) : Prop := xs.length = n * es ∧ ((n = 0 ∧ v = .nilSlice) ∨ (0 < n ∧ ∃ id inc, v = .slice ⟨id, 0, inc, n * es⟩ n n false es ∧ b ≤ id ∧ id < s.next ∧ s.heap.get id = some (.cells xs 0 inc false)))
theorem Slc.nil (b : Nat) (s : St) (es : Nat) : Slc b s es 0 .nilSlice [] := ⟨by simp, .inl ⟨rfl, rfl⟩⟩
theorem Slc.mono {b b' : Nat} {s : St} {es n : Nat} {v : AV} {xs : List AV} (h : Slc b s es n v xs) (hb : b' ≤ b) : Slc b' s es n v xs := by
  obtain ⟨h1, h2 | ⟨h0, id, inc, h2, h3, h4⟩⟩ := h
  · exact ⟨h1, .inl h2⟩
  · exact ⟨h1, .inr ⟨h0, id, inc, h2, Nat.le_trans hb h3, h4⟩⟩
theorem Slc.ext {b : Nat} {s s' : St} {es n : Nat} {v : AV} {xs : List AV} (h : Slc b s es n v xs) (he : Ext s s') : Slc b s' es n v xs := by
  obtain ⟨h1, h2 | ⟨h0, id, inc, h2, h3, h4, h5⟩⟩ := h
  · exact ⟨h1, .inl h2⟩
  · exact ⟨h1, .inr ⟨h0, id, inc, h2, h3, Nat.lt_of_lt_of_le h4 he.2.1, by rw [he.2.2 id h4]; exact h5⟩⟩
theorem Slc.rd {b : Nat} {s : St} {es n : Nat} {v : AV} {xs : List AV} (h : Slc b s es n v xs) : RdS s es n v xs := by
  obtain ⟨h1, h2 | ⟨h0, id, inc, h2, h3, h4, h5⟩⟩ := h
  · exact ⟨h1, .inl ⟨h2.1, .inl h2.2⟩⟩
  · exact ⟨h1, .inr ⟨id, 0, inc, inc, n * es, n, false, false, xs, h2, h4, h5, Nat.zero_le _, Nat.le_refl _, Nat.le_refl _, List.take_of_length_le (by omega)⟩⟩
theorem Slc.app {s0 s : St} {es n : Nat} {v : AV} {xs more : List AV} (h : Slc s0.next s es n v xs) (he : Ext s0 s) (hm : more.length = es) (hc : more.all AV.isCell = true) (h0 : 0 < es) (hn : n < 1000000) :
    ∃ v' s', appendV (s.add (.cells more 0 0 false)) es v 1 more = some (v', s') ∧ Slc s0.next s' es (n + 1) v' (xs ++ more) ∧ Ext s0 s' := by
  have hlim : (n + 1) * 65536 ≤ maxApp := by unfold maxApp; omega
  obtain ⟨h1, ⟨hn0, rfl⟩ | ⟨hn0, id, inc, rfl, h3, h4, h5⟩⟩ := h
  · subst hn0
    have hx : xs = [] := List.length_eq_zero_iff.1 (by rw [h1]; omega)
    subst hx
    rw [app_nil, if_pos ⟨by omega, hc, h0⟩, if_neg (by omega), if_pos (by simpa using hlim)]
    refine ⟨_, _, rfl, ⟨by simp [hm], .inr ⟨by omega, s.next + 1, 0, rfl, ?_, ?_, ?_⟩⟩, (he.add _).add _⟩
    · have := he.2.1; show s0.next ≤ s.next + 1; omega
    · show s.next + 1 < s.next + 1 + 1; omega
    · rw [add_get, if_pos (show s.next + 1 = (s.add (.cells more 0 0 false)).next from rfl)]; rfl
  · rw [app_slice, if_pos ⟨by omega, hc, h0⟩, if_neg (by omega), if_pos ⟨rfl, hlim⟩]
    have hg : (s.add (.cells more 0 0 false)).heap.get id = some (.cells xs 0 inc false) := by rw [add_get, if_neg (by omega)]; exact h5
    rw [hg, appObj_eq, if_neg (by omega), if_neg (by simp), if_pos ⟨rfl, rfl, by omega, by simp⟩]
    have hp : 0 + n * es = xs.length := by omega
    simp only [hp, if_true, List.take_length]
    have hn1 : xs.length + more.length = (n + 1) * es := by rw [h1, hm, Nat.succ_mul]
    refine ⟨_, _, rfl, ⟨by simp [hn1], .inr ⟨by omega, id, inc + 1, by rw [hn1], h3, ?_, ?_⟩⟩, Ext.put (he.add _) h3 (by show id < s.next + 1; omega) _⟩
    · show id < s.next + 1; omega
    · rw [put_get, if_pos rfl]
def SlU (b : Nat) (s : St) (v : AV) (l : List Nat) : Prop := Slc b s 1 l.length v (u32s l)
theorem SlU.nil (b : Nat) (s : St) : SlU b s .nilSlice [] := Slc.nil b s 1
theorem SlU.rd {b : Nat} {s : St} {v : AV} {l : List Nat} (h : SlU b s v l) : U32 s v l := Slc.rd h
theorem SlU.ext {b : Nat} {s s' : St} {v : AV} {l : List Nat} (h : SlU b s v l) (he : Ext s s') : SlU b s' v l := Slc.ext h he
theorem SlU.mono {b b' : Nat} {s : St} {v : AV} {l : List Nat} (h : SlU b s v l) (hb : b' ≤ b) : SlU b' s v l := Slc.mono h hb
theorem SlU.app {s0 s : St} {v : AV} {l : List Nat} (h : SlU s0.next s v l) (he : Ext s0 s) (hn : l.length < 1000000) (x : Nat) :
    ∃ v' s', appendV (s.add (.cells [.int .u32 (x : Int)] 0 0 false)) 1 v 1 [.int .u32 (x : Int)] = some (v', s') ∧ SlU s0.next s' v' (l ++ [x]) ∧ Ext s0 s' := by
  obtain ⟨v', s', h1, h2, h3⟩ := Slc.app (more := [.int .u32 (x : Int)]) h he rfl rfl (by omega) hn
  refine ⟨v', s', h1, ?_, h3⟩
  unfold SlU
  simpa [u32s] using h2
end Go.V
