/- Sorting over the small language: rows of cells told by a function, swaps, what a sort keeps. -/
import Derived.Test.YtlpdekocilhciaaV46
set_option linter.unusedVariables false
set_option linter.unusedSimpArgs false
set_option linter.unusedSectionVars false
/- Sorting over the small language: rows of cells told by a function, swaps, what a sort keeps. -/
namespace Go.V
open Go
set_option linter.unusedSimpArgs false
set_option linter.unusedVariables false

def mp {α : Type} (en : α → AV) (n : Nat) (f : Nat → α) : List AV := (List.range n).map fun i => en (f i)
def upd {α : Type} (f : Nat → α) (i : Nat) (x : α) : Nat → α := fun k => if k = i then x else f k
def swp {α : Type} (f : Nat → α) (i j : Nat) : Nat → α := fun k => if k = i then f j else if k = j then f i else f k

section
variable {α : Type} {en : α → AV} {n : Nat} {f : Nat → α}
theorem mp_len : (mp en n f).length = n := by simp [mp]
theorem mp_get {i : Nat} (h : i < n) : (mp en n f)[i]? = some (en (f i)) := by simp [mp, h]
theorem mp_take {i : Nat} (h : i < n) : List.take 1 (List.drop i (mp en n f)) = [en (f i)] := by
  have hl : i < (mp en n f).length := by rw [mp_len]; exact h
  rw [List.drop_eq_getElem_cons hl, List.take_succ_cons, List.take_zero]
  have := mp_get (en := en) (f := f) h
  rw [List.getElem?_eq_getElem hl] at this
  rw [Option.some.inj this]
theorem mp_splice {i : Nat} {x : α} (h : i < n) : List.take i (mp en n f) ++ en x :: List.drop (i + 1) (mp en n f) = mp en n (upd f i x) := by
  have hl : i < (mp en n f).length := by rw [mp_len]; exact h
  apply List.ext_getElem?
  intro k
  by_cases hk : k < n
  · rw [mp_get hk]
    by_cases h1 : k < i
    · rw [List.getElem?_append_left (by simp [mp_len]; omega), List.getElem?_take_of_lt h1, mp_get hk, upd, if_neg (by omega)]
    · rw [List.getElem?_append_right (by simp [mp_len]; omega), List.length_take, mp_len, Nat.min_eq_left (by omega)]
      by_cases h2 : k = i
      · subst h2; simp [upd]
      · have : k - i = (k - i - 1) + 1 := by omega
        rw [this, List.getElem?_cons_succ, List.getElem?_drop]
        have h3 : i + 1 + (k - i - 1) = k := by omega
        rw [h3, mp_get hk, upd, if_neg h2]
  · rw [List.getElem?_eq_none (by simp [mp_len]; omega), List.getElem?_eq_none (by simp [mp_len]; omega)]
theorem upd_swp (f : Nat → α) (i j : Nat) : upd (upd f i (f j)) j (f i) = swp f i j := by
  funext k
  unfold upd swp
  by_cases h1 : k = j
  · subst h1
    by_cases h2 : k = i
    · subst h2; simp
    · simp [h2]
  · simp [h1]
theorem mp_eq {g : Nat → α} (h : ∀ i, i < n → f i = g i) : mp en n f = mp en n g := by
  unfold mp
  apply List.map_congr_left
  intro i hi
  rw [h i (by simpa using hi)]
theorem mp_list (l : List α) (d : α) : mp en l.length (fun i => l.getD i d) = l.map en := by
  apply List.ext_getElem?
  intro k
  by_cases hk : k < l.length
  · rw [mp_get hk, List.getElem?_map, List.getElem?_eq_getElem hk]
    simp [List.getD_eq_getElem?_getD, hk]
  · rw [List.getElem?_eq_none (by rw [mp_len]; omega), List.getElem?_eq_none (by simp; omega)]
end

/-- The one is the other, its places from a to b in another row. -/
def PermR {α : Type} (a b : Nat) (f g : Nat → α) : Prop :=
  ∃ p q : Nat → Nat, (∀ i, q (p i) = i) ∧ (∀ i, p (q i) = i) ∧ (∀ i, a ≤ i → i < b → a ≤ p i ∧ p i < b) ∧ (∀ i, a ≤ i → i < b → a ≤ q i ∧ q i < b) ∧ (∀ i, ¬ (a ≤ i ∧ i < b) → p i = i) ∧ ∀ i, g i = f (p i)

section
variable {α : Type} {a b : Nat} {f g h : Nat → α}
theorem PermR.refl (a b : Nat) (f : Nat → α) : PermR a b f f := ⟨id, id, fun _ => rfl, fun _ => rfl, fun _ h1 h2 => ⟨h1, h2⟩, fun _ h1 h2 => ⟨h1, h2⟩, fun _ _ => rfl, fun _ => rfl⟩
theorem PermR.trans (h1 : PermR a b f g) (h2 : PermR a b g h) : PermR a b f h := by
  obtain ⟨p, q, a1, a2, a3, a4, a5, a6⟩ := h1
  obtain ⟨p', q', b1, b2, b3, b4, b5, b6⟩ := h2
  refine ⟨fun i => p (p' i), fun i => q' (q i), fun i => by simp only [a1, b1], fun i => by simp only [b2, a2], fun i x y => ?_, fun i x y => ?_, fun i x => ?_, fun i => ?_⟩
  · obtain ⟨u, v⟩ := b3 i x y; exact a3 _ u v
  · obtain ⟨u, v⟩ := a4 i x y; exact b4 _ u v
  · show p (p' i) = i
    rw [b5 i x, a5 i x]
  · rw [b6, a6]
theorem PermR.swap {i j : Nat} (hi : a ≤ i) (hi' : i < b) (hj : a ≤ j) (hj' : j < b) : PermR a b f (swp f i j) := by
  refine ⟨fun k => if k = i then j else if k = j then i else k, fun k => if k = i then j else if k = j then i else k, ?_, ?_, ?_, ?_, ?_, ?_⟩
  · intro k; simp only []; by_cases h1 : k = i <;> by_cases h2 : k = j <;> by_cases h3 : j = i <;> simp_all
  · intro k; simp only []; by_cases h1 : k = i <;> by_cases h2 : k = j <;> by_cases h3 : j = i <;> simp_all
  · intro k h1 h2; simp only []; by_cases h3 : k = i <;> by_cases h4 : k = j <;> simp_all
  · intro k h1 h2; simp only []; by_cases h3 : k = i <;> by_cases h4 : k = j <;> simp_all
  · intro k hk
    have h3 : k ≠ i := by omega
    have h4 : k ≠ j := by omega
    simp [h3, h4]
  · intro k
    unfold swp
    by_cases h1 : k = i
    · simp [h1]
    · by_cases h2 : k = j
      · subst h2; simp [h1]
      · simp [h1, h2]
theorem PermR.wide {a' b' : Nat} (h : PermR a b f g) (ha : a' ≤ a) (hb : b ≤ b') : PermR a' b' f g := by
  obtain ⟨p, q, a1, a2, a3, a4, a5, a6⟩ := h
  have hq : ∀ i, ¬ (a ≤ i ∧ i < b) → q i = i := by
    intro i hi
    have := a1 i
    rwa [a5 i hi] at this
  refine ⟨p, q, a1, a2, fun i x y => ?_, fun i x y => ?_, fun i x => a5 i (by omega), a6⟩
  · by_cases hi : a ≤ i ∧ i < b
    · have := a3 i hi.1 hi.2; omega
    · rw [a5 i hi]; exact ⟨x, y⟩
  · by_cases hi : a ≤ i ∧ i < b
    · have := a4 i hi.1 hi.2; omega
    · rw [hq i hi]; exact ⟨x, y⟩
/-- Elsewhere nothing turns. -/
theorem PermR.out (h : PermR a b f g) {i : Nat} (hi : ¬ (a ≤ i ∧ i < b)) : g i = f i := by
  obtain ⟨p, q, a1, a2, a3, a4, a5, a6⟩ := h
  rw [a6, a5 i hi]
/-- What all of them have, all have still. -/
theorem PermR.all (h : PermR a b f g) {P : α → Prop} (hP : ∀ i, a ≤ i → i < b → P (f i)) : ∀ i, a ≤ i → i < b → P (g i) := by
  obtain ⟨p, q, a1, a2, a3, a4, a5, a6⟩ := h
  intro i x y
  rw [a6]
  exact hP _ (a3 i x y).1 (a3 i x y).2
theorem PermR.list {n : Nat} (h : PermR a b f g) (hb : b ≤ n) : ((List.range n).map g).Perm ((List.range n).map f) := by
  obtain ⟨p, q, a1, a2, a3, a4, a5, a6⟩ := h.wide (Nat.zero_le a) hb
  have h1 : (List.range n).map g = ((List.range n).map p).map f := by
    rw [List.map_map]
    apply List.map_congr_left
    intro i _
    exact a6 i
  rw [h1]
  refine List.Perm.map f ?_
  refine (List.perm_ext_iff_of_nodup ?_ List.nodup_range).2 fun i => ?_
  · refine List.pairwise_map.2 (List.nodup_range.imp fun {x y} hxy e => hxy ?_)
    have := congrArg q e
    rwa [a1, a1] at this
  · rw [List.mem_map, List.mem_range]
    constructor
    · rintro ⟨j, hj, rfl⟩
      exact (a3 j (Nat.zero_le j) (List.mem_range.1 hj)).2
    · intro hi
      exact ⟨q i, List.mem_range.2 (a4 i (Nat.zero_le i) hi).2, a2 i⟩
end

/-- An order, by its 'less'. -/
structure Ord {α : Type} (lt : α → α → Bool) : Prop where
  asymm : ∀ x y, lt x y = true → lt y x = false
  trans : ∀ x y z, lt y x = false → lt z y = false → lt z x = false
abbrev Le {α : Type} (lt : α → α → Bool) (x y : α) : Prop := lt y x = false
theorem Ord.le {α : Type} {lt : α → α → Bool} (h : Ord lt) {x y : α} (hl : lt x y = true) : Le lt x y := h.asymm x y hl
theorem Ord.refl {α : Type} {lt : α → α → Bool} (h : Ord lt) (x : α) : Le lt x x := by
  cases hx : lt x x with
  | false => exact hx
  | true => have := h.asymm x x hx; rw [hx] at this; cases this

def Srt {α : Type} (lt : α → α → Bool) (a b : Nat) (f : Nat → α) : Prop := ∀ i j, a ≤ i → i < j → j < b → Le lt (f i) (f j)

/-- What a sort may turn: the one row; else only new things. -/
structure Aft {α : Type} (en : α → AV) (s0 : St) (B inc n : Nat) (g : Nat → α) (s : St) : Prop where
  row : ∃ lo, lo ≤ inc ∧ s.heap.get B = some (.cells (mp en n g) lo inc false)
  wfs : WFS s
  next : s0.next ≤ s.next
  same : ∀ id, id < s0.next → id ≠ B → s.heap.get id = s0.heap.get id
section
variable {α : Type} {en : α → AV} {s0 s s1 : St} {B inc n : Nat} {f g : Nat → α}
theorem Aft.put (h : Aft en s0 B inc n f s) (hB : B < s0.next) (g : Nat → α) : Aft en s0 B inc n g (s.put B (.cells (mp en n g) inc inc false)) := by
  refine ⟨⟨inc, Nat.le_refl _, by rw [put_get, if_pos rfl]⟩, h.wfs.put (Nat.lt_of_lt_of_le hB h.next) _, h.next, fun id h1 h2 => ?_⟩
  rw [put_get, if_neg h2]; exact h.same id h1 h2
theorem Aft.trans (h : Aft en s0 B inc n f s) (h' : Aft en s B inc n g s1) : Aft en s0 B inc n g s1 :=
  ⟨h'.row, h'.wfs, Nat.le_trans h.next h'.next, fun id h1 h2 => by rw [h'.same id (Nat.lt_of_lt_of_le h1 h.next) h2, h.same id h1 h2]⟩
theorem Aft.refl (hw : WFS s) (hr : ∃ lo, lo ≤ inc ∧ s.heap.get B = some (.cells (mp en n f) lo inc false)) : Aft en s B inc n f s := ⟨hr, hw, Nat.le_refl _, fun _ _ _ => rfl⟩
theorem Aft.eq (h : Aft en s0 B inc n f s) {g : Nat → α} (hg : ∀ i, i < n → f i = g i) : Aft en s0 B inc n g s := by
  obtain ⟨⟨lo, h1, h2⟩, h3, h4, h5⟩ := h
  exact ⟨⟨lo, h1, by rw [h2, mp_eq hg]⟩, h3, h4, h5⟩
end
theorem goCall_hk {T : Tab} {f : FuncId} {h : List AV → St → Option (AV × St)} (hf : T f = some (.hook h)) (Q : Post) (d : Bool) (dst : Option Nat) (w : List Opd) (args : List AV) (l : List IOp) (fs : List Fr) (e : Env) (s : St) :
    GoCall T Q d dst w f args l fs e s ↔ GoR T Q d dst w (ofBoth (h args s)) l fs e s := by
  unfold GoCall
  have : ∀ n, callF T (evalN T n) f args s = ofBoth (h args s) := fun n => by simp only [callF, hf]
  constructor
  · rintro ⟨n, h⟩; rwa [this] at h
  · intro h; exact ⟨0, by rwa [this]⟩
theorem i64_in {n : Nat} (h : n ≤ 1000000000000) : wrapF .i64 (n : Int) = n := wrap_i64 _ (by omega) (by omega)
theorem i64_sub {n m : Nat} (h : n ≤ 1000000000000) (hm : m ≤ n) : wrapF .i64 ((n : Int) - (m : Int)) = ((n - m : Nat) : Int) := by
  rw [wrap_i64 _ (by omega) (by omega)]; omega
theorem i64_sub1 {n : Nat} (h : n ≤ 1000000000000) (hm : 1 ≤ n) : wrapF .i64 ((n : Int) - 1) = ((n - 1 : Nat) : Int) := by
  rw [wrap_i64 _ (by omega) (by omega)]; omega
theorem i64_add {n m : Nat} (h : n + m ≤ 1000000000000) : wrapF .i64 ((n : Int) + (m : Int)) = ((n + m : Nat) : Int) := by
  rw [wrap_i64 _ (by omega) (by omega)]; omega
theorem i64_add1 {n : Nat} (h : n ≤ 1000000000000) : wrapF .i64 ((n : Int) + 1) = ((n + 1 : Nat) : Int) := by
  rw [wrap_i64 _ (by omega) (by omega)]; omega
end Go.V
