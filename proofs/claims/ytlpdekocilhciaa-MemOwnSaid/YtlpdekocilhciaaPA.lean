/- Sorting over the small language: rows of cells told by a function, swaps, what a sort keeps. -/
import Derived.Test.YtlpdekocilhciaaVE
set_option linter.unusedVariables false
set_option linter.unusedSimpArgs false
set_option linter.unusedSectionVars false
/- Sorting over the small language: rows of cells told by a function, swaps, what a sort keeps. -/
/- Sorting over the small language: rows of cells told by a function, swaps, what a sort keeps. -/
namespace Go.V
open Go
set_option linter.unusedSimpArgs false
set_option linter.unusedVariables false

def mp {α : Type} (en : α → AV) (n : Nat) (f : Nat → α) : List AV := (List.range n).map fun i => en (f i)
def upd {α : Type} (f : Nat → α) (i : Nat) (x : α) : Nat → α := fun k => if k = i then x else f k
def swp {α : Type} (f : Nat → α) (i j : Nat) : Nat → α := fun k => if k = i then f j else if k = j then f i else f k

section
variable {α : Type} {en : α → AV} {n : Nat} {f : Nat → α}
theorem mp_len : (mp en n f).length = n := by simp [mp]
theorem mp_get {i : Nat} (h : i < n) : (mp en n f)[i]? = some (en (f i)) := by simp [mp, h]
theorem mp_take {i : Nat} (h : i < n) : List.take 1 (List.drop i (mp en n f)) = [en (f i)] := by
  have hl : i < (mp en n f).length := by rw [mp_len]; exact h
  rw [List.drop_eq_getElem_cons hl, List.take_succ_cons, List.take_zero]
  have := mp_get (en := en) (f := f) h
  rw [List.getElem?_eq_getElem hl] at this
  rw [Option.some.inj this]
theorem mp_splice {i : Nat} {x : α} (h : i < n) : List.take i (mp en n f) ++ en x :: List.drop (i + 1) (mp en n f) = mp en n (upd f i x) := by
  have hl : i < (mp en n f).length := by rw [mp_len]; exact h
  apply List.ext_getElem?
  intro k
  by_cases hk : k < n
  · rw [mp_get hk]
    by_cases h1 : k < i
    · rw [List.getElem?_append_left (by simp [mp_len]; omega), List.getElem?_take_of_lt h1, mp_get hk, upd, if_neg (by omega)]
    · rw [List.getElem?_append_right (by simp [mp_len]; omega), List.length_take, mp_len, Nat.min_eq_left (by omega)]
      by_cases h2 : k = i
      · subst h2; simp [upd]
      · have : k - i = (k - i - 1) + 1 := by omega
        rw [this, List.getElem?_cons_succ, List.getElem?_drop]
        have h3 : i + 1 + (k - i - 1) = k := by omega
        rw [h3, mp_get hk, upd, if_neg h2]
  · rw [List.getElem?_eq_none (by simp [mp_len]; omega), List.getElem?_eq_none (by simp [mp_len]; omega)]
theorem upd_swp (f : Nat → α) (i j : Nat) : upd (upd f i (f j)) j (f i) = swp f i j := by
  funext k
  unfold upd swp
  by_cases h1 : k = j
  · subst h1
    by_cases h2 : k = i
    · subst h2; simp
    · simp [h2]
  · simp [h1]
theorem mp_eq {g : Nat → α} (h : ∀ i, i < n → f i = g i) : mp en n f = mp en n g := by
  unfold mp
  apply List.map_congr_left
  intro i hi
  rw [h i (by simpa using hi)]
theorem mp_list (l : List α) (d : α) : mp en l.length (fun i => l.getD i d) = l.map en := by
  apply List.ext_getElem?
  intro k
  by_cases hk : k < l.length
  · rw [mp_get hk, List.getElem?_map, List.getElem?_eq_getElem hk]
    simp [List.getD_eq_getElem?_getD, hk]
  · rw [List.getElem?_eq_none (by rw [mp_len]; omega), List.getElem?_eq_none (by simp; omega)]
end

/-- The one is the other, its places from a to b in another row. -/
def PermR {α : Type} (a b : Nat) (f g : Nat → α) : Prop :=
  ∃ p q : Nat → Nat, (∀ i, q (p i) = i) ∧ (∀ i, p (q i) = i) ∧ (∀ i, a ≤ i → i < b → a ≤ p i ∧ p i < b) ∧ (∀ i, a ≤ i → i < b → a ≤ q i ∧ q i < b) ∧ (∀ i, ¬ (a ≤ i ∧ i < b) → p i = i) ∧ ∀ i, g i = f (p i)

section
variable {α : Type} {a b : Nat} {f g h : Nat → α}
theorem PermR.refl (a b : Nat) (f : Nat → α) : PermR a b f f := ⟨id, id, fun _ => rfl, fun _ => rfl, fun _ h1 h2 => ⟨h1, h2⟩, fun _ h1 h2 => ⟨h1, h2⟩, fun _ _ => rfl, fun _ => rfl⟩
theorem PermR.trans (h1 : PermR a b f g) (h2 : PermR a b g h) : PermR a b f h := by
  obtain ⟨p, q, a1, a2, a3, a4, a5, a6⟩ := h1
  obtain ⟨p', q', b1, b2, b3, b4, b5, b6⟩ := h2
  refine ⟨fun i => p (p' i), fun i => q' (q i), fun i => by simp only [a1, b1], fun i => by simp only [b2, a2], fun i x y => ?_, fun i x y => ?_, fun i x => ?_, fun i => ?_⟩
  · obtain ⟨u, v⟩ := b3 i x y; exact a3 _ u v
  · obtain ⟨u, v⟩ := a4 i x y; exact b4 _ u v
  · show p (p' i) = i
    rw [b5 i x, a5 i x]
  · rw [b6, a6]
theorem PermR.swap {i j : Nat} (hi : a ≤ i) (hi' : i < b) (hj : a ≤ j) (hj' : j < b) : PermR a b f (swp f i j) := by
  refine ⟨fun k => if k = i then j else if k = j then i else k, fun k => if k = i then j else if k = j then i else k, ?_, ?_, ?_, ?_, ?_, ?_⟩
  · intro k; simp only []; by_cases h1 : k = i <;> by_cases h2 : k = j <;> by_cases h3 : j = i <;> simp_all
  · intro k; simp only []; by_cases h1 : k = i <;> by_cases h2 : k = j <;> by_cases h3 : j = i <;> simp_all
  · intro k h1 h2; simp only []; by_cases h3 : k = i <;> by_cases h4 : k = j <;> simp_all
  · intro k h1 h2; simp only []; by_cases h3 : k = i <;> by_cases h4 : k = j <;> simp_all
  · intro k hk
    have h3 : k ≠ i := by omega
    have h4 : k ≠ j := by omega
    simp [h3, h4]
  · intro k
    unfold swp
    by_cases h1 : k = i
    · simp [h1]
    · by_cases h2 : k = j
      · subst h2; simp [h1]
      · simp [h1, h2]
theorem PermR.wide {a' b' : Nat} (h : PermR a b f g) (ha : a' ≤ a) (hb : b ≤ b') : PermR a' b' f g := by
  obtain ⟨p, q, a1, a2, a3, a4, a5, a6⟩ := h
  have hq : ∀ i, ¬ (a ≤ i ∧ i < b) → q i = i := by
    intro i hi
    have := a1 i
    rwa [a5 i hi] at this
  refine ⟨p, q, a1, a2, fun i x y => ?_, fun i x y => ?_, fun i x => a5 i (by omega), a6⟩
  · by_cases hi : a ≤ i ∧ i < b
    · have := a3 i hi.1 hi.2; omega
    · rw [a5 i hi]; exact ⟨x, y⟩
  · by_cases hi : a ≤ i ∧ i < b
    · have := a4 i hi.1 hi.2; omega
    · rw [hq i hi]; exact ⟨x, y⟩
/-- Elsewhere nothing turns. -/
theorem PermR.out (h : PermR a b f g) {i : Nat} (hi : ¬ (a ≤ i ∧ i < b)) : g i = f i := by
  obtain ⟨p, q, a1, a2, a3, a4, a5, a6⟩ := h
  rw [a6, a5 i hi]
/-- What all of them have, all have still. -/
theorem PermR.all (h : PermR a b f g) {P : α → Prop} (hP : ∀ i, a ≤ i → i < b → P (f i)) : ∀ i, a ≤ i → i < b → P (g i) := by
  obtain ⟨p, q, a1, a2, a3, a4, a5, a6⟩ := h
  intro i x y
  rw [a6]
  exact hP _ (a3 i x y).1 (a3 i x y).2
theorem PermR.list {n : Nat} (h : PermR a b f g) (hb : b ≤ n) : ((List.range n).map g).Perm ((List.range n).map f) := by
  obtain ⟨p, q, a1, a2, a3, a4, a5, a6⟩ := h.wide (Nat.zero_le a) hb
  have h1 : (List.range n).map g = ((List.range n).map p).map f := by
    rw [List.map_map]
    apply List.map_congr_left
    intro i _
    exact a6 i
  rw [h1]
  refine List.Perm.map f ?_
  refine (List.perm_ext_iff_of_nodup ?_ List.nodup_range).2 fun i => ?_
  · refine List.pairwise_map.2 (List.nodup_range.imp fun {x y} hxy e => hxy ?_)
    have := congrArg q e
    rwa [a1, a1] at this
  · rw [List.mem_map, List.mem_range]
    constructor
    · rintro ⟨j, hj, rfl⟩
      exact (a3 j (Nat.zero_le j) (List.mem_range.1 hj)).2
    · intro hi
      exact ⟨q i, List.mem_range.2 (a4 i (Nat.zero_le i) hi).2, a2 i⟩
end

/-- An order, by its 'less'. -/
structure Ord {α : Type} (lt : α → α → Bool) : Prop where
  asymm : ∀ x y, lt x y = true → lt y x = false
  trans : ∀ x y z, lt y x = false → lt z y = false → lt z x = false
abbrev Le {α : Type} (lt : α → α → Bool) (x y : α) : Prop := lt y x = false
theorem Ord.le {α : Type} {lt : α → α → Bool} (h : Ord lt) {x y : α} (hl : lt x y = true) : Le lt x y := h.asymm x y hl
theorem Ord.refl {α : Type} {lt : α → α → Bool} (h : Ord lt) (x : α) : Le lt x x := by
  cases hx : lt x x with
  | false => exact hx
  | true => have := h.asymm x x hx; rw [hx] at this; cases this

def Srt {α : Type} (lt : α → α → Bool) (a b : Nat) (f : Nat → α) : Prop := ∀ i j, a ≤ i → i < j → j < b → Le lt (f i) (f j)

/-- What a sort may turn: the one row; else only new things. -/
structure Aft {α : Type} (en : α → AV) (s0 : St) (B inc n : Nat) (g : Nat → α) (s : St) : Prop where
  row : ∃ lo, lo ≤ inc ∧ s.heap.get B = some (.cells (mp en n g) lo inc false)
  wfs : WFS s
  next : s0.next ≤ s.next
  same : ∀ id, id < s0.next → id ≠ B → s.heap.get id = s0.heap.get id
section
variable {α : Type} {en : α → AV} {s0 s s1 : St} {B inc n : Nat} {f g : Nat → α}
theorem Aft.put (h : Aft en s0 B inc n f s) (hB : B < s0.next) (g : Nat → α) : Aft en s0 B inc n g (s.put B (.cells (mp en n g) inc inc false)) := by
  refine ⟨⟨inc, Nat.le_refl _, by rw [put_get, if_pos rfl]⟩, h.wfs.put (Nat.lt_of_lt_of_le hB h.next) _, h.next, fun id h1 h2 => ?_⟩
  rw [put_get, if_neg h2]; exact h.same id h1 h2
theorem Aft.trans (h : Aft en s0 B inc n f s) (h' : Aft en s B inc n g s1) : Aft en s0 B inc n g s1 :=
  ⟨h'.row, h'.wfs, Nat.le_trans h.next h'.next, fun id h1 h2 => by rw [h'.same id (Nat.lt_of_lt_of_le h1 h.next) h2, h.same id h1 h2]⟩
theorem Aft.refl (hw : WFS s) (hr : ∃ lo, lo ≤ inc ∧ s.heap.get B = some (.cells (mp en n f) lo inc false)) : Aft en s B inc n f s := ⟨hr, hw, Nat.le_refl _, fun _ _ _ => rfl⟩
theorem Aft.eq (h : Aft en s0 B inc n f s) {g : Nat → α} (hg : ∀ i, i < n → f i = g i) : Aft en s0 B inc n g s := by
  obtain ⟨⟨lo, h1, h2⟩, h3, h4, h5⟩ := h
  exact ⟨⟨lo, h1, by rw [h2, mp_eq hg]⟩, h3, h4, h5⟩
end
theorem goCall_hk {T : Tab} {f : FuncId} {h : List AV → St → Option (AV × St)} (hf : T f = some (.hook h)) (Q : Post) (d : Bool) (dst : Option Nat) (w : List Opd) (args : List AV) (l : List IOp) (fs : List Fr) (e : Env) (s : St) :
    GoCall T Q d dst w f args l fs e s ↔ GoR T Q d dst w (ofBoth (h args s)) l fs e s := by
  unfold GoCall
  have : ∀ n, callF T (evalN T n) f args s = ofBoth (h args s) := fun n => by simp only [callF, hf]
  constructor
  · rintro ⟨n, h⟩; rwa [this] at h
  · intro h; exact ⟨0, by rwa [this]⟩
theorem i64_in {n : Nat} (h : n ≤ 1000000000000) : wrapF .i64 (n : Int) = n := wrap_i64 _ (by omega) (by omega)
theorem i64_sub {n m : Nat} (h : n ≤ 1000000000000) (hm : m ≤ n) : wrapF .i64 ((n : Int) - (m : Int)) = ((n - m : Nat) : Int) := by
  rw [wrap_i64 _ (by omega) (by omega)]; omega
theorem i64_sub1 {n : Nat} (h : n ≤ 1000000000000) (hm : 1 ≤ n) : wrapF .i64 ((n : Int) - 1) = ((n - 1 : Nat) : Int) := by
  rw [wrap_i64 _ (by omega) (by omega)]; omega
theorem i64_add {n m : Nat} (h : n + m ≤ 1000000000000) : wrapF .i64 ((n : Int) + (m : Int)) = ((n + m : Nat) : Int) := by
  rw [wrap_i64 _ (by omega) (by omega)]; omega
theorem i64_add1 {n : Nat} (h : n ≤ 1000000000000) : wrapF .i64 ((n : Int) + 1) = ((n + 1 : Nat) : Int) := by
  rw [wrap_i64 _ (by omega) (by omega)]; omega
end Go.V
/- slices.insertionSortOrdered over the small language. -/
namespace Go.V
open Go
set_option linter.unusedSimpArgs false
set_option linter.unusedVariables false
abbrev pdqIl0 : ICode := (.loop (.seq (.seq (.region [⟨some 10, none, [], (.move (.t 6))⟩, ⟨some 11, none, [], (.move (.t 2))⟩, ⟨some 12, none, [], (.bin .lss (.t 10) (.t 11))⟩] false)
 (.cond (.t 12) .skip (.exit 0)))
 (.seq (.block 1 (.seq (.region [⟨some 15, none, [], (.move (.t 6))⟩, ⟨some 7, none, [], (.move (.t 15))⟩] false)
 (.block 2 (.loop (.seq (.seq (.region [⟨some 16, none, [], (.move (.t 7))⟩, ⟨some 17, none, [], (.move (.t 1))⟩, ⟨some 18, none, [], (.bin .gtr (.t 16) (.t 17))⟩, ⟨some 19, none, [], (.move (.t 18))⟩, ⟨some 20, some (19, true), [], (.move (.t 0))⟩, ⟨some 21, some (19, true), [], (.move (.t 7))⟩, ⟨some 22, some (19, true), [], (.idxSl 1 (.t 20) (.t 21))⟩, ⟨some 23, some (19, true), [], (.load false 1 (.t 22))⟩, ⟨some 24, some (19, true), [], (.move (.t 0))⟩, ⟨some 25, some (19, true), [], (.move (.t 7))⟩, ⟨some 26, some (19, true), [], (.bin .sub (.t 25) (.c (.int .i64 1)))⟩, ⟨some 27, some (19, true), [], (.idxSl 1 (.t 24) (.t 26))⟩, ⟨some 28, some (19, true), [], (.load false 1 (.t 27))⟩, ⟨some 29, some (19, true), [], (.call 140 [(.t 23), (.t 28)])⟩, ⟨some 30, none, [], (.pick (.t 19) (.t 29) (.c (.bool false)))⟩] true)
 (.cond (.t 30) .skip (.exit 2)))
 (.seq (.block 3 (.region [⟨some 33, none, [], (.move (.t 0))⟩, ⟨some 34, none, [], (.move (.t 7))⟩, ⟨some 35, none, [], (.move (.t 0))⟩, ⟨some 36, none, [], (.move (.t 7))⟩, ⟨some 37, none, [], (.bin .sub (.t 36) (.c (.int .i64 1)))⟩, ⟨some 38, none, [], (.move (.t 0))⟩, ⟨some 39, none, [], (.move (.t 7))⟩, ⟨some 40, none, [], (.bin .sub (.t 39) (.c (.int .i64 1)))⟩, ⟨some 41, none, [], (.idxSl 1 (.t 38) (.t 40))⟩, ⟨some 42, none, [], (.load false 1 (.t 41))⟩, ⟨some 43, none, [], (.move (.t 0))⟩, ⟨some 44, none, [], (.move (.t 7))⟩, ⟨some 45, none, [], (.idxSl 1 (.t 43) (.t 44))⟩, ⟨some 46, none, [], (.load false 1 (.t 45))⟩, ⟨some 47, none, [], (.idxSl 1 (.t 33) (.t 34))⟩, ⟨none, none, [], (.store 1 (.t 47) (.t 42))⟩, ⟨some 48, none, [], (.idxSl 1 (.t 35) (.t 37))⟩, ⟨none, none, [], (.store 1 (.t 48) (.t 46))⟩] true))
 (.region [⟨some 31, none, [], (.move (.t 7))⟩, ⟨some 32, none, [], (.bin .sub (.t 31) (.c (.int .i64 1)))⟩, ⟨some 7, none, [], (.move (.t 32))⟩] false)))))))
 (.region [⟨some 13, none, [], (.move (.t 6))⟩, ⟨some 14, none, [], (.bin .add (.t 13) (.c (.int .i64 1)))⟩, ⟨some 6, none, [], (.move (.t 14))⟩] false))))
abbrev pdqIl1 : ICode := (.loop (.seq (.seq (.region [⟨some 16, none, [], (.move (.t 7))⟩, ⟨some 17, none, [], (.move (.t 1))⟩, ⟨some 18, none, [], (.bin .gtr (.t 16) (.t 17))⟩, ⟨some 19, none, [], (.move (.t 18))⟩, ⟨some 20, some (19, true), [], (.move (.t 0))⟩, ⟨some 21, some (19, true), [], (.move (.t 7))⟩, ⟨some 22, some (19, true), [], (.idxSl 1 (.t 20) (.t 21))⟩, ⟨some 23, some (19, true), [], (.load false 1 (.t 22))⟩, ⟨some 24, some (19, true), [], (.move (.t 0))⟩, ⟨some 25, some (19, true), [], (.move (.t 7))⟩, ⟨some 26, some (19, true), [], (.bin .sub (.t 25) (.c (.int .i64 1)))⟩, ⟨some 27, some (19, true), [], (.idxSl 1 (.t 24) (.t 26))⟩, ⟨some 28, some (19, true), [], (.load false 1 (.t 27))⟩, ⟨some 29, some (19, true), [], (.call 140 [(.t 23), (.t 28)])⟩, ⟨some 30, none, [], (.pick (.t 19) (.t 29) (.c (.bool false)))⟩] true)
 (.cond (.t 30) .skip (.exit 2)))
 (.seq (.block 3 (.region [⟨some 33, none, [], (.move (.t 0))⟩, ⟨some 34, none, [], (.move (.t 7))⟩, ⟨some 35, none, [], (.move (.t 0))⟩, ⟨some 36, none, [], (.move (.t 7))⟩, ⟨some 37, none, [], (.bin .sub (.t 36) (.c (.int .i64 1)))⟩, ⟨some 38, none, [], (.move (.t 0))⟩, ⟨some 39, none, [], (.move (.t 7))⟩, ⟨some 40, none, [], (.bin .sub (.t 39) (.c (.int .i64 1)))⟩, ⟨some 41, none, [], (.idxSl 1 (.t 38) (.t 40))⟩, ⟨some 42, none, [], (.load false 1 (.t 41))⟩, ⟨some 43, none, [], (.move (.t 0))⟩, ⟨some 44, none, [], (.move (.t 7))⟩, ⟨some 45, none, [], (.idxSl 1 (.t 43) (.t 44))⟩, ⟨some 46, none, [], (.load false 1 (.t 45))⟩, ⟨some 47, none, [], (.idxSl 1 (.t 33) (.t 34))⟩, ⟨none, none, [], (.store 1 (.t 47) (.t 42))⟩, ⟨some 48, none, [], (.idxSl 1 (.t 35) (.t 37))⟩, ⟨none, none, [], (.store 1 (.t 48) (.t 46))⟩] true))
 (.region [⟨some 31, none, [], (.move (.t 7))⟩, ⟨some 32, none, [], (.bin .sub (.t 31) (.c (.int .i64 1)))⟩, ⟨some 7, none, [], (.move (.t 32))⟩] false))))
abbrev pdqIq2 : Fr := .seq (.region [⟨some 13, none, [], (.move (.t 6))⟩, ⟨some 14, none, [], (.bin .add (.t 13) (.c (.int .i64 1)))⟩, ⟨some 6, none, [], (.move (.t 14))⟩] false)
abbrev pdqIq3 : Fr := .loop (.seq (.seq (.region [⟨some 10, none, [], (.move (.t 6))⟩, ⟨some 11, none, [], (.move (.t 2))⟩, ⟨some 12, none, [], (.bin .lss (.t 10) (.t 11))⟩] false)
 (.cond (.t 12) .skip (.exit 0)))
 (.seq (.block 1 (.seq (.region [⟨some 15, none, [], (.move (.t 6))⟩, ⟨some 7, none, [], (.move (.t 15))⟩] false)
 (.block 2 (.loop (.seq (.seq (.region [⟨some 16, none, [], (.move (.t 7))⟩, ⟨some 17, none, [], (.move (.t 1))⟩, ⟨some 18, none, [], (.bin .gtr (.t 16) (.t 17))⟩, ⟨some 19, none, [], (.move (.t 18))⟩, ⟨some 20, some (19, true), [], (.move (.t 0))⟩, ⟨some 21, some (19, true), [], (.move (.t 7))⟩, ⟨some 22, some (19, true), [], (.idxSl 1 (.t 20) (.t 21))⟩, ⟨some 23, some (19, true), [], (.load false 1 (.t 22))⟩, ⟨some 24, some (19, true), [], (.move (.t 0))⟩, ⟨some 25, some (19, true), [], (.move (.t 7))⟩, ⟨some 26, some (19, true), [], (.bin .sub (.t 25) (.c (.int .i64 1)))⟩, ⟨some 27, some (19, true), [], (.idxSl 1 (.t 24) (.t 26))⟩, ⟨some 28, some (19, true), [], (.load false 1 (.t 27))⟩, ⟨some 29, some (19, true), [], (.call 140 [(.t 23), (.t 28)])⟩, ⟨some 30, none, [], (.pick (.t 19) (.t 29) (.c (.bool false)))⟩] true)
 (.cond (.t 30) .skip (.exit 2)))
 (.seq (.block 3 (.region [⟨some 33, none, [], (.move (.t 0))⟩, ⟨some 34, none, [], (.move (.t 7))⟩, ⟨some 35, none, [], (.move (.t 0))⟩, ⟨some 36, none, [], (.move (.t 7))⟩, ⟨some 37, none, [], (.bin .sub (.t 36) (.c (.int .i64 1)))⟩, ⟨some 38, none, [], (.move (.t 0))⟩, ⟨some 39, none, [], (.move (.t 7))⟩, ⟨some 40, none, [], (.bin .sub (.t 39) (.c (.int .i64 1)))⟩, ⟨some 41, none, [], (.idxSl 1 (.t 38) (.t 40))⟩, ⟨some 42, none, [], (.load false 1 (.t 41))⟩, ⟨some 43, none, [], (.move (.t 0))⟩, ⟨some 44, none, [], (.move (.t 7))⟩, ⟨some 45, none, [], (.idxSl 1 (.t 43) (.t 44))⟩, ⟨some 46, none, [], (.load false 1 (.t 45))⟩, ⟨some 47, none, [], (.idxSl 1 (.t 33) (.t 34))⟩, ⟨none, none, [], (.store 1 (.t 47) (.t 42))⟩, ⟨some 48, none, [], (.idxSl 1 (.t 35) (.t 37))⟩, ⟨none, none, [], (.store 1 (.t 48) (.t 46))⟩] true))
 (.region [⟨some 31, none, [], (.move (.t 7))⟩, ⟨some 32, none, [], (.bin .sub (.t 31) (.c (.int .i64 1)))⟩, ⟨some 7, none, [], (.move (.t 32))⟩] false)))))))
 (.region [⟨some 13, none, [], (.move (.t 6))⟩, ⟨some 14, none, [], (.bin .add (.t 13) (.c (.int .i64 1)))⟩, ⟨some 6, none, [], (.move (.t 14))⟩] false)))
-- slices.insertionSortOrdered[uint32]
def ir134 : IFunc := ⟨49, [], (.seq (.region [⟨some 8, none, [], (.move (.t 1))⟩, ⟨some 9, none, [], (.bin .add (.t 8) (.c (.int .i64 1)))⟩, ⟨some 6, none, [], (.move (.t 9))⟩] false)
 (.block 0 (.loop (.seq (.seq (.region [⟨some 10, none, [], (.move (.t 6))⟩, ⟨some 11, none, [], (.move (.t 2))⟩, ⟨some 12, none, [], (.bin .lss (.t 10) (.t 11))⟩] false)
 (.cond (.t 12) .skip (.exit 0)))
 (.seq (.block 1 (.seq (.region [⟨some 15, none, [], (.move (.t 6))⟩, ⟨some 7, none, [], (.move (.t 15))⟩] false)
 (.block 2 (.loop (.seq (.seq (.region [⟨some 16, none, [], (.move (.t 7))⟩, ⟨some 17, none, [], (.move (.t 1))⟩, ⟨some 18, none, [], (.bin .gtr (.t 16) (.t 17))⟩, ⟨some 19, none, [], (.move (.t 18))⟩, ⟨some 20, some (19, true), [], (.move (.t 0))⟩, ⟨some 21, some (19, true), [], (.move (.t 7))⟩, ⟨some 22, some (19, true), [], (.idxSl 1 (.t 20) (.t 21))⟩, ⟨some 23, some (19, true), [], (.load false 1 (.t 22))⟩, ⟨some 24, some (19, true), [], (.move (.t 0))⟩, ⟨some 25, some (19, true), [], (.move (.t 7))⟩, ⟨some 26, some (19, true), [], (.bin .sub (.t 25) (.c (.int .i64 1)))⟩, ⟨some 27, some (19, true), [], (.idxSl 1 (.t 24) (.t 26))⟩, ⟨some 28, some (19, true), [], (.load false 1 (.t 27))⟩, ⟨some 29, some (19, true), [], (.call 140 [(.t 23), (.t 28)])⟩, ⟨some 30, none, [], (.pick (.t 19) (.t 29) (.c (.bool false)))⟩] true)
 (.cond (.t 30) .skip (.exit 2)))
 (.seq (.block 3 (.region [⟨some 33, none, [], (.move (.t 0))⟩, ⟨some 34, none, [], (.move (.t 7))⟩, ⟨some 35, none, [], (.move (.t 0))⟩, ⟨some 36, none, [], (.move (.t 7))⟩, ⟨some 37, none, [], (.bin .sub (.t 36) (.c (.int .i64 1)))⟩, ⟨some 38, none, [], (.move (.t 0))⟩, ⟨some 39, none, [], (.move (.t 7))⟩, ⟨some 40, none, [], (.bin .sub (.t 39) (.c (.int .i64 1)))⟩, ⟨some 41, none, [], (.idxSl 1 (.t 38) (.t 40))⟩, ⟨some 42, none, [], (.load false 1 (.t 41))⟩, ⟨some 43, none, [], (.move (.t 0))⟩, ⟨some 44, none, [], (.move (.t 7))⟩, ⟨some 45, none, [], (.idxSl 1 (.t 43) (.t 44))⟩, ⟨some 46, none, [], (.load false 1 (.t 45))⟩, ⟨some 47, none, [], (.idxSl 1 (.t 33) (.t 34))⟩, ⟨none, none, [], (.store 1 (.t 47) (.t 42))⟩, ⟨some 48, none, [], (.idxSl 1 (.t 35) (.t 37))⟩, ⟨none, none, [], (.store 1 (.t 48) (.t 46))⟩] true))
 (.region [⟨some 31, none, [], (.move (.t 7))⟩, ⟨some 32, none, [], (.bin .sub (.t 31) (.c (.int .i64 1)))⟩, ⟨some 7, none, [], (.move (.t 32))⟩] false)))))))
 (.region [⟨some 13, none, [], (.move (.t 6))⟩, ⟨some 14, none, [], (.bin .add (.t 13) (.c (.int .i64 1)))⟩, ⟨some 6, none, [], (.move (.t 14))⟩] false))))))⟩
section
variable {α : Type} {en : α → AV} {lt : α → α → Bool} {T : Tab}
/-- How two are compared. -/
structure LessOk (T : Tab) (f : FuncId) (en : α → AV) (lt : α → α → Bool) : Prop where
  cells : ∀ x, AV.cells (en x) = [en x]
  cell : ∀ x, AV.isCell (en x) = true
  call : ∀ (Q : Post) (d : Bool) (dst : Option Nat) (x y : α) (l : List IOp) (fs : List Fr) (e : Env) (s : St), GoCall T Q d dst [] f [en x, en y] l fs e s ↔ GoOps T Q d l fs (putV e dst (.bool (lt x y))) s

abbrev dsl (B inc n cap : Nat) (ex : Bool) : AV := .slice ⟨B, 0, inc, n⟩ n cap ex 1

/-- Rising but for place j, which is at most what stands behind it. -/
def InsInv (lt : α → α → Bool) (a i j : Nat) (g : Nat → α) : Prop := ∀ p q, a ≤ p → p < q → q ≤ i → q ≠ j → Le lt (g p) (g q)
theorem InsInv.step (ho : Ord lt) {a i j : Nat} {g : Nat → α} (h : InsInv lt a i j g) (haj : a < j) (hji : j ≤ i) (hl : lt (g j) (g (j - 1)) = true) : InsInv lt a i (j - 1) (swp g j (j - 1)) := by
  intro p q h1 h2 h3 h4
  unfold swp
  by_cases q1 : q = j
  · subst q1
    rw [if_pos rfl, if_neg (by omega)]
    by_cases p1 : p = q - 1
    · subst p1; rw [if_pos rfl]; exact ho.le hl
    · rw [if_neg p1]; exact h p (q - 1) h1 (by omega) (by omega) (by omega)
  · rw [if_neg q1, if_neg h4]
    by_cases p1 : p = j
    · subst p1; rw [if_pos rfl]; exact h (p - 1) q (by omega) (by omega) h3 q1
    · rw [if_neg p1]
      by_cases p2 : p = j - 1
      · subst p2; rw [if_pos rfl]; exact h j q (by omega) (by omega) h3 q1
      · rw [if_neg p2]; exact h p q h1 h2 h3 q1
theorem InsInv.done (ho : Ord lt) {a i j : Nat} {g : Nat → α} (h : InsInv lt a i j g) (hji : j ≤ i) (hl : a < j → lt (g j) (g (j - 1)) = false) : Srt lt a (i + 1) g := by
  intro p q h1 h2 h3
  by_cases q1 : q = j
  · subst q1
    have h4 := hl (by omega)
    by_cases p1 : p = q - 1
    · subst p1; exact h4
    · exact ho.trans _ _ _ (h p (q - 1) h1 (by omega) (by omega) (by omega)) h4
  · exact h p q h1 h2 (by omega) q1

set_option maxHeartbeats 4000000 in
theorem ins_inner (hL : LessOk T 140 en lt) (ho : Ord lt) {Q : Post} {s0 : St} {B inc n cap : Nat} {ex : Bool} (hB : B < s0.next) (hn : n ≤ 1000000000) (a b i : Nat) (hai : a ≤ i) (hib : i < b) (hbn : b ≤ n) (f0 : Nat → α)
    (K : ∀ (e : Env) (s : St) (g : Nat → α), opd e (.t 0) = dsl B inc n cap ex → opd e (.t 1) = .int .i64 (a : Int) → opd e (.t 2) = .int .i64 (b : Int) → opd e (.t 6) = .int .i64 (((i + 1 : Nat)) : Int) → Aft en s0 B inc n g s → Srt lt a (i + 1) g → PermR a b f0 g →
      Go T Q (pdqIl0) [.block 0] e s) :
    ∀ (k j : Nat) (e : Env) (s : St) (g : Nat → α), j = a + k → j ≤ i → opd e (.t 0) = dsl B inc n cap ex → opd e (.t 1) = .int .i64 (a : Int) → opd e (.t 2) = .int .i64 (b : Int) → opd e (.t 6) = .int .i64 (i : Int) → opd e (.t 7) = .int .i64 (j : Int) → Aft en s0 B inc n g s → InsInv lt a i j g → PermR a b f0 g →
      Go T Q (pdqIl1) [.block 2, .block 1, pdqIq2, pdqIq3, .block 0] e s := by
  have kl := hL.call
  have kc := hL.cells
  have ki := hL.cell
  intro k
  induction k with
  | zero =>
    intro j e s g hj hji h0 h1 h2 h6 h7 hA hI hP
    have hc : ¬ ((a : Int) < (j : Int)) := by omega
    have hw : wrapF .i64 ((i : Int) + 1) = ((i + 1 : Nat) : Int) := i64_add1 (by omega)
    have hK := fun (e : Env) h0 h1 h2 h6 => K e s g h0 h1 h2 h6 hA (hI.done ho hji (by omega)) hP
    rw [go_loop]
    simp only [h0, h1, h2, h6, h7, hc, hw, wk, wk1, wk2, Option.some.injEq, exists_eq_left', decide_true, decide_false, Nat.reduceAdd, Nat.reduceEqDiff, Nat.reduceLeDiff, Nat.reduceLT, Nat.reduceMul, Nat.reduceBEq, Int.reduceLT, Int.reduceLE, Int.reduceEq, Int.reduceAdd, Int.reduceSub, Int.reduceMul, Int.reduceMod, Int.reduceTMod, Int.reduceTDiv, Int.reduceNeg, Nat.reduceSub, Nat.reduceDiv, reduceIte, reduceCtorEq]
    refine hK _ ?_ ?_ ?_ ?_ <;> simp only [h0, h1, h2, h6, hw, wk, wk1, Nat.reduceEqDiff, reduceIte, decide_true]
  | succ k ih =>
    intro j e s g hj hji h0 h1 h2 h6 h7 hA hI hP
    have hc : ((a : Int) < (j : Int)) := by omega
    have hw : wrapF .i64 ((i : Int) + 1) = ((i + 1 : Nat) : Int) := i64_add1 (by omega)
    have hwj : wrapF .i64 ((j : Int) - 1) = ((j - 1 : Nat) : Int) := i64_sub1 (by omega) (by omega)
    have hjn : j < n := by omega
    have hjn' : j - 1 < n := by omega
    have hj1 : j + 1 ≤ n := by omega
    have hj1' : j - 1 + 1 ≤ n := by omega
    obtain ⟨lo, hlo, hrow⟩ := hA.row
    have m1 := mp_take (en := en) (f := g) hjn
    have m2 := mp_take (en := en) (f := g) hjn'
    have sp1 := fun x => mp_splice (en := en) (f := g) (x := x) hjn
    have sp2 := fun f x => mp_splice (en := en) (f := f) (x := x) hjn'
    rw [go_loop]
    cases hlt : lt (g j) (g (j - 1)) with
    | false =>
      have hK := fun (e : Env) h0 h1 h2 h6 => K e s g h0 h1 h2 h6 hA (hI.done ho hji (fun _ => hlt)) hP
      simp only [h0, h1, h2, h6, h7, hc, hw, hwj, hjn, hjn', hj1, hj1', hrow, hlo, m1, m2, kl, hlt, wk, wk1, wk2, Option.some.injEq, exists_eq_left', decide_true, decide_false, Nat.reduceAdd, Nat.reduceEqDiff, Nat.reduceLeDiff, Nat.reduceLT, Nat.reduceMul, Nat.reduceBEq, Int.reduceLT, Int.reduceLE, Int.reduceEq, Int.reduceAdd, Int.reduceSub, Int.reduceMul, Int.reduceMod, Int.reduceTMod, Int.reduceTDiv, Int.reduceNeg, Nat.reduceSub, Nat.reduceDiv, reduceIte, reduceCtorEq]
      refine hK _ ?_ ?_ ?_ ?_ <;> simp only [h0, h1, h2, h6, hw, wk, wk1, Nat.reduceEqDiff, reduceIte, decide_true]
    | true =>
      have hA' := hA.put hB (swp g j (j - 1))
      have hI' := hI.step ho (by omega) hji hlt
      have hP' := hP.trans (PermR.swap (f := g) (i := j) (j := j - 1) (a := a) (b := b) (by omega) (by omega) (by omega) (by omega))
      simp only [h0, h1, h2, h6, h7, hc, hw, hwj, hjn, hjn', hj1, hj1', hrow, hlo, m1, m2, kl, hlt, kc, ki, sp1, sp2, upd_swp, wk, wk1, wk2, Option.some.injEq, exists_eq_left', decide_true, decide_false, Nat.reduceAdd, Nat.reduceEqDiff, Nat.reduceLeDiff, Nat.reduceLT, Nat.reduceMul, Nat.reduceBEq, Int.reduceLT, Int.reduceLE, Int.reduceEq, Int.reduceAdd, Int.reduceSub, Int.reduceMul, Int.reduceMod, Int.reduceTMod, Int.reduceTDiv, Int.reduceNeg, Nat.reduceSub, Nat.reduceDiv, reduceIte, reduceCtorEq]
      refine ih (j - 1) _ _ _ (by omega) (by omega) ?_ ?_ ?_ ?_ ?_ hA' hI' hP' <;> simp only [h0, h1, h2, h6, h7, hwj, wk, wk1, Nat.reduceEqDiff, reduceIte, decide_true]

set_option maxHeartbeats 4000000 in
theorem ins_outer (hL : LessOk T 140 en lt) (ho : Ord lt) {Q : Post} {s0 : St} {B inc n cap : Nat} {ex : Bool} (hB : B < s0.next) (hn : n ≤ 1000000000) (a b : Nat) (hbn : b ≤ n) (f0 : Nat → α)
    (K : ∀ (e : Env) (s : St) (g : Nat → α), Aft en s0 B inc n g s → Srt lt a b g → PermR a b f0 g → Ret T Q [] .normal e s) :
    ∀ (k i : Nat) (e : Env) (s : St) (g : Nat → α), k = b - i → a < i → i ≤ a + 1 ∨ i ≤ b → opd e (.t 0) = dsl B inc n cap ex → opd e (.t 1) = .int .i64 (a : Int) → opd e (.t 2) = .int .i64 (b : Int) → opd e (.t 6) = .int .i64 (i : Int) → Aft en s0 B inc n g s → Srt lt a i g → PermR a b f0 g →
      Go T Q (pdqIl0) [.block 0] e s := by
  intro k
  induction k with
  | zero =>
    intro i e s g hk hai hi h0 h1 h2 h6 hA hS hP
    have hc : ¬ ((i : Int) < (b : Int)) := by omega
    rw [go_loop]
    have hK := fun e => K e s g hA (fun p q x y z => hS p q x y (by omega)) hP
    have hK' := fun e => (ret_nil (T := T)).1 (hK e)
    simp only [h0, h1, h2, h6, hc, hK', wk, wk1, wk2, Option.some.injEq, exists_eq_left', decide_true, decide_false, Nat.reduceAdd, Nat.reduceEqDiff, Nat.reduceLeDiff, Nat.reduceLT, Nat.reduceMul, Nat.reduceBEq, Int.reduceLT, Int.reduceLE, Int.reduceEq, Int.reduceAdd, Int.reduceSub, Int.reduceMul, Int.reduceMod, Int.reduceTMod, Int.reduceTDiv, Int.reduceNeg, Nat.reduceSub, Nat.reduceDiv, reduceIte, reduceCtorEq]
  | succ k ih =>
    intro i e s g hk hai hi h0 h1 h2 h6 hA hS hP
    have hc : ((i : Int) < (b : Int)) := by omega
    rw [go_loop]
    simp only [h0, h1, h2, h6, hc, wk, wk1, wk2, Option.some.injEq, exists_eq_left', decide_true, decide_false, Nat.reduceAdd, Nat.reduceEqDiff, Nat.reduceLeDiff, Nat.reduceLT, Nat.reduceMul, Nat.reduceBEq, Int.reduceLT, Int.reduceLE, Int.reduceEq, Int.reduceAdd, Int.reduceSub, Int.reduceMul, Int.reduceMod, Int.reduceTMod, Int.reduceTDiv, Int.reduceNeg, Nat.reduceSub, Nat.reduceDiv, reduceIte, reduceCtorEq]
    refine ins_inner (cap := cap) (ex := ex) hL ho hB hn a b i (by omega) (by omega) hbn f0 ?_ (i - a) i _ s g (by omega) (Nat.le_refl _) ?_ ?_ ?_ ?_ ?_ hA ?_ hP
    · intro e s g h0 h1 h2 h6 hA hS hP
      exact ih (i + 1) e s g (by omega) (by omega) (by omega) h0 h1 h2 h6 hA hS hP
    all_goals (try simp only [h0, h1, h2, h6, wk, wk1, Nat.reduceEqDiff, reduceIte, decide_true])
    intro p q x y z w
    exact hS p q x y (by omega)

theorem ins_ran (hc : T 134 = some (.code ir134)) (hL : LessOk T 140 en lt) (ho : Ord lt) (s : St) (B inc n cap : Nat) (ex : Bool) (hB : B < s.next) (hn : n ≤ 1000000000) (a b : Nat) (hab : a ≤ b) (hbn : b ≤ n) (f : Nat → α) (hA : Aft en s B inc n f s) :
    Ran T 134 [dsl B inc n cap ex, .int .i64 (a : Int), .int .i64 (b : Int)] s fun v s' => v = .tuple [] ∧ ∃ g, Aft en s B inc n g s' ∧ PermR a b f g ∧ Srt lt a b g := by
  refine ran_code hc (Nat.le_of_ble_eq_true rfl) ?_
  have hw : wrapF .i64 ((a : Int) + 1) = ((a + 1 : Nat) : Int) := i64_add1 (by omega)
  generalize hQ : Fin _ _ = Q
  simp only [ir134, hw, wk, wk1, wk2, Option.some.injEq, exists_eq_left', decide_true, decide_false, Nat.reduceAdd, Nat.reduceEqDiff, Nat.reduceLeDiff, Nat.reduceLT, Nat.reduceMul, Nat.reduceBEq, Int.reduceLT, Int.reduceLE, Int.reduceEq, Int.reduceAdd, Int.reduceSub, Int.reduceMul, Int.reduceMod, Int.reduceTMod, Int.reduceTDiv, Int.reduceNeg, Nat.reduceSub, Nat.reduceDiv, reduceIte, reduceCtorEq]
  refine ins_outer (cap := cap) (ex := ex) hL ho hB hn a b hbn f ?_ (b - (a + 1)) (a + 1) _ s f rfl (by omega) (by omega) ?_ ?_ ?_ ?_ hA (fun i j x y z => by omega) (PermR.refl _ _ _)
  · intro e s' g hA hS hP
    subst hQ
    simp only [ir134, wk, wk1, wk2, Option.some.injEq, exists_eq_left', decide_true, decide_false, Nat.reduceAdd, Nat.reduceEqDiff, Nat.reduceLeDiff, Nat.reduceLT, Nat.reduceMul, Nat.reduceBEq, Int.reduceLT, Int.reduceLE, Int.reduceEq, Int.reduceAdd, Int.reduceSub, Int.reduceMul, Int.reduceMod, Int.reduceTMod, Int.reduceTDiv, Int.reduceNeg, Nat.reduceSub, Nat.reduceDiv, reduceIte, reduceCtorEq]
    exact ⟨g, hA, hP, hS⟩
  all_goals simp only [wk, wk1, Nat.reduceEqDiff, reduceIte, decide_true]
end
end Go.V
/- slices.reverseRangeOrdered, siftDownOrdered, heapSortOrdered over the small language. -/
namespace Go.V
open Go
set_option linter.unusedSimpArgs false
set_option linter.unusedVariables false
abbrev pdqRl0 : ICode := (.loop (.seq (.seq (.region [⟨some 11, none, [], (.move (.t 6))⟩, ⟨some 12, none, [], (.move (.t 7))⟩, ⟨some 13, none, [], (.bin .lss (.t 11) (.t 12))⟩] false)
 (.cond (.t 13) .skip (.exit 0)))
 (.block 1 (.seq (.region [⟨some 14, none, [], (.move (.t 0))⟩, ⟨some 15, none, [], (.move (.t 6))⟩, ⟨some 16, none, [], (.move (.t 0))⟩, ⟨some 17, none, [], (.move (.t 7))⟩, ⟨some 18, none, [], (.move (.t 0))⟩, ⟨some 19, none, [], (.move (.t 7))⟩, ⟨some 20, none, [], (.idxSl 1 (.t 18) (.t 19))⟩, ⟨some 21, none, [], (.load false 1 (.t 20))⟩, ⟨some 22, none, [], (.move (.t 0))⟩, ⟨some 23, none, [], (.move (.t 6))⟩, ⟨some 24, none, [], (.idxSl 1 (.t 22) (.t 23))⟩, ⟨some 25, none, [], (.load false 1 (.t 24))⟩, ⟨some 26, none, [], (.idxSl 1 (.t 14) (.t 15))⟩, ⟨none, none, [], (.store 1 (.t 26) (.t 21))⟩, ⟨some 27, none, [], (.idxSl 1 (.t 16) (.t 17))⟩, ⟨none, none, [], (.store 1 (.t 27) (.t 25))⟩] true)
 (.seq (.region [⟨some 28, none, [], (.move (.t 6))⟩, ⟨some 29, none, [], (.bin .add (.t 28) (.c (.int .i64 1)))⟩, ⟨some 6, none, [], (.move (.t 29))⟩] false)
 (.region [⟨some 30, none, [], (.move (.t 7))⟩, ⟨some 31, none, [], (.bin .sub (.t 30) (.c (.int .i64 1)))⟩, ⟨some 7, none, [], (.move (.t 31))⟩] false))))))
abbrev pdqRl1 : ICode := (.loop (.block 1 (.seq (.region [⟨some 11, none, [], (.move (.t 8))⟩, ⟨some 12, none, [], (.bin .mul (.c (.int .i64 2)) (.t 11))⟩, ⟨some 13, none, [], (.bin .add (.t 12) (.c (.int .i64 1)))⟩, ⟨some 9, none, [], (.move (.t 13))⟩] false)
 (.seq (.seq (.region [⟨some 14, none, [], (.move (.t 9))⟩, ⟨some 15, none, [], (.move (.t 2))⟩, ⟨some 16, none, [], (.bin .geq (.t 14) (.t 15))⟩] false)
 (.cond (.t 16) (.exit 0) .skip))
 (.seq (.seq (.region [⟨some 17, none, [], (.move (.t 9))⟩, ⟨some 18, none, [], (.bin .add (.t 17) (.c (.int .i64 1)))⟩, ⟨some 19, none, [], (.move (.t 2))⟩, ⟨some 20, none, [], (.bin .lss (.t 18) (.t 19))⟩, ⟨some 21, none, [], (.move (.t 20))⟩, ⟨some 22, some (21, true), [], (.move (.t 0))⟩, ⟨some 23, some (21, true), [], (.move (.t 3))⟩, ⟨some 24, some (21, true), [], (.move (.t 9))⟩, ⟨some 25, some (21, true), [], (.bin .add (.t 23) (.t 24))⟩, ⟨some 26, some (21, true), [], (.idxSl 1 (.t 22) (.t 25))⟩, ⟨some 27, some (21, true), [], (.load false 1 (.t 26))⟩, ⟨some 28, some (21, true), [], (.move (.t 0))⟩, ⟨some 29, some (21, true), [], (.move (.t 3))⟩, ⟨some 30, some (21, true), [], (.move (.t 9))⟩, ⟨some 31, some (21, true), [], (.bin .add (.t 29) (.t 30))⟩, ⟨some 32, some (21, true), [], (.bin .add (.t 31) (.c (.int .i64 1)))⟩, ⟨some 33, some (21, true), [], (.idxSl 1 (.t 28) (.t 32))⟩, ⟨some 34, some (21, true), [], (.load false 1 (.t 33))⟩, ⟨some 35, some (21, true), [], (.call 140 [(.t 27), (.t 34)])⟩, ⟨some 36, none, [], (.pick (.t 21) (.t 35) (.c (.bool false)))⟩] true)
 (.cond (.t 36) (.region [⟨some 37, none, [], (.move (.t 9))⟩, ⟨some 38, none, [], (.bin .add (.t 37) (.c (.int .i64 1)))⟩, ⟨some 9, none, [], (.move (.t 38))⟩] false) .skip))
 (.seq (.seq (.region [⟨some 39, none, [], (.move (.t 0))⟩, ⟨some 40, none, [], (.move (.t 3))⟩, ⟨some 41, none, [], (.move (.t 8))⟩, ⟨some 42, none, [], (.bin .add (.t 40) (.t 41))⟩, ⟨some 43, none, [], (.idxSl 1 (.t 39) (.t 42))⟩, ⟨some 44, none, [], (.load false 1 (.t 43))⟩, ⟨some 45, none, [], (.move (.t 0))⟩, ⟨some 46, none, [], (.move (.t 3))⟩, ⟨some 47, none, [], (.move (.t 9))⟩, ⟨some 48, none, [], (.bin .add (.t 46) (.t 47))⟩, ⟨some 49, none, [], (.idxSl 1 (.t 45) (.t 48))⟩, ⟨some 50, none, [], (.load false 1 (.t 49))⟩, ⟨some 51, none, [], (.call 140 [(.t 44), (.t 50)])⟩, ⟨some 52, none, [], (.un .not (.t 51))⟩] true)
 (.cond (.t 52) .ret .skip))
 (.seq (.region [⟨some 53, none, [], (.move (.t 0))⟩, ⟨some 54, none, [], (.move (.t 3))⟩, ⟨some 55, none, [], (.move (.t 8))⟩, ⟨some 56, none, [], (.bin .add (.t 54) (.t 55))⟩, ⟨some 57, none, [], (.move (.t 0))⟩, ⟨some 58, none, [], (.move (.t 3))⟩, ⟨some 59, none, [], (.move (.t 9))⟩, ⟨some 60, none, [], (.bin .add (.t 58) (.t 59))⟩, ⟨some 61, none, [], (.move (.t 0))⟩, ⟨some 62, none, [], (.move (.t 3))⟩, ⟨some 63, none, [], (.move (.t 9))⟩, ⟨some 64, none, [], (.bin .add (.t 62) (.t 63))⟩, ⟨some 65, none, [], (.idxSl 1 (.t 61) (.t 64))⟩, ⟨some 66, none, [], (.load false 1 (.t 65))⟩, ⟨some 67, none, [], (.move (.t 0))⟩, ⟨some 68, none, [], (.move (.t 3))⟩, ⟨some 69, none, [], (.move (.t 8))⟩, ⟨some 70, none, [], (.bin .add (.t 68) (.t 69))⟩, ⟨some 71, none, [], (.idxSl 1 (.t 67) (.t 70))⟩, ⟨some 72, none, [], (.load false 1 (.t 71))⟩, ⟨some 73, none, [], (.idxSl 1 (.t 53) (.t 56))⟩, ⟨none, none, [], (.store 1 (.t 73) (.t 66))⟩, ⟨some 74, none, [], (.idxSl 1 (.t 57) (.t 60))⟩, ⟨none, none, [], (.store 1 (.t 74) (.t 72))⟩] true)
 (.region [⟨some 75, none, [], (.move (.t 9))⟩, ⟨some 8, none, [], (.move (.t 75))⟩] false))))))))
-- slices.reverseRangeOrdered[uint32]
def ir138 : IFunc := ⟨32, [], (.seq (.region [⟨some 8, none, [], (.move (.t 1))⟩, ⟨some 6, none, [], (.move (.t 8))⟩] false)
 (.seq (.region [⟨some 9, none, [], (.move (.t 2))⟩, ⟨some 10, none, [], (.bin .sub (.t 9) (.c (.int .i64 1)))⟩, ⟨some 7, none, [], (.move (.t 10))⟩] false)
 (.block 0 (.loop (.seq (.seq (.region [⟨some 11, none, [], (.move (.t 6))⟩, ⟨some 12, none, [], (.move (.t 7))⟩, ⟨some 13, none, [], (.bin .lss (.t 11) (.t 12))⟩] false)
 (.cond (.t 13) .skip (.exit 0)))
 (.block 1 (.seq (.region [⟨some 14, none, [], (.move (.t 0))⟩, ⟨some 15, none, [], (.move (.t 6))⟩, ⟨some 16, none, [], (.move (.t 0))⟩, ⟨some 17, none, [], (.move (.t 7))⟩, ⟨some 18, none, [], (.move (.t 0))⟩, ⟨some 19, none, [], (.move (.t 7))⟩, ⟨some 20, none, [], (.idxSl 1 (.t 18) (.t 19))⟩, ⟨some 21, none, [], (.load false 1 (.t 20))⟩, ⟨some 22, none, [], (.move (.t 0))⟩, ⟨some 23, none, [], (.move (.t 6))⟩, ⟨some 24, none, [], (.idxSl 1 (.t 22) (.t 23))⟩, ⟨some 25, none, [], (.load false 1 (.t 24))⟩, ⟨some 26, none, [], (.idxSl 1 (.t 14) (.t 15))⟩, ⟨none, none, [], (.store 1 (.t 26) (.t 21))⟩, ⟨some 27, none, [], (.idxSl 1 (.t 16) (.t 17))⟩, ⟨none, none, [], (.store 1 (.t 27) (.t 25))⟩] true)
 (.seq (.region [⟨some 28, none, [], (.move (.t 6))⟩, ⟨some 29, none, [], (.bin .add (.t 28) (.c (.int .i64 1)))⟩, ⟨some 6, none, [], (.move (.t 29))⟩] false)
 (.region [⟨some 30, none, [], (.move (.t 7))⟩, ⟨some 31, none, [], (.bin .sub (.t 30) (.c (.int .i64 1)))⟩, ⟨some 7, none, [], (.move (.t 31))⟩] false)))))))))⟩
-- slices.siftDownOrdered[uint32]
def ir154 : IFunc := ⟨76, [], (.seq (.region [⟨some 10, none, [], (.move (.t 1))⟩, ⟨some 8, none, [], (.move (.t 10))⟩] false)
 (.block 0 (.loop (.block 1 (.seq (.region [⟨some 11, none, [], (.move (.t 8))⟩, ⟨some 12, none, [], (.bin .mul (.c (.int .i64 2)) (.t 11))⟩, ⟨some 13, none, [], (.bin .add (.t 12) (.c (.int .i64 1)))⟩, ⟨some 9, none, [], (.move (.t 13))⟩] false)
 (.seq (.seq (.region [⟨some 14, none, [], (.move (.t 9))⟩, ⟨some 15, none, [], (.move (.t 2))⟩, ⟨some 16, none, [], (.bin .geq (.t 14) (.t 15))⟩] false)
 (.cond (.t 16) (.exit 0) .skip))
 (.seq (.seq (.region [⟨some 17, none, [], (.move (.t 9))⟩, ⟨some 18, none, [], (.bin .add (.t 17) (.c (.int .i64 1)))⟩, ⟨some 19, none, [], (.move (.t 2))⟩, ⟨some 20, none, [], (.bin .lss (.t 18) (.t 19))⟩, ⟨some 21, none, [], (.move (.t 20))⟩, ⟨some 22, some (21, true), [], (.move (.t 0))⟩, ⟨some 23, some (21, true), [], (.move (.t 3))⟩, ⟨some 24, some (21, true), [], (.move (.t 9))⟩, ⟨some 25, some (21, true), [], (.bin .add (.t 23) (.t 24))⟩, ⟨some 26, some (21, true), [], (.idxSl 1 (.t 22) (.t 25))⟩, ⟨some 27, some (21, true), [], (.load false 1 (.t 26))⟩, ⟨some 28, some (21, true), [], (.move (.t 0))⟩, ⟨some 29, some (21, true), [], (.move (.t 3))⟩, ⟨some 30, some (21, true), [], (.move (.t 9))⟩, ⟨some 31, some (21, true), [], (.bin .add (.t 29) (.t 30))⟩, ⟨some 32, some (21, true), [], (.bin .add (.t 31) (.c (.int .i64 1)))⟩, ⟨some 33, some (21, true), [], (.idxSl 1 (.t 28) (.t 32))⟩, ⟨some 34, some (21, true), [], (.load false 1 (.t 33))⟩, ⟨some 35, some (21, true), [], (.call 140 [(.t 27), (.t 34)])⟩, ⟨some 36, none, [], (.pick (.t 21) (.t 35) (.c (.bool false)))⟩] true)
 (.cond (.t 36) (.region [⟨some 37, none, [], (.move (.t 9))⟩, ⟨some 38, none, [], (.bin .add (.t 37) (.c (.int .i64 1)))⟩, ⟨some 9, none, [], (.move (.t 38))⟩] false) .skip))
 (.seq (.seq (.region [⟨some 39, none, [], (.move (.t 0))⟩, ⟨some 40, none, [], (.move (.t 3))⟩, ⟨some 41, none, [], (.move (.t 8))⟩, ⟨some 42, none, [], (.bin .add (.t 40) (.t 41))⟩, ⟨some 43, none, [], (.idxSl 1 (.t 39) (.t 42))⟩, ⟨some 44, none, [], (.load false 1 (.t 43))⟩, ⟨some 45, none, [], (.move (.t 0))⟩, ⟨some 46, none, [], (.move (.t 3))⟩, ⟨some 47, none, [], (.move (.t 9))⟩, ⟨some 48, none, [], (.bin .add (.t 46) (.t 47))⟩, ⟨some 49, none, [], (.idxSl 1 (.t 45) (.t 48))⟩, ⟨some 50, none, [], (.load false 1 (.t 49))⟩, ⟨some 51, none, [], (.call 140 [(.t 44), (.t 50)])⟩, ⟨some 52, none, [], (.un .not (.t 51))⟩] true)
 (.cond (.t 52) .ret .skip))
 (.seq (.region [⟨some 53, none, [], (.move (.t 0))⟩, ⟨some 54, none, [], (.move (.t 3))⟩, ⟨some 55, none, [], (.move (.t 8))⟩, ⟨some 56, none, [], (.bin .add (.t 54) (.t 55))⟩, ⟨some 57, none, [], (.move (.t 0))⟩, ⟨some 58, none, [], (.move (.t 3))⟩, ⟨some 59, none, [], (.move (.t 9))⟩, ⟨some 60, none, [], (.bin .add (.t 58) (.t 59))⟩, ⟨some 61, none, [], (.move (.t 0))⟩, ⟨some 62, none, [], (.move (.t 3))⟩, ⟨some 63, none, [], (.move (.t 9))⟩, ⟨some 64, none, [], (.bin .add (.t 62) (.t 63))⟩, ⟨some 65, none, [], (.idxSl 1 (.t 61) (.t 64))⟩, ⟨some 66, none, [], (.load false 1 (.t 65))⟩, ⟨some 67, none, [], (.move (.t 0))⟩, ⟨some 68, none, [], (.move (.t 3))⟩, ⟨some 69, none, [], (.move (.t 8))⟩, ⟨some 70, none, [], (.bin .add (.t 68) (.t 69))⟩, ⟨some 71, none, [], (.idxSl 1 (.t 67) (.t 70))⟩, ⟨some 72, none, [], (.load false 1 (.t 71))⟩, ⟨some 73, none, [], (.idxSl 1 (.t 53) (.t 56))⟩, ⟨none, none, [], (.store 1 (.t 73) (.t 66))⟩, ⟨some 74, none, [], (.idxSl 1 (.t 57) (.t 60))⟩, ⟨none, none, [], (.store 1 (.t 74) (.t 72))⟩] true)
 (.region [⟨some 75, none, [], (.move (.t 9))⟩, ⟨some 8, none, [], (.move (.t 75))⟩] false))))))))))⟩
-- slices.heapSortOrdered[uint32]
def ir135 : IFunc := ⟨56, [], (.seq (.region [⟨some 11, none, [], (.move (.t 1))⟩, ⟨some 6, none, [], (.move (.t 11))⟩] false)
 (.seq (.region [⟨some 7, none, [], (.move (.c (.int .i64 0)))⟩] false)
 (.seq (.region [⟨some 12, none, [], (.move (.t 2))⟩, ⟨some 13, none, [], (.move (.t 1))⟩, ⟨some 14, none, [], (.bin .sub (.t 12) (.t 13))⟩, ⟨some 8, none, [], (.move (.t 14))⟩] false)
 (.seq (.seq (.region [⟨some 15, none, [], (.move (.t 8))⟩, ⟨some 16, none, [], (.bin .sub (.t 15) (.c (.int .i64 1)))⟩, ⟨some 17, none, [], (.bin .quo (.t 16) (.c (.int .i64 2)))⟩, ⟨some 9, none, [], (.move (.t 17))⟩] false)
 (.block 0 (.loop (.seq (.seq (.region [⟨some 18, none, [], (.move (.t 9))⟩, ⟨some 19, none, [], (.bin .geq (.t 18) (.c (.int .i64 0)))⟩] false)
 (.cond (.t 19) .skip (.exit 0)))
 (.seq (.block 1 (.region [⟨some 22, none, [], (.move (.t 0))⟩, ⟨some 23, none, [], (.move (.t 9))⟩, ⟨some 24, none, [], (.move (.t 8))⟩, ⟨some 25, none, [], (.move (.t 6))⟩, ⟨some 26, none, [], (.call 154 [(.t 22), (.t 23), (.t 24), (.t 25)])⟩] false))
 (.region [⟨some 20, none, [], (.move (.t 9))⟩, ⟨some 21, none, [], (.bin .sub (.t 20) (.c (.int .i64 1)))⟩, ⟨some 9, none, [], (.move (.t 21))⟩] false))))))
 (.seq (.region [⟨some 27, none, [], (.move (.t 8))⟩, ⟨some 28, none, [], (.bin .sub (.t 27) (.c (.int .i64 1)))⟩, ⟨some 10, none, [], (.move (.t 28))⟩] false)
 (.block 2 (.loop (.seq (.seq (.region [⟨some 29, none, [], (.move (.t 10))⟩, ⟨some 30, none, [], (.bin .geq (.t 29) (.c (.int .i64 0)))⟩] false)
 (.cond (.t 30) .skip (.exit 2)))
 (.seq (.block 3 (.seq (.region [⟨some 33, none, [], (.move (.t 0))⟩, ⟨some 34, none, [], (.move (.t 6))⟩, ⟨some 35, none, [], (.move (.t 0))⟩, ⟨some 36, none, [], (.move (.t 6))⟩, ⟨some 37, none, [], (.move (.t 10))⟩, ⟨some 38, none, [], (.bin .add (.t 36) (.t 37))⟩, ⟨some 39, none, [], (.move (.t 0))⟩, ⟨some 40, none, [], (.move (.t 6))⟩, ⟨some 41, none, [], (.move (.t 10))⟩, ⟨some 42, none, [], (.bin .add (.t 40) (.t 41))⟩, ⟨some 43, none, [], (.idxSl 1 (.t 39) (.t 42))⟩, ⟨some 44, none, [], (.load false 1 (.t 43))⟩, ⟨some 45, none, [], (.move (.t 0))⟩, ⟨some 46, none, [], (.move (.t 6))⟩, ⟨some 47, none, [], (.idxSl 1 (.t 45) (.t 46))⟩, ⟨some 48, none, [], (.load false 1 (.t 47))⟩, ⟨some 49, none, [], (.idxSl 1 (.t 33) (.t 34))⟩, ⟨none, none, [], (.store 1 (.t 49) (.t 44))⟩, ⟨some 50, none, [], (.idxSl 1 (.t 35) (.t 38))⟩, ⟨none, none, [], (.store 1 (.t 50) (.t 48))⟩] true)
 (.region [⟨some 51, none, [], (.move (.t 0))⟩, ⟨some 52, none, [], (.move (.t 7))⟩, ⟨some 53, none, [], (.move (.t 10))⟩, ⟨some 54, none, [], (.move (.t 6))⟩, ⟨some 55, none, [], (.call 154 [(.t 51), (.t 52), (.t 53), (.t 54)])⟩] false)))
 (.region [⟨some 31, none, [], (.move (.t 10))⟩, ⟨some 32, none, [], (.bin .sub (.t 31) (.c (.int .i64 1)))⟩, ⟨some 10, none, [], (.move (.t 32))⟩] false))))))))))⟩
section
variable {α : Type} {en : α → AV} {lt : α → α → Bool} {T : Tab}
set_option maxHeartbeats 4000000 in
theorem rev_loop (hL : LessOk T 140 en lt) {Q : Post} {s0 : St} {B inc n cap : Nat} {ex : Bool} (hB : B < s0.next) (hn : n ≤ 1000000000) (a b : Nat) (hbn : b ≤ n) (f0 : Nat → α)
    (K : ∀ (e : Env) (s : St) (g : Nat → α), Aft en s0 B inc n g s → PermR a b f0 g → Q .normal e s) :
    ∀ (k i j : Nat) (e : Env) (s : St) (g : Nat → α), k = b - i → a ≤ i → j < b → a ≤ j → opd e (.t 0) = dsl B inc n cap ex → opd e (.t 6) = .int .i64 (i : Int) → opd e (.t 7) = .int .i64 (j : Int) → Aft en s0 B inc n g s → PermR a b f0 g →
      Go T Q (pdqRl0) [.block 0] e s := by
  have kc := hL.cells
  have ki := hL.cell
  intro k
  induction k with
  | zero =>
    intro i j e s g hk hai hjb haj h0 h6 h7 hA hP
    have hc : ¬ ((i : Int) < (j : Int)) := by omega
    have hK := fun e => K e s g hA hP
    rw [go_loop]
    simp only [h0, h6, h7, hc, hK, wk, wk1, wk2, Option.some.injEq, exists_eq_left', decide_true, decide_false, Nat.reduceAdd, Nat.reduceEqDiff, Nat.reduceLeDiff, Nat.reduceLT, Nat.reduceMul, Nat.reduceBEq, Int.reduceLT, Int.reduceLE, Int.reduceEq, Int.reduceAdd, Int.reduceSub, Int.reduceMul, Int.reduceMod, Int.reduceTMod, Int.reduceTDiv, Int.reduceNeg, Nat.reduceSub, Nat.reduceDiv, reduceIte, reduceCtorEq]
  | succ k ih =>
    intro i j e s g hk hai hjb haj h0 h6 h7 hA hP
    by_cases hij : i < j
    · have hc : ((i : Int) < (j : Int)) := by omega
      have hw : wrapF .i64 ((i : Int) + 1) = ((i + 1 : Nat) : Int) := i64_add1 (by omega)
      have hwj : wrapF .i64 ((j : Int) - 1) = ((j - 1 : Nat) : Int) := i64_sub1 (by omega) (by omega)
      have hin : i < n := by omega
      have hjn : j < n := by omega
      have hi1 : i + 1 ≤ n := by omega
      have hj1 : j + 1 ≤ n := by omega
      obtain ⟨lo, hlo, hrow⟩ := hA.row
      have m1 := mp_take (en := en) (f := g) hin
      have m2 := mp_take (en := en) (f := g) hjn
      have sp1 := fun x => mp_splice (en := en) (f := g) (x := x) hin
      have sp2 := fun f x => mp_splice (en := en) (f := f) (x := x) hjn
      have hA' := hA.put hB (swp g i j)
      have hP' := hP.trans (PermR.swap (f := g) (i := i) (j := j) (a := a) (b := b) (by omega) (by omega) (by omega) (by omega))
      rw [go_loop]
      simp only [h0, h6, h7, hc, hw, hwj, hin, hjn, hi1, hj1, hrow, hlo, m1, m2, kc, ki, sp1, sp2, upd_swp, wk, wk1, wk2, Option.some.injEq, exists_eq_left', decide_true, decide_false, Nat.reduceAdd, Nat.reduceEqDiff, Nat.reduceLeDiff, Nat.reduceLT, Nat.reduceMul, Nat.reduceBEq, Int.reduceLT, Int.reduceLE, Int.reduceEq, Int.reduceAdd, Int.reduceSub, Int.reduceMul, Int.reduceMod, Int.reduceTMod, Int.reduceTDiv, Int.reduceNeg, Nat.reduceSub, Nat.reduceDiv, reduceIte, reduceCtorEq]
      refine ih (i + 1) (j - 1) _ _ _ (by omega) (by omega) (by omega) (by omega) ?_ ?_ ?_ hA' hP' <;> simp only [h0, h6, h7, hw, hwj, wk, wk1, wk2, Option.some.injEq, exists_eq_left', decide_true, decide_false, Nat.reduceAdd, Nat.reduceEqDiff, Nat.reduceLeDiff, Nat.reduceLT, Nat.reduceMul, Nat.reduceBEq, Int.reduceLT, Int.reduceLE, Int.reduceEq, Int.reduceAdd, Int.reduceSub, Int.reduceMul, Int.reduceMod, Int.reduceTMod, Int.reduceTDiv, Int.reduceNeg, Nat.reduceSub, Nat.reduceDiv, reduceIte, reduceCtorEq]
    · have hc : ¬ ((i : Int) < (j : Int)) := by omega
      have hK := fun e => K e s g hA hP
      rw [go_loop]
      simp only [h0, h6, h7, hc, hK, wk, wk1, wk2, Option.some.injEq, exists_eq_left', decide_true, decide_false, Nat.reduceAdd, Nat.reduceEqDiff, Nat.reduceLeDiff, Nat.reduceLT, Nat.reduceMul, Nat.reduceBEq, Int.reduceLT, Int.reduceLE, Int.reduceEq, Int.reduceAdd, Int.reduceSub, Int.reduceMul, Int.reduceMod, Int.reduceTMod, Int.reduceTDiv, Int.reduceNeg, Nat.reduceSub, Nat.reduceDiv, reduceIte, reduceCtorEq]

theorem rev_ran (hc : T 138 = some (.code ir138)) (hL : LessOk T 140 en lt) (s : St) (B inc n cap : Nat) (ex : Bool) (hB : B < s.next) (hn : n ≤ 1000000000) (a b : Nat) (hab : a < b) (hbn : b ≤ n) (f : Nat → α) (hA : Aft en s B inc n f s) :
    Ran T 138 [dsl B inc n cap ex, .int .i64 (a : Int), .int .i64 (b : Int)] s fun v s' => v = .tuple [] ∧ ∃ g, Aft en s B inc n g s' ∧ PermR a b f g := by
  refine ran_code hc (Nat.le_of_ble_eq_true rfl) ?_
  have hw : wrapF .i64 ((b : Int) - 1) = ((b - 1 : Nat) : Int) := i64_sub1 (by omega) (by omega)
  generalize hQ : Fin _ _ = Q
  simp only [ir138, hw, wk, wk1, wk2, Option.some.injEq, exists_eq_left', decide_true, decide_false, Nat.reduceAdd, Nat.reduceEqDiff, Nat.reduceLeDiff, Nat.reduceLT, Nat.reduceMul, Nat.reduceBEq, Int.reduceLT, Int.reduceLE, Int.reduceEq, Int.reduceAdd, Int.reduceSub, Int.reduceMul, Int.reduceMod, Int.reduceTMod, Int.reduceTDiv, Int.reduceNeg, Nat.reduceSub, Nat.reduceDiv, reduceIte, reduceCtorEq]
  refine rev_loop (cap := cap) (ex := ex) hL hB hn a b hbn f ?_ (b - a) a (b - 1) _ s f rfl (by omega) (by omega) (by omega) ?_ ?_ ?_ hA (PermR.refl _ _ _)
  · intro e s' g hA hP
    subst hQ
    simp only [ir138, wk, wk1, wk2, Option.some.injEq, exists_eq_left', decide_true, decide_false, Nat.reduceAdd, Nat.reduceEqDiff, Nat.reduceLeDiff, Nat.reduceLT, Nat.reduceMul, Nat.reduceBEq, Int.reduceLT, Int.reduceLE, Int.reduceEq, Int.reduceAdd, Int.reduceSub, Int.reduceMul, Int.reduceMod, Int.reduceTMod, Int.reduceTDiv, Int.reduceNeg, Nat.reduceSub, Nat.reduceDiv, reduceIte, reduceCtorEq]
    exact ⟨g, hA, hP⟩
  all_goals simp only [wk, wk1, wk2, Option.some.injEq, exists_eq_left', decide_true, decide_false, Nat.reduceAdd, Nat.reduceEqDiff, Nat.reduceLeDiff, Nat.reduceLT, Nat.reduceMul, Nat.reduceBEq, Int.reduceLT, Int.reduceLE, Int.reduceEq, Int.reduceAdd, Int.reduceSub, Int.reduceMul, Int.reduceMod, Int.reduceTMod, Int.reduceTDiv, Int.reduceNeg, Nat.reduceSub, Nat.reduceDiv, reduceIte, reduceCtorEq]

/- the heap -/
def Heap (lt : α → α → Bool) (o lo hi : Nat) (f : Nat → α) : Prop := ∀ c, 1 ≤ c → c < hi → lo ≤ (c - 1) / 2 → Le lt (f (o + c)) (f (o + (c - 1) / 2))
structure HeapInv (lt : α → α → Bool) (o lo hi r : Nat) (f : Nat → α) : Prop where
  one : ∀ c, 1 ≤ c → c < hi → lo ≤ (c - 1) / 2 → (c - 1) / 2 ≠ r → Le lt (f (o + c)) (f (o + (c - 1) / 2))
  two : ∀ c, 1 ≤ c → c < hi → (c - 1) / 2 = r → 1 ≤ r → lo ≤ (r - 1) / 2 → Le lt (f (o + c)) (f (o + (r - 1) / 2))

theorem HeapInv.done {o lo hi r : Nat} {f : Nat → α} (h : HeapInv lt o lo hi r f) (hr : ∀ c, 1 ≤ c → c < hi → (c - 1) / 2 = r → Le lt (f (o + c)) (f (o + r))) : Heap lt o lo hi f := by
  intro c h1 h2 h3
  by_cases hc : (c - 1) / 2 = r
  · rw [hc]; exact hr c h1 h2 hc
  · exact h.one c h1 h2 h3 hc
theorem HeapInv.step (ho : Ord lt) {o lo hi r c : Nat} {f : Nat → α} (h : HeapInv lt o lo hi r f) (hlr : lo ≤ r) (hc : c = 2 * r + 1 ∨ c = 2 * r + 2) (hch : c < hi) (hl : lt (f (o + r)) (f (o + c)) = true)
    (hsib : ∀ d, 1 ≤ d → d < hi → (d - 1) / 2 = r → Le lt (f (o + d)) (f (o + c))) : HeapInv lt o lo hi c (swp f (o + r) (o + c)) := by
  have hrc : r < c := by omega
  have hpc : (c - 1) / 2 = r := by omega
  constructor
  · intro d h1 h2 h3 h4
    unfold swp
    by_cases e1 : (d - 1) / 2 = r
    · rw [e1, if_neg (by omega : ¬ o + d = o + r), if_pos rfl]
      by_cases e2 : d = c
      · subst e2; rw [if_pos rfl]; exact ho.le hl
      · rw [if_neg (by omega)]; exact hsib d h1 h2 e1
    · rw [if_neg (by omega : ¬ o + (d - 1) / 2 = o + r), if_neg (by omega : ¬ o + (d - 1) / 2 = o + c)]
      by_cases e2 : d = r
      · subst e2; rw [if_pos rfl]; exact h.two c (by omega) hch hpc h1 h3
      · rw [if_neg (by omega), if_neg (by omega)]; exact h.one d h1 h2 h3 e1
  · intro d h1 h2 h3 h4 h5
    unfold swp
    rw [hpc, if_pos rfl, if_neg (by omega), if_neg (by omega)]
    have := h.one d h1 h2 (by omega) (by omega)
    rw [h3] at this
    exact this
theorem Heap.inv {o lo hi : Nat} {f : Nat → α} (h : Heap lt o (lo + 1) hi f) : HeapInv lt o lo hi lo f :=
  ⟨fun c h1 h2 h3 h4 => h c h1 h2 (by omega), fun c _ _ _ h4 h5 => by omega⟩
theorem Heap.top (ho : Ord lt) {o hi : Nat} {f : Nat → α} (h : Heap lt o 0 hi f) : ∀ c, c < hi → Le lt (f (o + c)) (f o) := by
  intro c
  induction c using Nat.strongRecOn with
  | _ c ih =>
    intro hc
    by_cases h0 : c = 0
    · subst h0; exact ho.refl _
    · exact ho.trans _ _ _ (h c (by omega) hc (Nat.zero_le _)) (ih ((c - 1) / 2) (by omega) (by omega))

theorem op (n : Nat) : ∃ m, m = n := ⟨n, rfl⟩
set_option maxHeartbeats 8000000 in
theorem sift_loop (hL : LessOk T 140 en lt) (ho : Ord lt) {Q : Post} {s0 : St} {B inc n cap : Nat} {ex : Bool} (hB : B < s0.next) (hn : n ≤ 1000000000) (o lo hi b : Nat) (hob : o + hi ≤ b) (hbn : b ≤ n) (f0 : Nat → α)
    (K : ∀ (e : Env) (s : St) (g : Nat → α), Aft en s0 B inc n g s → Heap lt o lo hi g → PermR o b f0 g → Q .normal e s ∧ Q .ret e s) :
    ∀ (k r : Nat) (e : Env) (s : St) (g : Nat → α), k = hi - r → lo ≤ r → r < hi ∨ r ≤ n → opd e (.t 0) = dsl B inc n cap ex → opd e (.t 2) = .int .i64 (hi : Int) → opd e (.t 3) = .int .i64 (o : Int) → opd e (.t 8) = .int .i64 (r : Int) → Aft en s0 B inc n g s → HeapInv lt o lo hi r g → PermR o b f0 g →
      Go T Q (pdqRl1) [.block 0] e s := by
  have kl := hL.call
  have kc := hL.cells
  have ki := hL.cell
  intro k
  induction k using Nat.strongRecOn with
  | _ k ih =>
    intro r e s g hk hlr hrn h0 h2 h3 h8 hA hI hP
    obtain ⟨m, hm⟩ := op (2 * r)
    obtain ⟨c, hc⟩ := op (m + 1)
    have u1 : wrapF .i64 (2 * (r : Int)) = (m : Int) := by rw [wrap_i64 _ (by omega) (by omega)]; omega
    have u2 : wrapF .i64 ((m : Int) + 1) = (c : Int) := by rw [wrap_i64 _ (by omega) (by omega)]; omega
    rw [go_loop]
    by_cases hch : c < hi
    · have l1 : ¬ ((hi : Int) ≤ (c : Int)) := by omega
      obtain ⟨d, hd⟩ := op (c + 1)
      obtain ⟨p, hp⟩ := op (o + c)
      obtain ⟨q, hq⟩ := op (o + d)
      obtain ⟨x, hx⟩ := op (o + r)
      have u3 : wrapF .i64 ((c : Int) + 1) = (d : Int) := by rw [wrap_i64 _ (by omega) (by omega)]; omega
      have u4 : wrapF .i64 ((o : Int) + (c : Int)) = (p : Int) := by rw [wrap_i64 _ (by omega) (by omega)]; omega
      have u5 : wrapF .i64 ((o : Int) + (d : Int)) = (q : Int) := by rw [wrap_i64 _ (by omega) (by omega)]; omega
      have u6 : wrapF .i64 ((p : Int) + 1) = (q : Int) := by rw [wrap_i64 _ (by omega) (by omega)]; omega
      have u7 : wrapF .i64 ((o : Int) + (r : Int)) = (x : Int) := by rw [wrap_i64 _ (by omega) (by omega)]; omega
      have hpn : p < n := by omega
      have hxn : x < n := by omega
      have hp1 : p + 1 ≤ n := by omega
      have hx1 : x + 1 ≤ n := by omega
      obtain ⟨lo', hlo, hrow⟩ := hA.row
      have m1 := mp_take (en := en) (f := g) hpn
      have m2 := mp_take (en := en) (f := g) hxn
      have sp1 := fun f x => mp_splice (en := en) (f := f) (x := x) hpn
      have sp2 := fun f x => mp_splice (en := en) (f := f) (x := x) hxn
      by_cases hdh : d < hi
      · have l2 : ((d : Int) < (hi : Int)) := by omega
        have hqn : q < n := by omega
        have hq1 : q + 1 ≤ n := by omega
        have m3 := mp_take (en := en) (f := g) hqn
        have sp3 := fun f x => mp_splice (en := en) (f := f) (x := x) hqn
        cases hlt : lt (g p) (g q) with
        | true =>
          -- the second child
          have hsib : ∀ y, 1 ≤ y → y < hi → (y - 1) / 2 = r → Le lt (g (o + y)) (g (o + d)) := by
            intro y y1 y2 y3
            rw [← hq]
            by_cases e1 : y = d
            · subst e1; rw [← hq]; exact ho.refl _
            · have e2 : y = c := by omega
              subst e2; rw [← hp]; exact ho.le hlt
          cases hl2 : lt (g x) (g q) with
          | false =>
            have hK := fun e => (K e s g hA (hI.done fun y y1 y2 y3 => ho.trans _ _ _ (hsib y y1 y2 y3) (by rw [← hq, ← hx]; exact hl2)) hP).2
            simp only [h0, h2, h3, h8, u1, u2, u3, u4, u5, u6, u7, l1, l2, hpn, hxn, hqn, hp1, hx1, hq1, hrow, hlo, m1, m2, m3, kl, hlt, hl2, hK, wk, wk1, wk2, Option.some.injEq, exists_eq_left', decide_true, decide_false, Nat.reduceAdd, Nat.reduceEqDiff, Nat.reduceLeDiff, Nat.reduceLT, Nat.reduceMul, Nat.reduceBEq, Int.reduceLT, Int.reduceLE, Int.reduceEq, Int.reduceAdd, Int.reduceSub, Int.reduceMul, Int.reduceMod, Int.reduceTMod, Int.reduceTDiv, Int.reduceNeg, Nat.reduceSub, Nat.reduceDiv, reduceIte, reduceCtorEq]
          | true =>
            have hA' := hA.put hB (swp g x q)
            have hI' : HeapInv lt o lo hi d (swp g x q) := by
              have := hI.step ho hlr (c := d) (by omega) hdh (by rw [← hx, ← hq]; exact hl2) hsib
              rwa [← hx, ← hq] at this
            have hP' := hP.trans (PermR.swap (f := g) (i := x) (j := q) (a := o) (b := b) (by omega) (by omega) (by omega) (by omega))
            simp only [h0, h2, h3, h8, u1, u2, u3, u4, u5, u6, u7, l1, l2, hpn, hxn, hqn, hp1, hx1, hq1, hrow, hlo, m1, m2, m3, kl, kc, ki, sp1, sp2, sp3, upd_swp, hlt, hl2, wk, wk1, wk2, Option.some.injEq, exists_eq_left', decide_true, decide_false, Nat.reduceAdd, Nat.reduceEqDiff, Nat.reduceLeDiff, Nat.reduceLT, Nat.reduceMul, Nat.reduceBEq, Int.reduceLT, Int.reduceLE, Int.reduceEq, Int.reduceAdd, Int.reduceSub, Int.reduceMul, Int.reduceMod, Int.reduceTMod, Int.reduceTDiv, Int.reduceNeg, Nat.reduceSub, Nat.reduceDiv, reduceIte, reduceCtorEq]
            refine ih (hi - d) (by omega) d _ _ _ rfl (by omega) (by omega) ?_ ?_ ?_ ?_ hA' hI' hP' <;> simp only [h0, h2, h3, h8, u1, u2, u3, u4, u5, u6, u7, wk, wk1, wk2, Option.some.injEq, exists_eq_left', decide_true, decide_false, Nat.reduceAdd, Nat.reduceEqDiff, Nat.reduceLeDiff, Nat.reduceLT, Nat.reduceMul, Nat.reduceBEq, Int.reduceLT, Int.reduceLE, Int.reduceEq, Int.reduceAdd, Int.reduceSub, Int.reduceMul, Int.reduceMod, Int.reduceTMod, Int.reduceTDiv, Int.reduceNeg, Nat.reduceSub, Nat.reduceDiv, reduceIte, reduceCtorEq]
        | false =>
          have hsib : ∀ y, 1 ≤ y → y < hi → (y - 1) / 2 = r → Le lt (g (o + y)) (g (o + c)) := by
            intro y y1 y2 y3
            rw [← hp]
            by_cases e1 : y = c
            · subst e1; rw [← hp]; exact ho.refl _
            · have e2 : y = d := by omega
              subst e2; rw [← hq]; exact hlt
          cases hl2 : lt (g x) (g p) with
          | false =>
            have hK := fun e => (K e s g hA (hI.done fun y y1 y2 y3 => ho.trans _ _ _ (hsib y y1 y2 y3) (by rw [← hp, ← hx]; exact hl2)) hP).2
            simp only [h0, h2, h3, h8, u1, u2, u3, u4, u5, u6, u7, l1, l2, hpn, hxn, hqn, hp1, hx1, hq1, hrow, hlo, m1, m2, m3, kl, hlt, hl2, hK, wk, wk1, wk2, Option.some.injEq, exists_eq_left', decide_true, decide_false, Nat.reduceAdd, Nat.reduceEqDiff, Nat.reduceLeDiff, Nat.reduceLT, Nat.reduceMul, Nat.reduceBEq, Int.reduceLT, Int.reduceLE, Int.reduceEq, Int.reduceAdd, Int.reduceSub, Int.reduceMul, Int.reduceMod, Int.reduceTMod, Int.reduceTDiv, Int.reduceNeg, Nat.reduceSub, Nat.reduceDiv, reduceIte, reduceCtorEq]
          | true =>
            have hA' := hA.put hB (swp g x p)
            have hI' : HeapInv lt o lo hi c (swp g x p) := by
              have := hI.step ho hlr (c := c) (by omega) hch (by rw [← hx, ← hp]; exact hl2) hsib
              rwa [← hx, ← hp] at this
            have hP' := hP.trans (PermR.swap (f := g) (i := x) (j := p) (a := o) (b := b) (by omega) (by omega) (by omega) (by omega))
            simp only [h0, h2, h3, h8, u1, u2, u3, u4, u5, u6, u7, l1, l2, hpn, hxn, hqn, hp1, hx1, hq1, hrow, hlo, m1, m2, m3, kl, kc, ki, sp1, sp2, sp3, upd_swp, hlt, hl2, wk, wk1, wk2, Option.some.injEq, exists_eq_left', decide_true, decide_false, Nat.reduceAdd, Nat.reduceEqDiff, Nat.reduceLeDiff, Nat.reduceLT, Nat.reduceMul, Nat.reduceBEq, Int.reduceLT, Int.reduceLE, Int.reduceEq, Int.reduceAdd, Int.reduceSub, Int.reduceMul, Int.reduceMod, Int.reduceTMod, Int.reduceTDiv, Int.reduceNeg, Nat.reduceSub, Nat.reduceDiv, reduceIte, reduceCtorEq]
            refine ih (hi - c) (by omega) c _ _ _ rfl (by omega) (by omega) ?_ ?_ ?_ ?_ hA' hI' hP' <;> simp only [h0, h2, h3, h8, u1, u2, u3, u4, u5, u6, u7, wk, wk1, wk2, Option.some.injEq, exists_eq_left', decide_true, decide_false, Nat.reduceAdd, Nat.reduceEqDiff, Nat.reduceLeDiff, Nat.reduceLT, Nat.reduceMul, Nat.reduceBEq, Int.reduceLT, Int.reduceLE, Int.reduceEq, Int.reduceAdd, Int.reduceSub, Int.reduceMul, Int.reduceMod, Int.reduceTMod, Int.reduceTDiv, Int.reduceNeg, Nat.reduceSub, Nat.reduceDiv, reduceIte, reduceCtorEq]
      · have l2 : ¬ ((d : Int) < (hi : Int)) := by omega
        have hsib : ∀ y, 1 ≤ y → y < hi → (y - 1) / 2 = r → Le lt (g (o + y)) (g (o + c)) := by
          intro y y1 y2 y3
          have e2 : y = c := by omega
          subst e2; exact ho.refl _
        cases hl2 : lt (g x) (g p) with
        | false =>
          have hK := fun e => (K e s g hA (hI.done fun y y1 y2 y3 => ho.trans _ _ _ (hsib y y1 y2 y3) (by rw [← hp, ← hx]; exact hl2)) hP).2
          simp only [h0, h2, h3, h8, u1, u2, u3, u4, u5, u6, u7, l1, l2, hpn, hxn, hp1, hx1, hrow, hlo, m1, m2, kl, hl2, hK, wk, wk1, wk2, Option.some.injEq, exists_eq_left', decide_true, decide_false, Nat.reduceAdd, Nat.reduceEqDiff, Nat.reduceLeDiff, Nat.reduceLT, Nat.reduceMul, Nat.reduceBEq, Int.reduceLT, Int.reduceLE, Int.reduceEq, Int.reduceAdd, Int.reduceSub, Int.reduceMul, Int.reduceMod, Int.reduceTMod, Int.reduceTDiv, Int.reduceNeg, Nat.reduceSub, Nat.reduceDiv, reduceIte, reduceCtorEq]
        | true =>
          have hA' := hA.put hB (swp g x p)
          have hI' : HeapInv lt o lo hi c (swp g x p) := by
            have := hI.step ho hlr (c := c) (by omega) hch (by rw [← hx, ← hp]; exact hl2) hsib
            rwa [← hx, ← hp] at this
          have hP' := hP.trans (PermR.swap (f := g) (i := x) (j := p) (a := o) (b := b) (by omega) (by omega) (by omega) (by omega))
          simp only [h0, h2, h3, h8, u1, u2, u3, u4, u5, u6, u7, l1, l2, hpn, hxn, hp1, hx1, hrow, hlo, m1, m2, kl, kc, ki, sp1, sp2, upd_swp, hl2, wk, wk1, wk2, Option.some.injEq, exists_eq_left', decide_true, decide_false, Nat.reduceAdd, Nat.reduceEqDiff, Nat.reduceLeDiff, Nat.reduceLT, Nat.reduceMul, Nat.reduceBEq, Int.reduceLT, Int.reduceLE, Int.reduceEq, Int.reduceAdd, Int.reduceSub, Int.reduceMul, Int.reduceMod, Int.reduceTMod, Int.reduceTDiv, Int.reduceNeg, Nat.reduceSub, Nat.reduceDiv, reduceIte, reduceCtorEq]
          refine ih (hi - c) (by omega) c _ _ _ rfl (by omega) (by omega) ?_ ?_ ?_ ?_ hA' hI' hP' <;> simp only [h0, h2, h3, h8, u1, u2, u3, u4, u5, u6, u7, wk, wk1, wk2, Option.some.injEq, exists_eq_left', decide_true, decide_false, Nat.reduceAdd, Nat.reduceEqDiff, Nat.reduceLeDiff, Nat.reduceLT, Nat.reduceMul, Nat.reduceBEq, Int.reduceLT, Int.reduceLE, Int.reduceEq, Int.reduceAdd, Int.reduceSub, Int.reduceMul, Int.reduceMod, Int.reduceTMod, Int.reduceTDiv, Int.reduceNeg, Nat.reduceSub, Nat.reduceDiv, reduceIte, reduceCtorEq]
    · have l1 : ((hi : Int) ≤ (c : Int)) := by omega
      have hK := fun e => (K e s g hA (hI.done fun y y1 y2 y3 => by omega) hP).1
      simp only [h0, h2, h3, h8, u1, u2, l1, hK, wk, wk1, wk2, Option.some.injEq, exists_eq_left', decide_true, decide_false, Nat.reduceAdd, Nat.reduceEqDiff, Nat.reduceLeDiff, Nat.reduceLT, Nat.reduceMul, Nat.reduceBEq, Int.reduceLT, Int.reduceLE, Int.reduceEq, Int.reduceAdd, Int.reduceSub, Int.reduceMul, Int.reduceMod, Int.reduceTMod, Int.reduceTDiv, Int.reduceNeg, Nat.reduceSub, Nat.reduceDiv, reduceIte, reduceCtorEq]

theorem sift_ran (hc : T 154 = some (.code ir154)) (hL : LessOk T 140 en lt) (ho : Ord lt) (s : St) (B inc n cap : Nat) (ex : Bool) (hB : B < s.next) (hn : n ≤ 1000000000) (o lo hi b : Nat) (hob : o + hi ≤ b) (hbn : b ≤ n) (hlo : lo ≤ n) (f : Nat → α) (hA : Aft en s B inc n f s)
    (hh : Heap lt o (lo + 1) hi f) :
    Ran T 154 [dsl B inc n cap ex, .int .i64 (lo : Int), .int .i64 (hi : Int), .int .i64 (o : Int)] s fun v s' => v = .tuple [] ∧ ∃ g, Aft en s B inc n g s' ∧ PermR o b f g ∧ Heap lt o lo hi g := by
  refine ran_code hc (Nat.le_of_ble_eq_true rfl) ?_
  generalize hQ : Fin _ _ = Q
  simp only [ir154, wk, wk1, wk2, Option.some.injEq, exists_eq_left', decide_true, decide_false, Nat.reduceAdd, Nat.reduceEqDiff, Nat.reduceLeDiff, Nat.reduceLT, Nat.reduceMul, Nat.reduceBEq, Int.reduceLT, Int.reduceLE, Int.reduceEq, Int.reduceAdd, Int.reduceSub, Int.reduceMul, Int.reduceMod, Int.reduceTMod, Int.reduceTDiv, Int.reduceNeg, Nat.reduceSub, Nat.reduceDiv, reduceIte, reduceCtorEq]
  refine sift_loop (cap := cap) (ex := ex) hL ho hB hn o lo hi b hob hbn f ?_ (hi - lo) lo _ s f rfl (Nat.le_refl _) (.inr hlo) ?_ ?_ ?_ ?_ hA hh.inv (PermR.refl _ _ _)
  · intro e s' g hA hH hP
    subst hQ
    constructor <;> simp only [ir154, wk, wk1, wk2, Option.some.injEq, exists_eq_left', decide_true, decide_false, Nat.reduceAdd, Nat.reduceEqDiff, Nat.reduceLeDiff, Nat.reduceLT, Nat.reduceMul, Nat.reduceBEq, Int.reduceLT, Int.reduceLE, Int.reduceEq, Int.reduceAdd, Int.reduceSub, Int.reduceMul, Int.reduceMod, Int.reduceTMod, Int.reduceTDiv, Int.reduceNeg, Nat.reduceSub, Nat.reduceDiv, reduceIte, reduceCtorEq] <;> exact ⟨g, hA, hP, hH⟩
  all_goals simp only [wk, wk1, wk2, Option.some.injEq, exists_eq_left', decide_true, decide_false, Nat.reduceAdd, Nat.reduceEqDiff, Nat.reduceLeDiff, Nat.reduceLT, Nat.reduceMul, Nat.reduceBEq, Int.reduceLT, Int.reduceLE, Int.reduceEq, Int.reduceAdd, Int.reduceSub, Int.reduceMul, Int.reduceMod, Int.reduceTMod, Int.reduceTDiv, Int.reduceNeg, Nat.reduceSub, Nat.reduceDiv, reduceIte, reduceCtorEq]
end
end Go.V
/- slices.heapSortOrdered over the small language. -/
namespace Go.V
open Go
set_option linter.unusedSimpArgs false
set_option linter.unusedVariables false
abbrev pdqHl0 : ICode := (.loop (.seq (.seq (.region [⟨some 18, none, [], (.move (.t 9))⟩, ⟨some 19, none, [], (.bin .geq (.t 18) (.c (.int .i64 0)))⟩] false)
 (.cond (.t 19) .skip (.exit 0)))
 (.seq (.block 1 (.region [⟨some 22, none, [], (.move (.t 0))⟩, ⟨some 23, none, [], (.move (.t 9))⟩, ⟨some 24, none, [], (.move (.t 8))⟩, ⟨some 25, none, [], (.move (.t 6))⟩, ⟨some 26, none, [], (.call 154 [(.t 22), (.t 23), (.t 24), (.t 25)])⟩] false))
 (.region [⟨some 20, none, [], (.move (.t 9))⟩, ⟨some 21, none, [], (.bin .sub (.t 20) (.c (.int .i64 1)))⟩, ⟨some 9, none, [], (.move (.t 21))⟩] false))))
abbrev pdqHl1 : ICode := (.loop (.seq (.seq (.region [⟨some 29, none, [], (.move (.t 10))⟩, ⟨some 30, none, [], (.bin .geq (.t 29) (.c (.int .i64 0)))⟩] false)
 (.cond (.t 30) .skip (.exit 2)))
 (.seq (.block 3 (.seq (.region [⟨some 33, none, [], (.move (.t 0))⟩, ⟨some 34, none, [], (.move (.t 6))⟩, ⟨some 35, none, [], (.move (.t 0))⟩, ⟨some 36, none, [], (.move (.t 6))⟩, ⟨some 37, none, [], (.move (.t 10))⟩, ⟨some 38, none, [], (.bin .add (.t 36) (.t 37))⟩, ⟨some 39, none, [], (.move (.t 0))⟩, ⟨some 40, none, [], (.move (.t 6))⟩, ⟨some 41, none, [], (.move (.t 10))⟩, ⟨some 42, none, [], (.bin .add (.t 40) (.t 41))⟩, ⟨some 43, none, [], (.idxSl 1 (.t 39) (.t 42))⟩, ⟨some 44, none, [], (.load false 1 (.t 43))⟩, ⟨some 45, none, [], (.move (.t 0))⟩, ⟨some 46, none, [], (.move (.t 6))⟩, ⟨some 47, none, [], (.idxSl 1 (.t 45) (.t 46))⟩, ⟨some 48, none, [], (.load false 1 (.t 47))⟩, ⟨some 49, none, [], (.idxSl 1 (.t 33) (.t 34))⟩, ⟨none, none, [], (.store 1 (.t 49) (.t 44))⟩, ⟨some 50, none, [], (.idxSl 1 (.t 35) (.t 38))⟩, ⟨none, none, [], (.store 1 (.t 50) (.t 48))⟩] true)
 (.region [⟨some 51, none, [], (.move (.t 0))⟩, ⟨some 52, none, [], (.move (.t 7))⟩, ⟨some 53, none, [], (.move (.t 10))⟩, ⟨some 54, none, [], (.move (.t 6))⟩, ⟨some 55, none, [], (.call 154 [(.t 51), (.t 52), (.t 53), (.t 54)])⟩] false)))
 (.region [⟨some 31, none, [], (.move (.t 10))⟩, ⟨some 32, none, [], (.bin .sub (.t 31) (.c (.int .i64 1)))⟩, ⟨some 10, none, [], (.move (.t 32))⟩] false))))
abbrev pdqHq2 : Fr := .seq (.seq (.region [⟨some 27, none, [], (.move (.t 8))⟩, ⟨some 28, none, [], (.bin .sub (.t 27) (.c (.int .i64 1)))⟩, ⟨some 10, none, [], (.move (.t 28))⟩] false)
 (.block 2 (.loop (.seq (.seq (.region [⟨some 29, none, [], (.move (.t 10))⟩, ⟨some 30, none, [], (.bin .geq (.t 29) (.c (.int .i64 0)))⟩] false)
 (.cond (.t 30) .skip (.exit 2)))
 (.seq (.block 3 (.seq (.region [⟨some 33, none, [], (.move (.t 0))⟩, ⟨some 34, none, [], (.move (.t 6))⟩, ⟨some 35, none, [], (.move (.t 0))⟩, ⟨some 36, none, [], (.move (.t 6))⟩, ⟨some 37, none, [], (.move (.t 10))⟩, ⟨some 38, none, [], (.bin .add (.t 36) (.t 37))⟩, ⟨some 39, none, [], (.move (.t 0))⟩, ⟨some 40, none, [], (.move (.t 6))⟩, ⟨some 41, none, [], (.move (.t 10))⟩, ⟨some 42, none, [], (.bin .add (.t 40) (.t 41))⟩, ⟨some 43, none, [], (.idxSl 1 (.t 39) (.t 42))⟩, ⟨some 44, none, [], (.load false 1 (.t 43))⟩, ⟨some 45, none, [], (.move (.t 0))⟩, ⟨some 46, none, [], (.move (.t 6))⟩, ⟨some 47, none, [], (.idxSl 1 (.t 45) (.t 46))⟩, ⟨some 48, none, [], (.load false 1 (.t 47))⟩, ⟨some 49, none, [], (.idxSl 1 (.t 33) (.t 34))⟩, ⟨none, none, [], (.store 1 (.t 49) (.t 44))⟩, ⟨some 50, none, [], (.idxSl 1 (.t 35) (.t 38))⟩, ⟨none, none, [], (.store 1 (.t 50) (.t 48))⟩] true)
 (.region [⟨some 51, none, [], (.move (.t 0))⟩, ⟨some 52, none, [], (.move (.t 7))⟩, ⟨some 53, none, [], (.move (.t 10))⟩, ⟨some 54, none, [], (.move (.t 6))⟩, ⟨some 55, none, [], (.call 154 [(.t 51), (.t 52), (.t 53), (.t 54)])⟩] false)))
 (.region [⟨some 31, none, [], (.move (.t 10))⟩, ⟨some 32, none, [], (.bin .sub (.t 31) (.c (.int .i64 1)))⟩, ⟨some 10, none, [], (.move (.t 32))⟩] false))))))
section
variable {α : Type} {en : α → AV} {lt : α → α → Bool} {T : Tab}
structure HS (lt : α → α → Bool) (a m b : Nat) (g : Nat → α) : Prop where
  heap : Heap lt a 0 m g
  srt : Srt lt (a + m) b g
  cross : ∀ p q, a ≤ p → p < a + m → a + m ≤ q → q < b → Le lt (g p) (g q)
theorem HS.swapped {a m b : Nat} {g : Nat → α} (h : HS lt a (m + 1) b g) : Heap lt a 1 m (swp g a (a + m)) := by
  intro c h1 h2 h3
  unfold swp
  rw [if_neg (by omega), if_neg (by omega), if_neg (by omega), if_neg (by omega)]
  exact h.heap c h1 (by omega) (Nat.zero_le _)
theorem HS.step (ho : Ord lt) {a m b : Nat} {g g2 : Nat → α} (h : HS lt a (m + 1) b g) (hmb : a + m < b) (hp : PermR a (a + m) (swp g a (a + m)) g2) (hh : Heap lt a 0 m g2) : HS lt a m b g2 := by
  have out : ∀ q, a + m ≤ q → g2 q = swp g a (a + m) q := fun q hq => hp.out (by omega)
  have top : g2 (a + m) = g a := by
    rw [out _ (Nat.le_refl _)]
    unfold swp
    by_cases hm : a + m = a
    · rw [if_pos hm, hm]
    · rw [if_neg hm, if_pos rfl]
  have far : ∀ q, a + m < q → g2 q = g q := fun q hq => by
    rw [out q (by omega)]
    unfold swp
    rw [if_neg (by omega), if_neg (by omega)]
  have low : ∀ p, a ≤ p → p < a + m → ∃ p', a ≤ p' ∧ p' ≤ a + m ∧ swp g a (a + m) p = g p' := by
    intro p h1 h2
    unfold swp
    by_cases e : p = a
    · exact ⟨a + m, by omega, by omega, by rw [if_pos e]⟩
    · exact ⟨p, h1, by omega, by rw [if_neg e, if_neg (by omega)]⟩
  have ltop : ∀ p', a ≤ p' → p' ≤ a + m → Le lt (g p') (g a) := by
    intro p' h1 h2
    have := h.heap.top ho (p' - a) (by omega)
    have e : a + (p' - a) = p' := by omega
    rwa [e] at this
  refine ⟨hh, ?_, ?_⟩
  · intro i j h1 h2 h3
    rw [far j (by omega)]
    by_cases e : i = a + m
    · subst e; rw [top]; exact h.cross a j (Nat.le_refl _) (by omega) (by omega) h3
    · rw [far i (by omega)]; exact h.srt i j (by omega) h2 h3
  · intro p q h1 h2 h3 h4
    refine hp.all (P := fun x => Le lt x (g2 q)) (fun i i1 i2 => ?_) p h1 h2
    obtain ⟨p', q1, q2, q3⟩ := low i i1 i2
    show Le lt (swp g a (a + m) i) (g2 q)
    rw [q3]
    by_cases e : q = a + m
    · subst e; rw [top]; exact ltop p' q1 q2
    · rw [far q (by omega)]; exact h.cross p' q q1 (by omega) (by omega) h4

set_option maxHeartbeats 8000000 in
theorem heap_loop1 (hs : T 154 = some (.code ir154)) (hL : LessOk T 140 en lt) (ho : Ord lt) {Q : Post} {s0 : St} {B inc n cap : Nat} {ex : Bool} (hB : B < s0.next) (hn : n ≤ 1000000000) (a b hi : Nat) (hhi : a + hi = b) (hbn : b ≤ n) (f0 : Nat → α)
    (K : ∀ (e : Env) (s : St) (g : Nat → α), opd e (.t 0) = dsl B inc n cap ex → opd e (.t 6) = .int .i64 (a : Int) → opd e (.t 7) = .int .i64 0 → opd e (.t 8) = .int .i64 (hi : Int) → Aft en s0 B inc n g s → Heap lt a 0 hi g → PermR a b f0 g → Ret T Q [pdqHq2] .normal e s) :
    ∀ (k : Nat) (z : Int) (e : Env) (s : St) (g : Nat → α), z = (k : Int) - 1 → k ≤ n → opd e (.t 0) = dsl B inc n cap ex → opd e (.t 6) = .int .i64 (a : Int) → opd e (.t 7) = .int .i64 0 → opd e (.t 8) = .int .i64 (hi : Int) → opd e (.t 9) = .int .i64 z → Aft en s0 B inc n g s → Heap lt a k hi g → PermR a b f0 g →
      Go T Q (pdqHl0) [.block 0, pdqHq2] e s := by
  intro k
  induction k with
  | zero =>
    intro z e s g hz hkn h0 h6 h7 h8 h9 hA hH hP
    have hc : ¬ (0 ≤ z) := by omega
    have hK := fun e h0 h6 h7 h8 => K e s g h0 h6 h7 h8 hA hH hP
    rw [go_loop]
    generalize ([pdqHq2] : List Fr) = FF at *
    simp only [h0, h6, h7, h8, h9, hc, wk, wk1, wk2, Option.some.injEq, exists_eq_left', decide_true, decide_false, Nat.reduceAdd, Nat.reduceEqDiff, Nat.reduceLeDiff, Nat.reduceLT, Nat.reduceMul, Nat.reduceBEq, Int.reduceLT, Int.reduceLE, Int.reduceEq, Int.reduceAdd, Int.reduceSub, Int.reduceMul, Int.reduceMod, Int.reduceTMod, Int.reduceTDiv, Int.reduceNeg, Nat.reduceSub, Nat.reduceDiv, reduceIte, reduceCtorEq]
    refine hK _ ?_ ?_ ?_ ?_ <;> simp only [h0, h6, h7, h8, wk, wk1, Nat.reduceEqDiff, reduceIte, decide_true]
  | succ k ih =>
    intro z e s g hz hkn h0 h6 h7 h8 h9 hA hH hP
    have hz2 : z = (k : Int) := by omega
    subst hz2
    have hc : (0 : Int) ≤ (k : Int) := by omega
    have u1 : wrapF .i64 ((k : Int) - 1) = (k : Int) - 1 := wrap_i64 _ (by omega) (by omega)
    rw [go_loop]
    simp only [h0, h6, h7, h8, h9, hc, u1, wk, wk1, wk2, Option.some.injEq, exists_eq_left', decide_true, decide_false, Nat.reduceAdd, Nat.reduceEqDiff, Nat.reduceLeDiff, Nat.reduceLT, Nat.reduceMul, Nat.reduceBEq, Int.reduceLT, Int.reduceLE, Int.reduceEq, Int.reduceAdd, Int.reduceSub, Int.reduceMul, Int.reduceMod, Int.reduceTMod, Int.reduceTDiv, Int.reduceNeg, Nat.reduceSub, Nat.reduceDiv, reduceIte, reduceCtorEq]
    refine goCall_by (sift_ran hs hL ho s B inc n cap ex (Nat.lt_of_lt_of_le hB hA.next) hn a k hi b (by omega) hbn (by omega) g (Aft.refl hA.wfs hA.row) hH) ?_
    rintro v s' ⟨rfl, g2, hA2, hP2, hH2⟩
    simp only [h0, h6, h7, h8, h9, hc, u1, wk, wk1, wk2, Option.some.injEq, exists_eq_left', decide_true, decide_false, Nat.reduceAdd, Nat.reduceEqDiff, Nat.reduceLeDiff, Nat.reduceLT, Nat.reduceMul, Nat.reduceBEq, Int.reduceLT, Int.reduceLE, Int.reduceEq, Int.reduceAdd, Int.reduceSub, Int.reduceMul, Int.reduceMod, Int.reduceTMod, Int.reduceTDiv, Int.reduceNeg, Nat.reduceSub, Nat.reduceDiv, reduceIte, reduceCtorEq]
    refine ih _ _ s' g2 rfl (by omega) ?_ ?_ ?_ ?_ ?_ (hA.trans hA2) hH2 (hP.trans hP2) <;> simp only [h0, h6, h7, h8, h9, u1, wk, wk1, Nat.reduceEqDiff, reduceIte, decide_true]

set_option maxHeartbeats 8000000 in
theorem heap_loop2 (hs : T 154 = some (.code ir154)) (hL : LessOk T 140 en lt) (ho : Ord lt) {Q : Post} {s0 : St} {B inc n cap : Nat} {ex : Bool} (hB : B < s0.next) (hn : n ≤ 1000000000) (a b : Nat) (hbn : b ≤ n) (f0 : Nat → α)
    (K : ∀ (e : Env) (s : St) (g : Nat → α), Aft en s0 B inc n g s → Srt lt a b g → PermR a b f0 g → Q .normal e s) :
    ∀ (k : Nat) (z : Int) (e : Env) (s : St) (g : Nat → α), z = (k : Int) - 1 → a + k ≤ b → opd e (.t 0) = dsl B inc n cap ex → opd e (.t 6) = .int .i64 (a : Int) → opd e (.t 7) = .int .i64 0 → opd e (.t 10) = .int .i64 z → Aft en s0 B inc n g s → HS lt a k b g → PermR a b f0 g →
      Go T Q (pdqHl1) [.block 2] e s := by
  have kc := hL.cells
  have ki := hL.cell
  intro k
  induction k with
  | zero =>
    intro z e s g hz hkn h0 h6 h7 h9 hA hH hP
    have hc : ¬ (0 ≤ z) := by omega
    have hK := fun e => K e s g hA hH.srt hP
    rw [go_loop]
    simp only [h0, h6, h7, h9, hc, hK, wk, wk1, wk2, Option.some.injEq, exists_eq_left', decide_true, decide_false, Nat.reduceAdd, Nat.reduceEqDiff, Nat.reduceLeDiff, Nat.reduceLT, Nat.reduceMul, Nat.reduceBEq, Int.reduceLT, Int.reduceLE, Int.reduceEq, Int.reduceAdd, Int.reduceSub, Int.reduceMul, Int.reduceMod, Int.reduceTMod, Int.reduceTDiv, Int.reduceNeg, Nat.reduceSub, Nat.reduceDiv, reduceIte, reduceCtorEq]
  | succ k ih =>
    intro z e s g hz hkn h0 h6 h7 h9 hA hH hP
    have hz2 : z = (k : Int) := by omega
    subst hz2
    have hc : (0 : Int) ≤ (k : Int) := by omega
    have u1 : wrapF .i64 ((k : Int) - 1) = (k : Int) - 1 := wrap_i64 _ (by omega) (by omega)
    obtain ⟨x, hx⟩ := op (a + k)
    have u2 : wrapF .i64 ((a : Int) + (k : Int)) = (x : Int) := by rw [wrap_i64 _ (by omega) (by omega)]; omega
    have han : a < n := by omega
    have hxn : x < n := by omega
    have ha1 : a + 1 ≤ n := by omega
    have hx1 : x + 1 ≤ n := by omega
    obtain ⟨lo', hlo, hrow⟩ := hA.row
    have m1 := mp_take (en := en) (f := g) han
    have m2 := mp_take (en := en) (f := g) hxn
    have sp1 := fun f y => mp_splice (en := en) (f := f) (x := y) han
    have sp2 := fun f y => mp_splice (en := en) (f := f) (x := y) hxn
    have hA1 := hA.put hB (swp g a x)
    have hP1 := hP.trans (PermR.swap (f := g) (i := a) (j := x) (a := a) (b := b) (by omega) (by omega) (by omega) (by omega))
    have hH1 := hH.swapped
    rw [← hx] at hH1
    have hS : ∀ g2, PermR a x (swp g a x) g2 → Heap lt a 0 k g2 → HS lt a k b g2 := by
      intro g2 q1 q2
      rw [hx] at q1
      exact hH.step ho (by omega) q1 q2
    have c0 : (0 : Int) = ((0 : Nat) : Int) := rfl
    rw [go_loop]
    simp only [h0, h6, h7, h9, hc, u1, u2, han, hxn, ha1, hx1, hrow, hlo, m1, m2, kc, ki, sp1, sp2, upd_swp, wk, wk1, wk2, Option.some.injEq, exists_eq_left', decide_true, decide_false, Nat.reduceAdd, Nat.reduceEqDiff, Nat.reduceLeDiff, Nat.reduceLT, Nat.reduceMul, Nat.reduceBEq, Int.reduceLT, Int.reduceLE, Int.reduceEq, Int.reduceAdd, Int.reduceSub, Int.reduceMul, Int.reduceMod, Int.reduceTMod, Int.reduceTDiv, Int.reduceNeg, Nat.reduceSub, Nat.reduceDiv, reduceIte, reduceCtorEq]
    have key := sift_ran hs hL ho _ B inc n cap ex (Nat.lt_of_lt_of_le hB hA1.next) hn a 0 k x (by omega) (by omega) (by omega) (swp g a x) (Aft.refl hA1.wfs hA1.row) hH1
    refine goCall_by key ?_
    rintro v s' ⟨rfl, g2, hA2, hP2, hH2⟩
    simp only [h0, h6, h7, h9, hc, u1, wk, wk1, wk2, Option.some.injEq, exists_eq_left', decide_true, decide_false, Nat.reduceAdd, Nat.reduceEqDiff, Nat.reduceLeDiff, Nat.reduceLT, Nat.reduceMul, Nat.reduceBEq, Int.reduceLT, Int.reduceLE, Int.reduceEq, Int.reduceAdd, Int.reduceSub, Int.reduceMul, Int.reduceMod, Int.reduceTMod, Int.reduceTDiv, Int.reduceNeg, Nat.reduceSub, Nat.reduceDiv, reduceIte, reduceCtorEq]
    refine ih _ _ s' g2 rfl (by omega) ?_ ?_ ?_ ?_ (hA1.trans hA2) (hS g2 hP2 hH2) (hP1.trans (hP2.wide (Nat.le_refl _) (by omega))) <;> simp only [h0, h6, h7, h9, u1, wk, wk1, Nat.reduceEqDiff, reduceIte, decide_true]

set_option maxHeartbeats 8000000 in
theorem heap_ran (hc : T 135 = some (.code ir135)) (hs : T 154 = some (.code ir154)) (hL : LessOk T 140 en lt) (ho : Ord lt) (s : St) (B inc n cap : Nat) (ex : Bool) (hB : B < s.next) (hn : n ≤ 1000000000) (a b : Nat) (hab : a < b) (hbn : b ≤ n) (f : Nat → α) (hA : Aft en s B inc n f s) :
    Ran T 135 [dsl B inc n cap ex, .int .i64 (a : Int), .int .i64 (b : Int)] s fun v s' => v = .tuple [] ∧ ∃ g, Aft en s B inc n g s' ∧ PermR a b f g ∧ Srt lt a b g := by
  refine ran_code hc (Nat.le_of_ble_eq_true rfl) ?_
  obtain ⟨hi, hhi⟩ := op (b - a)
  have u1 : wrapF .i64 ((b : Int) - (a : Int)) = (hi : Int) := by rw [wrap_i64 _ (by omega) (by omega)]; omega
  obtain ⟨k, hk⟩ := op ((hi - 1) / 2)
  have u2 : wrapF .i64 ((hi : Int) - 1) = ((hi - 1 : Nat) : Int) := i64_sub1 (by omega) (by omega)
  have u3 : wrapF .i64 (Int.tdiv ((hi - 1 : Nat) : Int) 2) = (k : Int) := by
    have : Int.tdiv ((hi - 1 : Nat) : Int) 2 = ((hi - 1 : Nat) : Int) / 2 := Int.tdiv_eq_ediv_of_nonneg (by omega)
    rw [this, wrap_i64 _ (by omega) (by omega)]; omega
  generalize hQ : Fin _ _ = Q
  simp only [ir135, u1, u2, u3, wk, wk1, wk2, Option.some.injEq, exists_eq_left', decide_true, decide_false, Nat.reduceAdd, Nat.reduceEqDiff, Nat.reduceLeDiff, Nat.reduceLT, Nat.reduceMul, Nat.reduceBEq, Int.reduceLT, Int.reduceLE, Int.reduceEq, Int.reduceAdd, Int.reduceSub, Int.reduceMul, Int.reduceMod, Int.reduceTMod, Int.reduceTDiv, Int.reduceNeg, Nat.reduceSub, Nat.reduceDiv, reduceIte, reduceCtorEq]
  refine heap_loop1 (cap := cap) (ex := ex) hs hL ho hB hn a b hi (by omega) hbn f ?_ (k + 1) (k : Int) _ s f (by omega) (by omega) ?_ ?_ ?_ ?_ ?_ hA (fun c c1 c2 c3 => by omega) (PermR.refl _ _ _)
  · intro e s' g h0 h6 h7 h8 hA' hH' hP'
    simp only [h0, h6, h7, h8, u2, wk, wk1, wk2, Option.some.injEq, exists_eq_left', decide_true, decide_false, Nat.reduceAdd, Nat.reduceEqDiff, Nat.reduceLeDiff, Nat.reduceLT, Nat.reduceMul, Nat.reduceBEq, Int.reduceLT, Int.reduceLE, Int.reduceEq, Int.reduceAdd, Int.reduceSub, Int.reduceMul, Int.reduceMod, Int.reduceTMod, Int.reduceTDiv, Int.reduceNeg, Nat.reduceSub, Nat.reduceDiv, reduceIte, reduceCtorEq]
    refine heap_loop2 (cap := cap) (ex := ex) hs hL ho hB hn a b hbn f ?_ hi ((hi - 1 : Nat) : Int) _ s' g (by omega) (by omega) ?_ ?_ ?_ ?_ hA' ⟨hH', fun i j x y z => by omega, fun p q x y z w => by omega⟩ hP'
    · intro e s' g hA hS hP
      subst hQ
      simp only [ir135, wk, wk1, wk2, Option.some.injEq, exists_eq_left', decide_true, decide_false, Nat.reduceAdd, Nat.reduceEqDiff, Nat.reduceLeDiff, Nat.reduceLT, Nat.reduceMul, Nat.reduceBEq, Int.reduceLT, Int.reduceLE, Int.reduceEq, Int.reduceAdd, Int.reduceSub, Int.reduceMul, Int.reduceMod, Int.reduceTMod, Int.reduceTDiv, Int.reduceNeg, Nat.reduceSub, Nat.reduceDiv, reduceIte, reduceCtorEq]
      exact ⟨g, hA, hP, hS⟩
    all_goals simp only [h0, h6, h7, h8, u2, wk, wk1, Nat.reduceEqDiff, reduceIte, decide_true]
  all_goals simp only [u1, u2, u3, wk, wk1, Nat.reduceEqDiff, reduceIte, decide_true]
end
end Go.V
/- slices.choosePivotOrdered over the small language: a place within. -/
namespace Go.V
open Go
set_option linter.unusedSimpArgs false
set_option linter.unusedVariables false
abbrev pdqCl0 : ICode := (.seq (.region [⟨some 49, none, [], (.load false 1 (.t 9))⟩] false)
 (.block 0 (.seq (.region [⟨some 52, none, [], (.bin .eql (.t 49) (.c (.int .i64 0)))⟩, ⟨some 51, none, [], (.move (.t 52))⟩] false)
 (.cond (.t 51) (.seq (.region [⟨some 53, none, [], (.move (.t 11))⟩, ⟨some 6, none, [], (.move (.t 53))⟩, ⟨some 7, none, [], (.move (.c (.int .i64 1)))⟩] false)
 .ret) (.seq (.region [⟨some 55, none, [], (.bin .eql (.t 49) (.c (.int .i64 12)))⟩, ⟨some 54, none, [], (.move (.t 55))⟩] false)
 (.cond (.t 54) (.seq (.region [⟨some 56, none, [], (.move (.t 11))⟩, ⟨some 6, none, [], (.move (.t 56))⟩, ⟨some 7, none, [], (.move (.c (.int .i64 2)))⟩] false)
 .ret) (.seq (.region [⟨some 50, none, [], (.move (.t 11))⟩, ⟨some 6, none, [], (.move (.t 50))⟩, ⟨some 7, none, [], (.move (.c (.int .i64 0)))⟩] false)
 .ret)))))))
abbrev pdqCl1 : ICode := (.region [⟨some 44, none, [], (.move (.t 0))⟩, ⟨some 45, none, [], (.move (.t 10))⟩, ⟨some 46, none, [], (.move (.t 11))⟩, ⟨some 47, none, [], (.move (.t 12))⟩, ⟨some 48, none, [], (.call 156 [(.t 44), (.t 45), (.t 46), (.t 47), (.t 9)])⟩, ⟨some 11, none, [], (.move (.t 48))⟩] false)
-- slices.order2Ordered[uint32]
def ir161 : IFunc := ⟨28, [.tmp 8, .tmp 9], (.seq (.region [⟨some 8, none, [], (.move (.c (.int .i64 0)))⟩, ⟨some 9, none, [], (.move (.c (.int .i64 0)))⟩] false)
 (.seq (.seq (.region [⟨some 10, none, [], (.move (.t 0))⟩, ⟨some 11, none, [], (.move (.t 2))⟩, ⟨some 12, none, [], (.idxSl 1 (.t 10) (.t 11))⟩, ⟨some 13, none, [], (.load false 1 (.t 12))⟩, ⟨some 14, none, [], (.move (.t 0))⟩, ⟨some 15, none, [], (.move (.t 1))⟩, ⟨some 16, none, [], (.idxSl 1 (.t 14) (.t 15))⟩, ⟨some 17, none, [], (.load false 1 (.t 16))⟩, ⟨some 18, none, [], (.call 140 [(.t 13), (.t 17)])⟩] true)
 (.cond (.t 18) (.seq (.region [⟨some 19, none, [], (.move (.t 3))⟩, ⟨some 20, none, [], (.nilCheck (.t 19))⟩, ⟨some 21, none, [], (.load false 1 (.t 20))⟩, ⟨some 22, none, [], (.bin .add (.t 21) (.c (.int .i64 1)))⟩, ⟨some 23, none, [], (.nilCheck (.t 19))⟩, ⟨none, none, [], (.store 1 (.t 23) (.t 22))⟩] false)
 (.seq (.region [⟨some 24, none, [], (.move (.t 2))⟩, ⟨some 25, none, [], (.move (.t 1))⟩, ⟨some 8, none, [], (.move (.t 24))⟩, ⟨some 9, none, [], (.move (.t 25))⟩] false)
 .ret)) .skip))
 (.seq (.region [⟨some 26, none, [], (.move (.t 1))⟩, ⟨some 27, none, [], (.move (.t 2))⟩, ⟨some 8, none, [], (.move (.t 26))⟩, ⟨some 9, none, [], (.move (.t 27))⟩] false)
 .ret)))⟩
-- slices.medianOrdered[uint32]
def ir156 : IFunc := ⟨36, [.tmp 10], (.seq (.region [⟨some 10, none, [], (.move (.c (.int .i64 0)))⟩] false)
 (.seq (.region [⟨some 12, none, [], (.move (.t 0))⟩, ⟨some 13, none, [], (.move (.t 1))⟩, ⟨some 14, none, [], (.move (.t 2))⟩, ⟨some 15, none, [], (.move (.t 4))⟩, ⟨some 16, none, [], (.call 161 [(.t 12), (.t 13), (.t 14), (.t 15)])⟩, ⟨some 11, none, [], (.move (.t 16))⟩, ⟨some 17, none, [], (.extract (.t 11) 0)⟩, ⟨some 18, none, [], (.extract (.t 11) 1)⟩, ⟨some 1, none, [], (.move (.t 17))⟩, ⟨some 2, none, [], (.move (.t 18))⟩] false)
 (.seq (.region [⟨some 20, none, [], (.move (.t 0))⟩, ⟨some 21, none, [], (.move (.t 2))⟩, ⟨some 22, none, [], (.move (.t 3))⟩, ⟨some 23, none, [], (.move (.t 4))⟩, ⟨some 24, none, [], (.call 161 [(.t 20), (.t 21), (.t 22), (.t 23)])⟩, ⟨some 19, none, [], (.move (.t 24))⟩, ⟨some 25, none, [], (.extract (.t 19) 0)⟩, ⟨some 26, none, [], (.extract (.t 19) 1)⟩, ⟨some 2, none, [], (.move (.t 25))⟩, ⟨some 3, none, [], (.move (.t 26))⟩] false)
 (.seq (.region [⟨some 28, none, [], (.move (.t 0))⟩, ⟨some 29, none, [], (.move (.t 1))⟩, ⟨some 30, none, [], (.move (.t 2))⟩, ⟨some 31, none, [], (.move (.t 4))⟩, ⟨some 32, none, [], (.call 161 [(.t 28), (.t 29), (.t 30), (.t 31)])⟩, ⟨some 27, none, [], (.move (.t 32))⟩, ⟨some 33, none, [], (.extract (.t 27) 0)⟩, ⟨some 34, none, [], (.extract (.t 27) 1)⟩, ⟨some 1, none, [], (.move (.t 33))⟩, ⟨some 2, none, [], (.move (.t 34))⟩] false)
 (.seq (.region [⟨some 35, none, [], (.move (.t 2))⟩, ⟨some 10, none, [], (.move (.t 35))⟩] false)
 .ret)))))⟩
-- slices.medianAdjacentOrdered[uint32]
def ir155 : IFunc := ⟨15, [.tmp 6], (.seq (.region [⟨some 6, none, [], (.move (.c (.int .i64 0)))⟩] false)
 (.seq (.region [⟨some 7, none, [], (.move (.t 0))⟩, ⟨some 8, none, [], (.move (.t 1))⟩, ⟨some 9, none, [], (.bin .sub (.t 8) (.c (.int .i64 1)))⟩, ⟨some 10, none, [], (.move (.t 1))⟩, ⟨some 11, none, [], (.move (.t 1))⟩, ⟨some 12, none, [], (.bin .add (.t 11) (.c (.int .i64 1)))⟩, ⟨some 13, none, [], (.move (.t 2))⟩, ⟨some 14, none, [], (.call 156 [(.t 7), (.t 9), (.t 10), (.t 12), (.t 13)])⟩, ⟨some 6, none, [], (.move (.t 14))⟩] false)
 .ret))⟩
-- slices.choosePivotOrdered[uint32]
def ir137 : IFunc := ⟨57, [.tmp 6, .tmp 7], (.seq (.region [⟨some 6, none, [], (.move (.c (.int .i64 0)))⟩, ⟨some 7, none, [], (.move (.c (.int .i64 0)))⟩] false)
 (.seq (.region [⟨some 13, none, [], (.move (.t 2))⟩, ⟨some 14, none, [], (.move (.t 1))⟩, ⟨some 15, none, [], (.bin .sub (.t 13) (.t 14))⟩, ⟨some 8, none, [], (.move (.t 15))⟩] false)
 (.seq (.region [⟨some 9, none, [], (.alloc [(.int .i64 0)])⟩] false)
 (.seq (.region [⟨some 16, none, [], (.move (.t 1))⟩, ⟨some 17, none, [], (.move (.t 8))⟩, ⟨some 18, none, [], (.bin .quo (.t 17) (.c (.int .i64 4)))⟩, ⟨some 19, none, [], (.bin .mul (.t 18) (.c (.int .i64 1)))⟩, ⟨some 20, none, [], (.bin .add (.t 16) (.t 19))⟩, ⟨some 10, none, [], (.move (.t 20))⟩] false)
 (.seq (.region [⟨some 21, none, [], (.move (.t 1))⟩, ⟨some 22, none, [], (.move (.t 8))⟩, ⟨some 23, none, [], (.bin .quo (.t 22) (.c (.int .i64 4)))⟩, ⟨some 24, none, [], (.bin .mul (.t 23) (.c (.int .i64 2)))⟩, ⟨some 25, none, [], (.bin .add (.t 21) (.t 24))⟩, ⟨some 11, none, [], (.move (.t 25))⟩] false)
 (.seq (.region [⟨some 26, none, [], (.move (.t 1))⟩, ⟨some 27, none, [], (.move (.t 8))⟩, ⟨some 28, none, [], (.bin .quo (.t 27) (.c (.int .i64 4)))⟩, ⟨some 29, none, [], (.bin .mul (.t 28) (.c (.int .i64 3)))⟩, ⟨some 30, none, [], (.bin .add (.t 26) (.t 29))⟩, ⟨some 12, none, [], (.move (.t 30))⟩] false)
 (.seq (.seq (.region [⟨some 31, none, [], (.move (.t 8))⟩, ⟨some 32, none, [], (.bin .geq (.t 31) (.c (.int .i64 8)))⟩] false)
 (.cond (.t 32) (.seq (.seq (.region [⟨some 33, none, [], (.move (.t 8))⟩, ⟨some 34, none, [], (.bin .geq (.t 33) (.c (.int .i64 50)))⟩] false)
 (.cond (.t 34) (.seq (.region [⟨some 35, none, [], (.move (.t 0))⟩, ⟨some 36, none, [], (.move (.t 10))⟩, ⟨some 37, none, [], (.call 155 [(.t 35), (.t 36), (.t 9)])⟩, ⟨some 10, none, [], (.move (.t 37))⟩] false)
 (.seq (.region [⟨some 38, none, [], (.move (.t 0))⟩, ⟨some 39, none, [], (.move (.t 11))⟩, ⟨some 40, none, [], (.call 155 [(.t 38), (.t 39), (.t 9)])⟩, ⟨some 11, none, [], (.move (.t 40))⟩] false)
 (.region [⟨some 41, none, [], (.move (.t 0))⟩, ⟨some 42, none, [], (.move (.t 12))⟩, ⟨some 43, none, [], (.call 155 [(.t 41), (.t 42), (.t 9)])⟩, ⟨some 12, none, [], (.move (.t 43))⟩] false))) .skip))
 (.region [⟨some 44, none, [], (.move (.t 0))⟩, ⟨some 45, none, [], (.move (.t 10))⟩, ⟨some 46, none, [], (.move (.t 11))⟩, ⟨some 47, none, [], (.move (.t 12))⟩, ⟨some 48, none, [], (.call 156 [(.t 44), (.t 45), (.t 46), (.t 47), (.t 9)])⟩, ⟨some 11, none, [], (.move (.t 48))⟩] false)) .skip))
 (.seq (.region [⟨some 49, none, [], (.load false 1 (.t 9))⟩] false)
 (.block 0 (.seq (.region [⟨some 52, none, [], (.bin .eql (.t 49) (.c (.int .i64 0)))⟩, ⟨some 51, none, [], (.move (.t 52))⟩] false)
 (.cond (.t 51) (.seq (.region [⟨some 53, none, [], (.move (.t 11))⟩, ⟨some 6, none, [], (.move (.t 53))⟩, ⟨some 7, none, [], (.move (.c (.int .i64 1)))⟩] false)
 .ret) (.seq (.region [⟨some 55, none, [], (.bin .eql (.t 49) (.c (.int .i64 12)))⟩, ⟨some 54, none, [], (.move (.t 55))⟩] false)
 (.cond (.t 54) (.seq (.region [⟨some 56, none, [], (.move (.t 11))⟩, ⟨some 6, none, [], (.move (.t 56))⟩, ⟨some 7, none, [], (.move (.c (.int .i64 2)))⟩] false)
 .ret) (.seq (.region [⟨some 50, none, [], (.move (.t 11))⟩, ⟨some 6, none, [], (.move (.t 50))⟩, ⟨some 7, none, [], (.move (.c (.int .i64 0)))⟩] false)
 .ret))))))))))))))⟩
section
variable {α : Type} {en : α → AV} {lt : α → α → Bool} {T : Tab}
/-- A counter of the call's own. -/
structure Bx (en : α → AV) (s0 : St) (B inc n : Nat) (f : Nat → α) (p : Nat) (s : St) : Prop where
  aft : Aft en s0 B inc n f s
  old : s0.next ≤ p
  lt : p < s.next
  box : ∃ z, s.heap.get p = some (.cells [.int .i64 z] 0 0 false)
theorem Bx.put {s0 s : St} {B inc n : Nat} {f : Nat → α} {p : Nat} (h : Bx en s0 B inc n f p s) (hB : B < s0.next) (z : Int) : Bx en s0 B inc n f p (s.put p (.cells [.int .i64 z] 0 0 false)) := by
  have := h.old
  obtain ⟨lo, h1, h2⟩ := h.aft.row
  refine ⟨⟨⟨lo, h1, by rw [put_get, if_neg (by omega)]; exact h2⟩, h.aft.wfs.put h.lt _, h.aft.next, fun id i1 i2 => by rw [put_get, if_neg (by omega)]; exact h.aft.same id i1 i2⟩, h.old, h.lt, ⟨z, by rw [put_get, if_pos rfl]⟩⟩

abbrev bxp (p : Nat) : AV := .ptr ⟨p, 0, 0, 1⟩
set_option maxHeartbeats 8000000 in
theorem order2_ran (hc : T 161 = some (.code ir161)) (hL : LessOk T 140 en lt) (s0 s : St) (B inc n cap : Nat) (ex : Bool) (hB : B < s0.next) (f : Nat → α) (p : Nat) (hX : Bx en s0 B inc n f p s) (i j : Nat) (hi : i < n) (hj : j < n) :
    Ran T 161 [dsl B inc n cap ex, .int .i64 (i : Int), .int .i64 (j : Int), bxp p] s fun v s' => Bx en s0 B inc n f p s' ∧ ∃ i' j' : Nat, v = .tuple [.int .i64 (i' : Int), .int .i64 (j' : Int)] ∧ ((i' = i ∧ j' = j) ∨ (i' = j ∧ j' = i)) := by
  refine ran_code hc (Nat.le_of_ble_eq_true rfl) ?_
  have kl := hL.call
  have hi1 : i + 1 ≤ n := hi
  have hj1 : j + 1 ≤ n := hj
  obtain ⟨lo', hlo, hrow⟩ := hX.aft.row
  obtain ⟨z, hz⟩ := hX.box
  have m1 := mp_take (en := en) (f := f) hi
  have m2 := mp_take (en := en) (f := f) hj
  generalize hQ : Fin _ _ = Q
  cases hl : lt (f j) (f i) with
  | true =>
    simp only [ir161, hi, hj, hi1, hj1, hrow, hlo, m1, m2, kl, hl, hz, wk, wk1, wk2, Option.some.injEq, exists_eq_left', decide_true, decide_false, Nat.reduceAdd, Nat.reduceEqDiff, Nat.reduceLeDiff, Nat.reduceLT, Nat.reduceMul, Nat.reduceBEq, Int.reduceLT, Int.reduceLE, Int.reduceEq, Int.reduceAdd, Int.reduceSub, Int.reduceMul, Int.reduceMod, Int.reduceTMod, Int.reduceTDiv, Int.reduceNeg, Nat.reduceSub, Nat.reduceDiv, reduceIte, reduceCtorEq]
    subst hQ
    simp only [ir161, wk, wk1, wk2, Option.some.injEq, exists_eq_left', decide_true, decide_false, Nat.reduceAdd, Nat.reduceEqDiff, Nat.reduceLeDiff, Nat.reduceLT, Nat.reduceMul, Nat.reduceBEq, Int.reduceLT, Int.reduceLE, Int.reduceEq, Int.reduceAdd, Int.reduceSub, Int.reduceMul, Int.reduceMod, Int.reduceTMod, Int.reduceTDiv, Int.reduceNeg, Nat.reduceSub, Nat.reduceDiv, reduceIte, reduceCtorEq]
    exact ⟨hX.put hB _, j, i, rfl, .inr ⟨rfl, rfl⟩⟩
  | false =>
    simp only [ir161, hi, hj, hi1, hj1, hrow, hlo, m1, m2, kl, hl, hz, wk, wk1, wk2, Option.some.injEq, exists_eq_left', decide_true, decide_false, Nat.reduceAdd, Nat.reduceEqDiff, Nat.reduceLeDiff, Nat.reduceLT, Nat.reduceMul, Nat.reduceBEq, Int.reduceLT, Int.reduceLE, Int.reduceEq, Int.reduceAdd, Int.reduceSub, Int.reduceMul, Int.reduceMod, Int.reduceTMod, Int.reduceTDiv, Int.reduceNeg, Nat.reduceSub, Nat.reduceDiv, reduceIte, reduceCtorEq]
    subst hQ
    simp only [ir161, wk, wk1, wk2, Option.some.injEq, exists_eq_left', decide_true, decide_false, Nat.reduceAdd, Nat.reduceEqDiff, Nat.reduceLeDiff, Nat.reduceLT, Nat.reduceMul, Nat.reduceBEq, Int.reduceLT, Int.reduceLE, Int.reduceEq, Int.reduceAdd, Int.reduceSub, Int.reduceMul, Int.reduceMod, Int.reduceTMod, Int.reduceTDiv, Int.reduceNeg, Nat.reduceSub, Nat.reduceDiv, reduceIte, reduceCtorEq]
    exact ⟨hX, i, j, rfl, .inl ⟨rfl, rfl⟩⟩
set_option maxHeartbeats 8000000 in
theorem median_ran (hc : T 156 = some (.code ir156)) (h2 : T 161 = some (.code ir161)) (hL : LessOk T 140 en lt) (s0 s : St) (B inc n cap : Nat) (ex : Bool) (hB : B < s0.next) (f : Nat → α) (p : Nat) (hX : Bx en s0 B inc n f p s) (i j k : Nat) (hi : i < n) (hj : j < n) (hk : k < n) :
    Ran T 156 [dsl B inc n cap ex, .int .i64 (i : Int), .int .i64 (j : Int), .int .i64 (k : Int), bxp p] s fun v s' => Bx en s0 B inc n f p s' ∧ ∃ r : Nat, v = .int .i64 (r : Int) ∧ (r = i ∨ r = j ∨ r = k) := by
  refine ran_code hc (Nat.le_of_ble_eq_true rfl) ?_
  generalize hQ : Fin _ _ = Q
  simp only [ir156, wk, wk1, wk2, Option.some.injEq, exists_eq_left', decide_true, decide_false, Nat.reduceAdd, Nat.reduceEqDiff, Nat.reduceLeDiff, Nat.reduceLT, Nat.reduceMul, Nat.reduceBEq, Int.reduceLT, Int.reduceLE, Int.reduceEq, Int.reduceAdd, Int.reduceSub, Int.reduceMul, Int.reduceMod, Int.reduceTMod, Int.reduceTDiv, Int.reduceNeg, Nat.reduceSub, Nat.reduceDiv, reduceIte, reduceCtorEq]
  refine goCall_by (order2_ran h2 hL s0 s B inc n cap ex hB f p hX i j hi hj) ?_
  rintro v s1 ⟨hX1, i1, j1, rfl, h1⟩
  have hi1 : i1 < n := by omega
  have hj1 : j1 < n := by omega
  simp only [wk, wk1, wk2, Option.some.injEq, exists_eq_left', decide_true, decide_false, Nat.reduceAdd, Nat.reduceEqDiff, Nat.reduceLeDiff, Nat.reduceLT, Nat.reduceMul, Nat.reduceBEq, Int.reduceLT, Int.reduceLE, Int.reduceEq, Int.reduceAdd, Int.reduceSub, Int.reduceMul, Int.reduceMod, Int.reduceTMod, Int.reduceTDiv, Int.reduceNeg, Nat.reduceSub, Nat.reduceDiv, reduceIte, reduceCtorEq]
  refine goCall_by (order2_ran h2 hL s0 s1 B inc n cap ex hB f p hX1 j1 k hj1 hk) ?_
  rintro v s2 ⟨hX2, j2, k2, rfl, h2'⟩
  have hj2 : j2 < n := by omega
  simp only [wk, wk1, wk2, Option.some.injEq, exists_eq_left', decide_true, decide_false, Nat.reduceAdd, Nat.reduceEqDiff, Nat.reduceLeDiff, Nat.reduceLT, Nat.reduceMul, Nat.reduceBEq, Int.reduceLT, Int.reduceLE, Int.reduceEq, Int.reduceAdd, Int.reduceSub, Int.reduceMul, Int.reduceMod, Int.reduceTMod, Int.reduceTDiv, Int.reduceNeg, Nat.reduceSub, Nat.reduceDiv, reduceIte, reduceCtorEq]
  refine goCall_by (order2_ran h2 hL s0 s2 B inc n cap ex hB f p hX2 i1 j2 hi1 hj2) ?_
  rintro v s3 ⟨hX3, i3, j3, rfl, h3⟩
  subst hQ
  simp only [ir156, wk, wk1, wk2, Option.some.injEq, exists_eq_left', decide_true, decide_false, Nat.reduceAdd, Nat.reduceEqDiff, Nat.reduceLeDiff, Nat.reduceLT, Nat.reduceMul, Nat.reduceBEq, Int.reduceLT, Int.reduceLE, Int.reduceEq, Int.reduceAdd, Int.reduceSub, Int.reduceMul, Int.reduceMod, Int.reduceTMod, Int.reduceTDiv, Int.reduceNeg, Nat.reduceSub, Nat.reduceDiv, reduceIte, reduceCtorEq]
  exact ⟨hX3, j3, rfl, by omega⟩
set_option maxHeartbeats 8000000 in
theorem medAdj_ran (hc : T 155 = some (.code ir155)) (hm : T 156 = some (.code ir156)) (h2 : T 161 = some (.code ir161)) (hL : LessOk T 140 en lt) (s0 s : St) (B inc n cap : Nat) (ex : Bool) (hB : B < s0.next) (hn : n ≤ 1000000000) (f : Nat → α) (p : Nat) (hX : Bx en s0 B inc n f p s) (i : Nat) (hi : 1 ≤ i) (hi1 : i + 1 < n) :
    Ran T 155 [dsl B inc n cap ex, .int .i64 (i : Int), bxp p] s fun v s' => Bx en s0 B inc n f p s' ∧ ∃ r : Nat, v = .int .i64 (r : Int) ∧ i ≤ r + 1 ∧ r ≤ i + 1 := by
  refine ran_code hc (Nat.le_of_ble_eq_true rfl) ?_
  have u1 : wrapF .i64 ((i : Int) - 1) = ((i - 1 : Nat) : Int) := i64_sub1 (by omega) hi
  have u2 : wrapF .i64 ((i : Int) + 1) = ((i + 1 : Nat) : Int) := i64_add1 (by omega)
  generalize hQ : Fin _ _ = Q
  simp only [ir155, u1, u2, wk, wk1, wk2, Option.some.injEq, exists_eq_left', decide_true, decide_false, Nat.reduceAdd, Nat.reduceEqDiff, Nat.reduceLeDiff, Nat.reduceLT, Nat.reduceMul, Nat.reduceBEq, Int.reduceLT, Int.reduceLE, Int.reduceEq, Int.reduceAdd, Int.reduceSub, Int.reduceMul, Int.reduceMod, Int.reduceTMod, Int.reduceTDiv, Int.reduceNeg, Nat.reduceSub, Nat.reduceDiv, reduceIte, reduceCtorEq]
  refine goCall_by (median_ran hm h2 hL s0 s B inc n cap ex hB f p hX (i - 1) i (i + 1) (by omega) (by omega) hi1) ?_
  rintro v s1 ⟨hX1, r, rfl, hr⟩
  subst hQ
  simp only [ir155, wk, wk1, wk2, Option.some.injEq, exists_eq_left', decide_true, decide_false, Nat.reduceAdd, Nat.reduceEqDiff, Nat.reduceLeDiff, Nat.reduceLT, Nat.reduceMul, Nat.reduceBEq, Int.reduceLT, Int.reduceLE, Int.reduceEq, Int.reduceAdd, Int.reduceSub, Int.reduceMul, Int.reduceMod, Int.reduceTMod, Int.reduceTDiv, Int.reduceNeg, Nat.reduceSub, Nat.reduceDiv, reduceIte, reduceCtorEq]
  exact ⟨hX1, r, rfl, by omega⟩

theorem Bx.new {s : St} {B inc n : Nat} {f : Nat → α} (h : Aft en s B inc n f s) (hB : B < s.next) : Bx en s B inc n f s.next (s.add (.cells [.int .i64 0] 0 0 false)) := by
  obtain ⟨lo, h1, h2⟩ := h.row
  exact ⟨⟨⟨lo, h1, by rw [add_get, if_neg (by omega)]; exact h2⟩, h.wfs.add _, by rw [add_next]; omega, fun id i1 _ => by rw [add_get, if_neg (by omega)]⟩, Nat.le_refl _, by rw [add_next]; omega, ⟨0, by rw [add_get, if_pos rfl]⟩⟩

set_option maxHeartbeats 16000000 in
theorem pivot_ran (hc : T 137 = some (.code ir137)) (ha : T 155 = some (.code ir155)) (hm : T 156 = some (.code ir156)) (h2 : T 161 = some (.code ir161)) (hL : LessOk T 140 en lt) (s : St) (B inc n cap : Nat) (ex : Bool) (hB : B < s.next) (hn : n ≤ 1000000000) (a b : Nat) (hab : a + 13 ≤ b) (hbn : b ≤ n) (f : Nat → α) (hA : Aft en s B inc n f s) :
    Ran T 137 [dsl B inc n cap ex, .int .i64 (a : Int), .int .i64 (b : Int)] s fun v s' => Aft en s B inc n f s' ∧ ∃ (r : Nat) (h : Int), v = .tuple [.int .i64 (r : Int), .int .i64 h] ∧ a ≤ r ∧ r < b := by
  refine ran_code hc (Nat.le_of_ble_eq_true rfl) ?_
  obtain ⟨l, hl⟩ := op (b - a)
  obtain ⟨q, hq⟩ := op (l / 4)
  obtain ⟨i, hi⟩ := op (a + q)
  obtain ⟨j, hj⟩ := op (a + q * 2)
  obtain ⟨k, hk⟩ := op (a + q * 3)
  have u1 : wrapF .i64 ((b : Int) - (a : Int)) = (l : Int) := by rw [wrap_i64 _ (by omega) (by omega)]; omega
  have u2 : wrapF .i64 (Int.tdiv (l : Int) 4) = (q : Int) := by
    have : Int.tdiv (l : Int) 4 = (l : Int) / 4 := Int.tdiv_eq_ediv_of_nonneg (by omega)
    rw [this, wrap_i64 _ (by omega) (by omega)]; omega
  have u3 : wrapF .i64 ((q : Int) * 1) = (q : Int) := by rw [wrap_i64 _ (by omega) (by omega)]; omega
  have u3' : wrapF .i64 ((q : Int)) = (q : Int) := by rw [wrap_i64 _ (by omega) (by omega)]
  have u4 : wrapF .i64 ((a : Int) + (q : Int)) = (i : Int) := by rw [wrap_i64 _ (by omega) (by omega)]; omega
  have u5 : wrapF .i64 ((q : Int) * 2) = ((q * 2 : Nat) : Int) := by rw [wrap_i64 _ (by omega) (by omega)]; omega
  have u6 : wrapF .i64 ((a : Int) + ((q * 2 : Nat) : Int)) = (j : Int) := by rw [wrap_i64 _ (by omega) (by omega)]; omega
  have u7 : wrapF .i64 ((q : Int) * 3) = ((q * 3 : Nat) : Int) := by rw [wrap_i64 _ (by omega) (by omega)]; omega
  have u8 : wrapF .i64 ((a : Int) + ((q * 3 : Nat) : Int)) = (k : Int) := by rw [wrap_i64 _ (by omega) (by omega)]; omega
  have l8 : (8 : Int) ≤ (l : Int) := by omega
  have hX := Bx.new hA hB
  -- the end: the counter is looked at
  generalize hQ : Fin _ _ = Q
  have fin : ∀ (e : Env) (s' : St) (r : Nat) (dst : Option Nat), a ≤ r → r < b → opd e (.t 9) = bxp s.next → opd e (.t 11) = .int .i64 (r : Int) → Bx en s B inc n f s.next s' →
      Go T Q (pdqCl0) [] e s' := by
    intro e s' r dst r1 r2 h9 h11 hX'
    obtain ⟨z, hz⟩ := hX'.box
    by_cases z0 : z = 0
    · subst z0
      simp only [h9, h11, hz, wk, wk1, wk2, Option.some.injEq, exists_eq_left', decide_true, decide_false, Nat.reduceAdd, Nat.reduceEqDiff, Nat.reduceLeDiff, Nat.reduceLT, Nat.reduceMul, Nat.reduceBEq, Int.reduceLT, Int.reduceLE, Int.reduceEq, Int.reduceAdd, Int.reduceSub, Int.reduceMul, Int.reduceMod, Int.reduceTMod, Int.reduceTDiv, Int.reduceNeg, Nat.reduceSub, Nat.reduceDiv, reduceIte, reduceCtorEq]
      subst hQ
      simp only [ir137, h9, h11, wk, wk1, wk2, Option.some.injEq, exists_eq_left', decide_true, decide_false, Nat.reduceAdd, Nat.reduceEqDiff, Nat.reduceLeDiff, Nat.reduceLT, Nat.reduceMul, Nat.reduceBEq, Int.reduceLT, Int.reduceLE, Int.reduceEq, Int.reduceAdd, Int.reduceSub, Int.reduceMul, Int.reduceMod, Int.reduceTMod, Int.reduceTDiv, Int.reduceNeg, Nat.reduceSub, Nat.reduceDiv, reduceIte, reduceCtorEq]
      exact ⟨hX'.aft, r, _, rfl, r1, r2⟩
    · by_cases z12 : z = 12
      · subst z12
        simp only [h9, h11, hz, wk, wk1, wk2, Option.some.injEq, exists_eq_left', decide_true, decide_false, Nat.reduceAdd, Nat.reduceEqDiff, Nat.reduceLeDiff, Nat.reduceLT, Nat.reduceMul, Nat.reduceBEq, Int.reduceLT, Int.reduceLE, Int.reduceEq, Int.reduceAdd, Int.reduceSub, Int.reduceMul, Int.reduceMod, Int.reduceTMod, Int.reduceTDiv, Int.reduceNeg, Nat.reduceSub, Nat.reduceDiv, reduceIte, reduceCtorEq]
        subst hQ
        simp only [ir137, h9, h11, wk, wk1, wk2, Option.some.injEq, exists_eq_left', decide_true, decide_false, Nat.reduceAdd, Nat.reduceEqDiff, Nat.reduceLeDiff, Nat.reduceLT, Nat.reduceMul, Nat.reduceBEq, Int.reduceLT, Int.reduceLE, Int.reduceEq, Int.reduceAdd, Int.reduceSub, Int.reduceMul, Int.reduceMod, Int.reduceTMod, Int.reduceTDiv, Int.reduceNeg, Nat.reduceSub, Nat.reduceDiv, reduceIte, reduceCtorEq]
        exact ⟨hX'.aft, r, _, rfl, r1, r2⟩
      · simp only [h9, h11, hz, z0, z12, wk, wk1, wk2, Option.some.injEq, exists_eq_left', decide_true, decide_false, Nat.reduceAdd, Nat.reduceEqDiff, Nat.reduceLeDiff, Nat.reduceLT, Nat.reduceMul, Nat.reduceBEq, Int.reduceLT, Int.reduceLE, Int.reduceEq, Int.reduceAdd, Int.reduceSub, Int.reduceMul, Int.reduceMod, Int.reduceTMod, Int.reduceTDiv, Int.reduceNeg, Nat.reduceSub, Nat.reduceDiv, reduceIte, reduceCtorEq]
        subst hQ
        simp only [ir137, h9, h11, wk, wk1, wk2, Option.some.injEq, exists_eq_left', decide_true, decide_false, Nat.reduceAdd, Nat.reduceEqDiff, Nat.reduceLeDiff, Nat.reduceLT, Nat.reduceMul, Nat.reduceBEq, Int.reduceLT, Int.reduceLE, Int.reduceEq, Int.reduceAdd, Int.reduceSub, Int.reduceMul, Int.reduceMod, Int.reduceTMod, Int.reduceTDiv, Int.reduceNeg, Nat.reduceSub, Nat.reduceDiv, reduceIte, reduceCtorEq]
        exact ⟨hX'.aft, r, _, rfl, r1, r2⟩
  have mid : ∀ (e : Env) (s' : St) (i' j' k' : Nat), (a ≤ i' ∧ i' < b) → (a ≤ j' ∧ j' < b) → (a ≤ k' ∧ k' < b) → opd e (.t 0) = dsl B inc n cap ex → opd e (.t 9) = bxp s.next → opd e (.t 10) = .int .i64 (i' : Int) → opd e (.t 11) = .int .i64 (j' : Int) → opd e (.t 12) = .int .i64 (k' : Int) → Bx en s B inc n f s.next s' →
      Go T Q (pdqCl1) [.seq (pdqCl0)] e s' := by
    intro e s' i' j' k' hi' hj' hk' h0 h9 h10 h11 h12 hX'
    generalize hRC : ((pdqCl0) : ICode) = RC at *
    simp only [h0, h9, h10, h11, h12, wk, wk1, wk2, Option.some.injEq, exists_eq_left', decide_true, decide_false, Nat.reduceAdd, Nat.reduceEqDiff, Nat.reduceLeDiff, Nat.reduceLT, Nat.reduceMul, Nat.reduceBEq, Int.reduceLT, Int.reduceLE, Int.reduceEq, Int.reduceAdd, Int.reduceSub, Int.reduceMul, Int.reduceMod, Int.reduceTMod, Int.reduceTDiv, Int.reduceNeg, Nat.reduceSub, Nat.reduceDiv, reduceIte, reduceCtorEq]
    refine goCall_by (median_ran hm h2 hL s s' B inc n cap ex hB f s.next hX' i' j' k' (by omega) (by omega) (by omega)) ?_
    rintro v s1 ⟨hX1, r, rfl, hr⟩
    simp only [h0, h9, h10, h11, h12, wk, wk1, wk2, Option.some.injEq, exists_eq_left', decide_true, decide_false, Nat.reduceAdd, Nat.reduceEqDiff, Nat.reduceLeDiff, Nat.reduceLT, Nat.reduceMul, Nat.reduceBEq, Int.reduceLT, Int.reduceLE, Int.reduceEq, Int.reduceAdd, Int.reduceSub, Int.reduceMul, Int.reduceMod, Int.reduceTMod, Int.reduceTDiv, Int.reduceNeg, Nat.reduceSub, Nat.reduceDiv, reduceIte, reduceCtorEq]
    exact fin _ s1 r none (by omega) (by omega) (by simp only [h9, wk, wk1, wk2, Option.some.injEq, exists_eq_left', decide_true, decide_false, Nat.reduceAdd, Nat.reduceEqDiff, Nat.reduceLeDiff, Nat.reduceLT, Nat.reduceMul, Nat.reduceBEq, Int.reduceLT, Int.reduceLE, Int.reduceEq, Int.reduceAdd, Int.reduceSub, Int.reduceMul, Int.reduceMod, Int.reduceTMod, Int.reduceTDiv, Int.reduceNeg, Nat.reduceSub, Nat.reduceDiv, reduceIte, reduceCtorEq]) (by simp only [wk, wk1, Nat.reduceEqDiff, reduceIte, decide_true]) hX1
  generalize hRC : ((pdqCl0) : ICode) = RC at *
  generalize hRM : ((pdqCl1) : ICode) = RM at *
  by_cases h50 : 50 ≤ l
  · have l50 : (50 : Int) ≤ (l : Int) := by omega
    simp only [ir137, hRC, hRM, u1, u2, u3, u3', u4, u5, u6, u7, u8, l8, l50, wk, wk1, wk2, Option.some.injEq, exists_eq_left', decide_true, decide_false, Nat.reduceAdd, Nat.reduceEqDiff, Nat.reduceLeDiff, Nat.reduceLT, Nat.reduceMul, Nat.reduceBEq, Int.reduceLT, Int.reduceLE, Int.reduceEq, Int.reduceAdd, Int.reduceSub, Int.reduceMul, Int.reduceMod, Int.reduceTMod, Int.reduceTDiv, Int.reduceNeg, Nat.reduceSub, Nat.reduceDiv, reduceIte, reduceCtorEq]
    refine goCall_by (medAdj_ran ha hm h2 hL s _ B inc n cap ex hB hn f s.next hX i (by omega) (by omega)) ?_
    rintro v s1 ⟨hX1, r1, rfl, q1, q2⟩
    simp only [wk, wk1, wk2, Option.some.injEq, exists_eq_left', decide_true, decide_false, Nat.reduceAdd, Nat.reduceEqDiff, Nat.reduceLeDiff, Nat.reduceLT, Nat.reduceMul, Nat.reduceBEq, Int.reduceLT, Int.reduceLE, Int.reduceEq, Int.reduceAdd, Int.reduceSub, Int.reduceMul, Int.reduceMod, Int.reduceTMod, Int.reduceTDiv, Int.reduceNeg, Nat.reduceSub, Nat.reduceDiv, reduceIte, reduceCtorEq]
    refine goCall_by (medAdj_ran ha hm h2 hL s _ B inc n cap ex hB hn f s.next hX1 j (by omega) (by omega)) ?_
    rintro v s2 ⟨hX2, r2, rfl, q3, q4⟩
    simp only [wk, wk1, wk2, Option.some.injEq, exists_eq_left', decide_true, decide_false, Nat.reduceAdd, Nat.reduceEqDiff, Nat.reduceLeDiff, Nat.reduceLT, Nat.reduceMul, Nat.reduceBEq, Int.reduceLT, Int.reduceLE, Int.reduceEq, Int.reduceAdd, Int.reduceSub, Int.reduceMul, Int.reduceMod, Int.reduceTMod, Int.reduceTDiv, Int.reduceNeg, Nat.reduceSub, Nat.reduceDiv, reduceIte, reduceCtorEq]
    refine goCall_by (medAdj_ran ha hm h2 hL s _ B inc n cap ex hB hn f s.next hX2 k (by omega) (by omega)) ?_
    rintro v s3 ⟨hX3, r3, rfl, q5, q6⟩
    simp only [wk, wk1, wk2, Option.some.injEq, exists_eq_left', decide_true, decide_false, Nat.reduceAdd, Nat.reduceEqDiff, Nat.reduceLeDiff, Nat.reduceLT, Nat.reduceMul, Nat.reduceBEq, Int.reduceLT, Int.reduceLE, Int.reduceEq, Int.reduceAdd, Int.reduceSub, Int.reduceMul, Int.reduceMod, Int.reduceTMod, Int.reduceTDiv, Int.reduceNeg, Nat.reduceSub, Nat.reduceDiv, reduceIte, reduceCtorEq]
    refine mid _ s3 r1 r2 r3 (by omega) (by omega) (by omega) ?_ ?_ ?_ ?_ ?_ hX3 <;> simp only [wk, wk1, Nat.reduceEqDiff, reduceIte, decide_true]
  · have l50 : ¬ (50 : Int) ≤ (l : Int) := by omega
    simp only [ir137, hRC, hRM, u1, u2, u3, u3', u4, u5, u6, u7, u8, l8, l50, wk, wk1, wk2, Option.some.injEq, exists_eq_left', decide_true, decide_false, Nat.reduceAdd, Nat.reduceEqDiff, Nat.reduceLeDiff, Nat.reduceLT, Nat.reduceMul, Nat.reduceBEq, Int.reduceLT, Int.reduceLE, Int.reduceEq, Int.reduceAdd, Int.reduceSub, Int.reduceMul, Int.reduceMod, Int.reduceTMod, Int.reduceTDiv, Int.reduceNeg, Nat.reduceSub, Nat.reduceDiv, reduceIte, reduceCtorEq]
    refine mid _ _ i j k (by omega) (by omega) (by omega) ?_ ?_ ?_ ?_ ?_ hX <;> simp only [wk, wk1, Nat.reduceEqDiff, reduceIte, decide_true]
end
end Go.V
/- slices.partitionEqualOrdered, partitionOrdered over the small language. (Printed by mkpdqp.py.) -/
namespace Go.V
open Go
set_option linter.unusedSimpArgs false
set_option linter.unusedVariables false
abbrev pdqPl0 : ICode := (.loop (.seq (.seq (.region [⟨some 29, none, [], (.move (.t 9))⟩, ⟨some 30, none, [], (.move (.t 10))⟩, ⟨some 31, none, [], (.bin .leq (.t 29) (.t 30))⟩, ⟨some 32, none, [], (.move (.t 31))⟩, ⟨some 33, some (32, true), [], (.move (.t 0))⟩, ⟨some 34, some (32, true), [], (.move (.t 1))⟩, ⟨some 35, some (32, true), [], (.idxSl 1 (.t 33) (.t 34))⟩, ⟨some 36, some (32, true), [], (.load false 1 (.t 35))⟩, ⟨some 37, some (32, true), [], (.move (.t 0))⟩, ⟨some 38, some (32, true), [], (.move (.t 9))⟩, ⟨some 39, some (32, true), [], (.idxSl 1 (.t 37) (.t 38))⟩, ⟨some 40, some (32, true), [], (.load false 1 (.t 39))⟩, ⟨some 41, some (32, true), [], (.call 140 [(.t 36), (.t 40)])⟩, ⟨some 42, some (32, true), [], (.un .not (.t 41))⟩, ⟨some 43, none, [], (.pick (.t 32) (.t 42) (.c (.bool false)))⟩] true)
 (.cond (.t 43) .skip (.exit 2)))
 (.block 3 (.region [⟨some 44, none, [], (.move (.t 9))⟩, ⟨some 45, none, [], (.bin .add (.t 44) (.c (.int .i64 1)))⟩, ⟨some 9, none, [], (.move (.t 45))⟩] false))))
abbrev pdqPl1 : ICode := (.loop (.seq (.seq (.region [⟨some 46, none, [], (.move (.t 9))⟩, ⟨some 47, none, [], (.move (.t 10))⟩, ⟨some 48, none, [], (.bin .leq (.t 46) (.t 47))⟩, ⟨some 49, none, [], (.move (.t 48))⟩, ⟨some 50, some (49, true), [], (.move (.t 0))⟩, ⟨some 51, some (49, true), [], (.move (.t 1))⟩, ⟨some 52, some (49, true), [], (.idxSl 1 (.t 50) (.t 51))⟩, ⟨some 53, some (49, true), [], (.load false 1 (.t 52))⟩, ⟨some 54, some (49, true), [], (.move (.t 0))⟩, ⟨some 55, some (49, true), [], (.move (.t 10))⟩, ⟨some 56, some (49, true), [], (.idxSl 1 (.t 54) (.t 55))⟩, ⟨some 57, some (49, true), [], (.load false 1 (.t 56))⟩, ⟨some 58, some (49, true), [], (.call 140 [(.t 53), (.t 57)])⟩, ⟨some 59, none, [], (.pick (.t 49) (.t 58) (.c (.bool false)))⟩] true)
 (.cond (.t 59) .skip (.exit 4)))
 (.block 5 (.region [⟨some 60, none, [], (.move (.t 10))⟩, ⟨some 61, none, [], (.bin .sub (.t 60) (.c (.int .i64 1)))⟩, ⟨some 10, none, [], (.move (.t 61))⟩] false))))
abbrev pdqPl2 : ICode := (.loop (.seq (.seq (.region [⟨some 30, none, [], (.move (.t 10))⟩, ⟨some 31, none, [], (.move (.t 11))⟩, ⟨some 32, none, [], (.bin .leq (.t 30) (.t 31))⟩, ⟨some 33, none, [], (.move (.t 32))⟩, ⟨some 34, some (33, true), [], (.move (.t 0))⟩, ⟨some 35, some (33, true), [], (.move (.t 10))⟩, ⟨some 36, some (33, true), [], (.idxSl 1 (.t 34) (.t 35))⟩, ⟨some 37, some (33, true), [], (.load false 1 (.t 36))⟩, ⟨some 38, some (33, true), [], (.move (.t 0))⟩, ⟨some 39, some (33, true), [], (.move (.t 1))⟩, ⟨some 40, some (33, true), [], (.idxSl 1 (.t 38) (.t 39))⟩, ⟨some 41, some (33, true), [], (.load false 1 (.t 40))⟩, ⟨some 42, some (33, true), [], (.call 140 [(.t 37), (.t 41)])⟩, ⟨some 43, none, [], (.pick (.t 33) (.t 42) (.c (.bool false)))⟩] true)
 (.cond (.t 43) .skip (.exit 0)))
 (.block 1 (.region [⟨some 44, none, [], (.move (.t 10))⟩, ⟨some 45, none, [], (.bin .add (.t 44) (.c (.int .i64 1)))⟩, ⟨some 10, none, [], (.move (.t 45))⟩] false))))
abbrev pdqPl3 : ICode := (.loop (.seq (.seq (.region [⟨some 46, none, [], (.move (.t 10))⟩, ⟨some 47, none, [], (.move (.t 11))⟩, ⟨some 48, none, [], (.bin .leq (.t 46) (.t 47))⟩, ⟨some 49, none, [], (.move (.t 48))⟩, ⟨some 50, some (49, true), [], (.move (.t 0))⟩, ⟨some 51, some (49, true), [], (.move (.t 11))⟩, ⟨some 52, some (49, true), [], (.idxSl 1 (.t 50) (.t 51))⟩, ⟨some 53, some (49, true), [], (.load false 1 (.t 52))⟩, ⟨some 54, some (49, true), [], (.move (.t 0))⟩, ⟨some 55, some (49, true), [], (.move (.t 1))⟩, ⟨some 56, some (49, true), [], (.idxSl 1 (.t 54) (.t 55))⟩, ⟨some 57, some (49, true), [], (.load false 1 (.t 56))⟩, ⟨some 58, some (49, true), [], (.call 140 [(.t 53), (.t 57)])⟩, ⟨some 59, some (49, true), [], (.un .not (.t 58))⟩, ⟨some 60, none, [], (.pick (.t 49) (.t 59) (.c (.bool false)))⟩] true)
 (.cond (.t 60) .skip (.exit 2)))
 (.block 3 (.region [⟨some 61, none, [], (.move (.t 11))⟩, ⟨some 62, none, [], (.bin .sub (.t 61) (.c (.int .i64 1)))⟩, ⟨some 11, none, [], (.move (.t 62))⟩] false))))
abbrev pdqPl4 : ICode := (.loop (.seq (.seq (.region [⟨some 99, none, [], (.move (.t 10))⟩, ⟨some 100, none, [], (.move (.t 11))⟩, ⟨some 101, none, [], (.bin .leq (.t 99) (.t 100))⟩, ⟨some 102, none, [], (.move (.t 101))⟩, ⟨some 103, some (102, true), [], (.move (.t 0))⟩, ⟨some 104, some (102, true), [], (.move (.t 10))⟩, ⟨some 105, some (102, true), [], (.idxSl 1 (.t 103) (.t 104))⟩, ⟨some 106, some (102, true), [], (.load false 1 (.t 105))⟩, ⟨some 107, some (102, true), [], (.move (.t 0))⟩, ⟨some 108, some (102, true), [], (.move (.t 1))⟩, ⟨some 109, some (102, true), [], (.idxSl 1 (.t 107) (.t 108))⟩, ⟨some 110, some (102, true), [], (.load false 1 (.t 109))⟩, ⟨some 111, some (102, true), [], (.call 140 [(.t 106), (.t 110)])⟩, ⟨some 112, none, [], (.pick (.t 102) (.t 111) (.c (.bool false)))⟩] true)
 (.cond (.t 112) .skip (.exit 6)))
 (.block 7 (.region [⟨some 113, none, [], (.move (.t 10))⟩, ⟨some 114, none, [], (.bin .add (.t 113) (.c (.int .i64 1)))⟩, ⟨some 10, none, [], (.move (.t 114))⟩] false))))
abbrev pdqPl5 : ICode := (.loop (.seq (.seq (.region [⟨some 115, none, [], (.move (.t 10))⟩, ⟨some 116, none, [], (.move (.t 11))⟩, ⟨some 117, none, [], (.bin .leq (.t 115) (.t 116))⟩, ⟨some 118, none, [], (.move (.t 117))⟩, ⟨some 119, some (118, true), [], (.move (.t 0))⟩, ⟨some 120, some (118, true), [], (.move (.t 11))⟩, ⟨some 121, some (118, true), [], (.idxSl 1 (.t 119) (.t 120))⟩, ⟨some 122, some (118, true), [], (.load false 1 (.t 121))⟩, ⟨some 123, some (118, true), [], (.move (.t 0))⟩, ⟨some 124, some (118, true), [], (.move (.t 1))⟩, ⟨some 125, some (118, true), [], (.idxSl 1 (.t 123) (.t 124))⟩, ⟨some 126, some (118, true), [], (.load false 1 (.t 125))⟩, ⟨some 127, some (118, true), [], (.call 140 [(.t 122), (.t 126)])⟩, ⟨some 128, some (118, true), [], (.un .not (.t 127))⟩, ⟨some 129, none, [], (.pick (.t 118) (.t 128) (.c (.bool false)))⟩] true)
 (.cond (.t 129) .skip (.exit 8)))
 (.block 9 (.region [⟨some 130, none, [], (.move (.t 11))⟩, ⟨some 131, none, [], (.bin .sub (.t 130) (.c (.int .i64 1)))⟩, ⟨some 11, none, [], (.move (.t 131))⟩] false))))
abbrev pdqPq6 : Fr := .seq (.seq (.block 4 (.loop (.seq (.seq (.region [⟨some 46, none, [], (.move (.t 9))⟩, ⟨some 47, none, [], (.move (.t 10))⟩, ⟨some 48, none, [], (.bin .leq (.t 46) (.t 47))⟩, ⟨some 49, none, [], (.move (.t 48))⟩, ⟨some 50, some (49, true), [], (.move (.t 0))⟩, ⟨some 51, some (49, true), [], (.move (.t 1))⟩, ⟨some 52, some (49, true), [], (.idxSl 1 (.t 50) (.t 51))⟩, ⟨some 53, some (49, true), [], (.load false 1 (.t 52))⟩, ⟨some 54, some (49, true), [], (.move (.t 0))⟩, ⟨some 55, some (49, true), [], (.move (.t 10))⟩, ⟨some 56, some (49, true), [], (.idxSl 1 (.t 54) (.t 55))⟩, ⟨some 57, some (49, true), [], (.load false 1 (.t 56))⟩, ⟨some 58, some (49, true), [], (.call 140 [(.t 53), (.t 57)])⟩, ⟨some 59, none, [], (.pick (.t 49) (.t 58) (.c (.bool false)))⟩] true)
 (.cond (.t 59) .skip (.exit 4)))
 (.block 5 (.region [⟨some 60, none, [], (.move (.t 10))⟩, ⟨some 61, none, [], (.bin .sub (.t 60) (.c (.int .i64 1)))⟩, ⟨some 10, none, [], (.move (.t 61))⟩] false)))))
 (.seq (.seq (.region [⟨some 62, none, [], (.move (.t 9))⟩, ⟨some 63, none, [], (.move (.t 10))⟩, ⟨some 64, none, [], (.bin .gtr (.t 62) (.t 63))⟩] false)
 (.cond (.t 64) (.exit 0) .skip))
 (.seq (.region [⟨some 65, none, [], (.move (.t 0))⟩, ⟨some 66, none, [], (.move (.t 9))⟩, ⟨some 67, none, [], (.move (.t 0))⟩, ⟨some 68, none, [], (.move (.t 10))⟩, ⟨some 69, none, [], (.move (.t 0))⟩, ⟨some 70, none, [], (.move (.t 10))⟩, ⟨some 71, none, [], (.idxSl 1 (.t 69) (.t 70))⟩, ⟨some 72, none, [], (.load false 1 (.t 71))⟩, ⟨some 73, none, [], (.move (.t 0))⟩, ⟨some 74, none, [], (.move (.t 9))⟩, ⟨some 75, none, [], (.idxSl 1 (.t 73) (.t 74))⟩, ⟨some 76, none, [], (.load false 1 (.t 75))⟩, ⟨some 77, none, [], (.idxSl 1 (.t 65) (.t 66))⟩, ⟨none, none, [], (.store 1 (.t 77) (.t 72))⟩, ⟨some 78, none, [], (.idxSl 1 (.t 67) (.t 68))⟩, ⟨none, none, [], (.store 1 (.t 78) (.t 76))⟩] true)
 (.seq (.region [⟨some 79, none, [], (.move (.t 9))⟩, ⟨some 80, none, [], (.bin .add (.t 79) (.c (.int .i64 1)))⟩, ⟨some 9, none, [], (.move (.t 80))⟩] false)
 (.region [⟨some 81, none, [], (.move (.t 10))⟩, ⟨some 82, none, [], (.bin .sub (.t 81) (.c (.int .i64 1)))⟩, ⟨some 10, none, [], (.move (.t 82))⟩] false)))))
abbrev pdqPq7 : Fr := .loop (.block 1 (.seq (.block 2 (.loop (.seq (.seq (.region [⟨some 29, none, [], (.move (.t 9))⟩, ⟨some 30, none, [], (.move (.t 10))⟩, ⟨some 31, none, [], (.bin .leq (.t 29) (.t 30))⟩, ⟨some 32, none, [], (.move (.t 31))⟩, ⟨some 33, some (32, true), [], (.move (.t 0))⟩, ⟨some 34, some (32, true), [], (.move (.t 1))⟩, ⟨some 35, some (32, true), [], (.idxSl 1 (.t 33) (.t 34))⟩, ⟨some 36, some (32, true), [], (.load false 1 (.t 35))⟩, ⟨some 37, some (32, true), [], (.move (.t 0))⟩, ⟨some 38, some (32, true), [], (.move (.t 9))⟩, ⟨some 39, some (32, true), [], (.idxSl 1 (.t 37) (.t 38))⟩, ⟨some 40, some (32, true), [], (.load false 1 (.t 39))⟩, ⟨some 41, some (32, true), [], (.call 140 [(.t 36), (.t 40)])⟩, ⟨some 42, some (32, true), [], (.un .not (.t 41))⟩, ⟨some 43, none, [], (.pick (.t 32) (.t 42) (.c (.bool false)))⟩] true)
 (.cond (.t 43) .skip (.exit 2)))
 (.block 3 (.region [⟨some 44, none, [], (.move (.t 9))⟩, ⟨some 45, none, [], (.bin .add (.t 44) (.c (.int .i64 1)))⟩, ⟨some 9, none, [], (.move (.t 45))⟩] false)))))
 (.seq (.block 4 (.loop (.seq (.seq (.region [⟨some 46, none, [], (.move (.t 9))⟩, ⟨some 47, none, [], (.move (.t 10))⟩, ⟨some 48, none, [], (.bin .leq (.t 46) (.t 47))⟩, ⟨some 49, none, [], (.move (.t 48))⟩, ⟨some 50, some (49, true), [], (.move (.t 0))⟩, ⟨some 51, some (49, true), [], (.move (.t 1))⟩, ⟨some 52, some (49, true), [], (.idxSl 1 (.t 50) (.t 51))⟩, ⟨some 53, some (49, true), [], (.load false 1 (.t 52))⟩, ⟨some 54, some (49, true), [], (.move (.t 0))⟩, ⟨some 55, some (49, true), [], (.move (.t 10))⟩, ⟨some 56, some (49, true), [], (.idxSl 1 (.t 54) (.t 55))⟩, ⟨some 57, some (49, true), [], (.load false 1 (.t 56))⟩, ⟨some 58, some (49, true), [], (.call 140 [(.t 53), (.t 57)])⟩, ⟨some 59, none, [], (.pick (.t 49) (.t 58) (.c (.bool false)))⟩] true)
 (.cond (.t 59) .skip (.exit 4)))
 (.block 5 (.region [⟨some 60, none, [], (.move (.t 10))⟩, ⟨some 61, none, [], (.bin .sub (.t 60) (.c (.int .i64 1)))⟩, ⟨some 10, none, [], (.move (.t 61))⟩] false)))))
 (.seq (.seq (.region [⟨some 62, none, [], (.move (.t 9))⟩, ⟨some 63, none, [], (.move (.t 10))⟩, ⟨some 64, none, [], (.bin .gtr (.t 62) (.t 63))⟩] false)
 (.cond (.t 64) (.exit 0) .skip))
 (.seq (.region [⟨some 65, none, [], (.move (.t 0))⟩, ⟨some 66, none, [], (.move (.t 9))⟩, ⟨some 67, none, [], (.move (.t 0))⟩, ⟨some 68, none, [], (.move (.t 10))⟩, ⟨some 69, none, [], (.move (.t 0))⟩, ⟨some 70, none, [], (.move (.t 10))⟩, ⟨some 71, none, [], (.idxSl 1 (.t 69) (.t 70))⟩, ⟨some 72, none, [], (.load false 1 (.t 71))⟩, ⟨some 73, none, [], (.move (.t 0))⟩, ⟨some 74, none, [], (.move (.t 9))⟩, ⟨some 75, none, [], (.idxSl 1 (.t 73) (.t 74))⟩, ⟨some 76, none, [], (.load false 1 (.t 75))⟩, ⟨some 77, none, [], (.idxSl 1 (.t 65) (.t 66))⟩, ⟨none, none, [], (.store 1 (.t 77) (.t 72))⟩, ⟨some 78, none, [], (.idxSl 1 (.t 67) (.t 68))⟩, ⟨none, none, [], (.store 1 (.t 78) (.t 76))⟩] true)
 (.seq (.region [⟨some 79, none, [], (.move (.t 9))⟩, ⟨some 80, none, [], (.bin .add (.t 79) (.c (.int .i64 1)))⟩, ⟨some 9, none, [], (.move (.t 80))⟩] false)
 (.region [⟨some 81, none, [], (.move (.t 10))⟩, ⟨some 82, none, [], (.bin .sub (.t 81) (.c (.int .i64 1)))⟩, ⟨some 10, none, [], (.move (.t 82))⟩] false)))))))
abbrev pdqPq8 : Fr := .seq (.seq (.region [⟨some 83, none, [], (.move (.t 9))⟩, ⟨some 8, none, [], (.move (.t 83))⟩] false)
 .ret)
abbrev pdqPq9 : Fr := .seq (.seq (.seq (.region [⟨some 62, none, [], (.move (.t 9))⟩, ⟨some 63, none, [], (.move (.t 10))⟩, ⟨some 64, none, [], (.bin .gtr (.t 62) (.t 63))⟩] false)
 (.cond (.t 64) (.exit 0) .skip))
 (.seq (.region [⟨some 65, none, [], (.move (.t 0))⟩, ⟨some 66, none, [], (.move (.t 9))⟩, ⟨some 67, none, [], (.move (.t 0))⟩, ⟨some 68, none, [], (.move (.t 10))⟩, ⟨some 69, none, [], (.move (.t 0))⟩, ⟨some 70, none, [], (.move (.t 10))⟩, ⟨some 71, none, [], (.idxSl 1 (.t 69) (.t 70))⟩, ⟨some 72, none, [], (.load false 1 (.t 71))⟩, ⟨some 73, none, [], (.move (.t 0))⟩, ⟨some 74, none, [], (.move (.t 9))⟩, ⟨some 75, none, [], (.idxSl 1 (.t 73) (.t 74))⟩, ⟨some 76, none, [], (.load false 1 (.t 75))⟩, ⟨some 77, none, [], (.idxSl 1 (.t 65) (.t 66))⟩, ⟨none, none, [], (.store 1 (.t 77) (.t 72))⟩, ⟨some 78, none, [], (.idxSl 1 (.t 67) (.t 68))⟩, ⟨none, none, [], (.store 1 (.t 78) (.t 76))⟩] true)
 (.seq (.region [⟨some 79, none, [], (.move (.t 9))⟩, ⟨some 80, none, [], (.bin .add (.t 79) (.c (.int .i64 1)))⟩, ⟨some 9, none, [], (.move (.t 80))⟩] false)
 (.region [⟨some 81, none, [], (.move (.t 10))⟩, ⟨some 82, none, [], (.bin .sub (.t 81) (.c (.int .i64 1)))⟩, ⟨some 10, none, [], (.move (.t 82))⟩] false))))
abbrev pdqPq10 : Fr := .seq (.seq (.block 2 (.loop (.seq (.seq (.region [⟨some 46, none, [], (.move (.t 10))⟩, ⟨some 47, none, [], (.move (.t 11))⟩, ⟨some 48, none, [], (.bin .leq (.t 46) (.t 47))⟩, ⟨some 49, none, [], (.move (.t 48))⟩, ⟨some 50, some (49, true), [], (.move (.t 0))⟩, ⟨some 51, some (49, true), [], (.move (.t 11))⟩, ⟨some 52, some (49, true), [], (.idxSl 1 (.t 50) (.t 51))⟩, ⟨some 53, some (49, true), [], (.load false 1 (.t 52))⟩, ⟨some 54, some (49, true), [], (.move (.t 0))⟩, ⟨some 55, some (49, true), [], (.move (.t 1))⟩, ⟨some 56, some (49, true), [], (.idxSl 1 (.t 54) (.t 55))⟩, ⟨some 57, some (49, true), [], (.load false 1 (.t 56))⟩, ⟨some 58, some (49, true), [], (.call 140 [(.t 53), (.t 57)])⟩, ⟨some 59, some (49, true), [], (.un .not (.t 58))⟩, ⟨some 60, none, [], (.pick (.t 49) (.t 59) (.c (.bool false)))⟩] true)
 (.cond (.t 60) .skip (.exit 2)))
 (.block 3 (.region [⟨some 61, none, [], (.move (.t 11))⟩, ⟨some 62, none, [], (.bin .sub (.t 61) (.c (.int .i64 1)))⟩, ⟨some 11, none, [], (.move (.t 62))⟩] false)))))
 (.seq (.seq (.region [⟨some 63, none, [], (.move (.t 10))⟩, ⟨some 64, none, [], (.move (.t 11))⟩, ⟨some 65, none, [], (.bin .gtr (.t 63) (.t 64))⟩] false)
 (.cond (.t 65) (.seq (.region [⟨some 66, none, [], (.move (.t 0))⟩, ⟨some 67, none, [], (.move (.t 11))⟩, ⟨some 68, none, [], (.move (.t 0))⟩, ⟨some 69, none, [], (.move (.t 1))⟩, ⟨some 70, none, [], (.move (.t 0))⟩, ⟨some 71, none, [], (.move (.t 1))⟩, ⟨some 72, none, [], (.idxSl 1 (.t 70) (.t 71))⟩, ⟨some 73, none, [], (.load false 1 (.t 72))⟩, ⟨some 74, none, [], (.move (.t 0))⟩, ⟨some 75, none, [], (.move (.t 11))⟩, ⟨some 76, none, [], (.idxSl 1 (.t 74) (.t 75))⟩, ⟨some 77, none, [], (.load false 1 (.t 76))⟩, ⟨some 78, none, [], (.idxSl 1 (.t 66) (.t 67))⟩, ⟨none, none, [], (.store 1 (.t 78) (.t 73))⟩, ⟨some 79, none, [], (.idxSl 1 (.t 68) (.t 69))⟩, ⟨none, none, [], (.store 1 (.t 79) (.t 77))⟩] true)
 (.seq (.region [⟨some 80, none, [], (.move (.t 11))⟩, ⟨some 8, none, [], (.move (.t 80))⟩, ⟨some 9, none, [], (.move (.c (.bool true)))⟩] false)
 .ret)) .skip))
 (.seq (.region [⟨some 81, none, [], (.move (.t 0))⟩, ⟨some 82, none, [], (.move (.t 10))⟩, ⟨some 83, none, [], (.move (.t 0))⟩, ⟨some 84, none, [], (.move (.t 11))⟩, ⟨some 85, none, [], (.move (.t 0))⟩, ⟨some 86, none, [], (.move (.t 11))⟩, ⟨some 87, none, [], (.idxSl 1 (.t 85) (.t 86))⟩, ⟨some 88, none, [], (.load false 1 (.t 87))⟩, ⟨some 89, none, [], (.move (.t 0))⟩, ⟨some 90, none, [], (.move (.t 10))⟩, ⟨some 91, none, [], (.idxSl 1 (.t 89) (.t 90))⟩, ⟨some 92, none, [], (.load false 1 (.t 91))⟩, ⟨some 93, none, [], (.idxSl 1 (.t 81) (.t 82))⟩, ⟨none, none, [], (.store 1 (.t 93) (.t 88))⟩, ⟨some 94, none, [], (.idxSl 1 (.t 83) (.t 84))⟩, ⟨none, none, [], (.store 1 (.t 94) (.t 92))⟩] true)
 (.seq (.region [⟨some 95, none, [], (.move (.t 10))⟩, ⟨some 96, none, [], (.bin .add (.t 95) (.c (.int .i64 1)))⟩, ⟨some 10, none, [], (.move (.t 96))⟩] false)
 (.seq (.region [⟨some 97, none, [], (.move (.t 11))⟩, ⟨some 98, none, [], (.bin .sub (.t 97) (.c (.int .i64 1)))⟩, ⟨some 11, none, [], (.move (.t 98))⟩] false)
 (.seq (.block 4 (.loop (.block 5 (.seq (.block 6 (.loop (.seq (.seq (.region [⟨some 99, none, [], (.move (.t 10))⟩, ⟨some 100, none, [], (.move (.t 11))⟩, ⟨some 101, none, [], (.bin .leq (.t 99) (.t 100))⟩, ⟨some 102, none, [], (.move (.t 101))⟩, ⟨some 103, some (102, true), [], (.move (.t 0))⟩, ⟨some 104, some (102, true), [], (.move (.t 10))⟩, ⟨some 105, some (102, true), [], (.idxSl 1 (.t 103) (.t 104))⟩, ⟨some 106, some (102, true), [], (.load false 1 (.t 105))⟩, ⟨some 107, some (102, true), [], (.move (.t 0))⟩, ⟨some 108, some (102, true), [], (.move (.t 1))⟩, ⟨some 109, some (102, true), [], (.idxSl 1 (.t 107) (.t 108))⟩, ⟨some 110, some (102, true), [], (.load false 1 (.t 109))⟩, ⟨some 111, some (102, true), [], (.call 140 [(.t 106), (.t 110)])⟩, ⟨some 112, none, [], (.pick (.t 102) (.t 111) (.c (.bool false)))⟩] true)
 (.cond (.t 112) .skip (.exit 6)))
 (.block 7 (.region [⟨some 113, none, [], (.move (.t 10))⟩, ⟨some 114, none, [], (.bin .add (.t 113) (.c (.int .i64 1)))⟩, ⟨some 10, none, [], (.move (.t 114))⟩] false)))))
 (.seq (.block 8 (.loop (.seq (.seq (.region [⟨some 115, none, [], (.move (.t 10))⟩, ⟨some 116, none, [], (.move (.t 11))⟩, ⟨some 117, none, [], (.bin .leq (.t 115) (.t 116))⟩, ⟨some 118, none, [], (.move (.t 117))⟩, ⟨some 119, some (118, true), [], (.move (.t 0))⟩, ⟨some 120, some (118, true), [], (.move (.t 11))⟩, ⟨some 121, some (118, true), [], (.idxSl 1 (.t 119) (.t 120))⟩, ⟨some 122, some (118, true), [], (.load false 1 (.t 121))⟩, ⟨some 123, some (118, true), [], (.move (.t 0))⟩, ⟨some 124, some (118, true), [], (.move (.t 1))⟩, ⟨some 125, some (118, true), [], (.idxSl 1 (.t 123) (.t 124))⟩, ⟨some 126, some (118, true), [], (.load false 1 (.t 125))⟩, ⟨some 127, some (118, true), [], (.call 140 [(.t 122), (.t 126)])⟩, ⟨some 128, some (118, true), [], (.un .not (.t 127))⟩, ⟨some 129, none, [], (.pick (.t 118) (.t 128) (.c (.bool false)))⟩] true)
 (.cond (.t 129) .skip (.exit 8)))
 (.block 9 (.region [⟨some 130, none, [], (.move (.t 11))⟩, ⟨some 131, none, [], (.bin .sub (.t 130) (.c (.int .i64 1)))⟩, ⟨some 11, none, [], (.move (.t 131))⟩] false)))))
 (.seq (.seq (.region [⟨some 132, none, [], (.move (.t 10))⟩, ⟨some 133, none, [], (.move (.t 11))⟩, ⟨some 134, none, [], (.bin .gtr (.t 132) (.t 133))⟩] false)
 (.cond (.t 134) (.exit 4) .skip))
 (.seq (.region [⟨some 135, none, [], (.move (.t 0))⟩, ⟨some 136, none, [], (.move (.t 10))⟩, ⟨some 137, none, [], (.move (.t 0))⟩, ⟨some 138, none, [], (.move (.t 11))⟩, ⟨some 139, none, [], (.move (.t 0))⟩, ⟨some 140, none, [], (.move (.t 11))⟩, ⟨some 141, none, [], (.idxSl 1 (.t 139) (.t 140))⟩, ⟨some 142, none, [], (.load false 1 (.t 141))⟩, ⟨some 143, none, [], (.move (.t 0))⟩, ⟨some 144, none, [], (.move (.t 10))⟩, ⟨some 145, none, [], (.idxSl 1 (.t 143) (.t 144))⟩, ⟨some 146, none, [], (.load false 1 (.t 145))⟩, ⟨some 147, none, [], (.idxSl 1 (.t 135) (.t 136))⟩, ⟨none, none, [], (.store 1 (.t 147) (.t 142))⟩, ⟨some 148, none, [], (.idxSl 1 (.t 137) (.t 138))⟩, ⟨none, none, [], (.store 1 (.t 148) (.t 146))⟩] true)
 (.seq (.region [⟨some 149, none, [], (.move (.t 10))⟩, ⟨some 150, none, [], (.bin .add (.t 149) (.c (.int .i64 1)))⟩, ⟨some 10, none, [], (.move (.t 150))⟩] false)
 (.region [⟨some 151, none, [], (.move (.t 11))⟩, ⟨some 152, none, [], (.bin .sub (.t 151) (.c (.int .i64 1)))⟩, ⟨some 11, none, [], (.move (.t 152))⟩] false)))))))))
 (.seq (.region [⟨some 153, none, [], (.move (.t 0))⟩, ⟨some 154, none, [], (.move (.t 11))⟩, ⟨some 155, none, [], (.move (.t 0))⟩, ⟨some 156, none, [], (.move (.t 1))⟩, ⟨some 157, none, [], (.move (.t 0))⟩, ⟨some 158, none, [], (.move (.t 1))⟩, ⟨some 159, none, [], (.idxSl 1 (.t 157) (.t 158))⟩, ⟨some 160, none, [], (.load false 1 (.t 159))⟩, ⟨some 161, none, [], (.move (.t 0))⟩, ⟨some 162, none, [], (.move (.t 11))⟩, ⟨some 163, none, [], (.idxSl 1 (.t 161) (.t 162))⟩, ⟨some 164, none, [], (.load false 1 (.t 163))⟩, ⟨some 165, none, [], (.idxSl 1 (.t 153) (.t 154))⟩, ⟨none, none, [], (.store 1 (.t 165) (.t 160))⟩, ⟨some 166, none, [], (.idxSl 1 (.t 155) (.t 156))⟩, ⟨none, none, [], (.store 1 (.t 166) (.t 164))⟩] true)
 (.seq (.region [⟨some 167, none, [], (.move (.t 11))⟩, ⟨some 8, none, [], (.move (.t 167))⟩, ⟨some 9, none, [], (.move (.c (.bool false)))⟩] false)
 .ret))))))))
abbrev pdqPq11 : Fr := .seq (.seq (.seq (.region [⟨some 63, none, [], (.move (.t 10))⟩, ⟨some 64, none, [], (.move (.t 11))⟩, ⟨some 65, none, [], (.bin .gtr (.t 63) (.t 64))⟩] false)
 (.cond (.t 65) (.seq (.region [⟨some 66, none, [], (.move (.t 0))⟩, ⟨some 67, none, [], (.move (.t 11))⟩, ⟨some 68, none, [], (.move (.t 0))⟩, ⟨some 69, none, [], (.move (.t 1))⟩, ⟨some 70, none, [], (.move (.t 0))⟩, ⟨some 71, none, [], (.move (.t 1))⟩, ⟨some 72, none, [], (.idxSl 1 (.t 70) (.t 71))⟩, ⟨some 73, none, [], (.load false 1 (.t 72))⟩, ⟨some 74, none, [], (.move (.t 0))⟩, ⟨some 75, none, [], (.move (.t 11))⟩, ⟨some 76, none, [], (.idxSl 1 (.t 74) (.t 75))⟩, ⟨some 77, none, [], (.load false 1 (.t 76))⟩, ⟨some 78, none, [], (.idxSl 1 (.t 66) (.t 67))⟩, ⟨none, none, [], (.store 1 (.t 78) (.t 73))⟩, ⟨some 79, none, [], (.idxSl 1 (.t 68) (.t 69))⟩, ⟨none, none, [], (.store 1 (.t 79) (.t 77))⟩] true)
 (.seq (.region [⟨some 80, none, [], (.move (.t 11))⟩, ⟨some 8, none, [], (.move (.t 80))⟩, ⟨some 9, none, [], (.move (.c (.bool true)))⟩] false)
 .ret)) .skip))
 (.seq (.region [⟨some 81, none, [], (.move (.t 0))⟩, ⟨some 82, none, [], (.move (.t 10))⟩, ⟨some 83, none, [], (.move (.t 0))⟩, ⟨some 84, none, [], (.move (.t 11))⟩, ⟨some 85, none, [], (.move (.t 0))⟩, ⟨some 86, none, [], (.move (.t 11))⟩, ⟨some 87, none, [], (.idxSl 1 (.t 85) (.t 86))⟩, ⟨some 88, none, [], (.load false 1 (.t 87))⟩, ⟨some 89, none, [], (.move (.t 0))⟩, ⟨some 90, none, [], (.move (.t 10))⟩, ⟨some 91, none, [], (.idxSl 1 (.t 89) (.t 90))⟩, ⟨some 92, none, [], (.load false 1 (.t 91))⟩, ⟨some 93, none, [], (.idxSl 1 (.t 81) (.t 82))⟩, ⟨none, none, [], (.store 1 (.t 93) (.t 88))⟩, ⟨some 94, none, [], (.idxSl 1 (.t 83) (.t 84))⟩, ⟨none, none, [], (.store 1 (.t 94) (.t 92))⟩] true)
 (.seq (.region [⟨some 95, none, [], (.move (.t 10))⟩, ⟨some 96, none, [], (.bin .add (.t 95) (.c (.int .i64 1)))⟩, ⟨some 10, none, [], (.move (.t 96))⟩] false)
 (.seq (.region [⟨some 97, none, [], (.move (.t 11))⟩, ⟨some 98, none, [], (.bin .sub (.t 97) (.c (.int .i64 1)))⟩, ⟨some 11, none, [], (.move (.t 98))⟩] false)
 (.seq (.block 4 (.loop (.block 5 (.seq (.block 6 (.loop (.seq (.seq (.region [⟨some 99, none, [], (.move (.t 10))⟩, ⟨some 100, none, [], (.move (.t 11))⟩, ⟨some 101, none, [], (.bin .leq (.t 99) (.t 100))⟩, ⟨some 102, none, [], (.move (.t 101))⟩, ⟨some 103, some (102, true), [], (.move (.t 0))⟩, ⟨some 104, some (102, true), [], (.move (.t 10))⟩, ⟨some 105, some (102, true), [], (.idxSl 1 (.t 103) (.t 104))⟩, ⟨some 106, some (102, true), [], (.load false 1 (.t 105))⟩, ⟨some 107, some (102, true), [], (.move (.t 0))⟩, ⟨some 108, some (102, true), [], (.move (.t 1))⟩, ⟨some 109, some (102, true), [], (.idxSl 1 (.t 107) (.t 108))⟩, ⟨some 110, some (102, true), [], (.load false 1 (.t 109))⟩, ⟨some 111, some (102, true), [], (.call 140 [(.t 106), (.t 110)])⟩, ⟨some 112, none, [], (.pick (.t 102) (.t 111) (.c (.bool false)))⟩] true)
 (.cond (.t 112) .skip (.exit 6)))
 (.block 7 (.region [⟨some 113, none, [], (.move (.t 10))⟩, ⟨some 114, none, [], (.bin .add (.t 113) (.c (.int .i64 1)))⟩, ⟨some 10, none, [], (.move (.t 114))⟩] false)))))
 (.seq (.block 8 (.loop (.seq (.seq (.region [⟨some 115, none, [], (.move (.t 10))⟩, ⟨some 116, none, [], (.move (.t 11))⟩, ⟨some 117, none, [], (.bin .leq (.t 115) (.t 116))⟩, ⟨some 118, none, [], (.move (.t 117))⟩, ⟨some 119, some (118, true), [], (.move (.t 0))⟩, ⟨some 120, some (118, true), [], (.move (.t 11))⟩, ⟨some 121, some (118, true), [], (.idxSl 1 (.t 119) (.t 120))⟩, ⟨some 122, some (118, true), [], (.load false 1 (.t 121))⟩, ⟨some 123, some (118, true), [], (.move (.t 0))⟩, ⟨some 124, some (118, true), [], (.move (.t 1))⟩, ⟨some 125, some (118, true), [], (.idxSl 1 (.t 123) (.t 124))⟩, ⟨some 126, some (118, true), [], (.load false 1 (.t 125))⟩, ⟨some 127, some (118, true), [], (.call 140 [(.t 122), (.t 126)])⟩, ⟨some 128, some (118, true), [], (.un .not (.t 127))⟩, ⟨some 129, none, [], (.pick (.t 118) (.t 128) (.c (.bool false)))⟩] true)
 (.cond (.t 129) .skip (.exit 8)))
 (.block 9 (.region [⟨some 130, none, [], (.move (.t 11))⟩, ⟨some 131, none, [], (.bin .sub (.t 130) (.c (.int .i64 1)))⟩, ⟨some 11, none, [], (.move (.t 131))⟩] false)))))
 (.seq (.seq (.region [⟨some 132, none, [], (.move (.t 10))⟩, ⟨some 133, none, [], (.move (.t 11))⟩, ⟨some 134, none, [], (.bin .gtr (.t 132) (.t 133))⟩] false)
 (.cond (.t 134) (.exit 4) .skip))
 (.seq (.region [⟨some 135, none, [], (.move (.t 0))⟩, ⟨some 136, none, [], (.move (.t 10))⟩, ⟨some 137, none, [], (.move (.t 0))⟩, ⟨some 138, none, [], (.move (.t 11))⟩, ⟨some 139, none, [], (.move (.t 0))⟩, ⟨some 140, none, [], (.move (.t 11))⟩, ⟨some 141, none, [], (.idxSl 1 (.t 139) (.t 140))⟩, ⟨some 142, none, [], (.load false 1 (.t 141))⟩, ⟨some 143, none, [], (.move (.t 0))⟩, ⟨some 144, none, [], (.move (.t 10))⟩, ⟨some 145, none, [], (.idxSl 1 (.t 143) (.t 144))⟩, ⟨some 146, none, [], (.load false 1 (.t 145))⟩, ⟨some 147, none, [], (.idxSl 1 (.t 135) (.t 136))⟩, ⟨none, none, [], (.store 1 (.t 147) (.t 142))⟩, ⟨some 148, none, [], (.idxSl 1 (.t 137) (.t 138))⟩, ⟨none, none, [], (.store 1 (.t 148) (.t 146))⟩] true)
 (.seq (.region [⟨some 149, none, [], (.move (.t 10))⟩, ⟨some 150, none, [], (.bin .add (.t 149) (.c (.int .i64 1)))⟩, ⟨some 10, none, [], (.move (.t 150))⟩] false)
 (.region [⟨some 151, none, [], (.move (.t 11))⟩, ⟨some 152, none, [], (.bin .sub (.t 151) (.c (.int .i64 1)))⟩, ⟨some 11, none, [], (.move (.t 152))⟩] false)))))))))
 (.seq (.region [⟨some 153, none, [], (.move (.t 0))⟩, ⟨some 154, none, [], (.move (.t 11))⟩, ⟨some 155, none, [], (.move (.t 0))⟩, ⟨some 156, none, [], (.move (.t 1))⟩, ⟨some 157, none, [], (.move (.t 0))⟩, ⟨some 158, none, [], (.move (.t 1))⟩, ⟨some 159, none, [], (.idxSl 1 (.t 157) (.t 158))⟩, ⟨some 160, none, [], (.load false 1 (.t 159))⟩, ⟨some 161, none, [], (.move (.t 0))⟩, ⟨some 162, none, [], (.move (.t 11))⟩, ⟨some 163, none, [], (.idxSl 1 (.t 161) (.t 162))⟩, ⟨some 164, none, [], (.load false 1 (.t 163))⟩, ⟨some 165, none, [], (.idxSl 1 (.t 153) (.t 154))⟩, ⟨none, none, [], (.store 1 (.t 165) (.t 160))⟩, ⟨some 166, none, [], (.idxSl 1 (.t 155) (.t 156))⟩, ⟨none, none, [], (.store 1 (.t 166) (.t 164))⟩] true)
 (.seq (.region [⟨some 167, none, [], (.move (.t 11))⟩, ⟨some 8, none, [], (.move (.t 167))⟩, ⟨some 9, none, [], (.move (.c (.bool false)))⟩] false)
 .ret)))))))
abbrev pdqPq12 : Fr := .seq (.seq (.block 8 (.loop (.seq (.seq (.region [⟨some 115, none, [], (.move (.t 10))⟩, ⟨some 116, none, [], (.move (.t 11))⟩, ⟨some 117, none, [], (.bin .leq (.t 115) (.t 116))⟩, ⟨some 118, none, [], (.move (.t 117))⟩, ⟨some 119, some (118, true), [], (.move (.t 0))⟩, ⟨some 120, some (118, true), [], (.move (.t 11))⟩, ⟨some 121, some (118, true), [], (.idxSl 1 (.t 119) (.t 120))⟩, ⟨some 122, some (118, true), [], (.load false 1 (.t 121))⟩, ⟨some 123, some (118, true), [], (.move (.t 0))⟩, ⟨some 124, some (118, true), [], (.move (.t 1))⟩, ⟨some 125, some (118, true), [], (.idxSl 1 (.t 123) (.t 124))⟩, ⟨some 126, some (118, true), [], (.load false 1 (.t 125))⟩, ⟨some 127, some (118, true), [], (.call 140 [(.t 122), (.t 126)])⟩, ⟨some 128, some (118, true), [], (.un .not (.t 127))⟩, ⟨some 129, none, [], (.pick (.t 118) (.t 128) (.c (.bool false)))⟩] true)
 (.cond (.t 129) .skip (.exit 8)))
 (.block 9 (.region [⟨some 130, none, [], (.move (.t 11))⟩, ⟨some 131, none, [], (.bin .sub (.t 130) (.c (.int .i64 1)))⟩, ⟨some 11, none, [], (.move (.t 131))⟩] false)))))
 (.seq (.seq (.region [⟨some 132, none, [], (.move (.t 10))⟩, ⟨some 133, none, [], (.move (.t 11))⟩, ⟨some 134, none, [], (.bin .gtr (.t 132) (.t 133))⟩] false)
 (.cond (.t 134) (.exit 4) .skip))
 (.seq (.region [⟨some 135, none, [], (.move (.t 0))⟩, ⟨some 136, none, [], (.move (.t 10))⟩, ⟨some 137, none, [], (.move (.t 0))⟩, ⟨some 138, none, [], (.move (.t 11))⟩, ⟨some 139, none, [], (.move (.t 0))⟩, ⟨some 140, none, [], (.move (.t 11))⟩, ⟨some 141, none, [], (.idxSl 1 (.t 139) (.t 140))⟩, ⟨some 142, none, [], (.load false 1 (.t 141))⟩, ⟨some 143, none, [], (.move (.t 0))⟩, ⟨some 144, none, [], (.move (.t 10))⟩, ⟨some 145, none, [], (.idxSl 1 (.t 143) (.t 144))⟩, ⟨some 146, none, [], (.load false 1 (.t 145))⟩, ⟨some 147, none, [], (.idxSl 1 (.t 135) (.t 136))⟩, ⟨none, none, [], (.store 1 (.t 147) (.t 142))⟩, ⟨some 148, none, [], (.idxSl 1 (.t 137) (.t 138))⟩, ⟨none, none, [], (.store 1 (.t 148) (.t 146))⟩] true)
 (.seq (.region [⟨some 149, none, [], (.move (.t 10))⟩, ⟨some 150, none, [], (.bin .add (.t 149) (.c (.int .i64 1)))⟩, ⟨some 10, none, [], (.move (.t 150))⟩] false)
 (.region [⟨some 151, none, [], (.move (.t 11))⟩, ⟨some 152, none, [], (.bin .sub (.t 151) (.c (.int .i64 1)))⟩, ⟨some 11, none, [], (.move (.t 152))⟩] false)))))
abbrev pdqPq13 : Fr := .loop (.block 5 (.seq (.block 6 (.loop (.seq (.seq (.region [⟨some 99, none, [], (.move (.t 10))⟩, ⟨some 100, none, [], (.move (.t 11))⟩, ⟨some 101, none, [], (.bin .leq (.t 99) (.t 100))⟩, ⟨some 102, none, [], (.move (.t 101))⟩, ⟨some 103, some (102, true), [], (.move (.t 0))⟩, ⟨some 104, some (102, true), [], (.move (.t 10))⟩, ⟨some 105, some (102, true), [], (.idxSl 1 (.t 103) (.t 104))⟩, ⟨some 106, some (102, true), [], (.load false 1 (.t 105))⟩, ⟨some 107, some (102, true), [], (.move (.t 0))⟩, ⟨some 108, some (102, true), [], (.move (.t 1))⟩, ⟨some 109, some (102, true), [], (.idxSl 1 (.t 107) (.t 108))⟩, ⟨some 110, some (102, true), [], (.load false 1 (.t 109))⟩, ⟨some 111, some (102, true), [], (.call 140 [(.t 106), (.t 110)])⟩, ⟨some 112, none, [], (.pick (.t 102) (.t 111) (.c (.bool false)))⟩] true)
 (.cond (.t 112) .skip (.exit 6)))
 (.block 7 (.region [⟨some 113, none, [], (.move (.t 10))⟩, ⟨some 114, none, [], (.bin .add (.t 113) (.c (.int .i64 1)))⟩, ⟨some 10, none, [], (.move (.t 114))⟩] false)))))
 (.seq (.block 8 (.loop (.seq (.seq (.region [⟨some 115, none, [], (.move (.t 10))⟩, ⟨some 116, none, [], (.move (.t 11))⟩, ⟨some 117, none, [], (.bin .leq (.t 115) (.t 116))⟩, ⟨some 118, none, [], (.move (.t 117))⟩, ⟨some 119, some (118, true), [], (.move (.t 0))⟩, ⟨some 120, some (118, true), [], (.move (.t 11))⟩, ⟨some 121, some (118, true), [], (.idxSl 1 (.t 119) (.t 120))⟩, ⟨some 122, some (118, true), [], (.load false 1 (.t 121))⟩, ⟨some 123, some (118, true), [], (.move (.t 0))⟩, ⟨some 124, some (118, true), [], (.move (.t 1))⟩, ⟨some 125, some (118, true), [], (.idxSl 1 (.t 123) (.t 124))⟩, ⟨some 126, some (118, true), [], (.load false 1 (.t 125))⟩, ⟨some 127, some (118, true), [], (.call 140 [(.t 122), (.t 126)])⟩, ⟨some 128, some (118, true), [], (.un .not (.t 127))⟩, ⟨some 129, none, [], (.pick (.t 118) (.t 128) (.c (.bool false)))⟩] true)
 (.cond (.t 129) .skip (.exit 8)))
 (.block 9 (.region [⟨some 130, none, [], (.move (.t 11))⟩, ⟨some 131, none, [], (.bin .sub (.t 130) (.c (.int .i64 1)))⟩, ⟨some 11, none, [], (.move (.t 131))⟩] false)))))
 (.seq (.seq (.region [⟨some 132, none, [], (.move (.t 10))⟩, ⟨some 133, none, [], (.move (.t 11))⟩, ⟨some 134, none, [], (.bin .gtr (.t 132) (.t 133))⟩] false)
 (.cond (.t 134) (.exit 4) .skip))
 (.seq (.region [⟨some 135, none, [], (.move (.t 0))⟩, ⟨some 136, none, [], (.move (.t 10))⟩, ⟨some 137, none, [], (.move (.t 0))⟩, ⟨some 138, none, [], (.move (.t 11))⟩, ⟨some 139, none, [], (.move (.t 0))⟩, ⟨some 140, none, [], (.move (.t 11))⟩, ⟨some 141, none, [], (.idxSl 1 (.t 139) (.t 140))⟩, ⟨some 142, none, [], (.load false 1 (.t 141))⟩, ⟨some 143, none, [], (.move (.t 0))⟩, ⟨some 144, none, [], (.move (.t 10))⟩, ⟨some 145, none, [], (.idxSl 1 (.t 143) (.t 144))⟩, ⟨some 146, none, [], (.load false 1 (.t 145))⟩, ⟨some 147, none, [], (.idxSl 1 (.t 135) (.t 136))⟩, ⟨none, none, [], (.store 1 (.t 147) (.t 142))⟩, ⟨some 148, none, [], (.idxSl 1 (.t 137) (.t 138))⟩, ⟨none, none, [], (.store 1 (.t 148) (.t 146))⟩] true)
 (.seq (.region [⟨some 149, none, [], (.move (.t 10))⟩, ⟨some 150, none, [], (.bin .add (.t 149) (.c (.int .i64 1)))⟩, ⟨some 10, none, [], (.move (.t 150))⟩] false)
 (.region [⟨some 151, none, [], (.move (.t 11))⟩, ⟨some 152, none, [], (.bin .sub (.t 151) (.c (.int .i64 1)))⟩, ⟨some 11, none, [], (.move (.t 152))⟩] false)))))))
abbrev pdqPq14 : Fr := .seq (.seq (.region [⟨some 153, none, [], (.move (.t 0))⟩, ⟨some 154, none, [], (.move (.t 11))⟩, ⟨some 155, none, [], (.move (.t 0))⟩, ⟨some 156, none, [], (.move (.t 1))⟩, ⟨some 157, none, [], (.move (.t 0))⟩, ⟨some 158, none, [], (.move (.t 1))⟩, ⟨some 159, none, [], (.idxSl 1 (.t 157) (.t 158))⟩, ⟨some 160, none, [], (.load false 1 (.t 159))⟩, ⟨some 161, none, [], (.move (.t 0))⟩, ⟨some 162, none, [], (.move (.t 11))⟩, ⟨some 163, none, [], (.idxSl 1 (.t 161) (.t 162))⟩, ⟨some 164, none, [], (.load false 1 (.t 163))⟩, ⟨some 165, none, [], (.idxSl 1 (.t 153) (.t 154))⟩, ⟨none, none, [], (.store 1 (.t 165) (.t 160))⟩, ⟨some 166, none, [], (.idxSl 1 (.t 155) (.t 156))⟩, ⟨none, none, [], (.store 1 (.t 166) (.t 164))⟩] true)
 (.seq (.region [⟨some 167, none, [], (.move (.t 11))⟩, ⟨some 8, none, [], (.move (.t 167))⟩, ⟨some 9, none, [], (.move (.c (.bool false)))⟩] false)
 .ret))
abbrev pdqPq15 : Fr := .seq (.seq (.seq (.region [⟨some 132, none, [], (.move (.t 10))⟩, ⟨some 133, none, [], (.move (.t 11))⟩, ⟨some 134, none, [], (.bin .gtr (.t 132) (.t 133))⟩] false)
 (.cond (.t 134) (.exit 4) .skip))
 (.seq (.region [⟨some 135, none, [], (.move (.t 0))⟩, ⟨some 136, none, [], (.move (.t 10))⟩, ⟨some 137, none, [], (.move (.t 0))⟩, ⟨some 138, none, [], (.move (.t 11))⟩, ⟨some 139, none, [], (.move (.t 0))⟩, ⟨some 140, none, [], (.move (.t 11))⟩, ⟨some 141, none, [], (.idxSl 1 (.t 139) (.t 140))⟩, ⟨some 142, none, [], (.load false 1 (.t 141))⟩, ⟨some 143, none, [], (.move (.t 0))⟩, ⟨some 144, none, [], (.move (.t 10))⟩, ⟨some 145, none, [], (.idxSl 1 (.t 143) (.t 144))⟩, ⟨some 146, none, [], (.load false 1 (.t 145))⟩, ⟨some 147, none, [], (.idxSl 1 (.t 135) (.t 136))⟩, ⟨none, none, [], (.store 1 (.t 147) (.t 142))⟩, ⟨some 148, none, [], (.idxSl 1 (.t 137) (.t 138))⟩, ⟨none, none, [], (.store 1 (.t 148) (.t 146))⟩] true)
 (.seq (.region [⟨some 149, none, [], (.move (.t 10))⟩, ⟨some 150, none, [], (.bin .add (.t 149) (.c (.int .i64 1)))⟩, ⟨some 10, none, [], (.move (.t 150))⟩] false)
 (.region [⟨some 151, none, [], (.move (.t 11))⟩, ⟨some 152, none, [], (.bin .sub (.t 151) (.c (.int .i64 1)))⟩, ⟨some 11, none, [], (.move (.t 152))⟩] false))))
-- slices.partitionEqualOrdered[uint32]
def ir141 : IFunc := ⟨84, [.tmp 8], (.seq (.region [⟨some 8, none, [], (.move (.c (.int .i64 0)))⟩] false)
 (.seq (.region [⟨some 11, none, [], (.move (.t 0))⟩, ⟨some 12, none, [], (.move (.t 1))⟩, ⟨some 13, none, [], (.move (.t 0))⟩, ⟨some 14, none, [], (.move (.t 3))⟩, ⟨some 15, none, [], (.move (.t 0))⟩, ⟨some 16, none, [], (.move (.t 3))⟩, ⟨some 17, none, [], (.idxSl 1 (.t 15) (.t 16))⟩, ⟨some 18, none, [], (.load false 1 (.t 17))⟩, ⟨some 19, none, [], (.move (.t 0))⟩, ⟨some 20, none, [], (.move (.t 1))⟩, ⟨some 21, none, [], (.idxSl 1 (.t 19) (.t 20))⟩, ⟨some 22, none, [], (.load false 1 (.t 21))⟩, ⟨some 23, none, [], (.idxSl 1 (.t 11) (.t 12))⟩, ⟨none, none, [], (.store 1 (.t 23) (.t 18))⟩, ⟨some 24, none, [], (.idxSl 1 (.t 13) (.t 14))⟩, ⟨none, none, [], (.store 1 (.t 24) (.t 22))⟩] true)
 (.seq (.region [⟨some 25, none, [], (.move (.t 1))⟩, ⟨some 26, none, [], (.bin .add (.t 25) (.c (.int .i64 1)))⟩, ⟨some 27, none, [], (.move (.t 2))⟩, ⟨some 28, none, [], (.bin .sub (.t 27) (.c (.int .i64 1)))⟩, ⟨some 9, none, [], (.move (.t 26))⟩, ⟨some 10, none, [], (.move (.t 28))⟩] false)
 (.seq (.block 0 (.loop (.block 1 (.seq (.block 2 (.loop (.seq (.seq (.region [⟨some 29, none, [], (.move (.t 9))⟩, ⟨some 30, none, [], (.move (.t 10))⟩, ⟨some 31, none, [], (.bin .leq (.t 29) (.t 30))⟩, ⟨some 32, none, [], (.move (.t 31))⟩, ⟨some 33, some (32, true), [], (.move (.t 0))⟩, ⟨some 34, some (32, true), [], (.move (.t 1))⟩, ⟨some 35, some (32, true), [], (.idxSl 1 (.t 33) (.t 34))⟩, ⟨some 36, some (32, true), [], (.load false 1 (.t 35))⟩, ⟨some 37, some (32, true), [], (.move (.t 0))⟩, ⟨some 38, some (32, true), [], (.move (.t 9))⟩, ⟨some 39, some (32, true), [], (.idxSl 1 (.t 37) (.t 38))⟩, ⟨some 40, some (32, true), [], (.load false 1 (.t 39))⟩, ⟨some 41, some (32, true), [], (.call 140 [(.t 36), (.t 40)])⟩, ⟨some 42, some (32, true), [], (.un .not (.t 41))⟩, ⟨some 43, none, [], (.pick (.t 32) (.t 42) (.c (.bool false)))⟩] true)
 (.cond (.t 43) .skip (.exit 2)))
 (.block 3 (.region [⟨some 44, none, [], (.move (.t 9))⟩, ⟨some 45, none, [], (.bin .add (.t 44) (.c (.int .i64 1)))⟩, ⟨some 9, none, [], (.move (.t 45))⟩] false)))))
 (.seq (.block 4 (.loop (.seq (.seq (.region [⟨some 46, none, [], (.move (.t 9))⟩, ⟨some 47, none, [], (.move (.t 10))⟩, ⟨some 48, none, [], (.bin .leq (.t 46) (.t 47))⟩, ⟨some 49, none, [], (.move (.t 48))⟩, ⟨some 50, some (49, true), [], (.move (.t 0))⟩, ⟨some 51, some (49, true), [], (.move (.t 1))⟩, ⟨some 52, some (49, true), [], (.idxSl 1 (.t 50) (.t 51))⟩, ⟨some 53, some (49, true), [], (.load false 1 (.t 52))⟩, ⟨some 54, some (49, true), [], (.move (.t 0))⟩, ⟨some 55, some (49, true), [], (.move (.t 10))⟩, ⟨some 56, some (49, true), [], (.idxSl 1 (.t 54) (.t 55))⟩, ⟨some 57, some (49, true), [], (.load false 1 (.t 56))⟩, ⟨some 58, some (49, true), [], (.call 140 [(.t 53), (.t 57)])⟩, ⟨some 59, none, [], (.pick (.t 49) (.t 58) (.c (.bool false)))⟩] true)
 (.cond (.t 59) .skip (.exit 4)))
 (.block 5 (.region [⟨some 60, none, [], (.move (.t 10))⟩, ⟨some 61, none, [], (.bin .sub (.t 60) (.c (.int .i64 1)))⟩, ⟨some 10, none, [], (.move (.t 61))⟩] false)))))
 (.seq (.seq (.region [⟨some 62, none, [], (.move (.t 9))⟩, ⟨some 63, none, [], (.move (.t 10))⟩, ⟨some 64, none, [], (.bin .gtr (.t 62) (.t 63))⟩] false)
 (.cond (.t 64) (.exit 0) .skip))
 (.seq (.region [⟨some 65, none, [], (.move (.t 0))⟩, ⟨some 66, none, [], (.move (.t 9))⟩, ⟨some 67, none, [], (.move (.t 0))⟩, ⟨some 68, none, [], (.move (.t 10))⟩, ⟨some 69, none, [], (.move (.t 0))⟩, ⟨some 70, none, [], (.move (.t 10))⟩, ⟨some 71, none, [], (.idxSl 1 (.t 69) (.t 70))⟩, ⟨some 72, none, [], (.load false 1 (.t 71))⟩, ⟨some 73, none, [], (.move (.t 0))⟩, ⟨some 74, none, [], (.move (.t 9))⟩, ⟨some 75, none, [], (.idxSl 1 (.t 73) (.t 74))⟩, ⟨some 76, none, [], (.load false 1 (.t 75))⟩, ⟨some 77, none, [], (.idxSl 1 (.t 65) (.t 66))⟩, ⟨none, none, [], (.store 1 (.t 77) (.t 72))⟩, ⟨some 78, none, [], (.idxSl 1 (.t 67) (.t 68))⟩, ⟨none, none, [], (.store 1 (.t 78) (.t 76))⟩] true)
 (.seq (.region [⟨some 79, none, [], (.move (.t 9))⟩, ⟨some 80, none, [], (.bin .add (.t 79) (.c (.int .i64 1)))⟩, ⟨some 9, none, [], (.move (.t 80))⟩] false)
 (.region [⟨some 81, none, [], (.move (.t 10))⟩, ⟨some 82, none, [], (.bin .sub (.t 81) (.c (.int .i64 1)))⟩, ⟨some 10, none, [], (.move (.t 82))⟩] false)))))))))
 (.seq (.region [⟨some 83, none, [], (.move (.t 9))⟩, ⟨some 8, none, [], (.move (.t 83))⟩] false)
 .ret)))))⟩
-- slices.partitionOrdered[uint32]
def ir142 : IFunc := ⟨168, [.tmp 8, .tmp 9], (.seq (.region [⟨some 8, none, [], (.move (.c (.int .i64 0)))⟩, ⟨some 9, none, [], (.move (.c (.bool false)))⟩] false)
 (.seq (.region [⟨some 12, none, [], (.move (.t 0))⟩, ⟨some 13, none, [], (.move (.t 1))⟩, ⟨some 14, none, [], (.move (.t 0))⟩, ⟨some 15, none, [], (.move (.t 3))⟩, ⟨some 16, none, [], (.move (.t 0))⟩, ⟨some 17, none, [], (.move (.t 3))⟩, ⟨some 18, none, [], (.idxSl 1 (.t 16) (.t 17))⟩, ⟨some 19, none, [], (.load false 1 (.t 18))⟩, ⟨some 20, none, [], (.move (.t 0))⟩, ⟨some 21, none, [], (.move (.t 1))⟩, ⟨some 22, none, [], (.idxSl 1 (.t 20) (.t 21))⟩, ⟨some 23, none, [], (.load false 1 (.t 22))⟩, ⟨some 24, none, [], (.idxSl 1 (.t 12) (.t 13))⟩, ⟨none, none, [], (.store 1 (.t 24) (.t 19))⟩, ⟨some 25, none, [], (.idxSl 1 (.t 14) (.t 15))⟩, ⟨none, none, [], (.store 1 (.t 25) (.t 23))⟩] true)
 (.seq (.region [⟨some 26, none, [], (.move (.t 1))⟩, ⟨some 27, none, [], (.bin .add (.t 26) (.c (.int .i64 1)))⟩, ⟨some 28, none, [], (.move (.t 2))⟩, ⟨some 29, none, [], (.bin .sub (.t 28) (.c (.int .i64 1)))⟩, ⟨some 10, none, [], (.move (.t 27))⟩, ⟨some 11, none, [], (.move (.t 29))⟩] false)
 (.seq (.block 0 (.loop (.seq (.seq (.region [⟨some 30, none, [], (.move (.t 10))⟩, ⟨some 31, none, [], (.move (.t 11))⟩, ⟨some 32, none, [], (.bin .leq (.t 30) (.t 31))⟩, ⟨some 33, none, [], (.move (.t 32))⟩, ⟨some 34, some (33, true), [], (.move (.t 0))⟩, ⟨some 35, some (33, true), [], (.move (.t 10))⟩, ⟨some 36, some (33, true), [], (.idxSl 1 (.t 34) (.t 35))⟩, ⟨some 37, some (33, true), [], (.load false 1 (.t 36))⟩, ⟨some 38, some (33, true), [], (.move (.t 0))⟩, ⟨some 39, some (33, true), [], (.move (.t 1))⟩, ⟨some 40, some (33, true), [], (.idxSl 1 (.t 38) (.t 39))⟩, ⟨some 41, some (33, true), [], (.load false 1 (.t 40))⟩, ⟨some 42, some (33, true), [], (.call 140 [(.t 37), (.t 41)])⟩, ⟨some 43, none, [], (.pick (.t 33) (.t 42) (.c (.bool false)))⟩] true)
 (.cond (.t 43) .skip (.exit 0)))
 (.block 1 (.region [⟨some 44, none, [], (.move (.t 10))⟩, ⟨some 45, none, [], (.bin .add (.t 44) (.c (.int .i64 1)))⟩, ⟨some 10, none, [], (.move (.t 45))⟩] false)))))
 (.seq (.block 2 (.loop (.seq (.seq (.region [⟨some 46, none, [], (.move (.t 10))⟩, ⟨some 47, none, [], (.move (.t 11))⟩, ⟨some 48, none, [], (.bin .leq (.t 46) (.t 47))⟩, ⟨some 49, none, [], (.move (.t 48))⟩, ⟨some 50, some (49, true), [], (.move (.t 0))⟩, ⟨some 51, some (49, true), [], (.move (.t 11))⟩, ⟨some 52, some (49, true), [], (.idxSl 1 (.t 50) (.t 51))⟩, ⟨some 53, some (49, true), [], (.load false 1 (.t 52))⟩, ⟨some 54, some (49, true), [], (.move (.t 0))⟩, ⟨some 55, some (49, true), [], (.move (.t 1))⟩, ⟨some 56, some (49, true), [], (.idxSl 1 (.t 54) (.t 55))⟩, ⟨some 57, some (49, true), [], (.load false 1 (.t 56))⟩, ⟨some 58, some (49, true), [], (.call 140 [(.t 53), (.t 57)])⟩, ⟨some 59, some (49, true), [], (.un .not (.t 58))⟩, ⟨some 60, none, [], (.pick (.t 49) (.t 59) (.c (.bool false)))⟩] true)
 (.cond (.t 60) .skip (.exit 2)))
 (.block 3 (.region [⟨some 61, none, [], (.move (.t 11))⟩, ⟨some 62, none, [], (.bin .sub (.t 61) (.c (.int .i64 1)))⟩, ⟨some 11, none, [], (.move (.t 62))⟩] false)))))
 (.seq (.seq (.region [⟨some 63, none, [], (.move (.t 10))⟩, ⟨some 64, none, [], (.move (.t 11))⟩, ⟨some 65, none, [], (.bin .gtr (.t 63) (.t 64))⟩] false)
 (.cond (.t 65) (.seq (.region [⟨some 66, none, [], (.move (.t 0))⟩, ⟨some 67, none, [], (.move (.t 11))⟩, ⟨some 68, none, [], (.move (.t 0))⟩, ⟨some 69, none, [], (.move (.t 1))⟩, ⟨some 70, none, [], (.move (.t 0))⟩, ⟨some 71, none, [], (.move (.t 1))⟩, ⟨some 72, none, [], (.idxSl 1 (.t 70) (.t 71))⟩, ⟨some 73, none, [], (.load false 1 (.t 72))⟩, ⟨some 74, none, [], (.move (.t 0))⟩, ⟨some 75, none, [], (.move (.t 11))⟩, ⟨some 76, none, [], (.idxSl 1 (.t 74) (.t 75))⟩, ⟨some 77, none, [], (.load false 1 (.t 76))⟩, ⟨some 78, none, [], (.idxSl 1 (.t 66) (.t 67))⟩, ⟨none, none, [], (.store 1 (.t 78) (.t 73))⟩, ⟨some 79, none, [], (.idxSl 1 (.t 68) (.t 69))⟩, ⟨none, none, [], (.store 1 (.t 79) (.t 77))⟩] true)
 (.seq (.region [⟨some 80, none, [], (.move (.t 11))⟩, ⟨some 8, none, [], (.move (.t 80))⟩, ⟨some 9, none, [], (.move (.c (.bool true)))⟩] false)
 .ret)) .skip))
 (.seq (.region [⟨some 81, none, [], (.move (.t 0))⟩, ⟨some 82, none, [], (.move (.t 10))⟩, ⟨some 83, none, [], (.move (.t 0))⟩, ⟨some 84, none, [], (.move (.t 11))⟩, ⟨some 85, none, [], (.move (.t 0))⟩, ⟨some 86, none, [], (.move (.t 11))⟩, ⟨some 87, none, [], (.idxSl 1 (.t 85) (.t 86))⟩, ⟨some 88, none, [], (.load false 1 (.t 87))⟩, ⟨some 89, none, [], (.move (.t 0))⟩, ⟨some 90, none, [], (.move (.t 10))⟩, ⟨some 91, none, [], (.idxSl 1 (.t 89) (.t 90))⟩, ⟨some 92, none, [], (.load false 1 (.t 91))⟩, ⟨some 93, none, [], (.idxSl 1 (.t 81) (.t 82))⟩, ⟨none, none, [], (.store 1 (.t 93) (.t 88))⟩, ⟨some 94, none, [], (.idxSl 1 (.t 83) (.t 84))⟩, ⟨none, none, [], (.store 1 (.t 94) (.t 92))⟩] true)
 (.seq (.region [⟨some 95, none, [], (.move (.t 10))⟩, ⟨some 96, none, [], (.bin .add (.t 95) (.c (.int .i64 1)))⟩, ⟨some 10, none, [], (.move (.t 96))⟩] false)
 (.seq (.region [⟨some 97, none, [], (.move (.t 11))⟩, ⟨some 98, none, [], (.bin .sub (.t 97) (.c (.int .i64 1)))⟩, ⟨some 11, none, [], (.move (.t 98))⟩] false)
 (.seq (.block 4 (.loop (.block 5 (.seq (.block 6 (.loop (.seq (.seq (.region [⟨some 99, none, [], (.move (.t 10))⟩, ⟨some 100, none, [], (.move (.t 11))⟩, ⟨some 101, none, [], (.bin .leq (.t 99) (.t 100))⟩, ⟨some 102, none, [], (.move (.t 101))⟩, ⟨some 103, some (102, true), [], (.move (.t 0))⟩, ⟨some 104, some (102, true), [], (.move (.t 10))⟩, ⟨some 105, some (102, true), [], (.idxSl 1 (.t 103) (.t 104))⟩, ⟨some 106, some (102, true), [], (.load false 1 (.t 105))⟩, ⟨some 107, some (102, true), [], (.move (.t 0))⟩, ⟨some 108, some (102, true), [], (.move (.t 1))⟩, ⟨some 109, some (102, true), [], (.idxSl 1 (.t 107) (.t 108))⟩, ⟨some 110, some (102, true), [], (.load false 1 (.t 109))⟩, ⟨some 111, some (102, true), [], (.call 140 [(.t 106), (.t 110)])⟩, ⟨some 112, none, [], (.pick (.t 102) (.t 111) (.c (.bool false)))⟩] true)
 (.cond (.t 112) .skip (.exit 6)))
 (.block 7 (.region [⟨some 113, none, [], (.move (.t 10))⟩, ⟨some 114, none, [], (.bin .add (.t 113) (.c (.int .i64 1)))⟩, ⟨some 10, none, [], (.move (.t 114))⟩] false)))))
 (.seq (.block 8 (.loop (.seq (.seq (.region [⟨some 115, none, [], (.move (.t 10))⟩, ⟨some 116, none, [], (.move (.t 11))⟩, ⟨some 117, none, [], (.bin .leq (.t 115) (.t 116))⟩, ⟨some 118, none, [], (.move (.t 117))⟩, ⟨some 119, some (118, true), [], (.move (.t 0))⟩, ⟨some 120, some (118, true), [], (.move (.t 11))⟩, ⟨some 121, some (118, true), [], (.idxSl 1 (.t 119) (.t 120))⟩, ⟨some 122, some (118, true), [], (.load false 1 (.t 121))⟩, ⟨some 123, some (118, true), [], (.move (.t 0))⟩, ⟨some 124, some (118, true), [], (.move (.t 1))⟩, ⟨some 125, some (118, true), [], (.idxSl 1 (.t 123) (.t 124))⟩, ⟨some 126, some (118, true), [], (.load false 1 (.t 125))⟩, ⟨some 127, some (118, true), [], (.call 140 [(.t 122), (.t 126)])⟩, ⟨some 128, some (118, true), [], (.un .not (.t 127))⟩, ⟨some 129, none, [], (.pick (.t 118) (.t 128) (.c (.bool false)))⟩] true)
 (.cond (.t 129) .skip (.exit 8)))
 (.block 9 (.region [⟨some 130, none, [], (.move (.t 11))⟩, ⟨some 131, none, [], (.bin .sub (.t 130) (.c (.int .i64 1)))⟩, ⟨some 11, none, [], (.move (.t 131))⟩] false)))))
 (.seq (.seq (.region [⟨some 132, none, [], (.move (.t 10))⟩, ⟨some 133, none, [], (.move (.t 11))⟩, ⟨some 134, none, [], (.bin .gtr (.t 132) (.t 133))⟩] false)
 (.cond (.t 134) (.exit 4) .skip))
 (.seq (.region [⟨some 135, none, [], (.move (.t 0))⟩, ⟨some 136, none, [], (.move (.t 10))⟩, ⟨some 137, none, [], (.move (.t 0))⟩, ⟨some 138, none, [], (.move (.t 11))⟩, ⟨some 139, none, [], (.move (.t 0))⟩, ⟨some 140, none, [], (.move (.t 11))⟩, ⟨some 141, none, [], (.idxSl 1 (.t 139) (.t 140))⟩, ⟨some 142, none, [], (.load false 1 (.t 141))⟩, ⟨some 143, none, [], (.move (.t 0))⟩, ⟨some 144, none, [], (.move (.t 10))⟩, ⟨some 145, none, [], (.idxSl 1 (.t 143) (.t 144))⟩, ⟨some 146, none, [], (.load false 1 (.t 145))⟩, ⟨some 147, none, [], (.idxSl 1 (.t 135) (.t 136))⟩, ⟨none, none, [], (.store 1 (.t 147) (.t 142))⟩, ⟨some 148, none, [], (.idxSl 1 (.t 137) (.t 138))⟩, ⟨none, none, [], (.store 1 (.t 148) (.t 146))⟩] true)
 (.seq (.region [⟨some 149, none, [], (.move (.t 10))⟩, ⟨some 150, none, [], (.bin .add (.t 149) (.c (.int .i64 1)))⟩, ⟨some 10, none, [], (.move (.t 150))⟩] false)
 (.region [⟨some 151, none, [], (.move (.t 11))⟩, ⟨some 152, none, [], (.bin .sub (.t 151) (.c (.int .i64 1)))⟩, ⟨some 11, none, [], (.move (.t 152))⟩] false)))))))))
 (.seq (.region [⟨some 153, none, [], (.move (.t 0))⟩, ⟨some 154, none, [], (.move (.t 11))⟩, ⟨some 155, none, [], (.move (.t 0))⟩, ⟨some 156, none, [], (.move (.t 1))⟩, ⟨some 157, none, [], (.move (.t 0))⟩, ⟨some 158, none, [], (.move (.t 1))⟩, ⟨some 159, none, [], (.idxSl 1 (.t 157) (.t 158))⟩, ⟨some 160, none, [], (.load false 1 (.t 159))⟩, ⟨some 161, none, [], (.move (.t 0))⟩, ⟨some 162, none, [], (.move (.t 11))⟩, ⟨some 163, none, [], (.idxSl 1 (.t 161) (.t 162))⟩, ⟨some 164, none, [], (.load false 1 (.t 163))⟩, ⟨some 165, none, [], (.idxSl 1 (.t 153) (.t 154))⟩, ⟨none, none, [], (.store 1 (.t 165) (.t 160))⟩, ⟨some 166, none, [], (.idxSl 1 (.t 155) (.t 156))⟩, ⟨none, none, [], (.store 1 (.t 166) (.t 164))⟩] true)
 (.seq (.region [⟨some 167, none, [], (.move (.t 11))⟩, ⟨some 8, none, [], (.move (.t 167))⟩, ⟨some 9, none, [], (.move (.c (.bool false)))⟩] false)
 .ret))))))))))))⟩
section
variable {α : Type} {en : α → AV} {lt : α → α → Bool} {T : Tab}

set_option maxHeartbeats 8000000 in
theorem pe_up (hL : LessOk T 140 en lt) {Q : Post} {s0 s : St} {B inc n cap : Nat} {ex : Bool} (hn : n ≤ 1000000000) (a : Nat) (g : Nat → α) (hA : Aft en s0 B inc n g s) (e0 : Env) (i0 j : Nat) (hj : j < n) (han : a < n)
    (K : ∀ (e : Env) (m : Nat), i0 ≤ m → m ≤ j + 1 → (∀ x, i0 ≤ x → x < m → lt (g a) (g x) = false) → (m ≤ j → (lt (g a) (g m) = true)) → opd e (.t 0) = dsl B inc n cap ex → opd e (.t 1) = .int .i64 (a : Int) → opd e (.t 2) = opd e0 (.t 2) → opd e (.t 9) = .int .i64 (m : Int) → opd e (.t 10) = .int .i64 (j : Int) → Ret T Q [pdqPq6, .block 1, pdqPq7, .block 0, pdqPq8] .normal e s) :
    ∀ (k i : Nat) (e : Env), k + i = j + 1 → i0 ≤ i → (∀ x, i0 ≤ x → x < i → lt (g a) (g x) = false) → opd e (.t 0) = dsl B inc n cap ex → opd e (.t 1) = .int .i64 (a : Int) → opd e (.t 2) = opd e0 (.t 2) → opd e (.t 9) = .int .i64 (i : Int) → opd e (.t 10) = .int .i64 (j : Int) →
      Go T Q (pdqPl0) [.block 2, pdqPq6, .block 1, pdqPq7, .block 0, pdqPq8] e s := by
  have kl := hL.call
  obtain ⟨lo', hlo, hrow⟩ := hA.row
  have ha1 : a + 1 ≤ n := han
  have ma := mp_take (en := en) (f := g) han
  intro k
  induction k with
  | zero =>
    intro i e hk hb hS h0 h1 h2 hi hjj
    have hc : ¬ ((i : Int) ≤ (j : Int)) := by omega
    have hK := fun e => K e i (by omega) (by omega) hS (fun hm => by omega)
    rw [go_loop]
    generalize ([pdqPq6, .block 1, pdqPq7, .block 0, pdqPq8] : List Fr) = FF at *
    simp only [h0, h1, hi, hjj, hc, wk, wk1, wk2, Option.some.injEq, exists_eq_left', decide_true, decide_false, Nat.reduceAdd, Nat.reduceEqDiff, Nat.reduceLeDiff, Nat.reduceLT, Nat.reduceMul, Nat.reduceBEq, Int.reduceLT, Int.reduceLE, Int.reduceEq, Int.reduceAdd, Int.reduceSub, Int.reduceMul, Int.reduceMod, Int.reduceTMod, Int.reduceTDiv, Int.reduceNeg, Nat.reduceSub, Nat.reduceDiv, reduceIte, reduceCtorEq]
    refine hK _ ?_ ?_ ?_ ?_ ?_ <;> simp only [h0, h1, h2, hi, hjj, wk, wk1, Nat.reduceEqDiff, reduceIte, decide_true]
  | succ k ih =>
    intro i e hk hb hS h0 h1 h2 hi hjj
    have hc : ((i : Int) ≤ (j : Int)) := by omega
    have hxn : i < n := by omega
    have hx1 : i + 1 ≤ n := hxn
    have mx := mp_take (en := en) (f := g) hxn
    have uw : wrapF .i64 ((i : Int) + 1) = ((i + 1 : Nat) : Int) := i64_add1 (by omega)
    rw [go_loop]
    cases hl : lt (g a) (g i) with
    | true =>
      have hK := fun e => K e i (by omega) (by omega) hS (fun hm => hl)
      generalize ([pdqPq6, .block 1, pdqPq7, .block 0, pdqPq8] : List Fr) = FF at *
      simp only [h0, h1, hi, hjj, hc, han, ha1, hxn, hx1, hrow, hlo, ma, mx, kl, hl, wk, wk1, wk2, Option.some.injEq, exists_eq_left', decide_true, decide_false, Nat.reduceAdd, Nat.reduceEqDiff, Nat.reduceLeDiff, Nat.reduceLT, Nat.reduceMul, Nat.reduceBEq, Int.reduceLT, Int.reduceLE, Int.reduceEq, Int.reduceAdd, Int.reduceSub, Int.reduceMul, Int.reduceMod, Int.reduceTMod, Int.reduceTDiv, Int.reduceNeg, Nat.reduceSub, Nat.reduceDiv, reduceIte, reduceCtorEq]
      refine hK _ ?_ ?_ ?_ ?_ ?_ <;> simp only [h0, h1, h2, hi, hjj, wk, wk1, Nat.reduceEqDiff, reduceIte, decide_true]
    | false =>
      simp only [h0, h1, hi, hjj, hc, han, ha1, hxn, hx1, hrow, hlo, ma, mx, kl, hl, uw, wk, wk1, wk2, Option.some.injEq, exists_eq_left', decide_true, decide_false, Nat.reduceAdd, Nat.reduceEqDiff, Nat.reduceLeDiff, Nat.reduceLT, Nat.reduceMul, Nat.reduceBEq, Int.reduceLT, Int.reduceLE, Int.reduceEq, Int.reduceAdd, Int.reduceSub, Int.reduceMul, Int.reduceMod, Int.reduceTMod, Int.reduceTDiv, Int.reduceNeg, Nat.reduceSub, Nat.reduceDiv, reduceIte, reduceCtorEq]
      refine ih (i + 1) _ (by omega) (by omega) (fun x x1 x2 => ?_) ?_ ?_ ?_ ?_ ?_
      · by_cases e1 : x = i
        · subst e1; exact hl
        · exact hS x (by omega) (by omega)
      all_goals simp only [h0, h1, h2, hi, hjj, uw, wk, wk1, Nat.reduceEqDiff, reduceIte, decide_true]

set_option maxHeartbeats 8000000 in
theorem pe_dn (hL : LessOk T 140 en lt) {Q : Post} {s0 s : St} {B inc n cap : Nat} {ex : Bool} (hn : n ≤ 1000000000) (a : Nat) (g : Nat → α) (hA : Aft en s0 B inc n g s) (e0 : Env) (i j0 : Nat) (hj0 : j0 < n) (hai : a < i) (han : a < n)
    (K : ∀ (e : Env) (m : Nat), m ≤ j0 → i ≤ m + 1 → (∀ x, m < x → x ≤ j0 → lt (g a) (g x) = true) → (i ≤ m → (lt (g a) (g m) = false)) → opd e (.t 0) = dsl B inc n cap ex → opd e (.t 1) = .int .i64 (a : Int) → opd e (.t 2) = opd e0 (.t 2) → opd e (.t 9) = .int .i64 (i : Int) → opd e (.t 10) = .int .i64 (m : Int) → Ret T Q [pdqPq9, .block 1, pdqPq7, .block 0, pdqPq8] .normal e s) :
    ∀ (k j : Nat) (e : Env), k + i = j + 1 → j ≤ j0 → (∀ x, j < x → x ≤ j0 → lt (g a) (g x) = true) → opd e (.t 0) = dsl B inc n cap ex → opd e (.t 1) = .int .i64 (a : Int) → opd e (.t 2) = opd e0 (.t 2) → opd e (.t 9) = .int .i64 (i : Int) → opd e (.t 10) = .int .i64 (j : Int) →
      Go T Q (pdqPl1) [.block 4, pdqPq9, .block 1, pdqPq7, .block 0, pdqPq8] e s := by
  have kl := hL.call
  obtain ⟨lo', hlo, hrow⟩ := hA.row
  have ha1 : a + 1 ≤ n := han
  have ma := mp_take (en := en) (f := g) han
  intro k
  induction k with
  | zero =>
    intro j e hk hb hS h0 h1 h2 hi hjj
    have hc : ¬ ((i : Int) ≤ (j : Int)) := by omega
    have hK := fun e => K e j (by omega) (by omega) hS (fun hm => by omega)
    rw [go_loop]
    generalize ([pdqPq9, .block 1, pdqPq7, .block 0, pdqPq8] : List Fr) = FF at *
    simp only [h0, h1, hi, hjj, hc, wk, wk1, wk2, Option.some.injEq, exists_eq_left', decide_true, decide_false, Nat.reduceAdd, Nat.reduceEqDiff, Nat.reduceLeDiff, Nat.reduceLT, Nat.reduceMul, Nat.reduceBEq, Int.reduceLT, Int.reduceLE, Int.reduceEq, Int.reduceAdd, Int.reduceSub, Int.reduceMul, Int.reduceMod, Int.reduceTMod, Int.reduceTDiv, Int.reduceNeg, Nat.reduceSub, Nat.reduceDiv, reduceIte, reduceCtorEq]
    refine hK _ ?_ ?_ ?_ ?_ ?_ <;> simp only [h0, h1, h2, hi, hjj, wk, wk1, Nat.reduceEqDiff, reduceIte, decide_true]
  | succ k ih =>
    intro j e hk hb hS h0 h1 h2 hi hjj
    have hc : ((i : Int) ≤ (j : Int)) := by omega
    have hxn : j < n := by omega
    have hx1 : j + 1 ≤ n := hxn
    have mx := mp_take (en := en) (f := g) hxn
    have uw : wrapF .i64 ((j : Int) - 1) = ((j - 1 : Nat) : Int) := i64_sub1 (by omega) (by omega)
    rw [go_loop]
    cases hl : lt (g a) (g j) with
    | false =>
      have hK := fun e => K e j (by omega) (by omega) hS (fun hm => hl)
      generalize ([pdqPq9, .block 1, pdqPq7, .block 0, pdqPq8] : List Fr) = FF at *
      simp only [h0, h1, hi, hjj, hc, han, ha1, hxn, hx1, hrow, hlo, ma, mx, kl, hl, wk, wk1, wk2, Option.some.injEq, exists_eq_left', decide_true, decide_false, Nat.reduceAdd, Nat.reduceEqDiff, Nat.reduceLeDiff, Nat.reduceLT, Nat.reduceMul, Nat.reduceBEq, Int.reduceLT, Int.reduceLE, Int.reduceEq, Int.reduceAdd, Int.reduceSub, Int.reduceMul, Int.reduceMod, Int.reduceTMod, Int.reduceTDiv, Int.reduceNeg, Nat.reduceSub, Nat.reduceDiv, reduceIte, reduceCtorEq]
      refine hK _ ?_ ?_ ?_ ?_ ?_ <;> simp only [h0, h1, h2, hi, hjj, wk, wk1, Nat.reduceEqDiff, reduceIte, decide_true]
    | true =>
      simp only [h0, h1, hi, hjj, hc, han, ha1, hxn, hx1, hrow, hlo, ma, mx, kl, hl, uw, wk, wk1, wk2, Option.some.injEq, exists_eq_left', decide_true, decide_false, Nat.reduceAdd, Nat.reduceEqDiff, Nat.reduceLeDiff, Nat.reduceLT, Nat.reduceMul, Nat.reduceBEq, Int.reduceLT, Int.reduceLE, Int.reduceEq, Int.reduceAdd, Int.reduceSub, Int.reduceMul, Int.reduceMod, Int.reduceTMod, Int.reduceTDiv, Int.reduceNeg, Nat.reduceSub, Nat.reduceDiv, reduceIte, reduceCtorEq]
      refine ih (j - 1) _ (by omega) (by omega) (fun x x1 x2 => ?_) ?_ ?_ ?_ ?_ ?_
      · by_cases e1 : x = j
        · subst e1; exact hl
        · exact hS x (by omega) (by omega)
      all_goals simp only [h0, h1, h2, hi, hjj, uw, wk, wk1, Nat.reduceEqDiff, reduceIte, decide_true]

set_option maxHeartbeats 8000000 in
theorem po_up (hL : LessOk T 140 en lt) {Q : Post} {s0 s : St} {B inc n cap : Nat} {ex : Bool} (hn : n ≤ 1000000000) (a : Nat) (g : Nat → α) (hA : Aft en s0 B inc n g s) (e0 : Env) (i0 j : Nat) (hj : j < n) (han : a < n)
    (K : ∀ (e : Env) (m : Nat), i0 ≤ m → m ≤ j + 1 → (∀ x, i0 ≤ x → x < m → lt (g x) (g a) = true) → (m ≤ j → (lt (g m) (g a) = false)) → opd e (.t 0) = dsl B inc n cap ex → opd e (.t 1) = .int .i64 (a : Int) → opd e (.t 2) = opd e0 (.t 2) → opd e (.t 10) = .int .i64 (m : Int) → opd e (.t 11) = .int .i64 (j : Int) → Ret T Q [pdqPq10] .normal e s) :
    ∀ (k i : Nat) (e : Env), k + i = j + 1 → i0 ≤ i → (∀ x, i0 ≤ x → x < i → lt (g x) (g a) = true) → opd e (.t 0) = dsl B inc n cap ex → opd e (.t 1) = .int .i64 (a : Int) → opd e (.t 2) = opd e0 (.t 2) → opd e (.t 10) = .int .i64 (i : Int) → opd e (.t 11) = .int .i64 (j : Int) →
      Go T Q (pdqPl2) [.block 0, pdqPq10] e s := by
  have kl := hL.call
  obtain ⟨lo', hlo, hrow⟩ := hA.row
  have ha1 : a + 1 ≤ n := han
  have ma := mp_take (en := en) (f := g) han
  intro k
  induction k with
  | zero =>
    intro i e hk hb hS h0 h1 h2 hi hjj
    have hc : ¬ ((i : Int) ≤ (j : Int)) := by omega
    have hK := fun e => K e i (by omega) (by omega) hS (fun hm => by omega)
    rw [go_loop]
    generalize ([pdqPq10] : List Fr) = FF at *
    simp only [h0, h1, hi, hjj, hc, wk, wk1, wk2, Option.some.injEq, exists_eq_left', decide_true, decide_false, Nat.reduceAdd, Nat.reduceEqDiff, Nat.reduceLeDiff, Nat.reduceLT, Nat.reduceMul, Nat.reduceBEq, Int.reduceLT, Int.reduceLE, Int.reduceEq, Int.reduceAdd, Int.reduceSub, Int.reduceMul, Int.reduceMod, Int.reduceTMod, Int.reduceTDiv, Int.reduceNeg, Nat.reduceSub, Nat.reduceDiv, reduceIte, reduceCtorEq]
    refine hK _ ?_ ?_ ?_ ?_ ?_ <;> simp only [h0, h1, h2, hi, hjj, wk, wk1, Nat.reduceEqDiff, reduceIte, decide_true]
  | succ k ih =>
    intro i e hk hb hS h0 h1 h2 hi hjj
    have hc : ((i : Int) ≤ (j : Int)) := by omega
    have hxn : i < n := by omega
    have hx1 : i + 1 ≤ n := hxn
    have mx := mp_take (en := en) (f := g) hxn
    have uw : wrapF .i64 ((i : Int) + 1) = ((i + 1 : Nat) : Int) := i64_add1 (by omega)
    rw [go_loop]
    cases hl : lt (g i) (g a) with
    | false =>
      have hK := fun e => K e i (by omega) (by omega) hS (fun hm => hl)
      generalize ([pdqPq10] : List Fr) = FF at *
      simp only [h0, h1, hi, hjj, hc, han, ha1, hxn, hx1, hrow, hlo, ma, mx, kl, hl, wk, wk1, wk2, Option.some.injEq, exists_eq_left', decide_true, decide_false, Nat.reduceAdd, Nat.reduceEqDiff, Nat.reduceLeDiff, Nat.reduceLT, Nat.reduceMul, Nat.reduceBEq, Int.reduceLT, Int.reduceLE, Int.reduceEq, Int.reduceAdd, Int.reduceSub, Int.reduceMul, Int.reduceMod, Int.reduceTMod, Int.reduceTDiv, Int.reduceNeg, Nat.reduceSub, Nat.reduceDiv, reduceIte, reduceCtorEq]
      refine hK _ ?_ ?_ ?_ ?_ ?_ <;> simp only [h0, h1, h2, hi, hjj, wk, wk1, Nat.reduceEqDiff, reduceIte, decide_true]
    | true =>
      simp only [h0, h1, hi, hjj, hc, han, ha1, hxn, hx1, hrow, hlo, ma, mx, kl, hl, uw, wk, wk1, wk2, Option.some.injEq, exists_eq_left', decide_true, decide_false, Nat.reduceAdd, Nat.reduceEqDiff, Nat.reduceLeDiff, Nat.reduceLT, Nat.reduceMul, Nat.reduceBEq, Int.reduceLT, Int.reduceLE, Int.reduceEq, Int.reduceAdd, Int.reduceSub, Int.reduceMul, Int.reduceMod, Int.reduceTMod, Int.reduceTDiv, Int.reduceNeg, Nat.reduceSub, Nat.reduceDiv, reduceIte, reduceCtorEq]
      refine ih (i + 1) _ (by omega) (by omega) (fun x x1 x2 => ?_) ?_ ?_ ?_ ?_ ?_
      · by_cases e1 : x = i
        · subst e1; exact hl
        · exact hS x (by omega) (by omega)
      all_goals simp only [h0, h1, h2, hi, hjj, uw, wk, wk1, Nat.reduceEqDiff, reduceIte, decide_true]

set_option maxHeartbeats 8000000 in
theorem po_dn (hL : LessOk T 140 en lt) {Q : Post} {s0 s : St} {B inc n cap : Nat} {ex : Bool} (hn : n ≤ 1000000000) (a : Nat) (g : Nat → α) (hA : Aft en s0 B inc n g s) (e0 : Env) (i j0 : Nat) (hj0 : j0 < n) (hai : a < i) (han : a < n)
    (K : ∀ (e : Env) (m : Nat), m ≤ j0 → i ≤ m + 1 → (∀ x, m < x → x ≤ j0 → lt (g x) (g a) = false) → (i ≤ m → (lt (g m) (g a) = true)) → opd e (.t 0) = dsl B inc n cap ex → opd e (.t 1) = .int .i64 (a : Int) → opd e (.t 2) = opd e0 (.t 2) → opd e (.t 10) = .int .i64 (i : Int) → opd e (.t 11) = .int .i64 (m : Int) → Ret T Q [pdqPq11] .normal e s) :
    ∀ (k j : Nat) (e : Env), k + i = j + 1 → j ≤ j0 → (∀ x, j < x → x ≤ j0 → lt (g x) (g a) = false) → opd e (.t 0) = dsl B inc n cap ex → opd e (.t 1) = .int .i64 (a : Int) → opd e (.t 2) = opd e0 (.t 2) → opd e (.t 10) = .int .i64 (i : Int) → opd e (.t 11) = .int .i64 (j : Int) →
      Go T Q (pdqPl3) [.block 2, pdqPq11] e s := by
  have kl := hL.call
  obtain ⟨lo', hlo, hrow⟩ := hA.row
  have ha1 : a + 1 ≤ n := han
  have ma := mp_take (en := en) (f := g) han
  intro k
  induction k with
  | zero =>
    intro j e hk hb hS h0 h1 h2 hi hjj
    have hc : ¬ ((i : Int) ≤ (j : Int)) := by omega
    have hK := fun e => K e j (by omega) (by omega) hS (fun hm => by omega)
    rw [go_loop]
    generalize ([pdqPq11] : List Fr) = FF at *
    simp only [h0, h1, hi, hjj, hc, wk, wk1, wk2, Option.some.injEq, exists_eq_left', decide_true, decide_false, Nat.reduceAdd, Nat.reduceEqDiff, Nat.reduceLeDiff, Nat.reduceLT, Nat.reduceMul, Nat.reduceBEq, Int.reduceLT, Int.reduceLE, Int.reduceEq, Int.reduceAdd, Int.reduceSub, Int.reduceMul, Int.reduceMod, Int.reduceTMod, Int.reduceTDiv, Int.reduceNeg, Nat.reduceSub, Nat.reduceDiv, reduceIte, reduceCtorEq]
    refine hK _ ?_ ?_ ?_ ?_ ?_ <;> simp only [h0, h1, h2, hi, hjj, wk, wk1, Nat.reduceEqDiff, reduceIte, decide_true]
  | succ k ih =>
    intro j e hk hb hS h0 h1 h2 hi hjj
    have hc : ((i : Int) ≤ (j : Int)) := by omega
    have hxn : j < n := by omega
    have hx1 : j + 1 ≤ n := hxn
    have mx := mp_take (en := en) (f := g) hxn
    have uw : wrapF .i64 ((j : Int) - 1) = ((j - 1 : Nat) : Int) := i64_sub1 (by omega) (by omega)
    rw [go_loop]
    cases hl : lt (g j) (g a) with
    | true =>
      have hK := fun e => K e j (by omega) (by omega) hS (fun hm => hl)
      generalize ([pdqPq11] : List Fr) = FF at *
      simp only [h0, h1, hi, hjj, hc, han, ha1, hxn, hx1, hrow, hlo, ma, mx, kl, hl, wk, wk1, wk2, Option.some.injEq, exists_eq_left', decide_true, decide_false, Nat.reduceAdd, Nat.reduceEqDiff, Nat.reduceLeDiff, Nat.reduceLT, Nat.reduceMul, Nat.reduceBEq, Int.reduceLT, Int.reduceLE, Int.reduceEq, Int.reduceAdd, Int.reduceSub, Int.reduceMul, Int.reduceMod, Int.reduceTMod, Int.reduceTDiv, Int.reduceNeg, Nat.reduceSub, Nat.reduceDiv, reduceIte, reduceCtorEq]
      refine hK _ ?_ ?_ ?_ ?_ ?_ <;> simp only [h0, h1, h2, hi, hjj, wk, wk1, Nat.reduceEqDiff, reduceIte, decide_true]
    | false =>
      simp only [h0, h1, hi, hjj, hc, han, ha1, hxn, hx1, hrow, hlo, ma, mx, kl, hl, uw, wk, wk1, wk2, Option.some.injEq, exists_eq_left', decide_true, decide_false, Nat.reduceAdd, Nat.reduceEqDiff, Nat.reduceLeDiff, Nat.reduceLT, Nat.reduceMul, Nat.reduceBEq, Int.reduceLT, Int.reduceLE, Int.reduceEq, Int.reduceAdd, Int.reduceSub, Int.reduceMul, Int.reduceMod, Int.reduceTMod, Int.reduceTDiv, Int.reduceNeg, Nat.reduceSub, Nat.reduceDiv, reduceIte, reduceCtorEq]
      refine ih (j - 1) _ (by omega) (by omega) (fun x x1 x2 => ?_) ?_ ?_ ?_ ?_ ?_
      · by_cases e1 : x = j
        · subst e1; exact hl
        · exact hS x (by omega) (by omega)
      all_goals simp only [h0, h1, h2, hi, hjj, uw, wk, wk1, Nat.reduceEqDiff, reduceIte, decide_true]

set_option maxHeartbeats 8000000 in
theorem po_up2 (hL : LessOk T 140 en lt) {Q : Post} {s0 s : St} {B inc n cap : Nat} {ex : Bool} (hn : n ≤ 1000000000) (a : Nat) (g : Nat → α) (hA : Aft en s0 B inc n g s) (e0 : Env) (i0 j : Nat) (hj : j < n) (han : a < n)
    (K : ∀ (e : Env) (m : Nat), i0 ≤ m → m ≤ j + 1 → (∀ x, i0 ≤ x → x < m → lt (g x) (g a) = true) → (m ≤ j → (lt (g m) (g a) = false)) → opd e (.t 0) = dsl B inc n cap ex → opd e (.t 1) = .int .i64 (a : Int) → opd e (.t 2) = opd e0 (.t 2) → opd e (.t 10) = .int .i64 (m : Int) → opd e (.t 11) = .int .i64 (j : Int) → Ret T Q [pdqPq12, .block 5, pdqPq13, .block 4, pdqPq14] .normal e s) :
    ∀ (k i : Nat) (e : Env), k + i = j + 1 → i0 ≤ i → (∀ x, i0 ≤ x → x < i → lt (g x) (g a) = true) → opd e (.t 0) = dsl B inc n cap ex → opd e (.t 1) = .int .i64 (a : Int) → opd e (.t 2) = opd e0 (.t 2) → opd e (.t 10) = .int .i64 (i : Int) → opd e (.t 11) = .int .i64 (j : Int) →
      Go T Q (pdqPl4) [.block 6, pdqPq12, .block 5, pdqPq13, .block 4, pdqPq14] e s := by
  have kl := hL.call
  obtain ⟨lo', hlo, hrow⟩ := hA.row
  have ha1 : a + 1 ≤ n := han
  have ma := mp_take (en := en) (f := g) han
  intro k
  induction k with
  | zero =>
    intro i e hk hb hS h0 h1 h2 hi hjj
    have hc : ¬ ((i : Int) ≤ (j : Int)) := by omega
    have hK := fun e => K e i (by omega) (by omega) hS (fun hm => by omega)
    rw [go_loop]
    generalize ([pdqPq12, .block 5, pdqPq13, .block 4, pdqPq14] : List Fr) = FF at *
    simp only [h0, h1, hi, hjj, hc, wk, wk1, wk2, Option.some.injEq, exists_eq_left', decide_true, decide_false, Nat.reduceAdd, Nat.reduceEqDiff, Nat.reduceLeDiff, Nat.reduceLT, Nat.reduceMul, Nat.reduceBEq, Int.reduceLT, Int.reduceLE, Int.reduceEq, Int.reduceAdd, Int.reduceSub, Int.reduceMul, Int.reduceMod, Int.reduceTMod, Int.reduceTDiv, Int.reduceNeg, Nat.reduceSub, Nat.reduceDiv, reduceIte, reduceCtorEq]
    refine hK _ ?_ ?_ ?_ ?_ ?_ <;> simp only [h0, h1, h2, hi, hjj, wk, wk1, Nat.reduceEqDiff, reduceIte, decide_true]
  | succ k ih =>
    intro i e hk hb hS h0 h1 h2 hi hjj
    have hc : ((i : Int) ≤ (j : Int)) := by omega
    have hxn : i < n := by omega
    have hx1 : i + 1 ≤ n := hxn
    have mx := mp_take (en := en) (f := g) hxn
    have uw : wrapF .i64 ((i : Int) + 1) = ((i + 1 : Nat) : Int) := i64_add1 (by omega)
    rw [go_loop]
    cases hl : lt (g i) (g a) with
    | false =>
      have hK := fun e => K e i (by omega) (by omega) hS (fun hm => hl)
      generalize ([pdqPq12, .block 5, pdqPq13, .block 4, pdqPq14] : List Fr) = FF at *
      simp only [h0, h1, hi, hjj, hc, han, ha1, hxn, hx1, hrow, hlo, ma, mx, kl, hl, wk, wk1, wk2, Option.some.injEq, exists_eq_left', decide_true, decide_false, Nat.reduceAdd, Nat.reduceEqDiff, Nat.reduceLeDiff, Nat.reduceLT, Nat.reduceMul, Nat.reduceBEq, Int.reduceLT, Int.reduceLE, Int.reduceEq, Int.reduceAdd, Int.reduceSub, Int.reduceMul, Int.reduceMod, Int.reduceTMod, Int.reduceTDiv, Int.reduceNeg, Nat.reduceSub, Nat.reduceDiv, reduceIte, reduceCtorEq]
      refine hK _ ?_ ?_ ?_ ?_ ?_ <;> simp only [h0, h1, h2, hi, hjj, wk, wk1, Nat.reduceEqDiff, reduceIte, decide_true]
    | true =>
      simp only [h0, h1, hi, hjj, hc, han, ha1, hxn, hx1, hrow, hlo, ma, mx, kl, hl, uw, wk, wk1, wk2, Option.some.injEq, exists_eq_left', decide_true, decide_false, Nat.reduceAdd, Nat.reduceEqDiff, Nat.reduceLeDiff, Nat.reduceLT, Nat.reduceMul, Nat.reduceBEq, Int.reduceLT, Int.reduceLE, Int.reduceEq, Int.reduceAdd, Int.reduceSub, Int.reduceMul, Int.reduceMod, Int.reduceTMod, Int.reduceTDiv, Int.reduceNeg, Nat.reduceSub, Nat.reduceDiv, reduceIte, reduceCtorEq]
      refine ih (i + 1) _ (by omega) (by omega) (fun x x1 x2 => ?_) ?_ ?_ ?_ ?_ ?_
      · by_cases e1 : x = i
        · subst e1; exact hl
        · exact hS x (by omega) (by omega)
      all_goals simp only [h0, h1, h2, hi, hjj, uw, wk, wk1, Nat.reduceEqDiff, reduceIte, decide_true]

set_option maxHeartbeats 8000000 in
theorem po_dn2 (hL : LessOk T 140 en lt) {Q : Post} {s0 s : St} {B inc n cap : Nat} {ex : Bool} (hn : n ≤ 1000000000) (a : Nat) (g : Nat → α) (hA : Aft en s0 B inc n g s) (e0 : Env) (i j0 : Nat) (hj0 : j0 < n) (hai : a < i) (han : a < n)
    (K : ∀ (e : Env) (m : Nat), m ≤ j0 → i ≤ m + 1 → (∀ x, m < x → x ≤ j0 → lt (g x) (g a) = false) → (i ≤ m → (lt (g m) (g a) = true)) → opd e (.t 0) = dsl B inc n cap ex → opd e (.t 1) = .int .i64 (a : Int) → opd e (.t 2) = opd e0 (.t 2) → opd e (.t 10) = .int .i64 (i : Int) → opd e (.t 11) = .int .i64 (m : Int) → Ret T Q [pdqPq15, .block 5, pdqPq13, .block 4, pdqPq14] .normal e s) :
    ∀ (k j : Nat) (e : Env), k + i = j + 1 → j ≤ j0 → (∀ x, j < x → x ≤ j0 → lt (g x) (g a) = false) → opd e (.t 0) = dsl B inc n cap ex → opd e (.t 1) = .int .i64 (a : Int) → opd e (.t 2) = opd e0 (.t 2) → opd e (.t 10) = .int .i64 (i : Int) → opd e (.t 11) = .int .i64 (j : Int) →
      Go T Q (pdqPl5) [.block 8, pdqPq15, .block 5, pdqPq13, .block 4, pdqPq14] e s := by
  have kl := hL.call
  obtain ⟨lo', hlo, hrow⟩ := hA.row
  have ha1 : a + 1 ≤ n := han
  have ma := mp_take (en := en) (f := g) han
  intro k
  induction k with
  | zero =>
    intro j e hk hb hS h0 h1 h2 hi hjj
    have hc : ¬ ((i : Int) ≤ (j : Int)) := by omega
    have hK := fun e => K e j (by omega) (by omega) hS (fun hm => by omega)
    rw [go_loop]
    generalize ([pdqPq15, .block 5, pdqPq13, .block 4, pdqPq14] : List Fr) = FF at *
    simp only [h0, h1, hi, hjj, hc, wk, wk1, wk2, Option.some.injEq, exists_eq_left', decide_true, decide_false, Nat.reduceAdd, Nat.reduceEqDiff, Nat.reduceLeDiff, Nat.reduceLT, Nat.reduceMul, Nat.reduceBEq, Int.reduceLT, Int.reduceLE, Int.reduceEq, Int.reduceAdd, Int.reduceSub, Int.reduceMul, Int.reduceMod, Int.reduceTMod, Int.reduceTDiv, Int.reduceNeg, Nat.reduceSub, Nat.reduceDiv, reduceIte, reduceCtorEq]
    refine hK _ ?_ ?_ ?_ ?_ ?_ <;> simp only [h0, h1, h2, hi, hjj, wk, wk1, Nat.reduceEqDiff, reduceIte, decide_true]
  | succ k ih =>
    intro j e hk hb hS h0 h1 h2 hi hjj
    have hc : ((i : Int) ≤ (j : Int)) := by omega
    have hxn : j < n := by omega
    have hx1 : j + 1 ≤ n := hxn
    have mx := mp_take (en := en) (f := g) hxn
    have uw : wrapF .i64 ((j : Int) - 1) = ((j - 1 : Nat) : Int) := i64_sub1 (by omega) (by omega)
    rw [go_loop]
    cases hl : lt (g j) (g a) with
    | true =>
      have hK := fun e => K e j (by omega) (by omega) hS (fun hm => hl)
      generalize ([pdqPq15, .block 5, pdqPq13, .block 4, pdqPq14] : List Fr) = FF at *
      simp only [h0, h1, hi, hjj, hc, han, ha1, hxn, hx1, hrow, hlo, ma, mx, kl, hl, wk, wk1, wk2, Option.some.injEq, exists_eq_left', decide_true, decide_false, Nat.reduceAdd, Nat.reduceEqDiff, Nat.reduceLeDiff, Nat.reduceLT, Nat.reduceMul, Nat.reduceBEq, Int.reduceLT, Int.reduceLE, Int.reduceEq, Int.reduceAdd, Int.reduceSub, Int.reduceMul, Int.reduceMod, Int.reduceTMod, Int.reduceTDiv, Int.reduceNeg, Nat.reduceSub, Nat.reduceDiv, reduceIte, reduceCtorEq]
      refine hK _ ?_ ?_ ?_ ?_ ?_ <;> simp only [h0, h1, h2, hi, hjj, wk, wk1, Nat.reduceEqDiff, reduceIte, decide_true]
    | false =>
      simp only [h0, h1, hi, hjj, hc, han, ha1, hxn, hx1, hrow, hlo, ma, mx, kl, hl, uw, wk, wk1, wk2, Option.some.injEq, exists_eq_left', decide_true, decide_false, Nat.reduceAdd, Nat.reduceEqDiff, Nat.reduceLeDiff, Nat.reduceLT, Nat.reduceMul, Nat.reduceBEq, Int.reduceLT, Int.reduceLE, Int.reduceEq, Int.reduceAdd, Int.reduceSub, Int.reduceMul, Int.reduceMod, Int.reduceTMod, Int.reduceTDiv, Int.reduceNeg, Nat.reduceSub, Nat.reduceDiv, reduceIte, reduceCtorEq]
      refine ih (j - 1) _ (by omega) (by omega) (fun x x1 x2 => ?_) ?_ ?_ ?_ ?_ ?_
      · by_cases e1 : x = j
        · subst e1; exact hl
        · exact hS x (by omega) (by omega)
      all_goals simp only [h0, h1, h2, hi, hjj, uw, wk, wk1, Nat.reduceEqDiff, reduceIte, decide_true]
end
end Go.V
