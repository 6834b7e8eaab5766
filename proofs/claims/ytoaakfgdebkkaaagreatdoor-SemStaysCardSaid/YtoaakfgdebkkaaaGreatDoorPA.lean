/- Sorting over the small language: rows of cells told by a function, swaps, what a sort keeps. -/
import Derived.Test.YtoaakfgdebkkaaaGreatDoorVE
set_option linter.unusedVariables false
set_option linter.unusedSimpArgs false
set_option linter.unusedSectionVars false
/- Sorting over the small language: rows of cells told by a function, swaps, what a sort keeps. -/
/- Sorting over the small language: rows of cells told by a function, swaps, what a sort keeps. -/
namespace Go.V
open Go
set_option linter.unusedSimpArgs false
set_option linter.unusedVariables false

def pw : Ex → Ex
 | .panic v => .panicW v
 | x => x
theorem pw_normal : pw .normal = .normal := rfl
/-- A region whose panics go further. -/
theorem go_regionPw {T : Tab} {Q : Post} {fs : List Fr} {l : List IOp} {e : Env} {s : St} : Go T Q (.regionP l) fs e s ↔ GoOps T (fun x e' s' => Ret T Q fs (pw x) e' s') false l [] e s := by
 constructor
 · rintro ⟨n, x, e', s', h1, h2⟩
   cases n with
   | zero => simp [evalN] at h1
   | succ n =>
    have h1 : evalC T (evalN T n) (.regionP l) e s = .ok x e' s' := h1
    simp only [evalC] at h1
    refine ⟨n, ?_⟩
    cases h : evalOps T (evalN T n) false l e s with
    | ok y e2 s2 =>
     rw [h] at h1
     refine ⟨y, e2, s2, rfl, ?_⟩
     show Ret T Q fs (pw y) e2 s2
     cases y <;> (simp only [] at h1; cases h1; exact h2)
    | _ => rw [h] at h1; cases h1
 · rintro ⟨n, y, e', s', h1, h2⟩
   have h2 : Ret T Q fs (pw y) e' s' := h2
   refine ⟨n + 1, pw y, e', s', ?_, h2⟩
   show evalC T (evalN T n) (.regionP l) e s = _
   simp only [evalC, h1]
   cases y <;> rfl

def mp {α : Type} (en : α → AV) (n : Nat) (f : Nat → α) : List AV := (List.range n).map fun i => en (f i)
def upd {α : Type} (f : Nat → α) (i : Nat) (x : α) : Nat → α := fun k => if k = i then x else f k
def swp {α : Type} (f : Nat → α) (i j : Nat) : Nat → α := fun k => if k = i then f j else if k = j then f i else f k

section
variable {α : Type} {en : α → AV} {n : Nat} {f : Nat → α}
theorem mp_eq {g : Nat → α} (h : ∀ i, i < n → f i = g i) : mp en n f = mp en n g := by
 unfold mp
 apply List.map_congr_left
 intro i hi
 rw [h i (by simpa using hi)]
end

/-- The one is the other, its places from a to b in another row. -/
def PermR {α : Type} (a b : Nat) (f g : Nat → α) : Prop :=
 ∃ p q : Nat → Nat, (∀ i, q (p i) = i) ∧ (∀ i, p (q i) = i) ∧ (∀ i, a ≤ i → i < b → a ≤ p i ∧ p i < b) ∧ (∀ i, a ≤ i → i < b → a ≤ q i ∧ q i < b) ∧ (∀ i, ¬ (a ≤ i ∧ i < b) → p i = i) ∧ ∀ i, g i = f (p i)

section
variable {α : Type} {a b : Nat} {f g h : Nat → α}
theorem PermR.refl (a b : Nat) (f : Nat → α) : PermR a b f f := ⟨id, id, fun _ => rfl, fun _ => rfl, fun _ h1 h2 => ⟨h1, h2⟩, fun _ h1 h2 => ⟨h1, h2⟩, fun _ _ => rfl, fun _ => rfl⟩
theorem PermR.trans (h1 : PermR a b f g) (h2 : PermR a b g h) : PermR a b f h := by
 obtain ⟨p, q, a1, a2, a3, a4, a5, a6⟩ := h1
 obtain ⟨p', q', b1, b2, b3, b4, b5, b6⟩ := h2
 refine ⟨fun i => p (p' i), fun i => q' (q i), fun i => by simp only [a1, b1], fun i => by simp only [b2, a2], fun i x y => ?_, fun i x y => ?_, fun i x => ?_, fun i => ?_⟩
 · obtain ⟨u, v⟩ := b3 i x y; exact a3 _ u v
 · obtain ⟨u, v⟩ := a4 i x y; exact b4 _ u v
 · show p (p' i) = i
   rw [b5 i x, a5 i x]
 · rw [b6, a6]
theorem PermR.swap {i j : Nat} (hi : a ≤ i) (hi' : i < b) (hj : a ≤ j) (hj' : j < b) : PermR a b f (swp f i j) := by
 refine ⟨fun k => if k = i then j else if k = j then i else k, fun k => if k = i then j else if k = j then i else k, ?_, ?_, ?_, ?_, ?_, ?_⟩
 · intro k; simp only []; by_cases h1 : k = i <;> by_cases h2 : k = j <;> by_cases h3 : j = i <;> simp_all
 · intro k; simp only []; by_cases h1 : k = i <;> by_cases h2 : k = j <;> by_cases h3 : j = i <;> simp_all
 · intro k h1 h2; simp only []; by_cases h3 : k = i <;> by_cases h4 : k = j <;> simp_all
 · intro k h1 h2; simp only []; by_cases h3 : k = i <;> by_cases h4 : k = j <;> simp_all
 · intro k hk
   have h3 : k ≠ i := by omega
   have h4 : k ≠ j := by omega
   simp [h3, h4]
 · intro k
   unfold swp
   by_cases h1 : k = i
   · simp [h1]
   · by_cases h2 : k = j
     · subst h2; simp [h1]
     · simp [h1, h2]
/-- Elsewhere nothing turns. -/
theorem PermR.out (h : PermR a b f g) {i : Nat} (hi : ¬ (a ≤ i ∧ i < b)) : g i = f i := by
 obtain ⟨p, q, a1, a2, a3, a4, a5, a6⟩ := h
 rw [a6, a5 i hi]
/-- What all of them have, all have still. -/
theorem PermR.all (h : PermR a b f g) {P : α → Prop} (hP : ∀ i, a ≤ i → i < b → P (f i)) : ∀ i, a ≤ i → i < b → P (g i) := by
 obtain ⟨p, q, a1, a2, a3, a4, a5, a6⟩ := h
 intro i x y
 rw [a6]
 exact hP _ (a3 i x y).1 (a3 i x y).2
end

/-- An order, by its 'less'. -/
structure Ord {α : Type} (lt : α → α → Bool) : Prop where
 asymm : ∀ x y, lt x y = true → lt y x = false
 trans : ∀ x y z, lt y x = false → lt z y = false → lt z x = false
abbrev Le {α : Type} (lt : α → α → Bool) (x y : α) : Prop := lt y x = false
theorem Ord.le {α : Type} {lt : α → α → Bool} (h : Ord lt) {x y : α} (hl : lt x y = true) : Le lt x y := h.asymm x y hl
theorem Ord.refl {α : Type} {lt : α → α → Bool} (h : Ord lt) (x : α) : Le lt x x := by
 cases hx : lt x x with
 | false => exact hx
 | true => have := h.asymm x x hx; rw [hx] at this; cases this

def Srt {α : Type} (lt : α → α → Bool) (a b : Nat) (f : Nat → α) : Prop := ∀ i j, a ≤ i → i < j → j < b → Le lt (f i) (f j)

/-- What a sort may turn: the one row; else only new things. -/
structure Aft {α : Type} (en : α → AV) (s0 : St) (B inc n : Nat) (g : Nat → α) (s : St) : Prop where
 row : ∃ lo, lo ≤ inc ∧ s.heap.get B = some (.cells (mp en n g) lo inc false)
 wfs : WFS s
 next : s0.next ≤ s.next
 same : ∀ id, id < s0.next → id ≠ B → s.heap.get id = s0.heap.get id
section
variable {α : Type} {en : α → AV} {s0 s s1 : St} {B inc n : Nat} {f g : Nat → α}
theorem Aft.put (h : Aft en s0 B inc n f s) (hB : B < s0.next) (g : Nat → α) : Aft en s0 B inc n g (s.put B (.cells (mp en n g) inc inc false)) := by
 refine ⟨⟨inc, Nat.le_refl _, by rw [put_get, if_pos rfl]⟩, h.wfs.put (Nat.lt_of_lt_of_le hB h.next) _, h.next, fun id h1 h2 => ?_⟩
 rw [put_get, if_neg h2]; exact h.same id h1 h2
theorem Aft.trans (h : Aft en s0 B inc n f s) (h' : Aft en s B inc n g s1) : Aft en s0 B inc n g s1 :=
 ⟨h'.row, h'.wfs, Nat.le_trans h.next h'.next, fun id h1 h2 => by rw [h'.same id (Nat.lt_of_lt_of_le h1 h.next) h2, h.same id h1 h2]⟩
theorem Aft.refl (hw : WFS s) (hr : ∃ lo, lo ≤ inc ∧ s.heap.get B = some (.cells (mp en n f) lo inc false)) : Aft en s B inc n f s := ⟨hr, hw, Nat.le_refl _, fun _ _ _ => rfl⟩
theorem Aft.eq (h : Aft en s0 B inc n f s) {g : Nat → α} (hg : ∀ i, i < n → f i = g i) : Aft en s0 B inc n g s := by
 obtain ⟨⟨lo, h1, h2⟩, h3, h4, h5⟩ := h
 exact ⟨⟨lo, h1, by rw [h2, mp_eq hg]⟩, h3, h4, h5⟩
end
theorem i64_add1 {n : Nat} (h : n ≤ 1000000000000) : wrapF .i64 ((n : Int) + 1) = ((n + 1 : Nat) : Int) := by
 rw [wrap_i64 _ (by omega) (by omega)]; omega
theorem wr : type_of% @wq ∧ type_of% @go_regionPw ∧ type_of% @pw_normal := ⟨@wq, @go_regionPw, @pw_normal⟩
end Go.V
