/- Sorting over the small language: rows of cells told by a function, swaps, what a sort keeps. -/
import Derived.Test.YteepeacefpkmbaaGreatDoorVE
import Derived.Test.YteepeacefpkmbaaGreatDoorVZ
set_option linter.unusedVariables false
set_option linter.unusedSimpArgs false
set_option linter.unusedSectionVars false
/- Sorting over the small language: rows of cells told by a function, swaps, what a sort keeps. -/
/- Sorting over the small language: rows of cells told by a function, swaps, what a sort keeps. -/
namespace Go.V
open Go
set_option linter.unusedSimpArgs false
set_option linter.unusedVariables false

def pw : Ex → Ex
  | .panic v => .panicW v
  | x => x
theorem pw_normal : pw .normal = .normal := rfl
/-- A region whose panics go further. -/
theorem go_regionPw {T : Tab} {Q : Post} {fs : List Fr} {l : List IOp} {e : Env} {s : St} : Go T Q (.regionP l) fs e s ↔ GoOps T (fun x e' s' => Ret T Q fs (pw x) e' s') false l [] e s := by
  constructor
  · rintro ⟨n, x, e', s', h1, h2⟩
    cases n with
    | zero => simp [evalN] at h1
    | succ n =>
      have h1 : evalC T (evalN T n) (.regionP l) e s = .ok x e' s' := h1
      simp only [evalC] at h1
      refine ⟨n, ?_⟩
      cases h : evalOps T (evalN T n) false l e s with
      | ok y e2 s2 =>
        rw [h] at h1
        refine ⟨y, e2, s2, rfl, ?_⟩
        show Ret T Q fs (pw y) e2 s2
        cases y <;> (simp only [] at h1; cases h1; exact h2)
      | _ => rw [h] at h1; cases h1
  · rintro ⟨n, y, e', s', h1, h2⟩
    have h2 : Ret T Q fs (pw y) e' s' := h2
    refine ⟨n + 1, pw y, e', s', ?_, h2⟩
    show evalC T (evalN T n) (.regionP l) e s = _
    simp only [evalC, h1]
    cases y <;> rfl

def mp {α : Type} (en : α → AV) (n : Nat) (f : Nat → α) : List AV := (List.range n).map fun i => en (f i)
def upd {α : Type} (f : Nat → α) (i : Nat) (x : α) : Nat → α := fun k => if k = i then x else f k
def swp {α : Type} (f : Nat → α) (i j : Nat) : Nat → α := fun k => if k = i then f j else if k = j then f i else f k

section
variable {α : Type} {en : α → AV} {n : Nat} {f : Nat → α}
theorem mp_len : (mp en n f).length = n := by simp [mp]
theorem mp_get {i : Nat} (h : i < n) : (mp en n f)[i]? = some (en (f i)) := by simp [mp, h]
theorem mp_take {i : Nat} (h : i < n) : List.take 1 (List.drop i (mp en n f)) = [en (f i)] := by
  have hl : i < (mp en n f).length := by rw [mp_len]; exact h
  rw [List.drop_eq_getElem_cons hl, List.take_succ_cons, List.take_zero]
  have := mp_get (en := en) (f := f) h
  rw [List.getElem?_eq_getElem hl] at this
  rw [Option.some.inj this]
theorem mp_splice {i : Nat} {x : α} (h : i < n) : List.take i (mp en n f) ++ en x :: List.drop (i + 1) (mp en n f) = mp en n (upd f i x) := by
  have hl : i < (mp en n f).length := by rw [mp_len]; exact h
  apply List.ext_getElem?
  intro k
  by_cases hk : k < n
  · rw [mp_get hk]
    by_cases h1 : k < i
    · rw [List.getElem?_append_left (by simp [mp_len]; omega), List.getElem?_take_of_lt h1, mp_get hk, upd, if_neg (by omega)]
    · rw [List.getElem?_append_right (by simp [mp_len]; omega), List.length_take, mp_len, Nat.min_eq_left (by omega)]
      by_cases h2 : k = i
      · subst h2; simp [upd]
      · have : k - i = (k - i - 1) + 1 := by omega
        rw [this, List.getElem?_cons_succ, List.getElem?_drop]
        have h3 : i + 1 + (k - i - 1) = k := by omega
        rw [h3, mp_get hk, upd, if_neg h2]
  · rw [List.getElem?_eq_none (by simp [mp_len]; omega), List.getElem?_eq_none (by simp [mp_len]; omega)]
theorem upd_swp (f : Nat → α) (i j : Nat) : upd (upd f i (f j)) j (f i) = swp f i j := by
  funext k
  unfold upd swp
  by_cases h1 : k = j
  · subst h1
    by_cases h2 : k = i
    · subst h2; simp
    · simp [h2]
  · simp [h1]
theorem mp_eq {g : Nat → α} (h : ∀ i, i < n → f i = g i) : mp en n f = mp en n g := by
  unfold mp
  apply List.map_congr_left
  intro i hi
  rw [h i (by simpa using hi)]
theorem mp_list (l : List α) (d : α) : mp en l.length (fun i => l.getD i d) = l.map en := by
  apply List.ext_getElem?
  intro k
  by_cases hk : k < l.length
  · rw [mp_get hk, List.getElem?_map, List.getElem?_eq_getElem hk]
    simp [List.getD_eq_getElem?_getD, hk]
  · rw [List.getElem?_eq_none (by rw [mp_len]; omega), List.getElem?_eq_none (by simp; omega)]
end

/-- The one is the other, its places from a to b in another row. -/
def PermR {α : Type} (a b : Nat) (f g : Nat → α) : Prop :=
  ∃ p q : Nat → Nat, (∀ i, q (p i) = i) ∧ (∀ i, p (q i) = i) ∧ (∀ i, a ≤ i → i < b → a ≤ p i ∧ p i < b) ∧ (∀ i, a ≤ i → i < b → a ≤ q i ∧ q i < b) ∧ (∀ i, ¬ (a ≤ i ∧ i < b) → p i = i) ∧ ∀ i, g i = f (p i)

section
variable {α : Type} {a b : Nat} {f g h : Nat → α}
theorem PermR.refl (a b : Nat) (f : Nat → α) : PermR a b f f := ⟨id, id, fun _ => rfl, fun _ => rfl, fun _ h1 h2 => ⟨h1, h2⟩, fun _ h1 h2 => ⟨h1, h2⟩, fun _ _ => rfl, fun _ => rfl⟩
theorem PermR.trans (h1 : PermR a b f g) (h2 : PermR a b g h) : PermR a b f h := by
  obtain ⟨p, q, a1, a2, a3, a4, a5, a6⟩ := h1
  obtain ⟨p', q', b1, b2, b3, b4, b5, b6⟩ := h2
  refine ⟨fun i => p (p' i), fun i => q' (q i), fun i => by simp only [a1, b1], fun i => by simp only [b2, a2], fun i x y => ?_, fun i x y => ?_, fun i x => ?_, fun i => ?_⟩
  · obtain ⟨u, v⟩ := b3 i x y; exact a3 _ u v
  · obtain ⟨u, v⟩ := a4 i x y; exact b4 _ u v
  · show p (p' i) = i
    rw [b5 i x, a5 i x]
  · rw [b6, a6]
theorem PermR.swap {i j : Nat} (hi : a ≤ i) (hi' : i < b) (hj : a ≤ j) (hj' : j < b) : PermR a b f (swp f i j) := by
  refine ⟨fun k => if k = i then j else if k = j then i else k, fun k => if k = i then j else if k = j then i else k, ?_, ?_, ?_, ?_, ?_, ?_⟩
  · intro k; simp only []; by_cases h1 : k = i <;> by_cases h2 : k = j <;> by_cases h3 : j = i <;> simp_all
  · intro k; simp only []; by_cases h1 : k = i <;> by_cases h2 : k = j <;> by_cases h3 : j = i <;> simp_all
  · intro k h1 h2; simp only []; by_cases h3 : k = i <;> by_cases h4 : k = j <;> simp_all
  · intro k h1 h2; simp only []; by_cases h3 : k = i <;> by_cases h4 : k = j <;> simp_all
  · intro k hk
    have h3 : k ≠ i := by omega
    have h4 : k ≠ j := by omega
    simp [h3, h4]
  · intro k
    unfold swp
    by_cases h1 : k = i
    · simp [h1]
    · by_cases h2 : k = j
      · subst h2; simp [h1]
      · simp [h1, h2]
theorem PermR.wide {a' b' : Nat} (h : PermR a b f g) (ha : a' ≤ a) (hb : b ≤ b') : PermR a' b' f g := by
  obtain ⟨p, q, a1, a2, a3, a4, a5, a6⟩ := h
  have hq : ∀ i, ¬ (a ≤ i ∧ i < b) → q i = i := by
    intro i hi
    have := a1 i
    rwa [a5 i hi] at this
  refine ⟨p, q, a1, a2, fun i x y => ?_, fun i x y => ?_, fun i x => a5 i (by omega), a6⟩
  · by_cases hi : a ≤ i ∧ i < b
    · have := a3 i hi.1 hi.2; omega
    · rw [a5 i hi]; exact ⟨x, y⟩
  · by_cases hi : a ≤ i ∧ i < b
    · have := a4 i hi.1 hi.2; omega
    · rw [hq i hi]; exact ⟨x, y⟩
/-- Elsewhere nothing turns. -/
theorem PermR.out (h : PermR a b f g) {i : Nat} (hi : ¬ (a ≤ i ∧ i < b)) : g i = f i := by
  obtain ⟨p, q, a1, a2, a3, a4, a5, a6⟩ := h
  rw [a6, a5 i hi]
/-- What all of them have, all have still. -/
theorem PermR.all (h : PermR a b f g) {P : α → Prop} (hP : ∀ i, a ≤ i → i < b → P (f i)) : ∀ i, a ≤ i → i < b → P (g i) := by
  obtain ⟨p, q, a1, a2, a3, a4, a5, a6⟩ := h
  intro i x y
  rw [a6]
  exact hP _ (a3 i x y).1 (a3 i x y).2
theorem PermR.list {n : Nat} (h : PermR a b f g) (hb : b ≤ n) : ((List.range n).map g).Perm ((List.range n).map f) := by
  obtain ⟨p, q, a1, a2, a3, a4, a5, a6⟩ := h.wide (Nat.zero_le a) hb
  have h1 : (List.range n).map g = ((List.range n).map p).map f := by
    rw [List.map_map]
    apply List.map_congr_left
    intro i _
    exact a6 i
  rw [h1]
  refine List.Perm.map f ?_
  refine (List.perm_ext_iff_of_nodup ?_ List.nodup_range).2 fun i => ?_
  · refine List.pairwise_map.2 (List.nodup_range.imp fun {x y} hxy e => hxy ?_)
    have := congrArg q e
    rwa [a1, a1] at this
  · rw [List.mem_map, List.mem_range]
    constructor
    · rintro ⟨j, hj, rfl⟩
      exact (a3 j (Nat.zero_le j) (List.mem_range.1 hj)).2
    · intro hi
      exact ⟨q i, List.mem_range.2 (a4 i (Nat.zero_le i) hi).2, a2 i⟩
end

/-- An order, by its 'less'. -/
structure Ord {α : Type} (lt : α → α → Bool) : Prop where
  asymm : ∀ x y, lt x y = true → lt y x = false
  trans : ∀ x y z, lt y x = false → lt z y = false → lt z x = false
abbrev Le {α : Type} (lt : α → α → Bool) (x y : α) : Prop := lt y x = false
theorem Ord.le {α : Type} {lt : α → α → Bool} (h : Ord lt) {x y : α} (hl : lt x y = true) : Le lt x y := h.asymm x y hl
theorem Ord.refl {α : Type} {lt : α → α → Bool} (h : Ord lt) (x : α) : Le lt x x := by
  cases hx : lt x x with
  | false => exact hx
  | true => have := h.asymm x x hx; rw [hx] at this; cases this

def Srt {α : Type} (lt : α → α → Bool) (a b : Nat) (f : Nat → α) : Prop := ∀ i j, a ≤ i → i < j → j < b → Le lt (f i) (f j)

/-- What a sort may turn: the one row; else only new things. -/
structure Aft {α : Type} (en : α → AV) (s0 : St) (B inc n : Nat) (g : Nat → α) (s : St) : Prop where
  row : ∃ lo, lo ≤ inc ∧ s.heap.get B = some (.cells (mp en n g) lo inc false)
  wfs : WFS s
  next : s0.next ≤ s.next
  same : ∀ id, id < s0.next → id ≠ B → s.heap.get id = s0.heap.get id
section
variable {α : Type} {en : α → AV} {s0 s s1 : St} {B inc n : Nat} {f g : Nat → α}
theorem Aft.put (h : Aft en s0 B inc n f s) (hB : B < s0.next) (g : Nat → α) : Aft en s0 B inc n g (s.put B (.cells (mp en n g) inc inc false)) := by
  refine ⟨⟨inc, Nat.le_refl _, by rw [put_get, if_pos rfl]⟩, h.wfs.put (Nat.lt_of_lt_of_le hB h.next) _, h.next, fun id h1 h2 => ?_⟩
  rw [put_get, if_neg h2]; exact h.same id h1 h2
theorem Aft.trans (h : Aft en s0 B inc n f s) (h' : Aft en s B inc n g s1) : Aft en s0 B inc n g s1 :=
  ⟨h'.row, h'.wfs, Nat.le_trans h.next h'.next, fun id h1 h2 => by rw [h'.same id (Nat.lt_of_lt_of_le h1 h.next) h2, h.same id h1 h2]⟩
theorem Aft.refl (hw : WFS s) (hr : ∃ lo, lo ≤ inc ∧ s.heap.get B = some (.cells (mp en n f) lo inc false)) : Aft en s B inc n f s := ⟨hr, hw, Nat.le_refl _, fun _ _ _ => rfl⟩
theorem Aft.eq (h : Aft en s0 B inc n f s) {g : Nat → α} (hg : ∀ i, i < n → f i = g i) : Aft en s0 B inc n g s := by
  obtain ⟨⟨lo, h1, h2⟩, h3, h4, h5⟩ := h
  exact ⟨⟨lo, h1, by rw [h2, mp_eq hg]⟩, h3, h4, h5⟩
end
theorem goCall_hk {T : Tab} {f : FuncId} {h : List AV → St → Option (AV × St)} (hf : T f = some (.hook h)) (Q : Post) (d : Bool) (dst : Option Nat) (w : List Opd) (args : List AV) (l : List IOp) (fs : List Fr) (e : Env) (s : St) :
    GoCall T Q d dst w f args l fs e s ↔ GoR T Q d dst w (ofBoth (h args s)) l fs e s := by
  unfold GoCall
  have : ∀ n, callF T (evalN T n) f args s = ofBoth (h args s) := fun n => by simp only [callF, hf]
  constructor
  · rintro ⟨n, h⟩; rwa [this] at h
  · intro h; exact ⟨0, by rwa [this]⟩
theorem i64_in {n : Nat} (h : n ≤ 1000000000000) : wrapF .i64 (n : Int) = n := wrap_i64 _ (by omega) (by omega)
theorem i64_sub {n m : Nat} (h : n ≤ 1000000000000) (hm : m ≤ n) : wrapF .i64 ((n : Int) - (m : Int)) = ((n - m : Nat) : Int) := by
  rw [wrap_i64 _ (by omega) (by omega)]; omega
theorem i64_sub1 {n : Nat} (h : n ≤ 1000000000000) (hm : 1 ≤ n) : wrapF .i64 ((n : Int) - 1) = ((n - 1 : Nat) : Int) := by
  rw [wrap_i64 _ (by omega) (by omega)]; omega
theorem i64_add {n m : Nat} (h : n + m ≤ 1000000000000) : wrapF .i64 ((n : Int) + (m : Int)) = ((n + m : Nat) : Int) := by
  rw [wrap_i64 _ (by omega) (by omega)]; omega
theorem i64_add1 {n : Nat} (h : n ≤ 1000000000000) : wrapF .i64 ((n : Int) + 1) = ((n + 1 : Nat) : Int) := by
  rw [wrap_i64 _ (by omega) (by omega)]; omega
end Go.V
/- slices.insertionSortOrdered over the small language. -/
namespace Go.V
open Go
set_option linter.unusedSimpArgs false
set_option linter.unusedVariables false
section
open Z
abbrev pdqIl2 : ICode := .region [(m 13 6),(o 14 (.bin .add t13 (I 1))),(m 6 14)] false
abbrev pdqIl1 : ICode := .loop (q (q (.regionP [(m 16 7),(m 17 1),(o 18 (.bin .gtr t16 t17)),(m 19 18),(og 20 19 true (.move t0)),(og 21 19 true (.move t7)),(og 22 19 true (.idxSl 1 t20 t21)),(og 23 19 true (.load false 1 t22)),(og 24 19 true (.move t0)),(og 25 19 true (.move t7)),(og 26 19 true (.bin .sub t25 (I 1))),(og 27 19 true (.idxSl 1 t24 t26)),(og 28 19 true (.load false 1 t27)),(og 29 19 true (.call 57 [t23,t28])),(o 30 (.pick t19 t29 F))]) (.cond t30 .skip (.exit 2))) (q (.block 3 (.region [(m 33 0),(m 34 7),(m 35 0),(m 36 7),(o 37 (.bin .sub t36 (I 1))),(m 38 0),(m 39 7),(o 40 (.bin .sub t39 (I 1))),(ix 41 1 38 40),(l 42 1 41),(m 43 0),(m 44 7),(ix 45 1 43 44),(l 46 1 45),(ix 47 1 33 34),(st 1 47 42),(ix 48 1 35 37),(st 1 48 46)] true)) (R [(m 31 7),(o 32 (.bin .sub t31 (I 1))),(m 7 32)])))
abbrev pdqIl3 : ICode := .seq (q (R [(m 10 6),(m 11 2),(o 12 (.bin .lss t10 t11))]) (.cond t12 .skip (.exit 0))) (q (.block 1 (q (R [(m 15 6),(m 7 15)]) (.block 2 pdqIl1))) pdqIl2)
abbrev pdqIl0 : ICode := .loop pdqIl3
end
open Z in def ir51 : IFunc := ⟨49,[],(q (R [(m 8 1),(o 9 (.bin .add t8 (I 1))),(m 6 9)]) (.block 0 pdqIl0))⟩
section
variable {α : Type} {en : α → AV} {lt : α → α → Bool} {T : Tab}
/-- How two are compared. -/
structure LessOk (T : Tab) (f : FuncId) (en : α → AV) (lt : α → α → Bool) : Prop where
  cells : ∀ x, AV.cells (en x) = [en x]
  cell : ∀ x, AV.isCell (en x) = true
  call : ∀ (Q : Post) (d : Bool) (dst : Option Nat) (x y : α) (l : List IOp) (fs : List Fr) (e : Env) (s : St), GoCall T Q d dst [] f [en x, en y] l fs e s ↔ GoOps T Q d l fs (putV e dst (.bool (lt x y))) s

abbrev dsl (B inc n cap : Nat) (ex : Bool) : AV := .slice ⟨B, 0, inc, n⟩ n cap ex 1

/-- Rising but for place j, which is at most what stands behind it. -/
def InsInv (lt : α → α → Bool) (a i j : Nat) (g : Nat → α) : Prop := ∀ p q, a ≤ p → p < q → q ≤ i → q ≠ j → Le lt (g p) (g q)
theorem InsInv.step (ho : Ord lt) {a i j : Nat} {g : Nat → α} (h : InsInv lt a i j g) (haj : a < j) (hji : j ≤ i) (hl : lt (g j) (g (j - 1)) = true) : InsInv lt a i (j - 1) (swp g j (j - 1)) := by
  intro p q h1 h2 h3 h4
  unfold swp
  by_cases q1 : q = j
  · subst q1
    rw [if_pos rfl, if_neg (by omega)]
    by_cases p1 : p = q - 1
    · subst p1; rw [if_pos rfl]; exact ho.le hl
    · rw [if_neg p1]; exact h p (q - 1) h1 (by omega) (by omega) (by omega)
  · rw [if_neg q1, if_neg h4]
    by_cases p1 : p = j
    · subst p1; rw [if_pos rfl]; exact h (p - 1) q (by omega) (by omega) h3 q1
    · rw [if_neg p1]
      by_cases p2 : p = j - 1
      · subst p2; rw [if_pos rfl]; exact h j q (by omega) (by omega) h3 q1
      · rw [if_neg p2]; exact h p q h1 h2 h3 q1
theorem InsInv.done (ho : Ord lt) {a i j : Nat} {g : Nat → α} (h : InsInv lt a i j g) (hji : j ≤ i) (hl : a < j → lt (g j) (g (j - 1)) = false) : Srt lt a (i + 1) g := by
  intro p q h1 h2 h3
  by_cases q1 : q = j
  · subst q1
    have h4 := hl (by omega)
    by_cases p1 : p = q - 1
    · subst p1; exact h4
    · exact ho.trans _ _ _ (h p (q - 1) h1 (by omega) (by omega) (by omega)) h4
  · exact h p q h1 h2 (by omega) q1

set_option maxHeartbeats 4000000 in
theorem ins_inner (hL : LessOk T 57 en lt) (ho : Ord lt) {Q : Post} {s0 : St} {B inc n cap : Nat} {ex : Bool} (hB : B < s0.next) (hn : n ≤ 1000000000) (a b i : Nat) (hai : a ≤ i) (hib : i < b) (hbn : b ≤ n) (f0 : Nat → α)
    (K : ∀ (e : Env) (s : St) (g : Nat → α), opd e (.t 0) = dsl B inc n cap ex → opd e (.t 1) = .int .i64 (a : Int) → opd e (.t 2) = .int .i64 (b : Int) → opd e (.t 6) = .int .i64 (((i + 1 : Nat)) : Int) → Aft en s0 B inc n g s → Srt lt a (i + 1) g → PermR a b f0 g →
      Go T Q (pdqIl0) [.block 0] e s) :
    ∀ (k j : Nat) (e : Env) (s : St) (g : Nat → α), j = a + k → j ≤ i → opd e (.t 0) = dsl B inc n cap ex → opd e (.t 1) = .int .i64 (a : Int) → opd e (.t 2) = .int .i64 (b : Int) → opd e (.t 6) = .int .i64 (i : Int) → opd e (.t 7) = .int .i64 (j : Int) → Aft en s0 B inc n g s → InsInv lt a i j g → PermR a b f0 g →
      Go T Q (pdqIl1) [.block 2, .block 1, .seq pdqIl2, .loop pdqIl3, .block 0] e s := by
  have kl := hL.call
  have kc := hL.cells
  have ki := hL.cell
  intro k
  induction k with
  | zero =>
    intro j e s g hj hji h0 h1 h2 h6 h7 hA hI hP
    have hc : ¬ ((a : Int) < (j : Int)) := by omega
    have hw : wrapF .i64 ((i : Int) + 1) = ((i + 1 : Nat) : Int) := i64_add1 (by omega)
    have hK := fun (e : Env) h0 h1 h2 h6 => K e s g h0 h1 h2 h6 hA (hI.done ho hji (by omega)) hP
    rw [go_loop]
    simp only [h0, h1, h2, h6, h7, hc, hw, wk, wk1, wk2, Option.some.injEq, exists_eq_left', decide_true, decide_false, seval, go_regionPw, pw_normal]
    refine hK _ ?_ ?_ ?_ ?_ <;> simp only [h0, h1, h2, h6, hw, wk, wk1, Nat.reduceEqDiff, reduceIte, decide_true]
  | succ k ih =>
    intro j e s g hj hji h0 h1 h2 h6 h7 hA hI hP
    have hc : ((a : Int) < (j : Int)) := by omega
    have hw : wrapF .i64 ((i : Int) + 1) = ((i + 1 : Nat) : Int) := i64_add1 (by omega)
    have hwj : wrapF .i64 ((j : Int) - 1) = ((j - 1 : Nat) : Int) := i64_sub1 (by omega) (by omega)
    have hjn : j < n := by omega
    have hjn' : j - 1 < n := by omega
    have hj1 : j + 1 ≤ n := by omega
    have hj1' : j - 1 + 1 ≤ n := by omega
    obtain ⟨lo, hlo, hrow⟩ := hA.row
    have m1 := mp_take (en := en) (f := g) hjn
    have m2 := mp_take (en := en) (f := g) hjn'
    have sp1 := fun x => mp_splice (en := en) (f := g) (x := x) hjn
    have sp2 := fun f x => mp_splice (en := en) (f := f) (x := x) hjn'
    rw [go_loop]
    cases hlt : lt (g j) (g (j - 1)) with
    | false =>
      have hK := fun (e : Env) h0 h1 h2 h6 => K e s g h0 h1 h2 h6 hA (hI.done ho hji (fun _ => hlt)) hP
      simp only [h0, h1, h2, h6, h7, hc, hw, hwj, hjn, hjn', hj1, hj1', hrow, hlo, m1, m2, kl, hlt, wk, wk1, wk2, Option.some.injEq, exists_eq_left', decide_true, decide_false, seval, go_regionPw, pw_normal]
      refine hK _ ?_ ?_ ?_ ?_ <;> simp only [h0, h1, h2, h6, hw, wk, wk1, Nat.reduceEqDiff, reduceIte, decide_true]
    | true =>
      have hA' := hA.put hB (swp g j (j - 1))
      have hI' := hI.step ho (by omega) hji hlt
      have hP' := hP.trans (PermR.swap (f := g) (i := j) (j := j - 1) (a := a) (b := b) (by omega) (by omega) (by omega) (by omega))
      simp only [h0, h1, h2, h6, h7, hc, hw, hwj, hjn, hjn', hj1, hj1', hrow, hlo, m1, m2, kl, hlt, kc, ki, sp1, sp2, upd_swp, wk, wk1, wk2, Option.some.injEq, exists_eq_left', decide_true, decide_false, seval, go_regionPw, pw_normal]
      refine ih (j - 1) _ _ _ (by omega) (by omega) ?_ ?_ ?_ ?_ ?_ hA' hI' hP' <;> simp only [h0, h1, h2, h6, h7, hwj, wk, wk1, Nat.reduceEqDiff, reduceIte, decide_true]

set_option maxHeartbeats 4000000 in
theorem ins_outer (hL : LessOk T 57 en lt) (ho : Ord lt) {Q : Post} {s0 : St} {B inc n cap : Nat} {ex : Bool} (hB : B < s0.next) (hn : n ≤ 1000000000) (a b : Nat) (hbn : b ≤ n) (f0 : Nat → α)
    (K : ∀ (e : Env) (s : St) (g : Nat → α), Aft en s0 B inc n g s → Srt lt a b g → PermR a b f0 g → Ret T Q [] .normal e s) :
    ∀ (k i : Nat) (e : Env) (s : St) (g : Nat → α), k = b - i → a < i → i ≤ a + 1 ∨ i ≤ b → opd e (.t 0) = dsl B inc n cap ex → opd e (.t 1) = .int .i64 (a : Int) → opd e (.t 2) = .int .i64 (b : Int) → opd e (.t 6) = .int .i64 (i : Int) → Aft en s0 B inc n g s → Srt lt a i g → PermR a b f0 g →
      Go T Q (pdqIl0) [.block 0] e s := by
  intro k
  induction k with
  | zero =>
    intro i e s g hk hai hi h0 h1 h2 h6 hA hS hP
    have hc : ¬ ((i : Int) < (b : Int)) := by omega
    rw [go_loop]
    have hK := fun e => K e s g hA (fun p q x y z => hS p q x y (by omega)) hP
    have hK' := fun e => (ret_nil (T := T)).1 (hK e)
    simp only [h0, h1, h2, h6, hc, hK', wk, wk1, wk2, Option.some.injEq, exists_eq_left', decide_true, decide_false, seval, go_regionPw, pw_normal]
  | succ k ih =>
    intro i e s g hk hai hi h0 h1 h2 h6 hA hS hP
    have hc : ((i : Int) < (b : Int)) := by omega
    rw [go_loop]
    simp only [h0, h1, h2, h6, hc, wk, wk1, wk2, Option.some.injEq, exists_eq_left', decide_true, decide_false, seval, go_regionPw, pw_normal]
    refine ins_inner (cap := cap) (ex := ex) hL ho hB hn a b i (by omega) (by omega) hbn f0 ?_ (i - a) i _ s g (by omega) (Nat.le_refl _) ?_ ?_ ?_ ?_ ?_ hA ?_ hP
    · intro e s g h0 h1 h2 h6 hA hS hP
      exact ih (i + 1) e s g (by omega) (by omega) (by omega) h0 h1 h2 h6 hA hS hP
    all_goals (try simp only [h0, h1, h2, h6, wk, wk1, Nat.reduceEqDiff, reduceIte, decide_true])
    intro p q x y z w
    exact hS p q x y (by omega)

theorem ins_ran (hc : T 51 = some (.code ir51)) (hL : LessOk T 57 en lt) (ho : Ord lt) (s : St) (B inc n cap : Nat) (ex : Bool) (hB : B < s.next) (hn : n ≤ 1000000000) (a b : Nat) (hab : a ≤ b) (hbn : b ≤ n) (f : Nat → α) (hA : Aft en s B inc n f s) :
    Ran T 51 [dsl B inc n cap ex, .int .i64 (a : Int), .int .i64 (b : Int)] s fun v s' => v = .tuple [] ∧ ∃ g, Aft en s B inc n g s' ∧ PermR a b f g ∧ Srt lt a b g := by
  refine ran_code hc (Nat.le_of_ble_eq_true rfl) ?_
  have hw : wrapF .i64 ((a : Int) + 1) = ((a + 1 : Nat) : Int) := i64_add1 (by omega)
  generalize hQ : Fin _ _ = Q
  simp only [ir51, hw, wk, wk1, wk2, Option.some.injEq, exists_eq_left', decide_true, decide_false, seval, go_regionPw, pw_normal]
  refine ins_outer (cap := cap) (ex := ex) hL ho hB hn a b hbn f ?_ (b - (a + 1)) (a + 1) _ s f rfl (by omega) (by omega) ?_ ?_ ?_ ?_ hA (fun i j x y z => by omega) (PermR.refl _ _ _)
  · intro e s' g hA hS hP
    subst hQ
    simp only [ir51, wk, wk1, wk2, Option.some.injEq, exists_eq_left', decide_true, decide_false, seval, go_regionPw, pw_normal]
    exact ⟨g, hA, hP, hS⟩
  all_goals simp only [wk, wk1, Nat.reduceEqDiff, reduceIte, decide_true]
end
end Go.V
/- slices.reverseRangeOrdered, siftDownOrdered, heapSortOrdered over the small language. -/
namespace Go.V
open Go
set_option linter.unusedSimpArgs false
set_option linter.unusedVariables false
section
open Z
abbrev pdqRl0 : ICode := .loop (q (q (R [(m 11 6),(m 12 7),(o 13 (.bin .lss t11 t12))]) (.cond t13 .skip (.exit 0))) (.block 1 (q (.region [(m 14 0),(m 15 6),(m 16 0),(m 17 7),(m 18 0),(m 19 7),(ix 20 1 18 19),(l 21 1 20),(m 22 0),(m 23 6),(ix 24 1 22 23),(l 25 1 24),(ix 26 1 14 15),(st 1 26 21),(ix 27 1 16 17),(st 1 27 25)] true) (q (R [(m 28 6),(o 29 (.bin .add t28 (I 1))),(m 6 29)]) (R [(m 30 7),(o 31 (.bin .sub t30 (I 1))),(m 7 31)])))))
abbrev pdqRl1 : ICode := .loop (.block 1 (q (R [(m 11 8),(o 12 (.bin .mul (I 2) t11)),(o 13 (.bin .add t12 (I 1))),(m 9 13)]) (q (q (R [(m 14 9),(m 15 2),(o 16 (.bin .geq t14 t15))]) (.cond t16 (.exit 0) .skip)) (q (q (.regionP [(m 17 9),(o 18 (.bin .add t17 (I 1))),(m 19 2),(o 20 (.bin .lss t18 t19)),(m 21 20),(og 22 21 true (.move t0)),(og 23 21 true (.move t3)),(og 24 21 true (.move t9)),(og 25 21 true (.bin .add t23 t24)),(og 26 21 true (.idxSl 1 t22 t25)),(og 27 21 true (.load false 1 t26)),(og 28 21 true (.move t0)),(og 29 21 true (.move t3)),(og 30 21 true (.move t9)),(og 31 21 true (.bin .add t29 t30)),(og 32 21 true (.bin .add t31 (I 1))),(og 33 21 true (.idxSl 1 t28 t32)),(og 34 21 true (.load false 1 t33)),(og 35 21 true (.call 57 [t27,t34])),(o 36 (.pick t21 t35 F))]) (.cond t36 (R [(m 37 9),(o 38 (.bin .add t37 (I 1))),(m 9 38)]) .skip)) (q (q (.regionP [(m 39 0),(m 40 3),(m 41 8),(o 42 (.bin .add t40 t41)),(ix 43 1 39 42),(l 44 1 43),(m 45 0),(m 46 3),(m 47 9),(o 48 (.bin .add t46 t47)),(ix 49 1 45 48),(l 50 1 49),(o 51 (.call 57 [t44,t50])),(o 52 (.un .not t51))]) (.cond t52 .ret .skip)) (q (.region [(m 53 0),(m 54 3),(m 55 8),(o 56 (.bin .add t54 t55)),(m 57 0),(m 58 3),(m 59 9),(o 60 (.bin .add t58 t59)),(m 61 0),(m 62 3),(m 63 9),(o 64 (.bin .add t62 t63)),(ix 65 1 61 64),(l 66 1 65),(m 67 0),(m 68 3),(m 69 8),(o 70 (.bin .add t68 t69)),(ix 71 1 67 70),(l 72 1 71),(ix 73 1 53 56),(st 1 73 66),(ix 74 1 57 60),(st 1 74 72)] true) (R [(m 75 9),(m 8 75)])))))))
end
open Z in def ir55 : IFunc := ⟨32,[],(q (R [(m 8 1),(m 6 8)]) (q (R [(m 9 2),(o 10 (.bin .sub t9 (I 1))),(m 7 10)]) (.block 0 pdqRl0)))⟩
open Z in def ir94 : IFunc := ⟨76,[],(q (R [(m 10 1),(m 8 10)]) (.block 0 pdqRl1))⟩
open Z in def ir52 : IFunc := ⟨56,[],(q (R [(m 11 1),(m 6 11)]) (q (R [(mi 7 0)]) (q (R [(m 12 2),(m 13 1),(o 14 (.bin .sub t12 t13)),(m 8 14)]) (q (q (R [(m 15 8),(o 16 (.bin .sub t15 (I 1))),(o 17 (.bin .quo t16 (I 2))),(m 9 17)]) (.block 0 (.loop (q (q (R [(m 18 9),(o 19 (.bin .geq t18 (I 0)))]) (.cond t19 .skip (.exit 0))) (q (.block 1 (R [(m 22 0),(m 23 9),(m 24 8),(m 25 6),(o 26 (.call 94 [t22,t23,t24,t25]))])) (R [(m 20 9),(o 21 (.bin .sub t20 (I 1))),(m 9 21)])))))) (q (R [(m 27 8),(o 28 (.bin .sub t27 (I 1))),(m 10 28)]) (.block 2 (.loop (q (q (R [(m 29 10),(o 30 (.bin .geq t29 (I 0)))]) (.cond t30 .skip (.exit 2))) (q (.block 3 (q (.region [(m 33 0),(m 34 6),(m 35 0),(m 36 6),(m 37 10),(o 38 (.bin .add t36 t37)),(m 39 0),(m 40 6),(m 41 10),(o 42 (.bin .add t40 t41)),(ix 43 1 39 42),(l 44 1 43),(m 45 0),(m 46 6),(ix 47 1 45 46),(l 48 1 47),(ix 49 1 33 34),(st 1 49 44),(ix 50 1 35 38),(st 1 50 48)] true) (R [(m 51 0),(m 52 7),(m 53 10),(m 54 6),(o 55 (.call 94 [t51,t52,t53,t54]))]))) (R [(m 31 10),(o 32 (.bin .sub t31 (I 1))),(m 10 32)]))))))))))⟩
section
variable {α : Type} {en : α → AV} {lt : α → α → Bool} {T : Tab}
set_option maxHeartbeats 4000000 in
theorem rev_loop (hL : LessOk T 57 en lt) {Q : Post} {s0 : St} {B inc n cap : Nat} {ex : Bool} (hB : B < s0.next) (hn : n ≤ 1000000000) (a b : Nat) (hbn : b ≤ n) (f0 : Nat → α)
    (K : ∀ (e : Env) (s : St) (g : Nat → α), Aft en s0 B inc n g s → PermR a b f0 g → Q .normal e s) :
    ∀ (k i j : Nat) (e : Env) (s : St) (g : Nat → α), k = b - i → a ≤ i → j < b → a ≤ j → opd e (.t 0) = dsl B inc n cap ex → opd e (.t 6) = .int .i64 (i : Int) → opd e (.t 7) = .int .i64 (j : Int) → Aft en s0 B inc n g s → PermR a b f0 g →
      Go T Q (pdqRl0) [.block 0] e s := by
  have kc := hL.cells
  have ki := hL.cell
  intro k
  induction k with
  | zero =>
    intro i j e s g hk hai hjb haj h0 h6 h7 hA hP
    have hc : ¬ ((i : Int) < (j : Int)) := by omega
    have hK := fun e => K e s g hA hP
    rw [go_loop]
    simp only [h0, h6, h7, hc, hK, wk, wk1, wk2, Option.some.injEq, exists_eq_left', decide_true, decide_false, seval, go_regionPw, pw_normal]
  | succ k ih =>
    intro i j e s g hk hai hjb haj h0 h6 h7 hA hP
    by_cases hij : i < j
    · have hc : ((i : Int) < (j : Int)) := by omega
      have hw : wrapF .i64 ((i : Int) + 1) = ((i + 1 : Nat) : Int) := i64_add1 (by omega)
      have hwj : wrapF .i64 ((j : Int) - 1) = ((j - 1 : Nat) : Int) := i64_sub1 (by omega) (by omega)
      have hin : i < n := by omega
      have hjn : j < n := by omega
      have hi1 : i + 1 ≤ n := by omega
      have hj1 : j + 1 ≤ n := by omega
      obtain ⟨lo, hlo, hrow⟩ := hA.row
      have m1 := mp_take (en := en) (f := g) hin
      have m2 := mp_take (en := en) (f := g) hjn
      have sp1 := fun x => mp_splice (en := en) (f := g) (x := x) hin
      have sp2 := fun f x => mp_splice (en := en) (f := f) (x := x) hjn
      have hA' := hA.put hB (swp g i j)
      have hP' := hP.trans (PermR.swap (f := g) (i := i) (j := j) (a := a) (b := b) (by omega) (by omega) (by omega) (by omega))
      rw [go_loop]
      simp only [h0, h6, h7, hc, hw, hwj, hin, hjn, hi1, hj1, hrow, hlo, m1, m2, kc, ki, sp1, sp2, upd_swp, wk, wk1, wk2, Option.some.injEq, exists_eq_left', decide_true, decide_false, seval, go_regionPw, pw_normal]
      refine ih (i + 1) (j - 1) _ _ _ (by omega) (by omega) (by omega) (by omega) ?_ ?_ ?_ hA' hP' <;> simp only [h0, h6, h7, hw, hwj, wk, wk1, wk2, Option.some.injEq, exists_eq_left', decide_true, decide_false, seval, go_regionPw, pw_normal]
    · have hc : ¬ ((i : Int) < (j : Int)) := by omega
      have hK := fun e => K e s g hA hP
      rw [go_loop]
      simp only [h0, h6, h7, hc, hK, wk, wk1, wk2, Option.some.injEq, exists_eq_left', decide_true, decide_false, seval, go_regionPw, pw_normal]

theorem rev_ran (hc : T 55 = some (.code ir55)) (hL : LessOk T 57 en lt) (s : St) (B inc n cap : Nat) (ex : Bool) (hB : B < s.next) (hn : n ≤ 1000000000) (a b : Nat) (hab : a < b) (hbn : b ≤ n) (f : Nat → α) (hA : Aft en s B inc n f s) :
    Ran T 55 [dsl B inc n cap ex, .int .i64 (a : Int), .int .i64 (b : Int)] s fun v s' => v = .tuple [] ∧ ∃ g, Aft en s B inc n g s' ∧ PermR a b f g := by
  refine ran_code hc (Nat.le_of_ble_eq_true rfl) ?_
  have hw : wrapF .i64 ((b : Int) - 1) = ((b - 1 : Nat) : Int) := i64_sub1 (by omega) (by omega)
  generalize hQ : Fin _ _ = Q
  simp only [ir55, hw, wk, wk1, wk2, Option.some.injEq, exists_eq_left', decide_true, decide_false, seval, go_regionPw, pw_normal]
  refine rev_loop (cap := cap) (ex := ex) hL hB hn a b hbn f ?_ (b - a) a (b - 1) _ s f rfl (by omega) (by omega) (by omega) ?_ ?_ ?_ hA (PermR.refl _ _ _)
  · intro e s' g hA hP
    subst hQ
    simp only [ir55, wk, wk1, wk2, Option.some.injEq, exists_eq_left', decide_true, decide_false, seval, go_regionPw, pw_normal]
    exact ⟨g, hA, hP⟩
  all_goals simp only [wk, wk1, wk2, Option.some.injEq, exists_eq_left', decide_true, decide_false, seval, go_regionPw, pw_normal]

/- the heap -/
def Heap (lt : α → α → Bool) (o lo hi : Nat) (f : Nat → α) : Prop := ∀ c, 1 ≤ c → c < hi → lo ≤ (c - 1) / 2 → Le lt (f (o + c)) (f (o + (c - 1) / 2))
structure HeapInv (lt : α → α → Bool) (o lo hi r : Nat) (f : Nat → α) : Prop where
  one : ∀ c, 1 ≤ c → c < hi → lo ≤ (c - 1) / 2 → (c - 1) / 2 ≠ r → Le lt (f (o + c)) (f (o + (c - 1) / 2))
  two : ∀ c, 1 ≤ c → c < hi → (c - 1) / 2 = r → 1 ≤ r → lo ≤ (r - 1) / 2 → Le lt (f (o + c)) (f (o + (r - 1) / 2))

theorem HeapInv.done {o lo hi r : Nat} {f : Nat → α} (h : HeapInv lt o lo hi r f) (hr : ∀ c, 1 ≤ c → c < hi → (c - 1) / 2 = r → Le lt (f (o + c)) (f (o + r))) : Heap lt o lo hi f := by
  intro c h1 h2 h3
  by_cases hc : (c - 1) / 2 = r
  · rw [hc]; exact hr c h1 h2 hc
  · exact h.one c h1 h2 h3 hc
theorem HeapInv.step (ho : Ord lt) {o lo hi r c : Nat} {f : Nat → α} (h : HeapInv lt o lo hi r f) (hlr : lo ≤ r) (hc : c = 2 * r + 1 ∨ c = 2 * r + 2) (hch : c < hi) (hl : lt (f (o + r)) (f (o + c)) = true)
    (hsib : ∀ d, 1 ≤ d → d < hi → (d - 1) / 2 = r → Le lt (f (o + d)) (f (o + c))) : HeapInv lt o lo hi c (swp f (o + r) (o + c)) := by
  have hrc : r < c := by omega
  have hpc : (c - 1) / 2 = r := by omega
  constructor
  · intro d h1 h2 h3 h4
    unfold swp
    by_cases e1 : (d - 1) / 2 = r
    · rw [e1, if_neg (by omega : ¬ o + d = o + r), if_pos rfl]
      by_cases e2 : d = c
      · subst e2; rw [if_pos rfl]; exact ho.le hl
      · rw [if_neg (by omega)]; exact hsib d h1 h2 e1
    · rw [if_neg (by omega : ¬ o + (d - 1) / 2 = o + r), if_neg (by omega : ¬ o + (d - 1) / 2 = o + c)]
      by_cases e2 : d = r
      · subst e2; rw [if_pos rfl]; exact h.two c (by omega) hch hpc h1 h3
      · rw [if_neg (by omega), if_neg (by omega)]; exact h.one d h1 h2 h3 e1
  · intro d h1 h2 h3 h4 h5
    unfold swp
    rw [hpc, if_pos rfl, if_neg (by omega), if_neg (by omega)]
    have := h.one d h1 h2 (by omega) (by omega)
    rw [h3] at this
    exact this
theorem Heap.inv {o lo hi : Nat} {f : Nat → α} (h : Heap lt o (lo + 1) hi f) : HeapInv lt o lo hi lo f :=
  ⟨fun c h1 h2 h3 h4 => h c h1 h2 (by omega), fun c _ _ _ h4 h5 => by omega⟩
theorem Heap.top (ho : Ord lt) {o hi : Nat} {f : Nat → α} (h : Heap lt o 0 hi f) : ∀ c, c < hi → Le lt (f (o + c)) (f o) := by
  intro c
  induction c using Nat.strongRecOn with
  | _ c ih =>
    intro hc
    by_cases h0 : c = 0
    · subst h0; exact ho.refl _
    · exact ho.trans _ _ _ (h c (by omega) hc (Nat.zero_le _)) (ih ((c - 1) / 2) (by omega) (by omega))

theorem op (n : Nat) : ∃ m, m = n := ⟨n, rfl⟩
set_option maxHeartbeats 8000000 in
theorem sift_loop (hL : LessOk T 57 en lt) (ho : Ord lt) {Q : Post} {s0 : St} {B inc n cap : Nat} {ex : Bool} (hB : B < s0.next) (hn : n ≤ 1000000000) (o lo hi b : Nat) (hob : o + hi ≤ b) (hbn : b ≤ n) (f0 : Nat → α)
    (K : ∀ (e : Env) (s : St) (g : Nat → α), Aft en s0 B inc n g s → Heap lt o lo hi g → PermR o b f0 g → Q .normal e s ∧ Q .ret e s) :
    ∀ (k r : Nat) (e : Env) (s : St) (g : Nat → α), k = hi - r → lo ≤ r → r < hi ∨ r ≤ n → opd e (.t 0) = dsl B inc n cap ex → opd e (.t 2) = .int .i64 (hi : Int) → opd e (.t 3) = .int .i64 (o : Int) → opd e (.t 8) = .int .i64 (r : Int) → Aft en s0 B inc n g s → HeapInv lt o lo hi r g → PermR o b f0 g →
      Go T Q (pdqRl1) [.block 0] e s := by
  have kl := hL.call
  have kc := hL.cells
  have ki := hL.cell
  intro k
  induction k using Nat.strongRecOn with
  | _ k ih =>
    intro r e s g hk hlr hrn h0 h2 h3 h8 hA hI hP
    obtain ⟨m, hm⟩ := op (2 * r)
    obtain ⟨c, hc⟩ := op (m + 1)
    have u1 : wrapF .i64 (2 * (r : Int)) = (m : Int) := by rw [wrap_i64 _ (by omega) (by omega)]; omega
    have u2 : wrapF .i64 ((m : Int) + 1) = (c : Int) := by rw [wrap_i64 _ (by omega) (by omega)]; omega
    rw [go_loop]
    by_cases hch : c < hi
    · have l1 : ¬ ((hi : Int) ≤ (c : Int)) := by omega
      obtain ⟨d, hd⟩ := op (c + 1)
      obtain ⟨p, hp⟩ := op (o + c)
      obtain ⟨q, hq⟩ := op (o + d)
      obtain ⟨x, hx⟩ := op (o + r)
      have u3 : wrapF .i64 ((c : Int) + 1) = (d : Int) := by rw [wrap_i64 _ (by omega) (by omega)]; omega
      have u4 : wrapF .i64 ((o : Int) + (c : Int)) = (p : Int) := by rw [wrap_i64 _ (by omega) (by omega)]; omega
      have u5 : wrapF .i64 ((o : Int) + (d : Int)) = (q : Int) := by rw [wrap_i64 _ (by omega) (by omega)]; omega
      have u6 : wrapF .i64 ((p : Int) + 1) = (q : Int) := by rw [wrap_i64 _ (by omega) (by omega)]; omega
      have u7 : wrapF .i64 ((o : Int) + (r : Int)) = (x : Int) := by rw [wrap_i64 _ (by omega) (by omega)]; omega
      have hpn : p < n := by omega
      have hxn : x < n := by omega
      have hp1 : p + 1 ≤ n := by omega
      have hx1 : x + 1 ≤ n := by omega
      obtain ⟨lo', hlo, hrow⟩ := hA.row
      have m1 := mp_take (en := en) (f := g) hpn
      have m2 := mp_take (en := en) (f := g) hxn
      have sp1 := fun f x => mp_splice (en := en) (f := f) (x := x) hpn
      have sp2 := fun f x => mp_splice (en := en) (f := f) (x := x) hxn
      by_cases hdh : d < hi
      · have l2 : ((d : Int) < (hi : Int)) := by omega
        have hqn : q < n := by omega
        have hq1 : q + 1 ≤ n := by omega
        have m3 := mp_take (en := en) (f := g) hqn
        have sp3 := fun f x => mp_splice (en := en) (f := f) (x := x) hqn
        cases hlt : lt (g p) (g q) with
        | true =>
          -- the second child
          have hsib : ∀ y, 1 ≤ y → y < hi → (y - 1) / 2 = r → Le lt (g (o + y)) (g (o + d)) := by
            intro y y1 y2 y3
            rw [← hq]
            by_cases e1 : y = d
            · subst e1; rw [← hq]; exact ho.refl _
            · have e2 : y = c := by omega
              subst e2; rw [← hp]; exact ho.le hlt
          cases hl2 : lt (g x) (g q) with
          | false =>
            have hK := fun e => (K e s g hA (hI.done fun y y1 y2 y3 => ho.trans _ _ _ (hsib y y1 y2 y3) (by rw [← hq, ← hx]; exact hl2)) hP).2
            simp only [h0, h2, h3, h8, u1, u2, u3, u4, u5, u6, u7, l1, l2, hpn, hxn, hqn, hp1, hx1, hq1, hrow, hlo, m1, m2, m3, kl, hlt, hl2, hK, wk, wk1, wk2, Option.some.injEq, exists_eq_left', decide_true, decide_false, seval, go_regionPw, pw_normal]
          | true =>
            have hA' := hA.put hB (swp g x q)
            have hI' : HeapInv lt o lo hi d (swp g x q) := by
              have := hI.step ho hlr (c := d) (by omega) hdh (by rw [← hx, ← hq]; exact hl2) hsib
              rwa [← hx, ← hq] at this
            have hP' := hP.trans (PermR.swap (f := g) (i := x) (j := q) (a := o) (b := b) (by omega) (by omega) (by omega) (by omega))
            simp only [h0, h2, h3, h8, u1, u2, u3, u4, u5, u6, u7, l1, l2, hpn, hxn, hqn, hp1, hx1, hq1, hrow, hlo, m1, m2, m3, kl, kc, ki, sp1, sp2, sp3, upd_swp, hlt, hl2, wk, wk1, wk2, Option.some.injEq, exists_eq_left', decide_true, decide_false, seval, go_regionPw, pw_normal]
            refine ih (hi - d) (by omega) d _ _ _ rfl (by omega) (by omega) ?_ ?_ ?_ ?_ hA' hI' hP' <;> simp only [h0, h2, h3, h8, u1, u2, u3, u4, u5, u6, u7, wk, wk1, wk2, Option.some.injEq, exists_eq_left', decide_true, decide_false, seval, go_regionPw, pw_normal]
        | false =>
          have hsib : ∀ y, 1 ≤ y → y < hi → (y - 1) / 2 = r → Le lt (g (o + y)) (g (o + c)) := by
            intro y y1 y2 y3
            rw [← hp]
            by_cases e1 : y = c
            · subst e1; rw [← hp]; exact ho.refl _
            · have e2 : y = d := by omega
              subst e2; rw [← hq]; exact hlt
          cases hl2 : lt (g x) (g p) with
          | false =>
            have hK := fun e => (K e s g hA (hI.done fun y y1 y2 y3 => ho.trans _ _ _ (hsib y y1 y2 y3) (by rw [← hp, ← hx]; exact hl2)) hP).2
            simp only [h0, h2, h3, h8, u1, u2, u3, u4, u5, u6, u7, l1, l2, hpn, hxn, hqn, hp1, hx1, hq1, hrow, hlo, m1, m2, m3, kl, hlt, hl2, hK, wk, wk1, wk2, Option.some.injEq, exists_eq_left', decide_true, decide_false, seval, go_regionPw, pw_normal]
          | true =>
            have hA' := hA.put hB (swp g x p)
            have hI' : HeapInv lt o lo hi c (swp g x p) := by
              have := hI.step ho hlr (c := c) (by omega) hch (by rw [← hx, ← hp]; exact hl2) hsib
              rwa [← hx, ← hp] at this
            have hP' := hP.trans (PermR.swap (f := g) (i := x) (j := p) (a := o) (b := b) (by omega) (by omega) (by omega) (by omega))
            simp only [h0, h2, h3, h8, u1, u2, u3, u4, u5, u6, u7, l1, l2, hpn, hxn, hqn, hp1, hx1, hq1, hrow, hlo, m1, m2, m3, kl, kc, ki, sp1, sp2, sp3, upd_swp, hlt, hl2, wk, wk1, wk2, Option.some.injEq, exists_eq_left', decide_true, decide_false, seval, go_regionPw, pw_normal]
            refine ih (hi - c) (by omega) c _ _ _ rfl (by omega) (by omega) ?_ ?_ ?_ ?_ hA' hI' hP' <;> simp only [h0, h2, h3, h8, u1, u2, u3, u4, u5, u6, u7, wk, wk1, wk2, Option.some.injEq, exists_eq_left', decide_true, decide_false, seval, go_regionPw, pw_normal]
      · have l2 : ¬ ((d : Int) < (hi : Int)) := by omega
        have hsib : ∀ y, 1 ≤ y → y < hi → (y - 1) / 2 = r → Le lt (g (o + y)) (g (o + c)) := by
          intro y y1 y2 y3
          have e2 : y = c := by omega
          subst e2; exact ho.refl _
        cases hl2 : lt (g x) (g p) with
        | false =>
          have hK := fun e => (K e s g hA (hI.done fun y y1 y2 y3 => ho.trans _ _ _ (hsib y y1 y2 y3) (by rw [← hp, ← hx]; exact hl2)) hP).2
          simp only [h0, h2, h3, h8, u1, u2, u3, u4, u5, u6, u7, l1, l2, hpn, hxn, hp1, hx1, hrow, hlo, m1, m2, kl, hl2, hK, wk, wk1, wk2, Option.some.injEq, exists_eq_left', decide_true, decide_false, seval, go_regionPw, pw_normal]
        | true =>
          have hA' := hA.put hB (swp g x p)
          have hI' : HeapInv lt o lo hi c (swp g x p) := by
            have := hI.step ho hlr (c := c) (by omega) hch (by rw [← hx, ← hp]; exact hl2) hsib
            rwa [← hx, ← hp] at this
          have hP' := hP.trans (PermR.swap (f := g) (i := x) (j := p) (a := o) (b := b) (by omega) (by omega) (by omega) (by omega))
          simp only [h0, h2, h3, h8, u1, u2, u3, u4, u5, u6, u7, l1, l2, hpn, hxn, hp1, hx1, hrow, hlo, m1, m2, kl, kc, ki, sp1, sp2, upd_swp, hl2, wk, wk1, wk2, Option.some.injEq, exists_eq_left', decide_true, decide_false, seval, go_regionPw, pw_normal]
          refine ih (hi - c) (by omega) c _ _ _ rfl (by omega) (by omega) ?_ ?_ ?_ ?_ hA' hI' hP' <;> simp only [h0, h2, h3, h8, u1, u2, u3, u4, u5, u6, u7, wk, wk1, wk2, Option.some.injEq, exists_eq_left', decide_true, decide_false, seval, go_regionPw, pw_normal]
    · have l1 : ((hi : Int) ≤ (c : Int)) := by omega
      have hK := fun e => (K e s g hA (hI.done fun y y1 y2 y3 => by omega) hP).1
      simp only [h0, h2, h3, h8, u1, u2, l1, hK, wk, wk1, wk2, Option.some.injEq, exists_eq_left', decide_true, decide_false, seval, go_regionPw, pw_normal]

theorem sift_ran (hc : T 94 = some (.code ir94)) (hL : LessOk T 57 en lt) (ho : Ord lt) (s : St) (B inc n cap : Nat) (ex : Bool) (hB : B < s.next) (hn : n ≤ 1000000000) (o lo hi b : Nat) (hob : o + hi ≤ b) (hbn : b ≤ n) (hlo : lo ≤ n) (f : Nat → α) (hA : Aft en s B inc n f s)
    (hh : Heap lt o (lo + 1) hi f) :
    Ran T 94 [dsl B inc n cap ex, .int .i64 (lo : Int), .int .i64 (hi : Int), .int .i64 (o : Int)] s fun v s' => v = .tuple [] ∧ ∃ g, Aft en s B inc n g s' ∧ PermR o b f g ∧ Heap lt o lo hi g := by
  refine ran_code hc (Nat.le_of_ble_eq_true rfl) ?_
  generalize hQ : Fin _ _ = Q
  simp only [ir94, wk, wk1, wk2, Option.some.injEq, exists_eq_left', decide_true, decide_false, seval, go_regionPw, pw_normal]
  refine sift_loop (cap := cap) (ex := ex) hL ho hB hn o lo hi b hob hbn f ?_ (hi - lo) lo _ s f rfl (Nat.le_refl _) (.inr hlo) ?_ ?_ ?_ ?_ hA hh.inv (PermR.refl _ _ _)
  · intro e s' g hA hH hP
    subst hQ
    constructor <;> simp only [ir94, wk, wk1, wk2, Option.some.injEq, exists_eq_left', decide_true, decide_false, seval, go_regionPw, pw_normal] <;> exact ⟨g, hA, hP, hH⟩
  all_goals simp only [wk, wk1, wk2, Option.some.injEq, exists_eq_left', decide_true, decide_false, seval, go_regionPw, pw_normal]
end
end Go.V
/- slices.heapSortOrdered over the small language. -/
namespace Go.V
open Go
set_option linter.unusedSimpArgs false
set_option linter.unusedVariables false
section
open Z
abbrev pdqHl0 : ICode := .loop (q (q (R [(m 18 9),(o 19 (.bin .geq t18 (I 0)))]) (.cond t19 .skip (.exit 0))) (q (.block 1 (R [(m 22 0),(m 23 9),(m 24 8),(m 25 6),(o 26 (.call 94 [t22,t23,t24,t25]))])) (R [(m 20 9),(o 21 (.bin .sub t20 (I 1))),(m 9 21)])))
abbrev pdqHl1 : ICode := .loop (q (q (R [(m 29 10),(o 30 (.bin .geq t29 (I 0)))]) (.cond t30 .skip (.exit 2))) (q (.block 3 (q (.region [(m 33 0),(m 34 6),(m 35 0),(m 36 6),(m 37 10),(o 38 (.bin .add t36 t37)),(m 39 0),(m 40 6),(m 41 10),(o 42 (.bin .add t40 t41)),(ix 43 1 39 42),(l 44 1 43),(m 45 0),(m 46 6),(ix 47 1 45 46),(l 48 1 47),(ix 49 1 33 34),(st 1 49 44),(ix 50 1 35 38),(st 1 50 48)] true) (R [(m 51 0),(m 52 7),(m 53 10),(m 54 6),(o 55 (.call 94 [t51,t52,t53,t54]))]))) (R [(m 31 10),(o 32 (.bin .sub t31 (I 1))),(m 10 32)])))
abbrev pdqHl2 : ICode := .seq (R [(m 27 8),(o 28 (.bin .sub t27 (I 1))),(m 10 28)]) (.block 2 pdqHl1)
end
section
variable {α : Type} {en : α → AV} {lt : α → α → Bool} {T : Tab}
structure HS (lt : α → α → Bool) (a m b : Nat) (g : Nat → α) : Prop where
  heap : Heap lt a 0 m g
  srt : Srt lt (a + m) b g
  cross : ∀ p q, a ≤ p → p < a + m → a + m ≤ q → q < b → Le lt (g p) (g q)
theorem HS.swapped {a m b : Nat} {g : Nat → α} (h : HS lt a (m + 1) b g) : Heap lt a 1 m (swp g a (a + m)) := by
  intro c h1 h2 h3
  unfold swp
  rw [if_neg (by omega), if_neg (by omega), if_neg (by omega), if_neg (by omega)]
  exact h.heap c h1 (by omega) (Nat.zero_le _)
theorem HS.step (ho : Ord lt) {a m b : Nat} {g g2 : Nat → α} (h : HS lt a (m + 1) b g) (hmb : a + m < b) (hp : PermR a (a + m) (swp g a (a + m)) g2) (hh : Heap lt a 0 m g2) : HS lt a m b g2 := by
  have out : ∀ q, a + m ≤ q → g2 q = swp g a (a + m) q := fun q hq => hp.out (by omega)
  have top : g2 (a + m) = g a := by
    rw [out _ (Nat.le_refl _)]
    unfold swp
    by_cases hm : a + m = a
    · rw [if_pos hm, hm]
    · rw [if_neg hm, if_pos rfl]
  have far : ∀ q, a + m < q → g2 q = g q := fun q hq => by
    rw [out q (by omega)]
    unfold swp
    rw [if_neg (by omega), if_neg (by omega)]
  have low : ∀ p, a ≤ p → p < a + m → ∃ p', a ≤ p' ∧ p' ≤ a + m ∧ swp g a (a + m) p = g p' := by
    intro p h1 h2
    unfold swp
    by_cases e : p = a
    · exact ⟨a + m, by omega, by omega, by rw [if_pos e]⟩
    · exact ⟨p, h1, by omega, by rw [if_neg e, if_neg (by omega)]⟩
  have ltop : ∀ p', a ≤ p' → p' ≤ a + m → Le lt (g p') (g a) := by
    intro p' h1 h2
    have := h.heap.top ho (p' - a) (by omega)
    have e : a + (p' - a) = p' := by omega
    rwa [e] at this
  refine ⟨hh, ?_, ?_⟩
  · intro i j h1 h2 h3
    rw [far j (by omega)]
    by_cases e : i = a + m
    · subst e; rw [top]; exact h.cross a j (Nat.le_refl _) (by omega) (by omega) h3
    · rw [far i (by omega)]; exact h.srt i j (by omega) h2 h3
  · intro p q h1 h2 h3 h4
    refine hp.all (P := fun x => Le lt x (g2 q)) (fun i i1 i2 => ?_) p h1 h2
    obtain ⟨p', q1, q2, q3⟩ := low i i1 i2
    show Le lt (swp g a (a + m) i) (g2 q)
    rw [q3]
    by_cases e : q = a + m
    · subst e; rw [top]; exact ltop p' q1 q2
    · rw [far q (by omega)]; exact h.cross p' q q1 (by omega) (by omega) h4

set_option maxHeartbeats 8000000 in
theorem heap_loop1 (hs : T 94 = some (.code ir94)) (hL : LessOk T 57 en lt) (ho : Ord lt) {Q : Post} {s0 : St} {B inc n cap : Nat} {ex : Bool} (hB : B < s0.next) (hn : n ≤ 1000000000) (a b hi : Nat) (hhi : a + hi = b) (hbn : b ≤ n) (f0 : Nat → α)
    (K : ∀ (e : Env) (s : St) (g : Nat → α), opd e (.t 0) = dsl B inc n cap ex → opd e (.t 6) = .int .i64 (a : Int) → opd e (.t 7) = .int .i64 0 → opd e (.t 8) = .int .i64 (hi : Int) → Aft en s0 B inc n g s → Heap lt a 0 hi g → PermR a b f0 g → Ret T Q [.seq pdqHl2] .normal e s) :
    ∀ (k : Nat) (z : Int) (e : Env) (s : St) (g : Nat → α), z = (k : Int) - 1 → k ≤ n → opd e (.t 0) = dsl B inc n cap ex → opd e (.t 6) = .int .i64 (a : Int) → opd e (.t 7) = .int .i64 0 → opd e (.t 8) = .int .i64 (hi : Int) → opd e (.t 9) = .int .i64 z → Aft en s0 B inc n g s → Heap lt a k hi g → PermR a b f0 g →
      Go T Q (pdqHl0) [.block 0, .seq pdqHl2] e s := by
  intro k
  induction k with
  | zero =>
    intro z e s g hz hkn h0 h6 h7 h8 h9 hA hH hP
    have hc : ¬ (0 ≤ z) := by omega
    have hK := fun e h0 h6 h7 h8 => K e s g h0 h6 h7 h8 hA hH hP
    rw [go_loop]
    generalize ([.seq pdqHl2] : List Fr) = FF at *
    simp only [h0, h6, h7, h8, h9, hc, wk, wk1, wk2, Option.some.injEq, exists_eq_left', decide_true, decide_false, seval, go_regionPw, pw_normal]
    refine hK _ ?_ ?_ ?_ ?_ <;> simp only [h0, h6, h7, h8, wk, wk1, Nat.reduceEqDiff, reduceIte, decide_true]
  | succ k ih =>
    intro z e s g hz hkn h0 h6 h7 h8 h9 hA hH hP
    have hz2 : z = (k : Int) := by omega
    subst hz2
    have hc : (0 : Int) ≤ (k : Int) := by omega
    have u1 : wrapF .i64 ((k : Int) - 1) = (k : Int) - 1 := wrap_i64 _ (by omega) (by omega)
    rw [go_loop]
    simp only [h0, h6, h7, h8, h9, hc, u1, wk, wk1, wk2, Option.some.injEq, exists_eq_left', decide_true, decide_false, seval, go_regionPw, pw_normal]
    refine goCall_by (sift_ran hs hL ho s B inc n cap ex (Nat.lt_of_lt_of_le hB hA.next) hn a k hi b (by omega) hbn (by omega) g (Aft.refl hA.wfs hA.row) hH) ?_
    rintro v s' ⟨rfl, g2, hA2, hP2, hH2⟩
    simp only [h0, h6, h7, h8, h9, hc, u1, wk, wk1, wk2, Option.some.injEq, exists_eq_left', decide_true, decide_false, seval, go_regionPw, pw_normal]
    refine ih _ _ s' g2 rfl (by omega) ?_ ?_ ?_ ?_ ?_ (hA.trans hA2) hH2 (hP.trans hP2) <;> simp only [h0, h6, h7, h8, h9, u1, wk, wk1, Nat.reduceEqDiff, reduceIte, decide_true]

set_option maxHeartbeats 8000000 in
theorem heap_loop2 (hs : T 94 = some (.code ir94)) (hL : LessOk T 57 en lt) (ho : Ord lt) {Q : Post} {s0 : St} {B inc n cap : Nat} {ex : Bool} (hB : B < s0.next) (hn : n ≤ 1000000000) (a b : Nat) (hbn : b ≤ n) (f0 : Nat → α)
    (K : ∀ (e : Env) (s : St) (g : Nat → α), Aft en s0 B inc n g s → Srt lt a b g → PermR a b f0 g → Q .normal e s) :
    ∀ (k : Nat) (z : Int) (e : Env) (s : St) (g : Nat → α), z = (k : Int) - 1 → a + k ≤ b → opd e (.t 0) = dsl B inc n cap ex → opd e (.t 6) = .int .i64 (a : Int) → opd e (.t 7) = .int .i64 0 → opd e (.t 10) = .int .i64 z → Aft en s0 B inc n g s → HS lt a k b g → PermR a b f0 g →
      Go T Q (pdqHl1) [.block 2] e s := by
  have kc := hL.cells
  have ki := hL.cell
  intro k
  induction k with
  | zero =>
    intro z e s g hz hkn h0 h6 h7 h9 hA hH hP
    have hc : ¬ (0 ≤ z) := by omega
    have hK := fun e => K e s g hA hH.srt hP
    rw [go_loop]
    simp only [h0, h6, h7, h9, hc, hK, wk, wk1, wk2, Option.some.injEq, exists_eq_left', decide_true, decide_false, seval, go_regionPw, pw_normal]
  | succ k ih =>
    intro z e s g hz hkn h0 h6 h7 h9 hA hH hP
    have hz2 : z = (k : Int) := by omega
    subst hz2
    have hc : (0 : Int) ≤ (k : Int) := by omega
    have u1 : wrapF .i64 ((k : Int) - 1) = (k : Int) - 1 := wrap_i64 _ (by omega) (by omega)
    obtain ⟨x, hx⟩ := op (a + k)
    have u2 : wrapF .i64 ((a : Int) + (k : Int)) = (x : Int) := by rw [wrap_i64 _ (by omega) (by omega)]; omega
    have han : a < n := by omega
    have hxn : x < n := by omega
    have ha1 : a + 1 ≤ n := by omega
    have hx1 : x + 1 ≤ n := by omega
    obtain ⟨lo', hlo, hrow⟩ := hA.row
    have m1 := mp_take (en := en) (f := g) han
    have m2 := mp_take (en := en) (f := g) hxn
    have sp1 := fun f y => mp_splice (en := en) (f := f) (x := y) han
    have sp2 := fun f y => mp_splice (en := en) (f := f) (x := y) hxn
    have hA1 := hA.put hB (swp g a x)
    have hP1 := hP.trans (PermR.swap (f := g) (i := a) (j := x) (a := a) (b := b) (by omega) (by omega) (by omega) (by omega))
    have hH1 := hH.swapped
    rw [← hx] at hH1
    have hS : ∀ g2, PermR a x (swp g a x) g2 → Heap lt a 0 k g2 → HS lt a k b g2 := by
      intro g2 q1 q2
      rw [hx] at q1
      exact hH.step ho (by omega) q1 q2
    have c0 : (0 : Int) = ((0 : Nat) : Int) := rfl
    rw [go_loop]
    simp only [h0, h6, h7, h9, hc, u1, u2, han, hxn, ha1, hx1, hrow, hlo, m1, m2, kc, ki, sp1, sp2, upd_swp, wk, wk1, wk2, Option.some.injEq, exists_eq_left', decide_true, decide_false, seval, go_regionPw, pw_normal]
    have key := sift_ran hs hL ho _ B inc n cap ex (Nat.lt_of_lt_of_le hB hA1.next) hn a 0 k x (by omega) (by omega) (by omega) (swp g a x) (Aft.refl hA1.wfs hA1.row) hH1
    refine goCall_by key ?_
    rintro v s' ⟨rfl, g2, hA2, hP2, hH2⟩
    simp only [h0, h6, h7, h9, hc, u1, wk, wk1, wk2, Option.some.injEq, exists_eq_left', decide_true, decide_false, seval, go_regionPw, pw_normal]
    refine ih _ _ s' g2 rfl (by omega) ?_ ?_ ?_ ?_ (hA1.trans hA2) (hS g2 hP2 hH2) (hP1.trans (hP2.wide (Nat.le_refl _) (by omega))) <;> simp only [h0, h6, h7, h9, u1, wk, wk1, Nat.reduceEqDiff, reduceIte, decide_true]

set_option maxHeartbeats 8000000 in
theorem heap_ran (hc : T 52 = some (.code ir52)) (hs : T 94 = some (.code ir94)) (hL : LessOk T 57 en lt) (ho : Ord lt) (s : St) (B inc n cap : Nat) (ex : Bool) (hB : B < s.next) (hn : n ≤ 1000000000) (a b : Nat) (hab : a < b) (hbn : b ≤ n) (f : Nat → α) (hA : Aft en s B inc n f s) :
    Ran T 52 [dsl B inc n cap ex, .int .i64 (a : Int), .int .i64 (b : Int)] s fun v s' => v = .tuple [] ∧ ∃ g, Aft en s B inc n g s' ∧ PermR a b f g ∧ Srt lt a b g := by
  refine ran_code hc (Nat.le_of_ble_eq_true rfl) ?_
  obtain ⟨hi, hhi⟩ := op (b - a)
  have u1 : wrapF .i64 ((b : Int) - (a : Int)) = (hi : Int) := by rw [wrap_i64 _ (by omega) (by omega)]; omega
  obtain ⟨k, hk⟩ := op ((hi - 1) / 2)
  have u2 : wrapF .i64 ((hi : Int) - 1) = ((hi - 1 : Nat) : Int) := i64_sub1 (by omega) (by omega)
  have u3 : wrapF .i64 (Int.tdiv ((hi - 1 : Nat) : Int) 2) = (k : Int) := by
    have : Int.tdiv ((hi - 1 : Nat) : Int) 2 = ((hi - 1 : Nat) : Int) / 2 := Int.tdiv_eq_ediv_of_nonneg (by omega)
    rw [this, wrap_i64 _ (by omega) (by omega)]; omega
  generalize hQ : Fin _ _ = Q
  simp only [ir52, u1, u2, u3, wk, wk1, wk2, Option.some.injEq, exists_eq_left', decide_true, decide_false, seval, go_regionPw, pw_normal]
  refine heap_loop1 (cap := cap) (ex := ex) hs hL ho hB hn a b hi (by omega) hbn f ?_ (k + 1) (k : Int) _ s f (by omega) (by omega) ?_ ?_ ?_ ?_ ?_ hA (fun c c1 c2 c3 => by omega) (PermR.refl _ _ _)
  · intro e s' g h0 h6 h7 h8 hA' hH' hP'
    simp only [h0, h6, h7, h8, u2, wk, wk1, wk2, Option.some.injEq, exists_eq_left', decide_true, decide_false, seval, go_regionPw, pw_normal]
    refine heap_loop2 (cap := cap) (ex := ex) hs hL ho hB hn a b hbn f ?_ hi ((hi - 1 : Nat) : Int) _ s' g (by omega) (by omega) ?_ ?_ ?_ ?_ hA' ⟨hH', fun i j x y z => by omega, fun p q x y z w => by omega⟩ hP'
    · intro e s' g hA hS hP
      subst hQ
      simp only [ir52, wk, wk1, wk2, Option.some.injEq, exists_eq_left', decide_true, decide_false, seval, go_regionPw, pw_normal]
      exact ⟨g, hA, hP, hS⟩
    all_goals simp only [h0, h6, h7, h8, u2, wk, wk1, Nat.reduceEqDiff, reduceIte, decide_true]
  all_goals simp only [u1, u2, u3, wk, wk1, Nat.reduceEqDiff, reduceIte, decide_true]
end
end Go.V
/- slices.choosePivotOrdered over the small language: a place within. -/
namespace Go.V
open Go
set_option linter.unusedSimpArgs false
set_option linter.unusedVariables false
section
open Z
abbrev pdqCl1 : ICode := .region [(m 44 0),(m 45 10),(m 46 11),(m 47 12),(o 48 (.call 98 [t44,t45,t46,t47,t9])),(m 11 48)] false
abbrev pdqCl0 : ICode := .seq (R [(l 49 1 9)]) (.block 0 (q (R [(o 52 (.bin .eql t49 (I 0))),(m 51 52)]) (.cond t51 (q (R [(m 53 11),(m 6 53),(mi 7 1)]) .ret) (q (R [(o 55 (.bin .eql t49 (I 12))),(m 54 55)]) (.cond t54 (q (R [(m 56 11),(m 6 56),(mi 7 2)]) .ret) (q (R [(m 50 11),(m 6 50),(mi 7 0)]) .ret))))))
end
open Z in def ir138 : IFunc := ⟨28,[.tmp 8,.tmp 9],(q (R [(mi 8 0),(mi 9 0)]) (q (q (.regionP [(m 10 0),(m 11 2),(ix 12 1 10 11),(l 13 1 12),(m 14 0),(m 15 1),(ix 16 1 14 15),(l 17 1 16),(o 18 (.call 57 [t13,t17]))]) (.cond t18 (q (R [(m 19 3),(k 20 19),(l 21 1 20),(o 22 (.bin .add t21 (I 1))),(k 23 19),(st 1 23 22)]) (q (R [(m 24 2),(m 25 1),(m 8 24),(m 9 25)]) .ret)) .skip)) (q (R [(m 26 1),(m 27 2),(m 8 26),(m 9 27)]) .ret)))⟩
open Z in def ir98 : IFunc := ⟨36,[.tmp 10],(q (R [(mi 10 0)]) (q (R [(m 12 0),(m 13 1),(m 14 2),(m 15 4),(o 16 (.call 138 [t12,t13,t14,t15])),(m 11 16),(x 17 11 0),(x 18 11 1),(m 1 17),(m 2 18)]) (q (R [(m 20 0),(m 21 2),(m 22 3),(m 23 4),(o 24 (.call 138 [t20,t21,t22,t23])),(m 19 24),(x 25 19 0),(x 26 19 1),(m 2 25),(m 3 26)]) (q (R [(m 28 0),(m 29 1),(m 30 2),(m 31 4),(o 32 (.call 138 [t28,t29,t30,t31])),(m 27 32),(x 33 27 0),(x 34 27 1),(m 1 33),(m 2 34)]) (q (R [(m 35 2),(m 10 35)]) .ret)))))⟩
open Z in def ir97 : IFunc := ⟨15,[.tmp 6],(q (R [(mi 6 0)]) (q (R [(m 7 0),(m 8 1),(o 9 (.bin .sub t8 (I 1))),(m 10 1),(m 11 1),(o 12 (.bin .add t11 (I 1))),(m 13 2),(o 14 (.call 98 [t7,t9,t10,t12,t13])),(m 6 14)]) .ret))⟩
open Z in def ir54 : IFunc := ⟨57,[.tmp 6,.tmp 7],(q (R [(mi 6 0),(mi 7 0)]) (q (R [(m 13 2),(m 14 1),(o 15 (.bin .sub t13 t14)),(m 8 15)]) (q (R [(o 9 (.alloc [(i 0)]))]) (q (R [(m 16 1),(m 17 8),(o 18 (.bin .quo t17 (I 4))),(o 19 (.bin .mul t18 (I 1))),(o 20 (.bin .add t16 t19)),(m 10 20)]) (q (R [(m 21 1),(m 22 8),(o 23 (.bin .quo t22 (I 4))),(o 24 (.bin .mul t23 (I 2))),(o 25 (.bin .add t21 t24)),(m 11 25)]) (q (R [(m 26 1),(m 27 8),(o 28 (.bin .quo t27 (I 4))),(o 29 (.bin .mul t28 (I 3))),(o 30 (.bin .add t26 t29)),(m 12 30)]) (q (q (R [(m 31 8),(o 32 (.bin .geq t31 (I 8)))]) (.cond t32 (q (q (R [(m 33 8),(o 34 (.bin .geq t33 (I 50)))]) (.cond t34 (q (R [(m 35 0),(m 36 10),(o 37 (.call 97 [t35,t36,t9])),(m 10 37)]) (q (R [(m 38 0),(m 39 11),(o 40 (.call 97 [t38,t39,t9])),(m 11 40)]) (R [(m 41 0),(m 42 12),(o 43 (.call 97 [t41,t42,t9])),(m 12 43)]))) .skip)) pdqCl1) .skip)) pdqCl0)))))))⟩
section
variable {α : Type} {en : α → AV} {lt : α → α → Bool} {T : Tab}
/-- A counter of the call's own. -/
structure Bx (en : α → AV) (s0 : St) (B inc n : Nat) (f : Nat → α) (p : Nat) (s : St) : Prop where
  aft : Aft en s0 B inc n f s
  old : s0.next ≤ p
  lt : p < s.next
  box : ∃ z, s.heap.get p = some (.cells [.int .i64 z] 0 0 false)
theorem Bx.put {s0 s : St} {B inc n : Nat} {f : Nat → α} {p : Nat} (h : Bx en s0 B inc n f p s) (hB : B < s0.next) (z : Int) : Bx en s0 B inc n f p (s.put p (.cells [.int .i64 z] 0 0 false)) := by
  have := h.old
  obtain ⟨lo, h1, h2⟩ := h.aft.row
  refine ⟨⟨⟨lo, h1, by rw [put_get, if_neg (by omega)]; exact h2⟩, h.aft.wfs.put h.lt _, h.aft.next, fun id i1 i2 => by rw [put_get, if_neg (by omega)]; exact h.aft.same id i1 i2⟩, h.old, h.lt, ⟨z, by rw [put_get, if_pos rfl]⟩⟩

abbrev bxp (p : Nat) : AV := .ptr ⟨p, 0, 0, 1⟩
set_option maxHeartbeats 8000000 in
theorem order2_ran (hc : T 138 = some (.code ir138)) (hL : LessOk T 57 en lt) (s0 s : St) (B inc n cap : Nat) (ex : Bool) (hB : B < s0.next) (f : Nat → α) (p : Nat) (hX : Bx en s0 B inc n f p s) (i j : Nat) (hi : i < n) (hj : j < n) :
    Ran T 138 [dsl B inc n cap ex, .int .i64 (i : Int), .int .i64 (j : Int), bxp p] s fun v s' => Bx en s0 B inc n f p s' ∧ ∃ i' j' : Nat, v = .tuple [.int .i64 (i' : Int), .int .i64 (j' : Int)] ∧ ((i' = i ∧ j' = j) ∨ (i' = j ∧ j' = i)) := by
  refine ran_code hc (Nat.le_of_ble_eq_true rfl) ?_
  have kl := hL.call
  have hi1 : i + 1 ≤ n := hi
  have hj1 : j + 1 ≤ n := hj
  obtain ⟨lo', hlo, hrow⟩ := hX.aft.row
  obtain ⟨z, hz⟩ := hX.box
  have m1 := mp_take (en := en) (f := f) hi
  have m2 := mp_take (en := en) (f := f) hj
  generalize hQ : Fin _ _ = Q
  cases hl : lt (f j) (f i) with
  | true =>
    simp only [ir138, hi, hj, hi1, hj1, hrow, hlo, m1, m2, kl, hl, hz, wk, wk1, wk2, Option.some.injEq, exists_eq_left', decide_true, decide_false, seval, go_regionPw, pw_normal]
    subst hQ
    simp only [ir138, wk, wk1, wk2, Option.some.injEq, exists_eq_left', decide_true, decide_false, seval, go_regionPw, pw_normal]
    exact ⟨hX.put hB _, j, i, rfl, .inr ⟨rfl, rfl⟩⟩
  | false =>
    simp only [ir138, hi, hj, hi1, hj1, hrow, hlo, m1, m2, kl, hl, hz, wk, wk1, wk2, Option.some.injEq, exists_eq_left', decide_true, decide_false, seval, go_regionPw, pw_normal]
    subst hQ
    simp only [ir138, wk, wk1, wk2, Option.some.injEq, exists_eq_left', decide_true, decide_false, seval, go_regionPw, pw_normal]
    exact ⟨hX, i, j, rfl, .inl ⟨rfl, rfl⟩⟩
set_option maxHeartbeats 8000000 in
theorem median_ran (hc : T 98 = some (.code ir98)) (h2 : T 138 = some (.code ir138)) (hL : LessOk T 57 en lt) (s0 s : St) (B inc n cap : Nat) (ex : Bool) (hB : B < s0.next) (f : Nat → α) (p : Nat) (hX : Bx en s0 B inc n f p s) (i j k : Nat) (hi : i < n) (hj : j < n) (hk : k < n) :
    Ran T 98 [dsl B inc n cap ex, .int .i64 (i : Int), .int .i64 (j : Int), .int .i64 (k : Int), bxp p] s fun v s' => Bx en s0 B inc n f p s' ∧ ∃ r : Nat, v = .int .i64 (r : Int) ∧ (r = i ∨ r = j ∨ r = k) := by
  refine ran_code hc (Nat.le_of_ble_eq_true rfl) ?_
  generalize hQ : Fin _ _ = Q
  simp only [ir98, wk, wk1, wk2, Option.some.injEq, exists_eq_left', decide_true, decide_false, seval, go_regionPw, pw_normal]
  refine goCall_by (order2_ran h2 hL s0 s B inc n cap ex hB f p hX i j hi hj) ?_
  rintro v s1 ⟨hX1, i1, j1, rfl, h1⟩
  have hi1 : i1 < n := by omega
  have hj1 : j1 < n := by omega
  simp only [wk, wk1, wk2, Option.some.injEq, exists_eq_left', decide_true, decide_false, seval, go_regionPw, pw_normal]
  refine goCall_by (order2_ran h2 hL s0 s1 B inc n cap ex hB f p hX1 j1 k hj1 hk) ?_
  rintro v s2 ⟨hX2, j2, k2, rfl, h2'⟩
  have hj2 : j2 < n := by omega
  simp only [wk, wk1, wk2, Option.some.injEq, exists_eq_left', decide_true, decide_false, seval, go_regionPw, pw_normal]
  refine goCall_by (order2_ran h2 hL s0 s2 B inc n cap ex hB f p hX2 i1 j2 hi1 hj2) ?_
  rintro v s3 ⟨hX3, i3, j3, rfl, h3⟩
  subst hQ
  simp only [ir98, wk, wk1, wk2, Option.some.injEq, exists_eq_left', decide_true, decide_false, seval, go_regionPw, pw_normal]
  exact ⟨hX3, j3, rfl, by omega⟩
set_option maxHeartbeats 8000000 in
theorem medAdj_ran (hc : T 97 = some (.code ir97)) (hm : T 98 = some (.code ir98)) (h2 : T 138 = some (.code ir138)) (hL : LessOk T 57 en lt) (s0 s : St) (B inc n cap : Nat) (ex : Bool) (hB : B < s0.next) (hn : n ≤ 1000000000) (f : Nat → α) (p : Nat) (hX : Bx en s0 B inc n f p s) (i : Nat) (hi : 1 ≤ i) (hi1 : i + 1 < n) :
    Ran T 97 [dsl B inc n cap ex, .int .i64 (i : Int), bxp p] s fun v s' => Bx en s0 B inc n f p s' ∧ ∃ r : Nat, v = .int .i64 (r : Int) ∧ i ≤ r + 1 ∧ r ≤ i + 1 := by
  refine ran_code hc (Nat.le_of_ble_eq_true rfl) ?_
  have u1 : wrapF .i64 ((i : Int) - 1) = ((i - 1 : Nat) : Int) := i64_sub1 (by omega) hi
  have u2 : wrapF .i64 ((i : Int) + 1) = ((i + 1 : Nat) : Int) := i64_add1 (by omega)
  generalize hQ : Fin _ _ = Q
  simp only [ir97, u1, u2, wk, wk1, wk2, Option.some.injEq, exists_eq_left', decide_true, decide_false, seval, go_regionPw, pw_normal]
  refine goCall_by (median_ran hm h2 hL s0 s B inc n cap ex hB f p hX (i - 1) i (i + 1) (by omega) (by omega) hi1) ?_
  rintro v s1 ⟨hX1, r, rfl, hr⟩
  subst hQ
  simp only [ir97, wk, wk1, wk2, Option.some.injEq, exists_eq_left', decide_true, decide_false, seval, go_regionPw, pw_normal]
  exact ⟨hX1, r, rfl, by omega⟩

theorem Bx.new {s : St} {B inc n : Nat} {f : Nat → α} (h : Aft en s B inc n f s) (hB : B < s.next) : Bx en s B inc n f s.next (s.add (.cells [.int .i64 0] 0 0 false)) := by
  obtain ⟨lo, h1, h2⟩ := h.row
  exact ⟨⟨⟨lo, h1, by rw [add_get, if_neg (by omega)]; exact h2⟩, h.wfs.add _, by rw [add_next]; omega, fun id i1 _ => by rw [add_get, if_neg (by omega)]⟩, Nat.le_refl _, by rw [add_next]; omega, ⟨0, by rw [add_get, if_pos rfl]⟩⟩

set_option maxHeartbeats 16000000 in
theorem pivot_ran (hc : T 54 = some (.code ir54)) (ha : T 97 = some (.code ir97)) (hm : T 98 = some (.code ir98)) (h2 : T 138 = some (.code ir138)) (hL : LessOk T 57 en lt) (s : St) (B inc n cap : Nat) (ex : Bool) (hB : B < s.next) (hn : n ≤ 1000000000) (a b : Nat) (hab : a + 13 ≤ b) (hbn : b ≤ n) (f : Nat → α) (hA : Aft en s B inc n f s) :
    Ran T 54 [dsl B inc n cap ex, .int .i64 (a : Int), .int .i64 (b : Int)] s fun v s' => Aft en s B inc n f s' ∧ ∃ (r : Nat) (h : Int), v = .tuple [.int .i64 (r : Int), .int .i64 h] ∧ a ≤ r ∧ r < b := by
  refine ran_code hc (Nat.le_of_ble_eq_true rfl) ?_
  obtain ⟨l, hl⟩ := op (b - a)
  obtain ⟨q, hq⟩ := op (l / 4)
  obtain ⟨i, hi⟩ := op (a + q)
  obtain ⟨j, hj⟩ := op (a + q * 2)
  obtain ⟨k, hk⟩ := op (a + q * 3)
  have u1 : wrapF .i64 ((b : Int) - (a : Int)) = (l : Int) := by rw [wrap_i64 _ (by omega) (by omega)]; omega
  have u2 : wrapF .i64 (Int.tdiv (l : Int) 4) = (q : Int) := by
    have : Int.tdiv (l : Int) 4 = (l : Int) / 4 := Int.tdiv_eq_ediv_of_nonneg (by omega)
    rw [this, wrap_i64 _ (by omega) (by omega)]; omega
  have u3 : wrapF .i64 ((q : Int) * 1) = (q : Int) := by rw [wrap_i64 _ (by omega) (by omega)]; omega
  have u3' : wrapF .i64 ((q : Int)) = (q : Int) := by rw [wrap_i64 _ (by omega) (by omega)]
  have u4 : wrapF .i64 ((a : Int) + (q : Int)) = (i : Int) := by rw [wrap_i64 _ (by omega) (by omega)]; omega
  have u5 : wrapF .i64 ((q : Int) * 2) = ((q * 2 : Nat) : Int) := by rw [wrap_i64 _ (by omega) (by omega)]; omega
  have u6 : wrapF .i64 ((a : Int) + ((q * 2 : Nat) : Int)) = (j : Int) := by rw [wrap_i64 _ (by omega) (by omega)]; omega
  have u7 : wrapF .i64 ((q : Int) * 3) = ((q * 3 : Nat) : Int) := by rw [wrap_i64 _ (by omega) (by omega)]; omega
  have u8 : wrapF .i64 ((a : Int) + ((q * 3 : Nat) : Int)) = (k : Int) := by rw [wrap_i64 _ (by omega) (by omega)]; omega
  have l8 : (8 : Int) ≤ (l : Int) := by omega
  have hX := Bx.new hA hB
  -- the end: the counter is looked at
  generalize hQ : Fin _ _ = Q
  have fin : ∀ (e : Env) (s' : St) (r : Nat) (dst : Option Nat), a ≤ r → r < b → opd e (.t 9) = bxp s.next → opd e (.t 11) = .int .i64 (r : Int) → Bx en s B inc n f s.next s' →
      Go T Q (pdqCl0) [] e s' := by
    intro e s' r dst r1 r2 h9 h11 hX'
    obtain ⟨z, hz⟩ := hX'.box
    by_cases z0 : z = 0
    · subst z0
      simp only [h9, h11, hz, wk, wk1, wk2, Option.some.injEq, exists_eq_left', decide_true, decide_false, seval, go_regionPw, pw_normal]
      subst hQ
      simp only [ir54, h9, h11, wk, wk1, wk2, Option.some.injEq, exists_eq_left', decide_true, decide_false, seval, go_regionPw, pw_normal]
      exact ⟨hX'.aft, r, _, rfl, r1, r2⟩
    · by_cases z12 : z = 12
      · subst z12
        simp only [h9, h11, hz, wk, wk1, wk2, Option.some.injEq, exists_eq_left', decide_true, decide_false, seval, go_regionPw, pw_normal]
        subst hQ
        simp only [ir54, h9, h11, wk, wk1, wk2, Option.some.injEq, exists_eq_left', decide_true, decide_false, seval, go_regionPw, pw_normal]
        exact ⟨hX'.aft, r, _, rfl, r1, r2⟩
      · simp only [h9, h11, hz, z0, z12, wk, wk1, wk2, Option.some.injEq, exists_eq_left', decide_true, decide_false, seval, go_regionPw, pw_normal]
        subst hQ
        simp only [ir54, h9, h11, wk, wk1, wk2, Option.some.injEq, exists_eq_left', decide_true, decide_false, seval, go_regionPw, pw_normal]
        exact ⟨hX'.aft, r, _, rfl, r1, r2⟩
  have mid : ∀ (e : Env) (s' : St) (i' j' k' : Nat), (a ≤ i' ∧ i' < b) → (a ≤ j' ∧ j' < b) → (a ≤ k' ∧ k' < b) → opd e (.t 0) = dsl B inc n cap ex → opd e (.t 9) = bxp s.next → opd e (.t 10) = .int .i64 (i' : Int) → opd e (.t 11) = .int .i64 (j' : Int) → opd e (.t 12) = .int .i64 (k' : Int) → Bx en s B inc n f s.next s' →
      Go T Q (pdqCl1) [.seq (pdqCl0)] e s' := by
    intro e s' i' j' k' hi' hj' hk' h0 h9 h10 h11 h12 hX'
    generalize hRC : ((pdqCl0) : ICode) = RC at *
    simp only [h0, h9, h10, h11, h12, wk, wk1, wk2, Option.some.injEq, exists_eq_left', decide_true, decide_false, seval, go_regionPw, pw_normal]
    refine goCall_by (median_ran hm h2 hL s s' B inc n cap ex hB f s.next hX' i' j' k' (by omega) (by omega) (by omega)) ?_
    rintro v s1 ⟨hX1, r, rfl, hr⟩
    simp only [h0, h9, h10, h11, h12, wk, wk1, wk2, Option.some.injEq, exists_eq_left', decide_true, decide_false, seval, go_regionPw, pw_normal]
    exact fin _ s1 r none (by omega) (by omega) (by simp only [h9, wk, wk1, wk2, Option.some.injEq, exists_eq_left', decide_true, decide_false, seval, go_regionPw, pw_normal]) (by simp only [wk, wk1, Nat.reduceEqDiff, reduceIte, decide_true]) hX1
  generalize hRC : ((pdqCl0) : ICode) = RC at *
  generalize hRM : ((pdqCl1) : ICode) = RM at *
  by_cases h50 : 50 ≤ l
  · have l50 : (50 : Int) ≤ (l : Int) := by omega
    simp only [ir54, hRC, hRM, u1, u2, u3, u3', u4, u5, u6, u7, u8, l8, l50, wk, wk1, wk2, Option.some.injEq, exists_eq_left', decide_true, decide_false, seval, go_regionPw, pw_normal]
    refine goCall_by (medAdj_ran ha hm h2 hL s _ B inc n cap ex hB hn f s.next hX i (by omega) (by omega)) ?_
    rintro v s1 ⟨hX1, r1, rfl, q1, q2⟩
    simp only [wk, wk1, wk2, Option.some.injEq, exists_eq_left', decide_true, decide_false, seval, go_regionPw, pw_normal]
    refine goCall_by (medAdj_ran ha hm h2 hL s _ B inc n cap ex hB hn f s.next hX1 j (by omega) (by omega)) ?_
    rintro v s2 ⟨hX2, r2, rfl, q3, q4⟩
    simp only [wk, wk1, wk2, Option.some.injEq, exists_eq_left', decide_true, decide_false, seval, go_regionPw, pw_normal]
    refine goCall_by (medAdj_ran ha hm h2 hL s _ B inc n cap ex hB hn f s.next hX2 k (by omega) (by omega)) ?_
    rintro v s3 ⟨hX3, r3, rfl, q5, q6⟩
    simp only [wk, wk1, wk2, Option.some.injEq, exists_eq_left', decide_true, decide_false, seval, go_regionPw, pw_normal]
    refine mid _ s3 r1 r2 r3 (by omega) (by omega) (by omega) ?_ ?_ ?_ ?_ ?_ hX3 <;> simp only [wk, wk1, Nat.reduceEqDiff, reduceIte, decide_true]
  · have l50 : ¬ (50 : Int) ≤ (l : Int) := by omega
    simp only [ir54, hRC, hRM, u1, u2, u3, u3', u4, u5, u6, u7, u8, l8, l50, wk, wk1, wk2, Option.some.injEq, exists_eq_left', decide_true, decide_false, seval, go_regionPw, pw_normal]
    refine mid _ _ i j k (by omega) (by omega) (by omega) ?_ ?_ ?_ ?_ ?_ hX <;> simp only [wk, wk1, Nat.reduceEqDiff, reduceIte, decide_true]
end
end Go.V
/- slices.partitionEqualOrdered, partitionOrdered over the small language. (Printed by mkpdqp.py.) -/
namespace Go.V
open Go
set_option linter.unusedSimpArgs false
set_option linter.unusedVariables false
section
open Z
abbrev pdqPl8 : ICode := .seq (R [(m 83 9),(m 8 83)]) .ret
abbrev pdqPl14 : ICode := .seq (.region [(m 153 0),(m 154 11),(m 155 0),(m 156 1),(m 157 0),(m 158 1),(ix 159 1 157 158),(l 160 1 159),(m 161 0),(m 162 11),(ix 163 1 161 162),(l 164 1 163),(ix 165 1 153 154),(st 1 165 160),(ix 166 1 155 156),(st 1 166 164)] true) (q (R [(m 167 11),(m 8 167),(o 9 (.move F))]) .ret)
abbrev pdqPl1 : ICode := .loop (q (q (.regionP [(m 46 9),(m 47 10),(o 48 (.bin .leq t46 t47)),(m 49 48),(og 50 49 true (.move t0)),(og 51 49 true (.move t1)),(og 52 49 true (.idxSl 1 t50 t51)),(og 53 49 true (.load false 1 t52)),(og 54 49 true (.move t0)),(og 55 49 true (.move t10)),(og 56 49 true (.idxSl 1 t54 t55)),(og 57 49 true (.load false 1 t56)),(og 58 49 true (.call 57 [t53,t57])),(o 59 (.pick t49 t58 F))]) (.cond t59 .skip (.exit 4))) (.block 5 (R [(m 60 10),(o 61 (.bin .sub t60 (I 1))),(m 10 61)])))
abbrev pdqPl2 : ICode := .loop (q (q (.regionP [(m 30 10),(m 31 11),(o 32 (.bin .leq t30 t31)),(m 33 32),(og 34 33 true (.move t0)),(og 35 33 true (.move t10)),(og 36 33 true (.idxSl 1 t34 t35)),(og 37 33 true (.load false 1 t36)),(og 38 33 true (.move t0)),(og 39 33 true (.move t1)),(og 40 33 true (.idxSl 1 t38 t39)),(og 41 33 true (.load false 1 t40)),(og 42 33 true (.call 57 [t37,t41])),(o 43 (.pick t33 t42 F))]) (.cond t43 .skip (.exit 0))) (.block 1 (R [(m 44 10),(o 45 (.bin .add t44 (I 1))),(m 10 45)])))
abbrev pdqPl4 : ICode := .loop (q (q (.regionP [(m 99 10),(m 100 11),(o 101 (.bin .leq t99 t100)),(m 102 101),(og 103 102 true (.move t0)),(og 104 102 true (.move t10)),(og 105 102 true (.idxSl 1 t103 t104)),(og 106 102 true (.load false 1 t105)),(og 107 102 true (.move t0)),(og 108 102 true (.move t1)),(og 109 102 true (.idxSl 1 t107 t108)),(og 110 102 true (.load false 1 t109)),(og 111 102 true (.call 57 [t106,t110])),(o 112 (.pick t102 t111 F))]) (.cond t112 .skip (.exit 6))) (.block 7 (R [(m 113 10),(o 114 (.bin .add t113 (I 1))),(m 10 114)])))
abbrev pdqPl0 : ICode := .loop (q (q (.regionP [(m 29 9),(m 30 10),(o 31 (.bin .leq t29 t30)),(m 32 31),(og 33 32 true (.move t0)),(og 34 32 true (.move t1)),(og 35 32 true (.idxSl 1 t33 t34)),(og 36 32 true (.load false 1 t35)),(og 37 32 true (.move t0)),(og 38 32 true (.move t9)),(og 39 32 true (.idxSl 1 t37 t38)),(og 40 32 true (.load false 1 t39)),(og 41 32 true (.call 57 [t36,t40])),(og 42 32 true (.un .not t41)),(o 43 (.pick t32 t42 F))]) (.cond t43 .skip (.exit 2))) (.block 3 (R [(m 44 9),(o 45 (.bin .add t44 (I 1))),(m 9 45)])))
abbrev pdqPl3 : ICode := .loop (q (q (.regionP [(m 46 10),(m 47 11),(o 48 (.bin .leq t46 t47)),(m 49 48),(og 50 49 true (.move t0)),(og 51 49 true (.move t11)),(og 52 49 true (.idxSl 1 t50 t51)),(og 53 49 true (.load false 1 t52)),(og 54 49 true (.move t0)),(og 55 49 true (.move t1)),(og 56 49 true (.idxSl 1 t54 t55)),(og 57 49 true (.load false 1 t56)),(og 58 49 true (.call 57 [t53,t57])),(og 59 49 true (.un .not t58)),(o 60 (.pick t49 t59 F))]) (.cond t60 .skip (.exit 2))) (.block 3 (R [(m 61 11),(o 62 (.bin .sub t61 (I 1))),(m 11 62)])))
abbrev pdqPl5 : ICode := .loop (q (q (.regionP [(m 115 10),(m 116 11),(o 117 (.bin .leq t115 t116)),(m 118 117),(og 119 118 true (.move t0)),(og 120 118 true (.move t11)),(og 121 118 true (.idxSl 1 t119 t120)),(og 122 118 true (.load false 1 t121)),(og 123 118 true (.move t0)),(og 124 118 true (.move t1)),(og 125 118 true (.idxSl 1 t123 t124)),(og 126 118 true (.load false 1 t125)),(og 127 118 true (.call 57 [t122,t126])),(og 128 118 true (.un .not t127)),(o 129 (.pick t118 t128 F))]) (.cond t129 .skip (.exit 8))) (.block 9 (R [(m 130 11),(o 131 (.bin .sub t130 (I 1))),(m 11 131)])))
abbrev pdqPl9 : ICode := .seq (q (R [(m 62 9),(m 63 10),(o 64 (.bin .gtr t62 t63))]) (.cond t64 (.exit 0) .skip)) (q (.region [(m 65 0),(m 66 9),(m 67 0),(m 68 10),(m 69 0),(m 70 10),(ix 71 1 69 70),(l 72 1 71),(m 73 0),(m 74 9),(ix 75 1 73 74),(l 76 1 75),(ix 77 1 65 66),(st 1 77 72),(ix 78 1 67 68),(st 1 78 76)] true) (q (R [(m 79 9),(o 80 (.bin .add t79 (I 1))),(m 9 80)]) (R [(m 81 10),(o 82 (.bin .sub t81 (I 1))),(m 10 82)])))
abbrev pdqPl15 : ICode := .seq (q (R [(m 132 10),(m 133 11),(o 134 (.bin .gtr t132 t133))]) (.cond t134 (.exit 4) .skip)) (q (.region [(m 135 0),(m 136 10),(m 137 0),(m 138 11),(m 139 0),(m 140 11),(ix 141 1 139 140),(l 142 1 141),(m 143 0),(m 144 10),(ix 145 1 143 144),(l 146 1 145),(ix 147 1 135 136),(st 1 147 142),(ix 148 1 137 138),(st 1 148 146)] true) (q (R [(m 149 10),(o 150 (.bin .add t149 (I 1))),(m 10 150)]) (R [(m 151 11),(o 152 (.bin .sub t151 (I 1))),(m 11 152)])))
abbrev pdqPl6 : ICode := .seq (.block 4 pdqPl1) pdqPl9
abbrev pdqPl12 : ICode := .seq (.block 8 pdqPl5) pdqPl15
abbrev pdqPl7 : ICode := .block 1 (q (.block 2 pdqPl0) pdqPl6)
abbrev pdqPl13 : ICode := .block 5 (q (.block 6 pdqPl4) pdqPl12)
abbrev pdqPl11 : ICode := .seq (q (R [(m 63 10),(m 64 11),(o 65 (.bin .gtr t63 t64))]) (.cond t65 (q (.region [(m 66 0),(m 67 11),(m 68 0),(m 69 1),(m 70 0),(m 71 1),(ix 72 1 70 71),(l 73 1 72),(m 74 0),(m 75 11),(ix 76 1 74 75),(l 77 1 76),(ix 78 1 66 67),(st 1 78 73),(ix 79 1 68 69),(st 1 79 77)] true) (q (R [(m 80 11),(m 8 80),(o 9 (.move T))]) .ret)) .skip)) (q (.region [(m 81 0),(m 82 10),(m 83 0),(m 84 11),(m 85 0),(m 86 11),(ix 87 1 85 86),(l 88 1 87),(m 89 0),(m 90 10),(ix 91 1 89 90),(l 92 1 91),(ix 93 1 81 82),(st 1 93 88),(ix 94 1 83 84),(st 1 94 92)] true) (q (R [(m 95 10),(o 96 (.bin .add t95 (I 1))),(m 10 96)]) (q (R [(m 97 11),(o 98 (.bin .sub t97 (I 1))),(m 11 98)]) (q (.block 4 (.loop pdqPl13)) pdqPl14))))
abbrev pdqPl10 : ICode := .seq (.block 2 pdqPl3) pdqPl11
end
open Z in def ir58 : IFunc := ⟨84,[.tmp 8],(q (R [(mi 8 0)]) (q (.region [(m 11 0),(m 12 1),(m 13 0),(m 14 3),(m 15 0),(m 16 3),(ix 17 1 15 16),(l 18 1 17),(m 19 0),(m 20 1),(ix 21 1 19 20),(l 22 1 21),(ix 23 1 11 12),(st 1 23 18),(ix 24 1 13 14),(st 1 24 22)] true) (q (R [(m 25 1),(o 26 (.bin .add t25 (I 1))),(m 27 2),(o 28 (.bin .sub t27 (I 1))),(m 9 26),(m 10 28)]) (q (.block 0 (.loop pdqPl7)) pdqPl8))))⟩
open Z in def ir59 : IFunc := ⟨168,[.tmp 8,.tmp 9],(q (R [(mi 8 0),(o 9 (.move F))]) (q (.region [(m 12 0),(m 13 1),(m 14 0),(m 15 3),(m 16 0),(m 17 3),(ix 18 1 16 17),(l 19 1 18),(m 20 0),(m 21 1),(ix 22 1 20 21),(l 23 1 22),(ix 24 1 12 13),(st 1 24 19),(ix 25 1 14 15),(st 1 25 23)] true) (q (R [(m 26 1),(o 27 (.bin .add t26 (I 1))),(m 28 2),(o 29 (.bin .sub t28 (I 1))),(m 10 27),(m 11 29)]) (q (.block 0 pdqPl2) pdqPl10))))⟩
section
variable {α : Type} {en : α → AV} {lt : α → α → Bool} {T : Tab}

set_option maxHeartbeats 8000000 in
theorem pe_up (hL : LessOk T 57 en lt) {Q : Post} {s0 s : St} {B inc n cap : Nat} {ex : Bool} (hn : n ≤ 1000000000) (a : Nat) (g : Nat → α) (hA : Aft en s0 B inc n g s) (e0 : Env) (i0 j : Nat) (hj : j < n) (han : a < n)
    (K : ∀ (e : Env) (m : Nat), i0 ≤ m → m ≤ j + 1 → (∀ x, i0 ≤ x → x < m → lt (g a) (g x) = false) → (m ≤ j → (lt (g a) (g m) = true)) → opd e (.t 0) = dsl B inc n cap ex → opd e (.t 1) = .int .i64 (a : Int) → opd e (.t 2) = opd e0 (.t 2) → opd e (.t 9) = .int .i64 (m : Int) → opd e (.t 10) = .int .i64 (j : Int) → Ret T Q [.seq pdqPl6, .block 1, .loop pdqPl7, .block 0, .seq pdqPl8] .normal e s) :
    ∀ (k i : Nat) (e : Env), k + i = j + 1 → i0 ≤ i → (∀ x, i0 ≤ x → x < i → lt (g a) (g x) = false) → opd e (.t 0) = dsl B inc n cap ex → opd e (.t 1) = .int .i64 (a : Int) → opd e (.t 2) = opd e0 (.t 2) → opd e (.t 9) = .int .i64 (i : Int) → opd e (.t 10) = .int .i64 (j : Int) →
      Go T Q (pdqPl0) [.block 2, .seq pdqPl6, .block 1, .loop pdqPl7, .block 0, .seq pdqPl8] e s := by
  have kl := hL.call
  obtain ⟨lo', hlo, hrow⟩ := hA.row
  have ha1 : a + 1 ≤ n := han
  have ma := mp_take (en := en) (f := g) han
  intro k
  induction k with
  | zero =>
    intro i e hk hb hS h0 h1 h2 hi hjj
    have hc : ¬ ((i : Int) ≤ (j : Int)) := by omega
    have hK := fun e => K e i (by omega) (by omega) hS (fun hm => by omega)
    rw [go_loop]
    generalize ([.seq pdqPl6, .block 1, .loop pdqPl7, .block 0, .seq pdqPl8] : List Fr) = FF at *
    simp only [h0, h1, hi, hjj, hc, wk, wk1, wk2, Option.some.injEq, exists_eq_left', decide_true, decide_false, seval, go_regionPw, pw_normal]
    refine hK _ ?_ ?_ ?_ ?_ ?_ <;> simp only [h0, h1, h2, hi, hjj, wk, wk1, Nat.reduceEqDiff, reduceIte, decide_true]
  | succ k ih =>
    intro i e hk hb hS h0 h1 h2 hi hjj
    have hc : ((i : Int) ≤ (j : Int)) := by omega
    have hxn : i < n := by omega
    have hx1 : i + 1 ≤ n := hxn
    have mx := mp_take (en := en) (f := g) hxn
    have uw : wrapF .i64 ((i : Int) + 1) = ((i + 1 : Nat) : Int) := i64_add1 (by omega)
    rw [go_loop]
    cases hl : lt (g a) (g i) with
    | true =>
      have hK := fun e => K e i (by omega) (by omega) hS (fun hm => hl)
      generalize ([.seq pdqPl6, .block 1, .loop pdqPl7, .block 0, .seq pdqPl8] : List Fr) = FF at *
      simp only [h0, h1, hi, hjj, hc, han, ha1, hxn, hx1, hrow, hlo, ma, mx, kl, hl, wk, wk1, wk2, Option.some.injEq, exists_eq_left', decide_true, decide_false, seval, go_regionPw, pw_normal]
      refine hK _ ?_ ?_ ?_ ?_ ?_ <;> simp only [h0, h1, h2, hi, hjj, wk, wk1, Nat.reduceEqDiff, reduceIte, decide_true]
    | false =>
      simp only [h0, h1, hi, hjj, hc, han, ha1, hxn, hx1, hrow, hlo, ma, mx, kl, hl, uw, wk, wk1, wk2, Option.some.injEq, exists_eq_left', decide_true, decide_false, seval, go_regionPw, pw_normal]
      refine ih (i + 1) _ (by omega) (by omega) (fun x x1 x2 => ?_) ?_ ?_ ?_ ?_ ?_
      · by_cases e1 : x = i
        · subst e1; exact hl
        · exact hS x (by omega) (by omega)
      all_goals simp only [h0, h1, h2, hi, hjj, uw, wk, wk1, Nat.reduceEqDiff, reduceIte, decide_true]

set_option maxHeartbeats 8000000 in
theorem pe_dn (hL : LessOk T 57 en lt) {Q : Post} {s0 s : St} {B inc n cap : Nat} {ex : Bool} (hn : n ≤ 1000000000) (a : Nat) (g : Nat → α) (hA : Aft en s0 B inc n g s) (e0 : Env) (i j0 : Nat) (hj0 : j0 < n) (hai : a < i) (han : a < n)
    (K : ∀ (e : Env) (m : Nat), m ≤ j0 → i ≤ m + 1 → (∀ x, m < x → x ≤ j0 → lt (g a) (g x) = true) → (i ≤ m → (lt (g a) (g m) = false)) → opd e (.t 0) = dsl B inc n cap ex → opd e (.t 1) = .int .i64 (a : Int) → opd e (.t 2) = opd e0 (.t 2) → opd e (.t 9) = .int .i64 (i : Int) → opd e (.t 10) = .int .i64 (m : Int) → Ret T Q [.seq pdqPl9, .block 1, .loop pdqPl7, .block 0, .seq pdqPl8] .normal e s) :
    ∀ (k j : Nat) (e : Env), k + i = j + 1 → j ≤ j0 → (∀ x, j < x → x ≤ j0 → lt (g a) (g x) = true) → opd e (.t 0) = dsl B inc n cap ex → opd e (.t 1) = .int .i64 (a : Int) → opd e (.t 2) = opd e0 (.t 2) → opd e (.t 9) = .int .i64 (i : Int) → opd e (.t 10) = .int .i64 (j : Int) →
      Go T Q (pdqPl1) [.block 4, .seq pdqPl9, .block 1, .loop pdqPl7, .block 0, .seq pdqPl8] e s := by
  have kl := hL.call
  obtain ⟨lo', hlo, hrow⟩ := hA.row
  have ha1 : a + 1 ≤ n := han
  have ma := mp_take (en := en) (f := g) han
  intro k
  induction k with
  | zero =>
    intro j e hk hb hS h0 h1 h2 hi hjj
    have hc : ¬ ((i : Int) ≤ (j : Int)) := by omega
    have hK := fun e => K e j (by omega) (by omega) hS (fun hm => by omega)
    rw [go_loop]
    generalize ([.seq pdqPl9, .block 1, .loop pdqPl7, .block 0, .seq pdqPl8] : List Fr) = FF at *
    simp only [h0, h1, hi, hjj, hc, wk, wk1, wk2, Option.some.injEq, exists_eq_left', decide_true, decide_false, seval, go_regionPw, pw_normal]
    refine hK _ ?_ ?_ ?_ ?_ ?_ <;> simp only [h0, h1, h2, hi, hjj, wk, wk1, Nat.reduceEqDiff, reduceIte, decide_true]
  | succ k ih =>
    intro j e hk hb hS h0 h1 h2 hi hjj
    have hc : ((i : Int) ≤ (j : Int)) := by omega
    have hxn : j < n := by omega
    have hx1 : j + 1 ≤ n := hxn
    have mx := mp_take (en := en) (f := g) hxn
    have uw : wrapF .i64 ((j : Int) - 1) = ((j - 1 : Nat) : Int) := i64_sub1 (by omega) (by omega)
    rw [go_loop]
    cases hl : lt (g a) (g j) with
    | false =>
      have hK := fun e => K e j (by omega) (by omega) hS (fun hm => hl)
      generalize ([.seq pdqPl9, .block 1, .loop pdqPl7, .block 0, .seq pdqPl8] : List Fr) = FF at *
      simp only [h0, h1, hi, hjj, hc, han, ha1, hxn, hx1, hrow, hlo, ma, mx, kl, hl, wk, wk1, wk2, Option.some.injEq, exists_eq_left', decide_true, decide_false, seval, go_regionPw, pw_normal]
      refine hK _ ?_ ?_ ?_ ?_ ?_ <;> simp only [h0, h1, h2, hi, hjj, wk, wk1, Nat.reduceEqDiff, reduceIte, decide_true]
    | true =>
      simp only [h0, h1, hi, hjj, hc, han, ha1, hxn, hx1, hrow, hlo, ma, mx, kl, hl, uw, wk, wk1, wk2, Option.some.injEq, exists_eq_left', decide_true, decide_false, seval, go_regionPw, pw_normal]
      refine ih (j - 1) _ (by omega) (by omega) (fun x x1 x2 => ?_) ?_ ?_ ?_ ?_ ?_
      · by_cases e1 : x = j
        · subst e1; exact hl
        · exact hS x (by omega) (by omega)
      all_goals simp only [h0, h1, h2, hi, hjj, uw, wk, wk1, Nat.reduceEqDiff, reduceIte, decide_true]

set_option maxHeartbeats 8000000 in
theorem po_up (hL : LessOk T 57 en lt) {Q : Post} {s0 s : St} {B inc n cap : Nat} {ex : Bool} (hn : n ≤ 1000000000) (a : Nat) (g : Nat → α) (hA : Aft en s0 B inc n g s) (e0 : Env) (i0 j : Nat) (hj : j < n) (han : a < n)
    (K : ∀ (e : Env) (m : Nat), i0 ≤ m → m ≤ j + 1 → (∀ x, i0 ≤ x → x < m → lt (g x) (g a) = true) → (m ≤ j → (lt (g m) (g a) = false)) → opd e (.t 0) = dsl B inc n cap ex → opd e (.t 1) = .int .i64 (a : Int) → opd e (.t 2) = opd e0 (.t 2) → opd e (.t 10) = .int .i64 (m : Int) → opd e (.t 11) = .int .i64 (j : Int) → Ret T Q [.seq pdqPl10] .normal e s) :
    ∀ (k i : Nat) (e : Env), k + i = j + 1 → i0 ≤ i → (∀ x, i0 ≤ x → x < i → lt (g x) (g a) = true) → opd e (.t 0) = dsl B inc n cap ex → opd e (.t 1) = .int .i64 (a : Int) → opd e (.t 2) = opd e0 (.t 2) → opd e (.t 10) = .int .i64 (i : Int) → opd e (.t 11) = .int .i64 (j : Int) →
      Go T Q (pdqPl2) [.block 0, .seq pdqPl10] e s := by
  have kl := hL.call
  obtain ⟨lo', hlo, hrow⟩ := hA.row
  have ha1 : a + 1 ≤ n := han
  have ma := mp_take (en := en) (f := g) han
  intro k
  induction k with
  | zero =>
    intro i e hk hb hS h0 h1 h2 hi hjj
    have hc : ¬ ((i : Int) ≤ (j : Int)) := by omega
    have hK := fun e => K e i (by omega) (by omega) hS (fun hm => by omega)
    rw [go_loop]
    generalize ([.seq pdqPl10] : List Fr) = FF at *
    simp only [h0, h1, hi, hjj, hc, wk, wk1, wk2, Option.some.injEq, exists_eq_left', decide_true, decide_false, seval, go_regionPw, pw_normal]
    refine hK _ ?_ ?_ ?_ ?_ ?_ <;> simp only [h0, h1, h2, hi, hjj, wk, wk1, Nat.reduceEqDiff, reduceIte, decide_true]
  | succ k ih =>
    intro i e hk hb hS h0 h1 h2 hi hjj
    have hc : ((i : Int) ≤ (j : Int)) := by omega
    have hxn : i < n := by omega
    have hx1 : i + 1 ≤ n := hxn
    have mx := mp_take (en := en) (f := g) hxn
    have uw : wrapF .i64 ((i : Int) + 1) = ((i + 1 : Nat) : Int) := i64_add1 (by omega)
    rw [go_loop]
    cases hl : lt (g i) (g a) with
    | false =>
      have hK := fun e => K e i (by omega) (by omega) hS (fun hm => hl)
      generalize ([.seq pdqPl10] : List Fr) = FF at *
      simp only [h0, h1, hi, hjj, hc, han, ha1, hxn, hx1, hrow, hlo, ma, mx, kl, hl, wk, wk1, wk2, Option.some.injEq, exists_eq_left', decide_true, decide_false, seval, go_regionPw, pw_normal]
      refine hK _ ?_ ?_ ?_ ?_ ?_ <;> simp only [h0, h1, h2, hi, hjj, wk, wk1, Nat.reduceEqDiff, reduceIte, decide_true]
    | true =>
      simp only [h0, h1, hi, hjj, hc, han, ha1, hxn, hx1, hrow, hlo, ma, mx, kl, hl, uw, wk, wk1, wk2, Option.some.injEq, exists_eq_left', decide_true, decide_false, seval, go_regionPw, pw_normal]
      refine ih (i + 1) _ (by omega) (by omega) (fun x x1 x2 => ?_) ?_ ?_ ?_ ?_ ?_
      · by_cases e1 : x = i
        · subst e1; exact hl
        · exact hS x (by omega) (by omega)
      all_goals simp only [h0, h1, h2, hi, hjj, uw, wk, wk1, Nat.reduceEqDiff, reduceIte, decide_true]

set_option maxHeartbeats 8000000 in
theorem po_dn (hL : LessOk T 57 en lt) {Q : Post} {s0 s : St} {B inc n cap : Nat} {ex : Bool} (hn : n ≤ 1000000000) (a : Nat) (g : Nat → α) (hA : Aft en s0 B inc n g s) (e0 : Env) (i j0 : Nat) (hj0 : j0 < n) (hai : a < i) (han : a < n)
    (K : ∀ (e : Env) (m : Nat), m ≤ j0 → i ≤ m + 1 → (∀ x, m < x → x ≤ j0 → lt (g x) (g a) = false) → (i ≤ m → (lt (g m) (g a) = true)) → opd e (.t 0) = dsl B inc n cap ex → opd e (.t 1) = .int .i64 (a : Int) → opd e (.t 2) = opd e0 (.t 2) → opd e (.t 10) = .int .i64 (i : Int) → opd e (.t 11) = .int .i64 (m : Int) → Ret T Q [.seq pdqPl11] .normal e s) :
    ∀ (k j : Nat) (e : Env), k + i = j + 1 → j ≤ j0 → (∀ x, j < x → x ≤ j0 → lt (g x) (g a) = false) → opd e (.t 0) = dsl B inc n cap ex → opd e (.t 1) = .int .i64 (a : Int) → opd e (.t 2) = opd e0 (.t 2) → opd e (.t 10) = .int .i64 (i : Int) → opd e (.t 11) = .int .i64 (j : Int) →
      Go T Q (pdqPl3) [.block 2, .seq pdqPl11] e s := by
  have kl := hL.call
  obtain ⟨lo', hlo, hrow⟩ := hA.row
  have ha1 : a + 1 ≤ n := han
  have ma := mp_take (en := en) (f := g) han
  intro k
  induction k with
  | zero =>
    intro j e hk hb hS h0 h1 h2 hi hjj
    have hc : ¬ ((i : Int) ≤ (j : Int)) := by omega
    have hK := fun e => K e j (by omega) (by omega) hS (fun hm => by omega)
    rw [go_loop]
    generalize ([.seq pdqPl11] : List Fr) = FF at *
    simp only [h0, h1, hi, hjj, hc, wk, wk1, wk2, Option.some.injEq, exists_eq_left', decide_true, decide_false, seval, go_regionPw, pw_normal]
    refine hK _ ?_ ?_ ?_ ?_ ?_ <;> simp only [h0, h1, h2, hi, hjj, wk, wk1, Nat.reduceEqDiff, reduceIte, decide_true]
  | succ k ih =>
    intro j e hk hb hS h0 h1 h2 hi hjj
    have hc : ((i : Int) ≤ (j : Int)) := by omega
    have hxn : j < n := by omega
    have hx1 : j + 1 ≤ n := hxn
    have mx := mp_take (en := en) (f := g) hxn
    have uw : wrapF .i64 ((j : Int) - 1) = ((j - 1 : Nat) : Int) := i64_sub1 (by omega) (by omega)
    rw [go_loop]
    cases hl : lt (g j) (g a) with
    | true =>
      have hK := fun e => K e j (by omega) (by omega) hS (fun hm => hl)
      generalize ([.seq pdqPl11] : List Fr) = FF at *
      simp only [h0, h1, hi, hjj, hc, han, ha1, hxn, hx1, hrow, hlo, ma, mx, kl, hl, wk, wk1, wk2, Option.some.injEq, exists_eq_left', decide_true, decide_false, seval, go_regionPw, pw_normal]
      refine hK _ ?_ ?_ ?_ ?_ ?_ <;> simp only [h0, h1, h2, hi, hjj, wk, wk1, Nat.reduceEqDiff, reduceIte, decide_true]
    | false =>
      simp only [h0, h1, hi, hjj, hc, han, ha1, hxn, hx1, hrow, hlo, ma, mx, kl, hl, uw, wk, wk1, wk2, Option.some.injEq, exists_eq_left', decide_true, decide_false, seval, go_regionPw, pw_normal]
      refine ih (j - 1) _ (by omega) (by omega) (fun x x1 x2 => ?_) ?_ ?_ ?_ ?_ ?_
      · by_cases e1 : x = j
        · subst e1; exact hl
        · exact hS x (by omega) (by omega)
      all_goals simp only [h0, h1, h2, hi, hjj, uw, wk, wk1, Nat.reduceEqDiff, reduceIte, decide_true]

set_option maxHeartbeats 8000000 in
theorem po_up2 (hL : LessOk T 57 en lt) {Q : Post} {s0 s : St} {B inc n cap : Nat} {ex : Bool} (hn : n ≤ 1000000000) (a : Nat) (g : Nat → α) (hA : Aft en s0 B inc n g s) (e0 : Env) (i0 j : Nat) (hj : j < n) (han : a < n)
    (K : ∀ (e : Env) (m : Nat), i0 ≤ m → m ≤ j + 1 → (∀ x, i0 ≤ x → x < m → lt (g x) (g a) = true) → (m ≤ j → (lt (g m) (g a) = false)) → opd e (.t 0) = dsl B inc n cap ex → opd e (.t 1) = .int .i64 (a : Int) → opd e (.t 2) = opd e0 (.t 2) → opd e (.t 10) = .int .i64 (m : Int) → opd e (.t 11) = .int .i64 (j : Int) → Ret T Q [.seq pdqPl12, .block 5, .loop pdqPl13, .block 4, .seq pdqPl14] .normal e s) :
    ∀ (k i : Nat) (e : Env), k + i = j + 1 → i0 ≤ i → (∀ x, i0 ≤ x → x < i → lt (g x) (g a) = true) → opd e (.t 0) = dsl B inc n cap ex → opd e (.t 1) = .int .i64 (a : Int) → opd e (.t 2) = opd e0 (.t 2) → opd e (.t 10) = .int .i64 (i : Int) → opd e (.t 11) = .int .i64 (j : Int) →
      Go T Q (pdqPl4) [.block 6, .seq pdqPl12, .block 5, .loop pdqPl13, .block 4, .seq pdqPl14] e s := by
  have kl := hL.call
  obtain ⟨lo', hlo, hrow⟩ := hA.row
  have ha1 : a + 1 ≤ n := han
  have ma := mp_take (en := en) (f := g) han
  intro k
  induction k with
  | zero =>
    intro i e hk hb hS h0 h1 h2 hi hjj
    have hc : ¬ ((i : Int) ≤ (j : Int)) := by omega
    have hK := fun e => K e i (by omega) (by omega) hS (fun hm => by omega)
    rw [go_loop]
    generalize ([.seq pdqPl12, .block 5, .loop pdqPl13, .block 4, .seq pdqPl14] : List Fr) = FF at *
    simp only [h0, h1, hi, hjj, hc, wk, wk1, wk2, Option.some.injEq, exists_eq_left', decide_true, decide_false, seval, go_regionPw, pw_normal]
    refine hK _ ?_ ?_ ?_ ?_ ?_ <;> simp only [h0, h1, h2, hi, hjj, wk, wk1, Nat.reduceEqDiff, reduceIte, decide_true]
  | succ k ih =>
    intro i e hk hb hS h0 h1 h2 hi hjj
    have hc : ((i : Int) ≤ (j : Int)) := by omega
    have hxn : i < n := by omega
    have hx1 : i + 1 ≤ n := hxn
    have mx := mp_take (en := en) (f := g) hxn
    have uw : wrapF .i64 ((i : Int) + 1) = ((i + 1 : Nat) : Int) := i64_add1 (by omega)
    rw [go_loop]
    cases hl : lt (g i) (g a) with
    | false =>
      have hK := fun e => K e i (by omega) (by omega) hS (fun hm => hl)
      generalize ([.seq pdqPl12, .block 5, .loop pdqPl13, .block 4, .seq pdqPl14] : List Fr) = FF at *
      simp only [h0, h1, hi, hjj, hc, han, ha1, hxn, hx1, hrow, hlo, ma, mx, kl, hl, wk, wk1, wk2, Option.some.injEq, exists_eq_left', decide_true, decide_false, seval, go_regionPw, pw_normal]
      refine hK _ ?_ ?_ ?_ ?_ ?_ <;> simp only [h0, h1, h2, hi, hjj, wk, wk1, Nat.reduceEqDiff, reduceIte, decide_true]
    | true =>
      simp only [h0, h1, hi, hjj, hc, han, ha1, hxn, hx1, hrow, hlo, ma, mx, kl, hl, uw, wk, wk1, wk2, Option.some.injEq, exists_eq_left', decide_true, decide_false, seval, go_regionPw, pw_normal]
      refine ih (i + 1) _ (by omega) (by omega) (fun x x1 x2 => ?_) ?_ ?_ ?_ ?_ ?_
      · by_cases e1 : x = i
        · subst e1; exact hl
        · exact hS x (by omega) (by omega)
      all_goals simp only [h0, h1, h2, hi, hjj, uw, wk, wk1, Nat.reduceEqDiff, reduceIte, decide_true]

set_option maxHeartbeats 8000000 in
theorem po_dn2 (hL : LessOk T 57 en lt) {Q : Post} {s0 s : St} {B inc n cap : Nat} {ex : Bool} (hn : n ≤ 1000000000) (a : Nat) (g : Nat → α) (hA : Aft en s0 B inc n g s) (e0 : Env) (i j0 : Nat) (hj0 : j0 < n) (hai : a < i) (han : a < n)
    (K : ∀ (e : Env) (m : Nat), m ≤ j0 → i ≤ m + 1 → (∀ x, m < x → x ≤ j0 → lt (g x) (g a) = false) → (i ≤ m → (lt (g m) (g a) = true)) → opd e (.t 0) = dsl B inc n cap ex → opd e (.t 1) = .int .i64 (a : Int) → opd e (.t 2) = opd e0 (.t 2) → opd e (.t 10) = .int .i64 (i : Int) → opd e (.t 11) = .int .i64 (m : Int) → Ret T Q [.seq pdqPl15, .block 5, .loop pdqPl13, .block 4, .seq pdqPl14] .normal e s) :
    ∀ (k j : Nat) (e : Env), k + i = j + 1 → j ≤ j0 → (∀ x, j < x → x ≤ j0 → lt (g x) (g a) = false) → opd e (.t 0) = dsl B inc n cap ex → opd e (.t 1) = .int .i64 (a : Int) → opd e (.t 2) = opd e0 (.t 2) → opd e (.t 10) = .int .i64 (i : Int) → opd e (.t 11) = .int .i64 (j : Int) →
      Go T Q (pdqPl5) [.block 8, .seq pdqPl15, .block 5, .loop pdqPl13, .block 4, .seq pdqPl14] e s := by
  have kl := hL.call
  obtain ⟨lo', hlo, hrow⟩ := hA.row
  have ha1 : a + 1 ≤ n := han
  have ma := mp_take (en := en) (f := g) han
  intro k
  induction k with
  | zero =>
    intro j e hk hb hS h0 h1 h2 hi hjj
    have hc : ¬ ((i : Int) ≤ (j : Int)) := by omega
    have hK := fun e => K e j (by omega) (by omega) hS (fun hm => by omega)
    rw [go_loop]
    generalize ([.seq pdqPl15, .block 5, .loop pdqPl13, .block 4, .seq pdqPl14] : List Fr) = FF at *
    simp only [h0, h1, hi, hjj, hc, wk, wk1, wk2, Option.some.injEq, exists_eq_left', decide_true, decide_false, seval, go_regionPw, pw_normal]
    refine hK _ ?_ ?_ ?_ ?_ ?_ <;> simp only [h0, h1, h2, hi, hjj, wk, wk1, Nat.reduceEqDiff, reduceIte, decide_true]
  | succ k ih =>
    intro j e hk hb hS h0 h1 h2 hi hjj
    have hc : ((i : Int) ≤ (j : Int)) := by omega
    have hxn : j < n := by omega
    have hx1 : j + 1 ≤ n := hxn
    have mx := mp_take (en := en) (f := g) hxn
    have uw : wrapF .i64 ((j : Int) - 1) = ((j - 1 : Nat) : Int) := i64_sub1 (by omega) (by omega)
    rw [go_loop]
    cases hl : lt (g j) (g a) with
    | true =>
      have hK := fun e => K e j (by omega) (by omega) hS (fun hm => hl)
      generalize ([.seq pdqPl15, .block 5, .loop pdqPl13, .block 4, .seq pdqPl14] : List Fr) = FF at *
      simp only [h0, h1, hi, hjj, hc, han, ha1, hxn, hx1, hrow, hlo, ma, mx, kl, hl, wk, wk1, wk2, Option.some.injEq, exists_eq_left', decide_true, decide_false, seval, go_regionPw, pw_normal]
      refine hK _ ?_ ?_ ?_ ?_ ?_ <;> simp only [h0, h1, h2, hi, hjj, wk, wk1, Nat.reduceEqDiff, reduceIte, decide_true]
    | false =>
      simp only [h0, h1, hi, hjj, hc, han, ha1, hxn, hx1, hrow, hlo, ma, mx, kl, hl, uw, wk, wk1, wk2, Option.some.injEq, exists_eq_left', decide_true, decide_false, seval, go_regionPw, pw_normal]
      refine ih (j - 1) _ (by omega) (by omega) (fun x x1 x2 => ?_) ?_ ?_ ?_ ?_ ?_
      · by_cases e1 : x = j
        · subst e1; exact hl
        · exact hS x (by omega) (by omega)
      all_goals simp only [h0, h1, h2, hi, hjj, uw, wk, wk1, Nat.reduceEqDiff, reduceIte, decide_true]
end
end Go.V
