/- THE STATE, ITS RELATION TO THE WORLD, AND WHAT A STEP KEEPS. -/
import Derived.Test.YtoaakfgdebkkaaaGreatDoorV1
import Derived.Below
set_option linter.unusedVariables false
set_option linter.unusedSimpArgs false
set_option linter.unusedSectionVars false
/- THE STATE, ITS RELATION TO THE WORLD, AND WHAT A STEP KEEPS. -/
namespace Go.V
open Go

structure AEntry where
 key : AV
 val : AV
 born : Nat

inductive AObj where
 | cells (cs : List AV) (lo inc : Nat) (ro : Bool)
 | map (es : List AEntry) (clock : Nat)

structure St where
 heap : Tree AObj
 next : Nat

def isRo (s : St) (id : Nat) : Prop := ∃ cs lo inc, s.heap.get id = some (.cells cs lo inc true)

def CellsRel (φ : Phi) (w : World) (cs : List AV) (ro : Bool) (last : Bool) (x : Inc) : Prop :=
 ∃ cc el fz, w.heap[x.blk]? = some (.cells cc el fz) ∧ cc.size = x.top ∧ (ro = false → ∀ o, o < x.top → (fz.1 ≤ o && o < fz.2) = false) ∧
  x.sh ≤ x.n ∧ x.n ≤ cs.length ∧ (last = true → x.n = cs.length) ∧ x.base + (x.n - x.sh) ≤ x.top ∧
  ∀ j v, x.sh ≤ j → j < x.n → cs[j]? = some v → ∃ c, cc[x.base + (j - x.sh)]? = some c ∧ VRel φ v c

inductive EntsRel (φ : Phi) : List AEntry → List MapEntry → Prop
 | nil : EntsRel φ [] []
 | cons {a : AEntry} {b : MapEntry} {l : List AEntry} {l' : List MapEntry} : VRel φ a.key b.key → VRel φ a.val b.val → a.born = b.born → EntsRel φ l l' → EntsRel φ (a :: l) (b :: l')

def ObjRel (φ : Phi) (w : World) (id : Nat) : AObj → Prop
 | .cells cs lo inc ro => lo ≤ inc ∧ ∀ k, lo ≤ k → k ≤ inc → ∃ x, φ id k = some x ∧ CellsRel φ w cs ro (k == inc) x
 | .map es clock => ∃ x es', φ id 0 = some x ∧ w.heap[x.blk]? = some (.map es' clock) ∧ EntsRel φ es es'.toList

/-- Numbers of incarnations from here on tell the type of the block's cells. -/
def tyBase : Nat := 4294967296
theorem ty_zero {t : Nat} (h : 0 / tyBase = t + 1) : False := by simp [tyBase] at h
theorem shape_of_same {w w' : World} {b : Nat} (h : w'.heap[b]? = w.heap[b]?) : w'.shape? b = w.shape? b := by simp only [World.shape?, h]

structure RelSt (φ : Phi) (s : St) (w : World) : Prop where
 obj : ∀ id o, s.heap.get id = some o → ObjRel φ w id o
 dom : ∀ id k x, φ id k = some x → (s.heap.get id).isSome = true ∧ x.blk < w.heap.size
 inj : ∀ id k x id' k' x', φ id k = some x → φ id' k' = some x' → x.blk = x'.blk → (id = id' ∧ x.base = x'.base ∧ x.sh = x'.sh ∧ x.top = x'.top) ∨ (isRo s id ∧ isRo s id')
 incs : ∀ id k x cs lo inc ro, φ id k = some x → s.heap.get id = some (.cells cs lo inc ro) → k ≤ inc
 typ : ∀ id k x t, φ id k = some x → k / tyBase = t + 1 → w.shape? x.blk = some (t, x.top) ∧ x.base = 0

def InIm (φ : Phi) (b : Nat) : Prop := ∃ id k x, φ id k = some x ∧ x.blk = b

structure Step (φ : Phi) (s : St) (w : World) (φ' : Phi) (s' : St) (w' : World) : Prop where
 le : PhiLe φ φ'
 rel : RelSt φ' s' w'
 size : w.heap.size ≤ w'.heap.size
 frame : ∀ b, b < w.heap.size → ¬ InIm φ b → w'.heap[b]? = w.heap[b]?
 ro : ∀ id k x, φ id k = some x → isRo s id → w'.heap[x.blk]? = w.heap[x.blk]?
 fresh : ∀ id k x, φ' id k = some x → InIm φ x.blk ∨ w.heap.size ≤ x.blk
 roKeep : ∀ id, isRo s id → s'.heap.get id = s.heap.get id
 roOld : ∀ id k x, φ' id k = some x → isRo s id → φ id k = some x
 os : w'.os = w.os
 tape : w'.tape = w.tape
 output : w'.output = w.output

theorem Step.refl {φ : Phi} {s : St} {w : World} (h : RelSt φ s w) : Step φ s w φ s w :=
 ⟨.refl φ, h, Nat.le_refl _, fun _ _ _ => rfl, fun _ _ _ _ _ => rfl, fun id k x e => .inl ⟨id, k, x, e, rfl⟩, fun _ _ => rfl, fun _ _ _ e _ => e, rfl, rfl, rfl⟩

theorem isRo_keep {φ : Phi} {s : St} {w : World} {φ' : Phi} {s' : St} {w' : World} (a : Step φ s w φ' s' w') {id : Nat} (h : isRo s id) : isRo s' id := by
 obtain ⟨cs, lo, inc, e⟩ := h
 exact ⟨cs, lo, inc, by rw [a.roKeep id ⟨cs, lo, inc, e⟩]; exact e⟩

theorem Step.trans {φ : Phi} {s : St} {w : World} {φ₁ : Phi} {s₁ : St} {w₁ : World} {φ₂ : Phi} {s₂ : St} {w₂ : World}
 (a : Step φ s w φ₁ s₁ w₁) (b : Step φ₁ s₁ w₁ φ₂ s₂ w₂) : Step φ s w φ₂ s₂ w₂ := by
 refine ⟨a.le.trans b.le, b.rel, Nat.le_trans a.size b.size, ?_, ?_, ?_, ?_, ?_, b.os.trans a.os, b.tape.trans a.tape, b.output.trans a.output⟩
 · intro blk hb hn
   rw [b.frame blk (Nat.lt_of_lt_of_le hb a.size) ?_, a.frame blk hb hn]
   rintro ⟨id, k, x, e, rfl⟩
   rcases a.fresh id k x e with h | h
   · exact hn h
   · omega
 · intro id k x e hr
   rw [b.ro id k x (a.le _ _ _ e) (isRo_keep a hr), a.ro id k x e hr]
 · intro id k x e
   rcases b.fresh id k x e with ⟨id', k', x', e', h'⟩ | h
   · rcases a.fresh id' k' x' e' with h | h
     · rw [h'] at h; exact .inl h
     · exact .inr (by omega)
   · exact .inr (Nat.le_trans a.size h)
 · intro id hr
   rw [b.roKeep id (isRo_keep a hr), a.roKeep id hr]
 · intro id k x e hr
   exact a.roOld id k x (b.roOld id k x e (isRo_keep a hr)) hr

/- Relations only look at the objects' world: a world with the same heap. -/
theorem CellsRel.mono {φ φ' : Phi} {w w' : World} {cs : List AV} {ro last : Bool} {x : Inc} (hle : PhiLe φ φ') (hw : w'.heap[x.blk]? = w.heap[x.blk]?) (h : CellsRel φ w cs ro last x) : CellsRel φ' w' cs ro last x := by
 obtain ⟨cc, el, fz, a, b, c, d, e, f, g, i⟩ := h
 refine ⟨cc, el, fz, by rw [hw]; exact a, b, c, d, e, f, g, fun j v h1 h2 h3 => ?_⟩
 obtain ⟨c, hc, hv⟩ := i j v h1 h2 h3
 exact ⟨c, hc, hv.mono hle⟩

theorem EntsRel.mono {φ φ' : Phi} (hle : PhiLe φ φ') : ∀ {l : List AEntry} {l' : List MapEntry}, EntsRel φ l l' → EntsRel φ' l l'
 | _, _, .nil => .nil
 | _, _, .cons a b c d => .cons (a.mono hle) (b.mono hle) c (d.mono hle)

theorem ObjRel.mono {φ φ' : Phi} {w w' : World} {id : Nat} {o : AObj} (hle : PhiLe φ φ') (hw : ∀ k x, φ id k = some x → w'.heap[x.blk]? = w.heap[x.blk]?) (h : ObjRel φ w id o) : ObjRel φ' w' id o := by
 cases o with
 | cells cs lo inc ro =>
  obtain ⟨h1, h2⟩ := h
  refine ⟨h1, fun k a b => ?_⟩
  obtain ⟨x, hx, hc⟩ := h2 k a b
  exact ⟨x, hle _ _ _ hx, hc.mono hle (hw k x hx)⟩
 | map es clock =>
  obtain ⟨x, es', hx, he, hr⟩ := h
  exact ⟨x, es', hle _ _ _ hx, by rw [hw 0 x hx]; exact he, hr.mono hle⟩

/-- A world with the same heap (a draw). -/
theorem Step.same {φ : Phi} {s : St} {w w' : World} (h : RelSt φ s w) (hh : w'.heap = w.heap) (ho : w'.os = w.os) (ht : w'.tape = w.tape) (hp : w'.output = w.output) : Step φ s w φ s w' :=
 ⟨.refl φ, ⟨fun id o e => (h.obj id o e).mono (.refl φ) (fun _ _ _ => by rw [hh]), fun id k x e => by rw [hh]; exact h.dom id k x e, h.inj, h.incs, fun id k x t e ht => ⟨(shape_of_same (by rw [hh])).trans (h.typ id k x t e ht).1, (h.typ id k x t e ht).2⟩⟩, by rw [hh]; exact Nat.le_refl _, fun _ _ _ => by rw [hh], fun _ _ _ _ _ => by rw [hh],
  fun id k x e => .inl ⟨id, k, x, e, rfl⟩, fun _ _ => rfl, fun _ _ _ e _ => e, ho, ht, hp⟩

def Phi.upd (φ : Phi) (id k : Nat) (x : Inc) : Phi := fun i j => if i = id ∧ j = k then some x else φ i j

theorem Phi.upd_same (φ : Phi) (id k : Nat) (x : Inc) : φ.upd id k x id k = some x := by simp [Phi.upd]
theorem Phi.upd_le {φ : Phi} {id k : Nat} {x : Inc} (h : φ id k = none) : PhiLe φ (φ.upd id k x) := by
 intro i j y e
 unfold Phi.upd
 split
 · rename_i hh; obtain ⟨rfl, rfl⟩ := hh; rw [h] at e; cases e
 · exact e
theorem Phi.upd_cases {φ : Phi} {id k : Nat} {x : Inc} {i j : Nat} {y : Inc} (h : φ.upd id k x i j = some y) : (i = id ∧ j = k ∧ y = x) ∨ φ i j = some y := by
 unfold Phi.upd at h
 split at h
 · rename_i hh; exact .inl ⟨hh.1, hh.2, by cases h; rfl⟩
 · exact .inr h

def St.put (s : St) (id : Nat) (o : AObj) : St := { s with heap := s.heap.set id o }
def St.add (s : St) (o : AObj) : St := { heap := s.heap.set s.next o, next := s.next + 1 }

theorem free_phi {φ : Phi} {s : St} {w : World} (h : RelSt φ s w) {id : Nat} (hf : s.heap.get id = none) (k : Nat) : φ id k = none := by
 cases e : φ id k with
 | none => rfl
 | some x => have := (h.dom id k x e).1; rw [hf] at this; cases this

/-- A new object at the state's next place, its block the heap's next one. -/
theorem step_addK {φ : Phi} {s : St} {w : World} (h : RelSt φ s w) (hf : s.heap.get s.next = none) (o : AObj) (K : Nat) (x : Inc) (ob : Obj) (hx : x.blk = w.heap.size)
 (_hro : ∀ cs lo inc, o ≠ .cells cs lo inc true)
 (hK : ∀ cs lo inc ro, o = .cells cs lo inc ro → K ≤ inc) (hty : ∀ t, K / tyBase = t + 1 → ({ w with heap := w.heap.push ob } : World).shape? x.blk = some (t, x.top) ∧ x.base = 0)
 (ho : ObjRel (φ.upd s.next K x) { w with heap := w.heap.push ob } s.next o) :
 Step φ s w (φ.upd s.next K x) (s.add o) { w with heap := w.heap.push ob } := by
 have hnk := free_phi h hf
 have hn := hnk K
 have hle : PhiLe φ (φ.upd s.next K x) := Phi.upd_le hn
 have hnr : ∀ id, isRo s id → id ≠ s.next := by
  rintro id ⟨cs, lo, inc, e⟩ rfl
  rw [hf] at e; cases e
 have hro' : ∀ id, isRo s id → isRo (s.add o) id := by
  intro id hr
  obtain ⟨cs, lo, inc, e⟩ := hr
  exact ⟨cs, lo, inc, by show (s.heap.set s.next o).get id = _; rw [Tree.get_set_ne _ _ (hnr id ⟨cs, lo, inc, e⟩)]; exact e⟩
 have hold : ∀ b, b < w.heap.size → (w.heap.push ob)[b]? = w.heap[b]? := by
  intro b hb
  rw [Array.getElem?_push, if_neg (by omega)]
 refine ⟨hle, ⟨?_, ?_, ?_, ?_, ?_⟩, by simp, fun b hb _ => hold b hb, ?_, ?_, ?_, ?_, rfl, rfl, rfl⟩
 · intro id o' e
   have e' : (s.heap.set s.next o).get id = some o' := e
   rw [Tree.get_set] at e'
   split at e'
   · rename_i hid; cases e'; rw [hid]; exact ho
   · refine (h.obj id o' e').mono hle fun k y hy => hold _ (h.dom id k y hy).2
 · intro id k y e
   show ((s.heap.set s.next o).get id).isSome = true ∧ _
   rw [Tree.get_set]
   rcases Phi.upd_cases e with ⟨rfl, rfl, rfl⟩ | e'
   · simp [hx]
   · have := h.dom id k y e'
     split
     · simp; omega
     · exact ⟨this.1, by simp; omega⟩
 · intro id k y id' k' y' e e' hb
   rcases Phi.upd_cases e with ⟨rfl, rfl, rfl⟩ | e1
   · rcases Phi.upd_cases e' with ⟨rfl, rfl, rfl⟩ | e2
     · exact .inl ⟨rfl, rfl, rfl, rfl⟩
     · have := (h.dom _ _ _ e2).2; omega
   · rcases Phi.upd_cases e' with ⟨rfl, rfl, rfl⟩ | e2
     · have := (h.dom _ _ _ e1).2; omega
     · rcases h.inj _ _ _ _ _ _ e1 e2 hb with h1 | ⟨h1, h2⟩
       · exact .inl h1
       · exact .inr ⟨hro' _ h1, hro' _ h2⟩
 · intro id k y cs lo inc ro e e2
   have e2' : (s.heap.set s.next o).get id = some (.cells cs lo inc ro) := e2
   rw [Tree.get_set] at e2'
   rcases Phi.upd_cases e with ⟨rfl, rfl, rfl⟩ | e1
   · rw [if_pos rfl] at e2'
     exact hK _ _ _ _ (by cases e2'; rfl)
   · split at e2'
     · rename_i hid; rw [hid, hnk] at e1; cases e1
     · exact h.incs _ _ _ _ _ _ _ e1 e2'
 · intro id k y t e ht
   rcases Phi.upd_cases e with ⟨rfl, rfl, rfl⟩ | e1
   · exact hty t ht
   · exact ⟨(shape_of_same (hold _ (h.dom _ _ _ e1).2)).trans (h.typ _ _ _ _ e1 ht).1, (h.typ _ _ _ _ e1 ht).2⟩
 · intro id k y e _
   exact hold _ (h.dom _ _ _ e).2
 · intro id k y e
   rcases Phi.upd_cases e with ⟨rfl, rfl, rfl⟩ | e1
   · exact .inr (by omega)
   · exact .inl ⟨id, k, y, e1, rfl⟩
 · intro id hr
   show (s.heap.set s.next o).get id = _
   rw [Tree.get_set_ne _ _ (hnr id hr)]
 · intro id k y e hr
   rcases Phi.upd_cases e with ⟨rfl, rfl, rfl⟩ | e1
   · exact absurd rfl (hnr _ hr)
   · exact e1

theorem step_add {φ : Phi} {s : St} {w : World} (h : RelSt φ s w) (hf : s.heap.get s.next = none) (o : AObj) (x : Inc) (ob : Obj) (hx : x.blk = w.heap.size)
 (hro : ∀ cs lo inc, o ≠ .cells cs lo inc true)
 (ho : ObjRel (φ.upd s.next 0 x) { w with heap := w.heap.push ob } s.next o) :
 Step φ s w (φ.upd s.next 0 x) (s.add o) { w with heap := w.heap.push ob } :=
 step_addK h hf o 0 x ob hx hro (fun _ _ _ _ _ => Nat.zero_le _) (fun _ h => (ty_zero h).elim) ho

/-- One object that is not read only turns, and its block with it. -/
theorem step_put {φ : Phi} {s : St} {w w' : World} (h : RelSt φ s w) {id k : Nat} {x : Inc} {o o' : AObj} (ho : s.heap.get id = some o) (hx : φ id k = some x)
 (hro : ∀ cs lo inc, o ≠ .cells cs lo inc true) (hinc : ∀ cs lo inc ro, o' = .cells cs lo inc ro → ∀ k y, φ id k = some y → k ≤ inc)
 (hs : w'.heap.size = w.heap.size) (hb : ∀ b, b ≠ x.blk → w'.heap[b]? = w.heap[b]?) (hsh : w'.shape? x.blk = w.shape? x.blk) (hos : w'.os = w.os) (ht : w'.tape = w.tape) (hp : w'.output = w.output)
 (hn : ObjRel φ w' id o') : Step φ s w φ (s.put id o') w' := by
 have hnr : ∀ i, isRo s i → i ≠ id := by
  rintro i ⟨cs, lo, inc, e⟩ rfl
  rw [ho] at e; cases e; exact hro _ _ _ rfl
 have hkeep : ∀ i, isRo s i → isRo (s.put id o') i := by
  intro i hr
  obtain ⟨cs, lo, inc, e⟩ := hr
  exact ⟨cs, lo, inc, by show (s.heap.set id o').get i = _; rw [Tree.get_set_ne _ _ (hnr i ⟨cs, lo, inc, e⟩)]; exact e⟩
 have hne : ∀ i j y, φ i j = some y → i ≠ id → y.blk ≠ x.blk := by
  intro i j y e hi hb
  rcases h.inj _ _ _ _ _ _ e hx hb with ⟨h1, _⟩ | ⟨_, h2⟩
  · exact hi h1
  · exact hnr _ h2 rfl
 refine ⟨.refl φ, ⟨?_, ?_, ?_, ?_, ?_⟩, by omega, fun b _ hni => hb b (fun e => hni ⟨id, k, x, hx, e.symm⟩), ?_, fun i j y e => .inl ⟨i, j, y, e, rfl⟩, ?_, fun _ _ _ e _ => e, hos, ht, hp⟩
 · intro i o₁ e
   have e' : (s.heap.set id o').get i = some o₁ := e
   rw [Tree.get_set] at e'
   split at e'
   · rename_i hid; cases e'; rw [hid]; exact hn
   · rename_i hid
     exact (h.obj i o₁ e').mono (.refl φ) fun j y hy => hb _ (hne i j y hy hid)
 · intro i j y e
   show ((s.heap.set id o').get i).isSome = true ∧ _
   rw [Tree.get_set, hs]
   have := h.dom i j y e
   split
   · simp; omega
   · exact this
 · intro i j y i' j' y' e e' hbb
   rcases h.inj _ _ _ _ _ _ e e' hbb with h1 | ⟨h1, h2⟩
   · exact .inl h1
   · exact .inr ⟨hkeep _ h1, hkeep _ h2⟩
 · intro i j y cs lo inc ro e e2
   have e2' : (s.heap.set id o').get i = some (.cells cs lo inc ro) := e2
   rw [Tree.get_set] at e2'
   split at e2'
   · rename_i hid; cases e2'; rw [hid] at e; exact hinc _ _ _ _ rfl _ _ e
   · exact h.incs _ _ _ _ _ _ _ e e2'
 · intro i j y t e ht
   have hty := h.typ _ _ _ _ e ht
   by_cases hb1 : y.blk = x.blk
   · rw [hb1, hsh, ← hb1]; exact hty
   · exact ⟨(shape_of_same (hb _ hb1)).trans hty.1, hty.2⟩
 · intro i j y e hr
   exact hb _ (hne i j y e (hnr i hr))
 · intro i hr
   show (s.heap.set id o').get i = _
   rw [Tree.get_set_ne _ _ (hnr i hr)]

/-- One object gets a further incarnation. -/
theorem step_regrow {φ : Phi} {s : St} {w w' : World} (h : RelSt φ s w) {id inc lo' : Nat} {lo : Nat} {x x' : Inc} {cs cs' : List AV} (ho : s.heap.get id = some (.cells cs lo inc false)) (hx : φ id inc = some x)
 (hs : w.heap.size ≤ w'.heap.size) (hb : ∀ b, b < w.heap.size → b ≠ x.blk → w'.heap[b]? = w.heap[b]?) (hsh : w'.shape? x.blk = w.shape? x.blk) (hty : ∀ t, (inc + 1) / tyBase = t + 1 → w'.shape? x'.blk = some (t, x'.top) ∧ x'.base = 0) (hos : w'.os = w.os) (ht : w'.tape = w.tape) (hp : w'.output = w.output)
 (hx' : (x'.blk = x.blk ∧ x'.base = x.base ∧ x'.sh = x.sh ∧ x'.top = x.top) ∨ x'.blk = w.heap.size) (hlt : x'.blk < w'.heap.size)
 (hn : ObjRel (φ.upd id (inc + 1) x') w' id (.cells cs' lo' (inc + 1) false)) : Step φ s w (φ.upd id (inc + 1) x') (s.put id (.cells cs' lo' (inc + 1) false)) w' := by
 have hnone : φ id (inc + 1) = none := by
  cases e : φ id (inc + 1) with
  | none => rfl
  | some y => have := h.incs _ _ _ _ _ _ _ e ho; omega
 have hle : PhiLe φ (φ.upd id (inc + 1) x') := Phi.upd_le hnone
 have hnr : ∀ i, isRo s i → i ≠ id := by
  rintro i ⟨cs, lo, inc, e⟩ rfl
  rw [ho] at e; cases e
 have hkeep : ∀ i, isRo s i → isRo (s.put id (.cells cs' lo' (inc + 1) false)) i := by
  intro i hr
  obtain ⟨cs, lo, inc, e⟩ := hr
  exact ⟨cs, lo, inc, by show (s.heap.set id _).get i = _; rw [Tree.get_set_ne _ _ (hnr i ⟨cs, lo, inc, e⟩)]; exact e⟩
 have hne : ∀ i j y, φ i j = some y → i ≠ id → y.blk ≠ x.blk := by
  intro i j y e hi hb
  rcases h.inj _ _ _ _ _ _ e hx hb with ⟨h1, _⟩ | ⟨_, h2⟩
  · exact hi h1
  · exact hnr _ h2 rfl
 refine ⟨hle, ⟨?_, ?_, ?_, ?_, ?_⟩, hs, fun b hlt hni => hb b hlt (fun e => hni ⟨id, inc, x, hx, e.symm⟩), ?_, ?_, ?_, ?_, hos, ht, hp⟩
 · intro i o₁ e
   have e' : (s.heap.set id (.cells cs' lo' (inc + 1) false)).get i = some o₁ := e
   rw [Tree.get_set] at e'
   split at e'
   · rename_i hid; cases e'; rw [hid]; exact hn
   · rename_i hid
     exact (h.obj i o₁ e').mono hle fun j y hy => hb _ (h.dom _ _ _ hy).2 (hne i j y hy hid)
 · intro i j y e
   show ((s.heap.set id _).get i).isSome = true ∧ _
   rw [Tree.get_set]
   rcases Phi.upd_cases e with ⟨rfl, rfl, rfl⟩ | e1
   · simp [hlt]
   · have := h.dom i j y e1
     split
     · simp; omega
     · exact ⟨this.1, by omega⟩
 · have key : ∀ i j y, φ i j = some y → x'.blk = y.blk → id = i ∧ x'.base = y.base ∧ x'.sh = y.sh ∧ x'.top = y.top := by
    intro i j y e hbb
    have hd := (h.dom _ _ _ e).2
    rcases hx' with ⟨h1, h2, h3, h4⟩ | h1
    · rcases h.inj _ _ _ _ _ _ e hx (by omega) with ⟨g1, g2, g3, g4⟩ | ⟨_, g⟩
      · exact ⟨g1.symm, by omega, by omega, by omega⟩
      · exact absurd rfl (hnr _ g)
    · omega
   intro i j y i' j' y' e e' hbb
   rcases Phi.upd_cases e with ⟨rfl, rfl, rfl⟩ | e1
   · rcases Phi.upd_cases e' with ⟨rfl, rfl, rfl⟩ | e2
     · exact .inl ⟨rfl, rfl, rfl, rfl⟩
     · exact .inl (key _ _ _ e2 hbb)
   · rcases Phi.upd_cases e' with ⟨rfl, rfl, rfl⟩ | e2
     · obtain ⟨a, b, c, d⟩ := key _ _ _ e1 hbb.symm
       exact .inl ⟨a.symm, b.symm, c.symm, d.symm⟩
     · rcases h.inj _ _ _ _ _ _ e1 e2 hbb with h1 | ⟨h1, h2⟩
       · exact .inl h1
       · exact .inr ⟨hkeep _ h1, hkeep _ h2⟩
 · intro i j y cs lo inc₂ ro e e2
   have e2' : (s.heap.set id (.cells cs' lo' (inc + 1) false)).get i = some (.cells cs lo inc₂ ro) := e2
   rw [Tree.get_set] at e2'
   split at e2'
   · rename_i hid; cases e2'; rw [hid] at e
     rcases Phi.upd_cases e with ⟨_, rfl, _⟩ | e1
     · exact Nat.le_refl _
     · have := h.incs _ _ _ _ _ _ _ e1 ho; omega
   · rename_i hid
     rcases Phi.upd_cases e with ⟨rfl, _, _⟩ | e1
     · exact absurd rfl hid
     · exact h.incs _ _ _ _ _ _ _ e1 e2'
 · intro i j y t e ht
   rcases Phi.upd_cases e with ⟨rfl, rfl, rfl⟩ | e1
   · exact hty t ht
   · have h1 := h.typ _ _ _ _ e1 ht
     by_cases hb1 : y.blk = x.blk
     · rw [hb1, hsh, ← hb1]; exact h1
     · exact ⟨(shape_of_same (hb _ (h.dom _ _ _ e1).2 hb1)).trans h1.1, h1.2⟩
 · intro i j y e hr
   exact hb _ (h.dom _ _ _ e).2 (hne i j y e (hnr i hr))
 · intro i j y e
   rcases Phi.upd_cases e with ⟨rfl, rfl, rfl⟩ | e1
   · rcases hx' with ⟨h1, _⟩ | h1
     · exact .inl ⟨_, inc, x, hx, h1.symm⟩
     · exact .inr (by omega)
   · exact .inl ⟨i, j, y, e1, rfl⟩
 · intro i hr
   show (s.heap.set id _).get i = _
   rw [Tree.get_set_ne _ _ (hnr i hr)]
 · intro i j y e hr
   rcases Phi.upd_cases e with ⟨rfl, rfl, rfl⟩ | e1
   · exact absurd rfl (hnr _ hr)
   · exact e1
end Go.V
