/- WHAT AN EVALUATION DOES TO THE STATE, AND THAT MORE OBJECTS DO NOT MATTER. -/
import Derived.Test.YtlpdekocilhciaaV16
/- WHAT AN EVALUATION DOES TO THE STATE, AND THAT MORE OBJECTS DO NOT MATTER. -/
namespace Go.V
open Go

theorem set_leaf {α : Type} (i : Nat) (a : α) : Tree.set (.leaf) i a = Tree.set (.node none .leaf .leaf) i a := by
  have key : ∀ (i f g : Nat), i ≤ f → i ≤ g → Tree.single a f i = Tree.single a g i := by
    intro i
    induction i using Nat.strongRecOn with
    | _ i ih =>
      intro f g hf hg
      cases i with
      | zero => cases f <;> cases g <;> rfl
      | succ j =>
        cases f with
        | zero => omega
        | succ f =>
          cases g with
          | zero => omega
          | succ g =>
            simp only [Tree.single]
            have := ih (j / 2) (by omega) f g (by omega) (by omega)
            rw [this]
  cases i with
  | zero => rfl
  | succ j =>
    simp only [Tree.set, Tree.single]
    rw [key (j / 2) j (j / 2) (by omega) (Nat.le_refl _)]

theorem set_comm {α : Type} {a b : α} : ∀ (i j : Nat) (t : Tree α), i ≠ j → (t.set i a).set j b = (t.set j b).set i a := by
  intro i
  induction i using Nat.strongRecOn with
  | _ i ih =>
    have node : ∀ (j : Nat) (v : Option α) (l r : Tree α), i ≠ j → ((Tree.node v l r).set i a).set j b = ((Tree.node v l r).set j b).set i a := by
      intro j v l r hne
      cases i with
      | zero =>
        cases j with
        | zero => exact absurd rfl hne
        | succ j => simp only [Tree.set]; cases Nat.beq (j % 2) 0 <;> simp only [Tree.set]
      | succ i =>
        cases j with
        | zero => simp only [Tree.set]; cases Nat.beq (i % 2) 0 <;> simp only [Tree.set]
        | succ j =>
          simp only [Tree.set]
          cases hi : Nat.beq (i % 2) 0 <;> cases hj : Nat.beq (j % 2) 0 <;> simp only [Tree.set, hi, hj]
          · rw [Tree.par] at hi hj
            simp at hi hj
            rw [ih (i / 2) (by omega) (j / 2) r (by omega)]
          · rw [Tree.par] at hi hj
            simp at hi hj
            rw [ih (i / 2) (by omega) (j / 2) l (by omega)]
    intro j t hne
    cases t with
    | node v l r => exact node j v l r hne
    | leaf =>
      have h1 := set_leaf (α := α) i a
      have h2 := set_leaf (α := α) j b
      rw [h1, h2, node j none .leaf .leaf hne]

structure Good (s s' : St) : Prop where
  next : s.next ≤ s'.next
  dom : ∀ id, (s.heap.get id).isSome = true → (s'.heap.get id).isSome = true
  new : ∀ id, (s'.heap.get id).isSome = true → (s.heap.get id).isSome = true ∨ (s.next ≤ id ∧ id < s'.next)

structure Over (s t : St) : Prop where
  next : t.next = s.next
  get : ∀ id o, s.heap.get id = some o → t.heap.get id = some o

def FreeIn (t : St) (n m : Nat) : Prop := ∀ id, n ≤ id → id < m → t.heap.get id = none

theorem Good.refl (s : St) : Good s s := ⟨Nat.le_refl _, fun _ h => h, fun _ h => .inl h⟩
theorem Good.trans {a b c : St} (h : Good a b) (k : Good b c) : Good a c := by
  refine ⟨Nat.le_trans h.next k.next, fun id x => k.dom id (h.dom id x), fun id x => ?_⟩
  have := h.next
  have := k.next
  rcases k.new id x with y | y
  · rcases h.new id y with z | z
    · exact .inl z
    · exact .inr ⟨z.1, by omega⟩
  · exact .inr ⟨by omega, y.2⟩

/-- What one instruction that is no call does to the state. -/
inductive Eff (s : St) : (St → St) → Prop
  | id : Eff s id
  | put (i : Nat) (o : AObj) : (s.heap.get i).isSome = true → Eff s (·.put i o)
  | add (o : AObj) : Eff s (·.add o)

theorem Eff.good {s : St} {F : St → St} (h : Eff s F) : Good s (F s) := by
  cases h with
  | id => exact .refl s
  | put i o hi =>
    refine ⟨Nat.le_refl _, fun id x => ?_, fun id x => ?_⟩
    · simp only [St.put, Tree.get_set]; split <;> simp_all
    · simp only [St.put, Tree.get_set] at x; split at x
      · rename_i e; subst e; exact .inl hi
      · exact .inl x
  | add o =>
    refine ⟨Nat.le_succ _, fun id x => ?_, fun id x => ?_⟩
    · simp only [St.add, Tree.get_set]; split <;> simp_all
    · simp only [St.add, Tree.get_set] at x; split at x
      · rename_i e; subst e; exact .inr ⟨Nat.le_refl _, Nat.lt_succ_self _⟩
      · exact .inl x

theorem over_put {s : St} {b : Nat} {o : AObj} (h : s.heap.get b = none) : Over s (s.put b o) := by
  refine ⟨rfl, fun id o' x => ?_⟩
  simp only [St.put, Tree.get_set]
  split
  · rename_i e; subst e; rw [h] at x; cases x
  · exact x

theorem Eff.beside {s : St} {F : St → St} (h : Eff s F) {b : Nat} {o : AObj} (hb : s.heap.get b = none) (hn : ¬ (s.next ≤ b ∧ b < (F s).next)) : F (s.put b o) = (F s).put b o := by
  cases h with
  | id => rfl
  | put i o' hi =>
    have : b ≠ i := by rintro rfl; rw [hb] at hi; cases hi
    simp only [St.put]
    rw [set_comm _ _ _ this]
  | add o' =>
    have : b ≠ s.next := by
      rintro rfl
      exact hn ⟨Nat.le_refl _, by simp [St.add]⟩
    simp only [St.put, St.add]
    rw [set_comm _ _ _ this]

def Res.st (s : St) : Res → St
  | .val _ s => s
  | .panic _ s => s
  | .fail => s
def Res.to (r : Res) (t : St) : Res := match r with
  | .val v _ => .val v t
  | .panic v _ => .panic v t
  | .fail => .fail

/-- That an instruction's result comes of an effect. -/
def Effs (s : St) (f : St → Res) : Prop := f s ≠ .fail → ∃ F, Eff s F ∧ (f s).st s = F s ∧ ∀ t, Over s t → f t = (f s).to (F t)

theorem Over.readAt {s t : St} (h : Over s t) {a : AAddr} {n : Nat} {l : List AV} (e : s.readAt a n = some l) : t.readAt a n = some l := by
  unfold St.readAt at e ⊢
  split at e
  · rename_i cs lo inc ro ho
    rw [h.get _ _ ho]
    exact e
  · cases e

theorem effs_pure {s : St} (r : Option AV) : Effs s (fun s => ofOpt s r) := by
  intro h
  cases r with
  | none => exact absurd rfl h
  | some v => exact ⟨_, .id, rfl, fun t _ => rfl⟩

theorem effs_read {s : St} {g : St → Option AV} (h : ∀ v t, Over s t → g s = some v → g t = some v) : Effs s (fun s => ofOpt s (g s)) := by
  intro hn
  cases hg : g s with
  | none => simp [ofOpt, hg] at hn
  | some v => exact ⟨_, .id, by simp [ofOpt, hg, Res.st], fun t ht => by simp [ofOpt, hg, h v t ht hg, Res.to]⟩

theorem effs_put {s : St} {g : St → Option St} (h : ∀ s', g s = some s' → ∃ F, Eff s F ∧ s' = F s ∧ ∀ t, Over s t → g t = some (F t)) : Effs s (fun s => ofSt (g s)) := by
  intro hn
  cases hg : g s with
  | none => simp [ofSt, hg] at hn
  | some s' =>
    obtain ⟨F, h1, h2, h3⟩ := h s' hg
    exact ⟨F, h1, by simp [ofSt, hg, Res.st, h2], fun t ht => by simp [ofSt, hg, h3 t ht, Res.to]⟩

theorem effs_both {s : St} {g : St → Option (AV × St)} (h : ∀ v s', g s = some (v, s') → ∃ F, Eff s F ∧ s' = F s ∧ ∀ t, Over s t → g t = some (v, F t)) : Effs s (fun s => ofBoth (g s)) := by
  intro hn
  cases hg : g s with
  | none => simp [ofBoth, hg] at hn
  | some q =>
    obtain ⟨v, s'⟩ := q
    obtain ⟨F, h1, h2, h3⟩ := h v s' hg
    exact ⟨F, h1, by simp [ofBoth, hg, Res.st, h2], fun t ht => by simp [ofBoth, hg, h3 t ht, Res.to]⟩

theorem load_over {s t : St} (ht : Over s t) {agg : Bool} {n : Nat} {x v : AV} (h : loadV s agg n x = some v) : loadV t agg n x = some v := by
  unfold loadV at h ⊢
  split at h
  · split at h
    · rename_i l hl
      simp only [ht.readAt hl]
      exact h
    · cases h
  · cases h

theorem store_eff {s s' : St} {n : Nat} {x v : AV} (h : storeV s n x v = some s') : ∃ F, Eff s F ∧ s' = F s ∧ ∀ t, Over s t → storeV t n x v = some (F t) := by
  unfold storeV at h
  split at h
  · split at h
    · rename_i ho
      split at h
      · rename_i hc
        cases h
        exact ⟨_, .put _ _ (by rw [ho]; rfl), rfl, fun t ht => by simp only [storeV, ht.get _ _ ho]; rw [if_pos hc]⟩
      · cases h
    · cases h
  · cases h

theorem lookup_over {s t : St} (ht : Over s t) {k : KK} {z : AV} {ok : Bool} {m key v : AV} (h : lookupV s k z ok m key = some v) : lookupV t k z ok m key = some v := by
  unfold lookupV at h ⊢
  split at h
  · exact h
  · split at h
    · rename_i ho
      simp only [ht.get _ _ ho]
      exact h
    · cases h
  · cases h

theorem mapSet_eff {s s' : St} {k : KK} {m key v : AV} (h : mapSetV s k m key v = some s') : ∃ F, Eff s F ∧ s' = F s ∧ ∀ t, Over s t → mapSetV t k m key v = some (F t) := by
  unfold mapSetV at h
  split at h
  · split at h
    · rename_i ho
      split at h
      · rename_i hf
        cases h
        exact ⟨_, .put _ _ (by rw [ho]; rfl), rfl, fun t ht => by simp only [mapSetV, ht.get _ _ ho, hf]⟩
      · rename_i hf
        cases h
        exact ⟨_, .put _ _ (by rw [ho]; rfl), rfl, fun t ht => by simp only [mapSetV, ht.get _ _ ho, hf]⟩
      · cases h
    · cases h
  · cases h

theorem delete_eff {s s' : St} {k : KK} {m key : AV} (h : deleteV s k m key = some s') : ∃ F, Eff s F ∧ s' = F s ∧ ∀ t, Over s t → deleteV t k m key = some (F t) := by
  unfold deleteV at h
  split at h
  · cases h; exact ⟨_, .id, rfl, fun t _ => rfl⟩
  · split at h
    · rename_i ho
      split at h
      · rename_i hf
        cases h
        exact ⟨_, .put _ _ (by rw [ho]; rfl), rfl, fun t ht => by simp only [deleteV, ht.get _ _ ho, hf]⟩
      · rename_i hf
        cases h
        exact ⟨_, .put _ _ (by rw [ho]; rfl), rfl, fun t ht => by simp only [deleteV, ht.get _ _ ho, hf]⟩
      · cases h
    · cases h
  · cases h

theorem more_over {s t : St} (ht : Over s t) {esz : Nat} {x : AV} {l : List AV} (h : moreV s esz x = some l) : moreV t esz x = some l := by
  unfold moreV at h ⊢
  split at h
  · exact h
  · exact h
  · split at h
    · rename_i hc; rw [if_pos hc]; exact ht.readAt h
    · cases h
  · exact h
  · cases h

theorem append_eff {s s' : St} {esz k : Nat} {x v : AV} {more : List AV} (h : appendV s esz x k more = some (v, s')) : ∃ F, Eff s F ∧ s' = F s ∧ ∀ t, Over s t → appendV t esz x k more = some (v, F t) := by
  unfold appendV at h
  split at h
  · rename_i hc
    split at h
    · rename_i hk
      split at h
      · cases h; exact ⟨_, .id, rfl, fun t _ => by unfold appendV; rw [if_pos hc, if_pos hk]; rfl⟩
      · cases h; exact ⟨_, .id, rfl, fun t _ => by unfold appendV; rw [if_pos hc, if_pos hk]; rfl⟩
      · split at h
        · rename_i hl; cases h; exact ⟨_, .id, rfl, fun t _ => by unfold appendV; rw [if_pos hc, if_pos hk]; dsimp only; rw [if_pos hl]; rfl⟩
        · cases h
      · cases h
    · rename_i hk
      split at h
      · split at h
        · rename_i hl; cases h; exact ⟨_, .add _, rfl, fun t ht => by unfold appendV; rw [if_pos hc, if_neg hk, if_pos hl, ht.next]⟩
        · cases h
      · rename_i a len cap exact' es
        split at h
        · rename_i hl
          split at h
          · rename_i cs lo inc ro ho
            simp only [] at h
            split at h
            · rename_i h1
              split at h
              · rename_i h2
                cases h
                exact ⟨_, .put _ _ (by rw [ho]; rfl), rfl, fun t ht => by unfold appendV; rw [if_pos hc, if_neg hk]; dsimp only; rw [if_pos hl, ht.get _ _ ho]; dsimp only; rw [if_pos h1, if_pos h2]⟩
              · cases h
            · rename_i h1
              split at h
              · rename_i h2
                split at h
                · rename_i old hold
                  cases h
                  exact ⟨_, .add _, rfl, fun t ht => by unfold appendV; rw [if_pos hc, if_neg hk]; dsimp only; rw [if_pos hl, ht.get _ _ ho]; dsimp only; rw [if_neg h1, if_pos h2, ht.readAt hold, ht.next]⟩
                · cases h
              · rename_i h2
                split at h
                · rename_i h3
                  cases h
                  exact ⟨_, .put _ _ (by rw [ho]; rfl), rfl, fun t ht => by unfold appendV; rw [if_pos hc, if_neg hk]; dsimp only; rw [if_pos hl, ht.get _ _ ho]; dsimp only; rw [if_neg h1, if_neg h2, if_pos h3]⟩
                · cases h
          · cases h
        · cases h
      · cases h
  · cases h

theorem ext_eff {s : St} {k : ExtK} {args : List AV} : Effs s (fun s => extV k args s) := by
  intro hn
  unfold extV at hn
  split at hn
  case h_1 => exact effs_pure _ hn
  case h_2 => exact effs_pure _ hn
  case h_3 => exact effs_pure _ hn
  case h_4 => exact effs_pure _ hn
  case h_5 => exact ⟨_, .id, rfl, fun t _ => rfl⟩
  case h_6 => exact ⟨_, .id, rfl, fun t _ => rfl⟩
  case h_7 =>
    simp only [] at hn
    split at hn
    · rename_i ho
      refine ⟨_, .add _, by simp only [extV, ho, Res.st]; rfl, fun t ht => by simp only [extV, ho, ht.get _ _ ho, Res.to, ht.next]⟩
    · exact absurd rfl hn
  case h_8 => exact ⟨_, .id, rfl, fun t _ => rfl⟩
  case h_9 => exact ⟨_, .id, rfl, fun t _ => rfl⟩
  case h_10 => exact absurd rfl hn

def isCall : Ins → Bool
  | .call .. | .callVal .. => true
  | _ => false

section
variable {T : Tab} {rec : Rec}
theorem ins_eff {e : Env} {s : St} {i : Ins} (hc : isCall i = false) : Effs s (fun s => evalIns T rec e s i) := by
  intro hn
  cases i
  case call => cases hc
  case callVal => cases hc
  case bad => exact absurd rfl hn
  case move => exact ⟨_, .id, rfl, fun t _ => rfl⟩
  case mkIface => exact ⟨_, .id, rfl, fun t _ => rfl⟩
  case mkFunc => exact ⟨_, .id, rfl, fun t _ => rfl⟩
  case lenArr => exact ⟨_, .id, rfl, fun t _ => rfl⟩
  case bin => exact effs_pure _ hn
  case un => exact effs_pure _ hn
  case sliceStr => exact effs_pure _ hn
  case sliceSl => exact effs_pure _ hn
  case assertT => exact effs_pure _ hn
  case load => exact effs_read (g := fun s => loadV s _ _ _) (fun v t ht h => load_over ht h) hn
  case lookup => exact effs_read (g := fun s => lookupV s _ _ _ _ _) (fun v t ht h => lookup_over ht h) hn
  case store => exact effs_put (g := fun s => storeV s _ _ _) (fun s' h => store_eff h) hn
  case mapSet => exact effs_put (g := fun s => mapSetV s _ _ _ _) (fun s' h => mapSet_eff h) hn
  case box => exact ⟨_, .add _, rfl, fun t ht => by simp only [evalIns, boxV, Res.to, ht.next]⟩
  case alloc => exact ⟨_, .add _, rfl, fun t ht => by simp only [evalIns, boxV, Res.to, ht.next]⟩
  case mkMap => exact ⟨_, .add _, rfl, fun t ht => by simp only [evalIns, Res.to, ht.next]⟩
  case sliceArr =>
    refine effs_read (g := fun s => sliceArrV s _ _ _ _ _ _) (fun v t ht h => ?_) hn
    unfold sliceArrV at h ⊢
    split at h
    · split at h
      · rename_i hl; simp only [ht.readAt hl]; exact h
      · cases h
    · cases h
  case delete =>
    simp only [evalIns] at hn ⊢
    split at hn
    · rename_i s' hs
      obtain ⟨F, h1, h2, h3⟩ := delete_eff hs
      exact ⟨F, h1, by simp only [hs, Res.st, h2], fun t ht => by simp only [hs, h3 t ht, Res.to]⟩
    · exact absurd rfl hn
  case append =>
    simp only [evalIns] at hn ⊢
    split at hn
    · rename_i l hl
      split at hn
      · rename_i hb
        have := effs_both (s := s) (g := fun s => appendV s _ _ _ l) (fun v s' h => append_eff h) hn
        obtain ⟨F, h1, h2, h3⟩ := this
        refine ⟨F, h1, by simp only [hl, if_pos hb]; exact h2, fun t ht => ?_⟩
        simp only [hl, more_over ht hl, if_pos hb]
        exact h3 t ht
      · exact absurd rfl hn
    · exact absurd rfl hn
  case appendZ =>
    simp only [evalIns] at hn ⊢
    split at hn
    · rename_i n hl
      split at hn
      · rename_i hb
        have := effs_both (s := s) (g := fun s => appendV s _ _ n _) (fun v s' h => append_eff h) hn
        obtain ⟨F, h1, h2, h3⟩ := this
        refine ⟨F, h1, by simp only [hl, if_pos hb]; exact h2, fun t ht => ?_⟩
        simp only [hl, if_pos hb]
        exact h3 t ht
      · exact absurd rfl hn
    · exact absurd rfl hn
  case clearSl =>
    simp only [evalIns] at hn ⊢
    split at hn
    · rename_i h; exact ⟨_, .id, rfl, fun t _ => rfl⟩
    · rename_i h; exact ⟨_, .id, rfl, fun t _ => rfl⟩
    · rename_i h
      split at hn
      · rename_i h1; exact ⟨_, .id, by simp only [h, if_pos h1]; rfl, fun t _ => by simp only [h, if_pos h1]; rfl⟩
      · rename_i h1
        split at hn
        · rename_i h2
          split at hn
          · rename_i s' hs
            obtain ⟨F, g1, g2, g3⟩ := store_eff hs
            exact ⟨F, g1, by simp only [h, if_neg h1, if_pos h2, hs, Res.st, g2], fun t ht => by simp only [h, if_neg h1, if_pos h2, hs, g3 t ht, Res.to]⟩
          · exact absurd rfl hn
        · exact absurd rfl hn
    · exact absurd rfl hn
  case conv =>
    simp only [evalIns] at hn ⊢
    split at hn
    · rename_i h
      split at hn
      · rename_i h1; simp only [if_pos h1]; exact ⟨_, .add _, rfl, fun t ht => by simp only [Res.to, ht.next]⟩
      · exact absurd rfl hn
    · rename_i h; exact ⟨_, .id, rfl, fun t _ => rfl⟩
    · rename_i h; exact ⟨_, .id, rfl, fun t _ => rfl⟩
    · rename_i h
      split at hn
      · rename_i l hl
        split at hn
        · rename_i bs hb; exact ⟨_, .id, rfl, fun t ht => by simp only [ht.readAt hl, hb]; rfl⟩
        · exact absurd rfl hn
      · exact absurd rfl hn
    · rename_i h1 h2 h3 h4
      exact effs_pure _ hn
  case lenMap =>
    simp only [evalIns] at hn ⊢
    split at hn
    · rename_i h; exact ⟨_, .id, rfl, fun t _ => rfl⟩
    · rename_i h
      split at hn
      · rename_i ho; exact ⟨_, .id, rfl, fun t ht => by simp only [ht.get _ _ ho]; rfl⟩
      · exact absurd rfl hn
    · exact absurd rfl hn
  all_goals
    simp only [evalIns] at hn ⊢
    repeat' split at hn
    all_goals first
      | exact absurd rfl hn
      | exact effs_pure _ hn
      | exact ⟨_, .id, rfl, fun t _ => rfl⟩
      | exact ⟨_, .add _, rfl, fun t ht => by simp only [Res.to, ht.next]⟩
      | (rename_i h1; simp only [if_pos h1]; first | exact effs_pure _ hn | exact ⟨_, .id, rfl, fun t _ => rfl⟩ | exact ⟨_, .add _, rfl, fun t ht => by simp only [Res.to, ht.next]⟩)


/-- What may be said of a part's evaluation. -/
def Tame (s : St) (f : St → Res) : Prop := f s ≠ .fail → Good s ((f s).st s) ∧ ∀ b o, s.heap.get b = none → ¬ (s.next ≤ b ∧ b < ((f s).st s).next) → f (s.put b o) = (f s).to (((f s).st s).put b o)

theorem Effs.tame {s : St} {f : St → Res} (h : Effs s f) : Tame s f := by
  intro hn
  obtain ⟨F, h1, h2, h3⟩ := h hn
  rw [h2]
  exact ⟨h1.good, fun b o hb hn => by rw [h3 _ (over_put hb), h1.beside hb hn]⟩

def TameO (s : St) (f : St → Out) : Prop := ∀ x e s', f s = .ok x e s' → Good s s' ∧ ∀ b o, s.heap.get b = none → ¬ (s.next ≤ b ∧ b < s'.next) → f (s.put b o) = .ok x e (s'.put b o)

def TameRec (rec : Rec) : Prop := ∀ c e s, TameO s (fun s => rec c e s)

def TameHooks (T : Tab) : Prop := ∀ f h, T f = some (.hook h) → ∀ args s, Tame s (fun s => ofBoth (h args s))

theorem Good.none {s s' : St} (h : Good s s') {b : Nat} (hb : s.heap.get b = none) (hn : ¬ (s.next ≤ b ∧ b < s'.next)) : s'.heap.get b = none := by
  cases e : s'.heap.get b with
  | none => rfl
  | some o =>
    rcases h.new b (by rw [e]; rfl) with x | x
    · rw [hb] at x; cases x
    · exact absurd x hn

theorem result_over {s t : St} (ht : Over s t) {e : Env} {r : RVar} {v : AV} (h : resultV e s r = some v) : resultV e t r = some v := by
  cases r with
  | tmp i => exact h
  | cell i agg n => exact load_over ht h

theorem results_over {s t : St} (ht : Over s t) {e : Env} : ∀ {l : List RVar} {vs : List AV}, resultsV e s l = some vs → resultsV e t l = some vs
  | [], _, h => h
  | r :: l, vs, h => by
    simp only [resultsV] at h ⊢
    split at h
    · rename_i v hv
      split at h
      · rename_i vs' hvs
        simp only [result_over ht hv, results_over ht hvs]
        exact h
      · cases h
    · cases h

theorem runFn_tame (hr : TameRec rec) {fn : IFunc} {args : List AV} {s : St} : Tame s (runFn rec fn args) := by
  intro hn
  unfold runFn at hn ⊢
  split at hn
  · rename_i hle
    simp only [if_pos hle]
    cases he : rec fn.code (bind args 0 .leaf) s with
    | fail => rw [he] at hn; exact absurd rfl hn
    | ok x e s' =>
      rw [he] at hn
      obtain ⟨hg, hk⟩ := hr _ _ _ _ _ _ he
      dsimp only at hk
      cases x with
      | normal =>
        simp only [] at hn ⊢
        cases hl : resultsV e s' fn.results with
        | none => rw [hl] at hn; exact absurd rfl hn
        | some l =>
          simp only [hl, Res.st]
          exact ⟨hg, fun b o hb hnb => by rw [hk b o hb hnb]; simp only [results_over (over_put (hg.none hb hnb)) hl, Res.to]⟩
      | ret =>
        simp only [] at hn ⊢
        cases hl : resultsV e s' fn.results with
        | none => rw [hl] at hn; exact absurd rfl hn
        | some l =>
          simp only [hl, Res.st]
          exact ⟨hg, fun b o hb hnb => by rw [hk b o hb hnb]; simp only [results_over (over_put (hg.none hb hnb)) hl, Res.to]⟩
      | panic v =>
        simp only [Res.st]
        exact ⟨hg, fun b o hb hnb => by rw [hk b o hb hnb]; rfl⟩
      | exit k => exact absurd rfl hn
      | goto k => exact absurd rfl hn
  · exact absurd rfl hn

theorem callF_tame (hT : TameHooks T) (hr : TameRec rec) {f : FuncId} {args : List AV} {s : St} : Tame s (fun s => callF T rec f args s) := by
  intro hn
  unfold callF at hn ⊢
  cases hf : T f with
  | none => simp [hf] at hn
  | some imp =>
    cases imp with
    | code fn => simp only [hf] at hn ⊢; exact runFn_tame hr hn
    | ext k => simp only [hf] at hn ⊢; exact ext_eff.tame hn
    | hook h => simp only [hf] at hn ⊢; exact hT f h hf args s hn

theorem ins_tame (hT : TameHooks T) (hr : TameRec rec) {e : Env} {s : St} {i : Ins} : Tame s (fun s => evalIns T rec e s i) := by
  by_cases hc : isCall i = false
  · exact (ins_eff hc).tame
  · cases i <;> simp [isCall] at hc
    · exact callF_tame hT hr
    · rename_i x args
      intro hn
      simp only [evalIns] at hn ⊢
      split at hn
      · exact callF_tame hT hr hn
      · exact absurd rfl hn
end
end Go.V
