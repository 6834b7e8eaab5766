/- THE WHOLE EVALUATOR IS TAME. -/
import Derived.Test.YtlpdekocilhciaaV17
/- THE WHOLE EVALUATOR IS TAME. -/
namespace Go.V
open Go

theorem watch_over {s t s' t' : St} (h : Over s t) (h' : Over s' t') {e : Env} : ∀ {l : List Opd}, watchOk e s s' l = true → watchOk e t t' l = true
  | [], _ => rfl
  | x :: l, hw => by
    simp only [watchOk, Bool.and_eq_true] at hw ⊢
    refine ⟨?_, watch_over h h' hw.2⟩
    have h1 := hw.1
    cases hf : footId (opd e x) with
    | none => rfl
    | some id =>
      rw [hf] at h1
      simp only [] at h1 ⊢
      cases a : s.heap.get id with
      | none => rw [a] at h1; cases s'.heap.get id <;> simp [sameObj] at h1
      | some o =>
        cases b : s'.heap.get id with
        | none => rw [a, b] at h1; simp [sameObj] at h1
        | some o' => rw [h.get _ _ a, h'.get _ _ b]; rw [a, b] at h1; exact h1

section
variable {T : Tab} {rec : Rec}

theorem ops_tame (hT : TameHooks T) (hr : TameRec rec) {draw : Bool} : ∀ {l : List IOp} {e : Env} {s : St}, TameO s (fun s => evalOps T rec draw l e s)
  | [], e, s => by
    intro x e' s' h
    simp only [evalOps] at h
    cases h
    exact ⟨.refl _, fun b o _ _ => rfl⟩
  | q :: l, e, s => by
    intro x e' s' h
    simp only [evalOps] at h
    cases hw : wantedV e q.guard with
    | false =>
      rw [hw] at h
      simp only [] at h
      obtain ⟨g, k⟩ := ops_tame hT hr x e' s' h
      exact ⟨g, fun b o hb hn => by simp only [evalOps, hw]; exact k b o hb hn⟩
    | true =>
      rw [hw] at h
      simp only [] at h
      have tm := ins_tame hT hr (e := e) (s := s) (i := q.ins)
      cases hi : evalIns T rec e s q.ins with
      | fail => rw [hi] at h; cases h
      | panic v s1 =>
        rw [hi] at h
        simp only [] at h
        unfold Tame at tm
        simp only [hi, Res.st, Res.to] at tm
        cases draw with
        | true => cases h
        | false =>
          cases h
          obtain ⟨g, k⟩ := tm (by simp)
          exact ⟨g, fun b o hb hn => by simp only [evalOps, hw, k b o hb hn]⟩
      | val v s1 =>
        rw [hi] at h
        simp only [] at h
        unfold Tame at tm
        simp only [hi, Res.st, Res.to] at tm
        cases hwt : watchOk e s s1 q.watch with
        | false => rw [hwt] at h; cases h
        | true =>
          rw [hwt] at h
          simp only [] at h
          obtain ⟨g, k⟩ := tm (by simp)
          obtain ⟨g', k'⟩ := ops_tame hT hr x e' s' h
          refine ⟨g.trans g', fun b o hb hn => ?_⟩
          have h1 := g.next
          have h2 := g'.next
          have n1 : ¬ (s.next ≤ b ∧ b < s1.next) := by omega
          have n2 : ¬ (s1.next ≤ b ∧ b < s'.next) := by omega
          have hb1 := g.none hb n1
          simp only [evalOps, hw, k b o hb n1, watch_over (over_put hb) (over_put hb1) hwt]
          exact k' b o hb1 n2

/-- One part behind another. -/
theorem TameO.seq {s s1 s2 : St} {x : Ex} {e1 e2 : Env} {y : Ex} {f g : St → Out} (hf : TameO s f) (h1 : f s = .ok x e1 s1) (hg : TameO s1 g) (h2 : g s1 = .ok y e2 s2) :
    Good s s2 ∧ ∀ b o, s.heap.get b = none → ¬ (s.next ≤ b ∧ b < s2.next) → f (s.put b o) = .ok x e1 (s1.put b o) ∧ g (s1.put b o) = .ok y e2 (s2.put b o) := by
  obtain ⟨a, b⟩ := hf _ _ _ h1
  obtain ⟨c, d⟩ := hg _ _ _ h2
  refine ⟨a.trans c, fun i o hb hn => ?_⟩
  have := a.next
  have := c.next
  have n1 : ¬ (s.next ≤ i ∧ i < s1.next) := by omega
  exact ⟨b i o hb n1, d i o (a.none hb n1) (by omega)⟩

theorem TameO.one {s : St} {f g : St → Out} (hf : TameO s f) {x : Ex} {e : Env} {s' : St} (h : f s = .ok x e s') {y : Ex} {e' : Env} (hg : ∀ t t', f t = .ok x e t' → g t = .ok y e' t') :
    Good s s' ∧ ∀ b o, s.heap.get b = none → ¬ (s.next ≤ b ∧ b < s'.next) → g (s.put b o) = .ok y e' (s'.put b o) := by
  obtain ⟨a, b⟩ := hf _ _ _ h
  exact ⟨a, fun i o hb hn => hg _ _ (b i o hb hn)⟩

theorem evalC_tame (hT : TameHooks T) (hr : TameRec rec) : TameRec (evalC T rec) := by
  intro c e s x e' s' h
  have triv : ∀ {x : Ex} {e e' : Env} {s s' : St} {f : St → Out}, Out.ok x e s = .ok x e' s' → (∀ t, f t = .ok x e t) → Good s s' ∧ ∀ b o, s.heap.get b = none → ¬ (s.next ≤ b ∧ b < s'.next) → f (s.put b o) = .ok x e' (s'.put b o) := by
    intro x e e' s s' f h hf
    cases h
    exact ⟨.refl _, fun b o _ _ => hf _⟩
  cases c with
  | skip => simp only [evalC] at h ⊢; cases h; exact triv rfl fun t => rfl
  | label => simp only [evalC] at h ⊢; cases h; exact triv rfl fun t => rfl
  | exit id => simp only [evalC] at h ⊢; cases h; exact triv rfl fun t => rfl
  | goto l => simp only [evalC] at h ⊢; cases h; exact triv rfl fun t => rfl
  | ret => simp only [evalC] at h ⊢; cases h; exact triv rfl fun t => rfl
  | bad => simp only [evalC] at h; cases h
  | region ops draw => simp only [evalC] at h ⊢; exact ops_tame hT hr _ _ _ h
  | seq a b =>
    simp only [evalC] at h ⊢
    cases ha : rec a e s with
    | fail => rw [ha] at h; cases h
    | ok xa ea sa =>
      rw [ha] at h
      have hb : (xa = .normal ∧ rec b ea sa = .ok x e' s') ∨ (xa ≠ .normal ∧ Out.ok xa ea sa = .ok x e' s') := by
        cases xa with
        | normal => exact .inl ⟨rfl, h⟩
        | _ => exact .inr ⟨by simp, h⟩
      rcases hb with ⟨rfl, hb⟩ | ⟨hne, hb⟩
      · obtain ⟨g, k⟩ := TameO.seq (hr a e s) ha (hr b ea sa) hb
        refine ⟨g, fun i o hi hn => ?_⟩
        obtain ⟨q1, q2⟩ := k i o hi hn
        rw [q1]; exact q2
      · cases hb
        refine TameO.one (hr a e s) ha (g := fun s => match rec a e s with | .ok .normal e s => rec b e s | o => o) fun t t' q => ?_
        simp only [q]
        cases x with
        | normal => exact absurd rfl hne
        | _ => rfl
  | cond c a b =>
    simp only [evalC] at h ⊢
    split at h
    · exact hr a e s _ _ _ h
    · exact hr b e s _ _ _ h
    · cases h
  | block id b =>
    simp only [evalC] at h ⊢
    cases hb : rec b e s with
    | fail => rw [hb] at h; cases h
    | ok xb eb sb =>
      rw [hb] at h
      have : ∃ k : Out → Out, (∀ o, k o = match o with | .ok (.exit k) e s => (match Nat.beq k id with | true => .ok .normal e s | false => .ok (.exit k) e s) | o => o) ∧ e' = eb ∧ s' = sb ∧ ∀ t, k (.ok xb eb t) = .ok x e' t := by
        refine ⟨_, fun o => rfl, ?_⟩
        cases xb with
        | exit k =>
          simp only [] at h ⊢
          cases hk : Nat.beq k id <;> rw [hk] at h <;> simp only [] at h ⊢ <;> cases h <;> exact ⟨rfl, rfl, fun t => rfl⟩
        | _ => simp only [] at h ⊢; cases h; exact ⟨rfl, rfl, fun t => rfl⟩
      obtain ⟨k, k1, rfl, rfl, k2⟩ := this
      refine TameO.one (hr b e s) hb (g := fun s => match rec b e s with | .ok (.exit k) e s => (match Nat.beq k id with | true => .ok .normal e s | false => .ok (.exit k) e s) | o => o) fun t t' q => ?_
      simp only [q]
      rw [← k2 t', k1]
  | loop b =>
    simp only [evalC] at h ⊢
    cases hb : rec b e s with
    | fail => rw [hb] at h; cases h
    | ok xb eb sb =>
      rw [hb] at h
      have hc : (xb = .normal ∧ rec (.loop b) eb sb = .ok x e' s') ∨ (xb ≠ .normal ∧ Out.ok xb eb sb = .ok x e' s') := by
        cases xb with
        | normal => exact .inl ⟨rfl, h⟩
        | _ => exact .inr ⟨by simp, h⟩
      rcases hc with ⟨rfl, hc⟩ | ⟨hne, hc⟩
      · obtain ⟨g, k⟩ := TameO.seq (hr b e s) hb (hr (.loop b) eb sb) hc
        refine ⟨g, fun i o hi hn => ?_⟩
        obtain ⟨q1, q2⟩ := k i o hi hn
        rw [q1]; exact q2
      · cases hc
        refine TameO.one (hr b e s) hb (g := fun s => match rec b e s with | .ok .normal e s => rec (.loop b) e s | o => o) fun t t' q => ?_
        simp only [q]
        cases x with
        | normal => exact absurd rfl hne
        | _ => rfl
  | scope cur ls =>
    simp only [evalC] at h ⊢
    cases hb : rec cur e s with
    | fail => rw [hb] at h; cases h
    | ok xb eb sb =>
      rw [hb] at h
      cases xb with
      | goto l =>
        simp only [] at h
        cases hl : labelOf l ls with
        | none => rw [hl] at h; cases h
        | some c =>
          rw [hl] at h
          simp only [] at h
          obtain ⟨g, k⟩ := TameO.seq (hr cur e s) hb (hr (.scope c ls) eb sb) h
          refine ⟨g, fun i o hi hn => ?_⟩
          obtain ⟨q1, q2⟩ := k i o hi hn
          rw [q1]; simp only [hl]; exact q2
      | _ =>
        simp only [] at h
        cases h
        refine TameO.one (hr cur e s) hb (g := fun s => match rec cur e s with | .ok (.goto l) e s => (match labelOf l ls with | some c => rec (.scope c ls) e s | none => .fail) | o => o) fun t t' q => ?_
        simp only [q]

theorem evalN_tame (hT : TameHooks T) : ∀ n, TameRec (evalN T n)
  | 0 => fun c e s x e' s' h => by simp [evalN] at h
  | n + 1 => evalC_tame hT (evalN_tame hT n)
end
end Go.V
