/- Hooks that ask for what lies in the state's beginning. -/
import Derived.Test.YtkjddipkaaelaaaDoorV70
set_option linter.unusedVariables false
set_option linter.unusedSimpArgs false
set_option linter.unusedSectionVars false
/- Hooks that ask for what lies in the state's beginning. -/
namespace Go.V
open Go
def gateH (p : Tree AObj → Bool) (g : List AV → Option AV) (args : List AV) (s : St) : Option (AV × St) := match p s.heap with
  | true => pureH g args s
  | false => none
theorem gate_tame (p : Tree AObj → Bool) (hp : ∀ (s : St) (b : Nat) (o : AObj), s.heap.get b = none → p s.heap = true → p (s.put b o).heap = true) (g : List AV → Option AV) (args : List AV) (s : St) : Tame s (fun s => ofBoth (gateH p g args s)) := by
  intro hn
  cases h : p s.heap with
  | false => exact absurd (show ofBoth (gateH p g args s) = Res.fail by simp only [gateH, h]; rfl) hn
  | true =>
    cases hg : g args with
    | none => exact absurd (show ofBoth (gateH p g args s) = Res.fail by simp only [gateH, h, pureH, hg]; rfl) hn
    | some v =>
      have e : gateH p g args s = some (v, s) := by simp only [gateH, h, pureH, hg]
      simp only [e, ofBoth]
      refine ⟨Good.refl s, fun b o hb _ => ?_⟩
      have e2 : gateH p g args (s.put b o) = some (v, s.put b o) := by simp only [gateH, hp s b o hb h, pureH, hg]
      rw [e2]
      rfl
theorem gate_ok {P : Prog} {T : Tab} (hF : ∀ n, FuncsOk P T (evalN T n)) (f : FuncId) (p : Tree AObj → Bool) (g : List AV → Option AV)
    (h : ∀ args v, g args = some v → plain v = true ∧ ∀ s, WFS s → p s.heap = true → Ran T f args s fun v' s' => v' = v ∧ Ext s s') : HookOk P f fun args s => ofBoth (gateH p g args s) := by
  intro args s r hres hne φ w cargs hg hs ha _
  obtain ⟨v', s', hm, rfl⟩ := ofBoth_ne hres hne
  unfold gateH at hm
  cases hp : p s.heap with
  | false => rw [hp] at hm; cases hm
  | true =>
  rw [hp] at hm
  simp only [pureH] at hm
  split at hm
  · rename_i v hgv
    cases hm
    obtain ⟨hpl, hran⟩ := h args _ hgv
    let N := max s.next s.heap.bound
    have hfree : ∀ id, N ≤ id → s.heap.get id = none := fun id hid => Tree.get_bound _ _ (by omega)
    obtain ⟨n, v2, s2, hcall, rfl, hext⟩ := hran ⟨s.heap, N⟩ hfree hp
    intro o a next Q hk
    have hs1 : RelSt φ ⟨s.heap, N⟩ w := RelSt.at (b := s.next) hs
    refine hF n f args ⟨s.heap, N⟩ _ hcall (by simp) φ w cargs hg hs1 ha (fun id hid _ => hfree id hid) o a next Q ?_
    intro c w' φ2 st hv
    have hK := selfK_get s.heap N
    have hlt : ∀ id, (s.heap.get id).isSome = true → id < N := by
      intro id hid
      rcases Nat.lt_or_ge id N with h1 | h1
      · exact h1
      · rw [hfree id h1] at hid; cases hid
    obtain ⟨φ', st', hr⟩ := gc_step (s' := ⟨s.heap, N⟩) hs1 st (selfK s.heap N) (fun i => if i < N ∧ (s.heap.get i).isSome = true then some i else none)
      (fun i id e => by
        split at e
        · rename_i hc; cases e; rw [hK, if_pos hc]
        · cases e)
      (fun id i e => by
        rw [hK] at e
        split at e
        · rename_i hc; cases e; show (if _ then _ else _) = _; rw [if_pos hc]
        · cases e)
      (fun id hid => by rw [hK, if_pos ⟨hlt id hid, hid⟩])
      (fun i id e => by
        split at e
        · rename_i hc
          cases e
          cases ho : s.heap.get i with
          | none => rw [ho] at hc; cases hc.2
          | some o' =>
            have := hext.2.2 i hc.1
            rw [ho] at this
            exact ⟨o', o', this, rfl, .inr ⟨rfl, rfl, rfl⟩⟩
        · cases e)
      (fun i o' ho => by
        have ho : s.heap.get i = some o' := ho
        refine ⟨i, ?_⟩
        show (if _ then _ else _) = _
        rw [if_pos ⟨hlt i (by rw [ho]; rfl), by rw [ho]; rfl⟩])
      (fun _ _ => rfl)
    exact hk c w' φ' (Step.at (b := N) (b' := N) st') (hv.ren hr (plain_ren hpl))
  · cases hm

/-- A table with one entry turned. -/
theorem EntryOk2.gate {P : Prog} (hm : P.follows .mixedOrders = true) {T : Tab} (h : TabFine P T) (f : Nat) (p : Tree AObj → Bool) (hp : ∀ (s : St) (b : Nat) (o : AObj), s.heap.get b = none → p s.heap = true → p (s.put b o).heap = true) (g : List AV → Option AV)
    (hg : ∀ args v, g args = some v → plain v = true ∧ ∀ s, WFS s → p s.heap = true → Ran T f args s fun v' s' => v' = v ∧ Ext s s') : EntryOk2 P f (.hook (gateH p g)) :=
  .hook (gate_ok (fun n => eval_sound hm h.ok h.tame n) f p g hg) (fun args s => gate_tame p hp g args s)
theorem gateH_eq {p : Tree AObj → Bool} {g : List AV → Option AV} {args : List AV} {v : AV} {s : St} (hp : p s.heap = true) (hg : g args = some v) : gateH p g args s = some (v, s) := by
  simp only [gateH, hp, pureH, hg]
end Go.V
