/- REGIONS WHOSE ORDER IS DRAWN: the classes of instructions. -/
import Derived.Test.YtlpdekocilhciaaV20
/- REGIONS WHOSE ORDER IS DRAWN: the classes of instructions. -/
namespace Go.V
open Go

section
variable {T : Tab} {rec : Rec}

theorem ofOpt_inv {s s' : St} {r : Option AV} {v : AV} (h : ofOpt s r = .val v s') : r = some v ∧ s' = s := by
  cases r with
  | none => cases h
  | some w => cases h; exact ⟨rfl, rfl⟩

theorem cls_N {i : Ins} (hc : clsIns i = .N) {e : Env} {s s' : St} {v : AV} (h : evalIns T rec e s i = .val v s') : s' = s ∧ ∀ t, evalIns T rec e t i = .val v t := by
  cases i
  case conv k x =>
    cases k <;> simp only [clsIns, reduceCtorEq] at hc <;> simp only [evalIns] at h ⊢ <;> obtain ⟨h1, h2⟩ := ofOpt_inv h <;> exact ⟨h2, fun t => by rw [h1]; rfl⟩
  case bin => obtain ⟨h1, h2⟩ := ofOpt_inv h; exact ⟨h2, fun t => by simp only [evalIns, h1]; rfl⟩
  case un => obtain ⟨h1, h2⟩ := ofOpt_inv h; exact ⟨h2, fun t => by simp only [evalIns, h1]; rfl⟩
  case sliceStr => obtain ⟨h1, h2⟩ := ofOpt_inv h; exact ⟨h2, fun t => by simp only [evalIns, h1]; rfl⟩
  case sliceSl => obtain ⟨h1, h2⟩ := ofOpt_inv h; exact ⟨h2, fun t => by simp only [evalIns, h1]; rfl⟩
  case assertT => obtain ⟨h1, h2⟩ := ofOpt_inv h; exact ⟨h2, fun t => by simp only [evalIns, h1]; rfl⟩
  all_goals first
    | (simp only [clsIns, reduceCtorEq] at hc; done)
    | (simp only [evalIns] at h ⊢
       repeat' split at h
       all_goals first
        | (cases h; done)
        | (cases h; exact ⟨rfl, fun t => rfl⟩)
        | (obtain ⟨h1, h2⟩ := ofOpt_inv h; exact ⟨h2, fun t => by rw [h1]; rfl⟩)
        | (rename_i hh; simp only [if_pos hh]; obtain ⟨h1, h2⟩ := ofOpt_inv h; exact ⟨h2, fun t => by rw [h1]; rfl⟩)
        | (rename_i hh; simp only [if_pos hh]; cases h; exact ⟨rfl, fun t => rfl⟩))

theorem cls_A {i : Ins} (hc : clsIns i = .A) {e : Env} {s s' : St} {v : AV} (h : evalIns T rec e s i = .val v s') : ∃ o, s' = s.add o ∧ ∀ t, t.next = s.next → evalIns T rec e t i = .val v (t.add o) := by
  cases i
  case conv k x =>
    cases k <;> simp only [clsIns, reduceCtorEq] at hc
    simp only [evalIns] at h ⊢
    cases hx : opd e x <;> rw [hx] at h <;> simp only [convV, ofOpt, reduceCtorEq] at h
    split at h
    · rename_i hh; cases h; exact ⟨_, rfl, fun t ht => by simp only [hx, if_pos hh, ht]⟩
    · cases h
  all_goals first
    | (simp only [clsIns, reduceCtorEq] at hc; done)
    | (simp only [evalIns, boxV] at h ⊢
       repeat' split at h
       all_goals first
        | (cases h; done)
        | (rename_i hh; simp only [if_pos hh]; cases h; refine ⟨_, rfl, fun t ht => ?_⟩; simp only [ht]; done)
        | (cases h; refine ⟨_, rfl, fun t ht => ?_⟩; simp only [ht]; done))

def Sees (s : St) (e : Env) (i : Ins) : Prop := ∀ x ∈ watchOf i, ∀ id, footId (opd e x) = some id → (s.heap.get id).isSome = true
def SameAt (s t : St) (e : Env) (i : Ins) : Prop := ∀ x ∈ watchOf i, ∀ id, footId (opd e x) = some id → t.heap.get id = s.heap.get id

theorem readAt_same {s t : St} {a : AAddr} {n : Nat} {l : List AV} (h : s.readAt a n = some l) (ht : t.heap.get a.id = s.heap.get a.id) : t.readAt a n = some l := by
  unfold St.readAt at h ⊢
  rw [ht]; exact h
theorem readAt_some {s : St} {a : AAddr} {n : Nat} {l : List AV} (h : s.readAt a n = some l) : (s.heap.get a.id).isSome = true := by
  unfold St.readAt at h
  split at h
  · rename_i ho; rw [ho]; rfl
  · cases h

theorem cls_R {i : Ins} (hc : clsIns i = .R) {e : Env} {s s' : St} {v : AV} (h : evalIns T rec e s i = .val v s') : s' = s ∧ Sees s e i ∧ ∀ t, SameAt s t e i → evalIns T rec e t i = .val v t := by
  cases i
  case load agg n x =>
    simp only [evalIns] at h ⊢
    obtain ⟨h1, h2⟩ := ofOpt_inv h
    refine ⟨h2, ?_, fun t ht => ?_⟩
    · intro y hy id hid
      simp only [watchOf, List.mem_singleton] at hy
      subst hy
      unfold loadV at h1
      split at h1
      · rename_i hx
        rw [hx] at hid
        cases hid
        split at h1
        · rename_i hl; exact readAt_some hl
        · cases h1
      · cases h1
    · have : loadV t agg n (opd e x) = some v := by
        unfold loadV at h1 ⊢
        split at h1
        · rename_i hx
          split at h1
          · rename_i hl
            have := ht x (by simp [watchOf]) _ (by rw [hx]; rfl)
            simp only [readAt_same hl this]
            exact h1
          · cases h1
        · cases h1
      rw [this]; rfl
  case lookup k z ok m key =>
    simp only [evalIns] at h ⊢
    obtain ⟨h1, h2⟩ := ofOpt_inv h
    refine ⟨h2, ?_, fun t ht => ?_⟩
    · intro y hy id hid
      simp only [watchOf, List.mem_singleton] at hy
      subst hy
      unfold lookupV at h1
      split at h1
      · rename_i hx; rw [hx] at hid; cases hid
      · rename_i hx
        rw [hx] at hid
        cases hid
        split at h1
        · rename_i ho; rw [ho]; rfl
        · cases h1
      · cases h1
    · have : lookupV t k z ok (opd e m) (opd e key) = some v := by
        unfold lookupV at h1 ⊢
        split at h1
        · exact h1
        · rename_i hx
          have := ht m (by simp [watchOf]) _ (by rw [hx]; rfl)
          simp only [this]
          exact h1
        · cases h1
      rw [this]; rfl
  case lenMap x =>
    simp only [evalIns] at h ⊢
    refine ⟨?_, ?_, fun t ht => ?_⟩
    · split at h
      · cases h; rfl
      · split at h <;> cases h; rfl
      · cases h
    · intro y hy id hid
      simp only [watchOf, List.mem_singleton] at hy
      subst hy
      split at h
      · rename_i hx; rw [hx] at hid; cases hid
      · rename_i hx
        rw [hx] at hid
        cases hid
        split at h
        · rename_i ho; rw [ho]; rfl
        · cases h
      · cases h
    · split at h
      · cases h; rfl
      · rename_i hx
        have := ht x (by simp [watchOf]) _ (by rw [hx]; rfl)
        simp only [this]
        split at h
        · rename_i ho; cases h; simp only [ho]
        · cases h
      · cases h
  case sliceArr n esz x lo hi mx =>
    simp only [evalIns] at h ⊢
    obtain ⟨h1, h2⟩ := ofOpt_inv h
    refine ⟨h2, ?_, fun t ht => ?_⟩
    · intro y hy id hid
      simp only [watchOf, List.mem_singleton] at hy
      subst hy
      unfold sliceArrV at h1
      split at h1
      · rename_i hx
        rw [hx] at hid
        cases hid
        split at h1
        · rename_i hl; exact readAt_some hl
        · cases h1
      · cases h1
    · have : sliceArrV t n esz (opd e x) (oopd e lo) (oopd e hi) (oopd e mx) = some v := by
        unfold sliceArrV at h1 ⊢
        split at h1
        · rename_i hx
          split at h1
          · rename_i hl
            have := ht x (by simp [watchOf]) _ (by rw [hx]; rfl)
            simp only [readAt_same hl this]
            exact h1
          · cases h1
        · cases h1
      rw [this]; rfl
  case conv k x =>
    cases k <;> simp only [clsIns, reduceCtorEq] at hc
    simp only [evalIns] at h ⊢
    split at h
    · simp_all
    · rename_i hx
      cases h
      refine ⟨rfl, ?_, fun t _ => rfl⟩
      intro y hy id hid
      simp only [watchOf, List.mem_singleton] at hy
      subst hy
      rw [hx] at hid; cases hid
    · rename_i hx
      cases h
      refine ⟨rfl, ?_, fun t _ => rfl⟩
      intro y hy id hid
      simp only [watchOf, List.mem_singleton] at hy
      subst hy
      rw [hx] at hid; cases hid
    · rename_i hx
      split at h
      · rename_i l hl
        split at h
        · rename_i bs hb
          cases h
          refine ⟨rfl, ?_, fun t ht => ?_⟩
          · intro y hy id hid
            simp only [watchOf, List.mem_singleton] at hy
            subst hy
            rw [hx] at hid; cases hid
            exact readAt_some hl
          · have := ht x (by simp [watchOf]) _ (by rw [hx]; rfl)
            simp only [readAt_same hl this, hb]
        · cases h
      · cases h
    · rename_i q1 q2 q3 q4
      have : convV .bytesStr (opd e x) = none := by simp [convV]
      rw [this] at h
      cases h
  all_goals (simp only [clsIns, reduceCtorEq] at hc; done)
end
end Go.V
