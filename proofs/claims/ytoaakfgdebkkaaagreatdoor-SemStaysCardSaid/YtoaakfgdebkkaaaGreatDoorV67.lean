/- A told call in a state that holds what another one held. -/
import Derived.Test.YtoaakfgdebkkaaaGreatDoorV66
set_option linter.unusedVariables false
set_option linter.unusedSimpArgs false
set_option linter.unusedSectionVars false
/- A told call in a state that holds what another one held. -/
namespace Go.V
open Go

theorem reachK_up {h h' : Tree AObj} {N : Nat} (ha : ∀ i, i < N → h'.get i = h.get i) (hn : ∀ i, N ≤ i → h.get i = none) : ∀ (f : Nat) (todo : List Nat) (kt : Tree Nat) (n : Nat) (acc r : List Nat), reachK h f todo kt n acc = some r → reachK h' f todo kt n acc = some r
 | 0, _, _, _, _, _, e => by cases e
 | f + 1, todo, kt, n, acc, r, e => by
  unfold reachK at e ⊢
  cases todo with
  | nil => exact e
  | cons i l =>
   simp only [] at e ⊢
   cases hk : kt.get i with
   | some x => rw [hk] at e; exact reachK_up ha hn f _ _ _ _ _ e
   | none =>
    rw [hk] at e
    simp only [] at e ⊢
    cases ho : h.get i with
    | none => rw [ho] at e; cases e
    | some o =>
     rw [ho] at e
     have hi : i < N := by
      rcases Nat.lt_or_ge i N with h1 | h1
      · exact h1
      · rw [hn i h1] at ho; cases ho
     rw [ha i hi, ho]
     exact reachK_up ha hn f _ _ _ _ _ e
theorem renList_up {h h' : Tree AObj} {N : Nat} (ha : ∀ i, i < N → h'.get i = h.get i) (hn : ∀ i, N ≤ i → h.get i = none) (t : Tree Nat) : ∀ (ks : List Nat) (r : List AObj), renList t h ks = some r → renList t h' ks = some r
 | [], r, e => e
 | k :: ks, r, e => by
  unfold renList at e ⊢
  cases ho : h.get k with
  | none => rw [ho] at e; cases e
  | some o =>
   have hi : k < N := by
    rcases Nat.lt_or_ge k N with h1 | h1
    · exact h1
    · rw [hn k h1] at ho; cases ho
   rw [ha k hi]
   cases hr : renList t h ks with
   | none => rw [ho, hr] at e; simp at e
   | some r2 => rw [renList_up ha hn t ks r2 hr]; rw [hr] at e; exact e
def nonesB : List Nat → List (Option AObj) → Bool
 | _ :: ks, none :: os => nonesB ks os
 | [], [] => true
 | _, _ => false
theorem putOuts_nones {K : Tree Nat} : ∀ {ks : List Nat} {os : List (Option AObj)} (s : St), nonesB ks os = true → putOuts K ks os s = some s
 | [], [], s, _ => rfl
 | _ :: ks, none :: os, s, h => putOuts_nones (ks := ks) (os := os) s h
 | _ :: _, some _ :: _, _, h => by cases h
 | [], _ :: _, _, h => by cases h
 | _ :: _, [], _, h => by cases h
/-- Where the table says that the call without arguments answers true and changes nothing. -/
def memoYes (pre : List Nat) (tbl : List Ent) (h : Tree AObj) : Bool := match reachK h 100000 (pre ++ []) .leaf 0 [] with
 | none => false
 | some ks => match prefB pre ks, renList (mkK ks 0 .leaf) h ks with
  | true, some os => match findE [] os tbl with
   | some E => (match E.v with | .bool true => true | _ => false) && ((match E.news with | [] => true | _ => false) && nonesB ks E.outs)
   | none => false
  | _, _ => false
theorem memoYes_ran {T : Tab} {f : Nat} {pre : List Nat} {tbl : List Ent} (ht : T f = some (.hook (memoAH pre tbl))) {s s' : St} (hw : WFS s) (hx : Ext s s') (h : memoYes pre tbl s.heap = true) : Ran T f [] s' fun v s2 => v = .bool true ∧ s2 = s' := by
 unfold memoYes at h
 cases h1 : reachK s.heap 100000 (pre ++ []) .leaf 0 [] with
 | none => rw [h1] at h; cases h
 | some ks =>
  rw [h1] at h
  simp only [] at h
  cases h2 : prefB pre ks with
  | false => rw [h2] at h; simp at h
  | true =>
   cases h3 : renList (mkK ks 0 .leaf) s.heap ks with
   | none => rw [h2, h3] at h; simp at h
   | some os =>
    rw [h2, h3] at h
    simp only [] at h
    cases h4 : findE [] os tbl with
    | none => rw [h4] at h; simp at h
    | some E =>
     rw [h4] at h
     simp only [Bool.and_eq_true] at h
     obtain ⟨h5, h6, h7⟩ := h
     have e5 : E.v = .bool true := by
      split at h5
      · assumption
      · cases h5
     have e6 : E.news = [] := by
      split at h6
      · assumption
      · cases h6
     have a1 := reachK_up hx.2.2 hw _ _ _ _ _ _ h1
     have a3 := renList_up hx.2.2 hw _ _ _ h3
     refine ran_hook ht (v := .bool true) (s' := s') ?_ ⟨rfl, rfl⟩
     unfold memoAH
     simp only [idsOfs, a1, h2, AV.rens, a3, h4, applyE, e5, e6, AV.ren, putOuts_nones s' h7, addNews]
end Go.V
