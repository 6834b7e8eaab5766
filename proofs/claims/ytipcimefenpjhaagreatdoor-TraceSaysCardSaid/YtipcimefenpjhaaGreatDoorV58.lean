/- MEMO HOOKS of calls whose arguments are addresses: soundness. -/
import Derived.Test.YtipcimefenpjhaaGreatDoorV57
set_option linter.unusedVariables false
set_option linter.unusedSimpArgs false
set_option linter.unusedSectionVars false
/- MEMO HOOKS of calls whose arguments are addresses: soundness. -/
namespace Go.V
open Go Go.RowKit

def UnPhi (K : Tree Nat) (φ ψ : Phi) : Prop := ∀ id i, K.get id = some i → ∀ j x, φ i j = some x → ψ id j = some x

mutual
theorem VRel.unren {K : Tree Nat} {φ ψ : Phi} (h : UnPhi K φ ψ) : ∀ {v u : AV} {c : Value}, AV.ren K v = some u → VRel φ u c → VRel ψ v c := by
  intro v u c e r
  cases v with
  | bool b => cases e; cases r; exact .bool b
  | int i n => cases e; cases r; exact .int i n
  | float i n => cases e; cases r; exact .float i n
  | complex i n m => cases e; cases r; exact .complex i n m
  | str s => cases e; cases r; exact .str _
  | ptr a =>
    simp only [AV.ren] at e
    split at e
    · rename_i i hi
      cases e
      cases r with
      | ptr q1 q2 q3 => exact .ptr (h _ _ hi _ _ q1) q2 q3
    · cases e
  | nilPtr => cases e; cases r; exact .nilPtr
  | slice a b c d f =>
    simp only [AV.ren] at e
    split at e
    · rename_i i hi
      cases e
      cases r with
      | slice q1 q2 q3 q4 q5 q6 q7 q8 => exact .slice (h _ _ hi _ _ q1) q2 q3 q4 q5 q6 q7 q8
    · cases e
  | nilSlice => cases e; cases r; exact .nilSlice
  | empty => cases e; cases r; exact .empty _ _
  | map a =>
    simp only [AV.ren] at e
    split at e
    · rename_i i hi
      cases e
      cases r with
      | map q1 => exact .map (h _ _ hi _ _ q1)
    · cases e
  | nilMap => cases e; cases r; exact .nilMap
  | anyMap => cases e; cases r; exact .anyMap _
  | func f l m =>
    simp only [AV.ren] at e
    split at e
    · rename_i l' m' hl hm
      cases e
      cases r with
      | func q1 q2 => exact .func (VRels.unren h hl q1) (VRels.unren h hm q2)
    · cases e
  | nilFunc => cases e; cases r; exact .nilFunc
  | iface t v =>
    simp only [AV.ren] at e
    split at e
    · rename_i q hq
      cases e
      cases r with
      | iface q1 => exact .iface (VRel.unren h hq q1)
    · cases e
  | nilIface => cases e; cases r; exact .nilIface
  | agg l =>
    simp only [AV.ren] at e
    split at e
    · rename_i q hq
      cases e
      cases r with
      | agg q1 => exact .agg (VRels.unren h hq q1)
    · cases e
  | tuple l =>
    simp only [AV.ren] at e
    split at e
    · rename_i q hq
      cases e
      cases r with
      | tuple q1 => exact .tuple (VRels.unren h hq q1)
    · cases e
theorem VRels.unren {K : Tree Nat} {φ ψ : Phi} (h : UnPhi K φ ψ) : ∀ {v u : List AV} {c : List Value}, AV.rens K v = some u → VRels φ u c → VRels ψ v c := by
  intro v u c e r
  cases v with
  | nil => cases e; cases r; exact .nil
  | cons v l =>
    simp only [AV.rens] at e
    split at e
    · rename_i u' l' hu hl
      cases e
      cases r with
      | cons q1 q2 => exact .cons (VRel.unren h hu q1) (VRels.unren h hl q2)
    · cases e
end

theorem EntsRel.unren {K : Tree Nat} {φ ψ : Phi} (h : UnPhi K φ ψ) : ∀ {l r : List AEntry} {l' : List MapEntry}, renEnts K l = some r → EntsRel φ r l' → EntsRel ψ l l'
  | [], r, l', e, g => by cases e; cases g; exact .nil
  | a :: l, r, l', e, g => by
    simp only [renEnts] at e
    split at e
    · rename_i k v r' hk hv hr
      cases e
      cases g with
      | cons q1 q2 q3 q4 => exact .cons (q1.unren h hk) (q2.unren h hv) q3 (EntsRel.unren h hr q4)
    · cases e

theorem rens_get' {K : Tree Nat} : ∀ {l r : List AV}, AV.rens K l = some r → ∀ (i : Nat) (v : AV), l[i]? = some v → ∃ u, r[i]? = some u ∧ AV.ren K v = some u
  | [], r, e, i, u, h => by simp at h
  | v :: l, r, e, i, u, h => by
    simp only [AV.rens] at e
    split at e
    · rename_i u' m hu hm
      cases e
      cases i with
      | zero => simp at h; subst h; exact ⟨u', by simp, hu⟩
      | succ i => simpa using rens_get' hm i u (by simpa using h)
    · cases e

/-- An object that stands as it stood, told in the part's numbers. 'hk': its incarnations. -/
theorem ObjRel.unren {K : Tree Nat} {φ ψ : Phi} {w : World} {id i : Nat} (hK : K.get id = some i) (h : UnPhi K φ ψ) {o q : AObj} (e : AObj.ren K o = some q) (ho : ObjRel φ w i q) : ObjRel ψ w id o := by
  cases o with
  | cells cs lo inc ro =>
    simp only [AObj.ren] at e
    split at e
    · rename_i cs' hcs
      cases e
      obtain ⟨h1, h2⟩ := ho
      refine ⟨h1, fun j a b => ?_⟩
      obtain ⟨x, hx, cc, el, fz, c1, c2, c3, c4, c5, c6, c7, c8⟩ := h2 j a b
      refine ⟨x, h _ _ hK _ _ hx, cc, el, fz, c1, c2, c3, c4, by rw [← rens_length hcs]; exact c5, fun hl => by rw [← rens_length hcs]; exact c6 hl, c7, fun j' v q1 q2 q3 => ?_⟩
      obtain ⟨u, u1, u2⟩ := rens_get' hcs j' v q3
      obtain ⟨c, d1, d2⟩ := c8 j' u q1 q2 u1
      exact ⟨c, d1, d2.unren h u2⟩
    · cases e
  | map es clock =>
    simp only [AObj.ren] at e
    split at e
    · rename_i es' hes
      cases e
      obtain ⟨x, es'', hx, he, hr⟩ := ho
      exact ⟨x, es'', h _ _ hK _ _ hx, he, hr.unren h hes⟩
    · cases e

def subPhi (ks : List Nat) (φ : Phi) : Phi := fun i k => match ks[i]? with | some id => φ id k | none => none

theorem subPhi_some {ks : List Nat} {φ : Phi} {i k : Nat} {x : Inc} (h : subPhi ks φ i k = some x) : ∃ id, ks[i]? = some id ∧ φ id k = some x := by
  unfold subPhi at h
  split at h
  · exact ⟨_, by assumption, h⟩
  · cases h

theorem AObj.ren_isRo {K : Tree Nat} {o q : AObj} (h : AObj.ren K o = some q) : notRo q = notRo o := by
  cases o with
  | cells cs lo inc ro => obtain ⟨_, rfl⟩ := AObj.ren_ro h; rfl
  | map es c =>
    simp only [AObj.ren] at h
    split at h
    · cases h; rfl
    · cases h

theorem not_isRo {s : St} {id : Nat} {o : AObj} (ho : s.heap.get id = some o) (h : notRo o = true) : ¬ isRo s id := by
  rintro ⟨cs, lo, inc, e⟩
  rw [ho] at e
  cases e
  cases h
theorem isRo_of {s : St} {id : Nat} {o : AObj} (ho : s.heap.get id = some o) (h : notRo o = false) : isRo s id := by
  cases o with
  | cells cs lo inc ro =>
    cases ro with
    | true => exact ⟨cs, lo, inc, ho⟩
    | false => cases h
  | map es c => cases h

structure Part (ks : List Nat) (s : St) (os : List AObj) : Prop where
  nodup : ks.Nodup
  ren : renList (mkK ks 0 .leaf) s.heap ks = some os

theorem Part.kt {ks : List Nat} {s : St} {os : List AObj} (h : Part ks s os) {i id : Nat} (e : ks[i]? = some id) : (mkK ks 0 .leaf).get id = some i := by
  have := mkK_at ks 0 .leaf h.nodup i id e
  simpa using this
theorem Part.tk {ks : List Nat} {s : St} {os : List AObj} (_h : Part ks s os) {i id : Nat} (e : (mkK ks 0 .leaf).get id = some i) : ks[i]? = some id := by
  have := mkK_get ks [] .leaf (by simp) id i (by simpa using e)
  simpa using this
theorem Part.inj {ks : List Nat} {s : St} {os : List AObj} (h : Part ks s os) {i j id : Nat} (e : ks[i]? = some id) (e' : ks[j]? = some id) : i = j := by
  have := h.kt e
  rw [h.kt e'] at this
  exact (Option.some.inj this).symm
theorem Part.length {ks : List Nat} {s : St} {os : List AObj} (h : Part ks s os) : os.length = ks.length := (renList_get h.ren).1
theorem Part.get {ks : List Nat} {s : St} {os : List AObj} (h : Part ks s os) {i : Nat} {o : AObj} (e : os[i]? = some o) : ∃ id q, ks[i]? = some id ∧ s.heap.get id = some q ∧ AObj.ren (mkK ks 0 .leaf) q = some o := (renList_get h.ren).2 i o e
theorem Part.at {ks : List Nat} {s : St} {os : List AObj} (h : Part ks s os) {i id : Nat} (e : ks[i]? = some id) : ∃ q o, s.heap.get id = some q ∧ os[i]? = some o ∧ AObj.ren (mkK ks 0 .leaf) q = some o := by
  have hi : i < os.length := by rw [h.length]; exact (List.getElem?_eq_some_iff.1 e).1
  obtain ⟨id', q, a, b, c⟩ := h.get (List.getElem?_eq_getElem hi)
  rw [e] at a
  cases a
  exact ⟨q, _, b, List.getElem?_eq_getElem hi, c⟩
theorem Part.isRo {ks : List Nat} {s : St} {os : List AObj} (h : Part ks s os) {i id : Nat} (e : ks[i]? = some id) : isRo (mkSt os) i ↔ Go.V.isRo s id := by
  obtain ⟨q, o, a, b, c⟩ := h.at e
  have hro := AObj.ren_isRo c
  have b' : (mkSt os).heap.get i = some o := by rw [mkSt_get]; exact b
  cases hq : notRo q with
  | true => exact ⟨fun x => absurd x (not_isRo b' (by rw [hro, hq])), fun x => absurd x (not_isRo a hq)⟩
  | false => exact ⟨fun _ => isRo_of a hq, fun _ => isRo_of b' (by rw [hro, hq])⟩

theorem Part.renPhi {ks : List Nat} {s : St} {os : List AObj} (h : Part ks s os) (φ : Phi) : RenPhi (mkK ks 0 .leaf) φ (subPhi ks φ) := by
  intro id i e j x ex
  simp only [subPhi, h.tk e]
  exact ex

theorem sub_rel {φ : Phi} {s : St} {w : World} {ks : List Nat} {os : List AObj} (hs : RelSt φ s w) (h : Part ks s os) : RelSt (subPhi ks φ) (mkSt os) w := by
  refine ⟨?_, ?_, ?_, ?_⟩
  · intro i o ho
    rw [mkSt_get] at ho
    obtain ⟨id, q, a, b, c⟩ := h.get ho
    exact (hs.obj id q b).ren (h.kt a) (h.renPhi φ) c
  · intro i k x e
    obtain ⟨id, a, e1⟩ := subPhi_some e
    obtain ⟨q, o, _, b, _⟩ := h.at a
    exact ⟨by rw [mkSt_get, b]; rfl, (hs.dom id k x e1).2⟩
  · intro i k x i' k' x' e e' hb
    obtain ⟨id, a, e1⟩ := subPhi_some e
    obtain ⟨id', a', e1'⟩ := subPhi_some e'
    rcases hs.inj _ _ _ _ _ _ e1 e1' hb with ⟨rfl, r⟩ | ⟨r, r'⟩
    · exact .inl ⟨h.inj a a', r⟩
    · exact .inr ⟨(h.isRo a).2 r, (h.isRo a').2 r'⟩
  · intro i k x cs lo inc ro e ho
    obtain ⟨id, a, e1⟩ := subPhi_some e
    rw [mkSt_get] at ho
    obtain ⟨id', q, a', b, c⟩ := h.get ho
    rw [a] at a'; cases a'
    obtain ⟨cs', rfl⟩ := AObj.ren_cells c
    exact hs.incs _ _ _ _ _ _ _ e1 b

theorem putOuts_spec {K : Tree Nat} : ∀ {ks : List Nat} {os : List (Option AObj)} {s s' : St}, ks.Nodup → putOuts K ks os s = some s' →
    s'.next = s.next ∧ (∀ id, id ∉ ks → s'.heap.get id = s.heap.get id) ∧ ∀ (i id : Nat), ks[i]? = some id → (os[i]? = some none ∧ s'.heap.get id = s.heap.get id) ∨ ∃ o o', os[i]? = some (some o) ∧ AObj.ren K o = some o' ∧ s'.heap.get id = some o'
  | [], [], s, s', _, e => by cases e; exact ⟨rfl, fun _ _ => rfl, fun i id h => by simp at h⟩
  | [], _ :: _, _, _, _, e => by cases e
  | _ :: _, [], _, _, _, e => by cases e
  | k :: ks, o :: os, s, s', hn, e => by
    obtain ⟨h1, h2⟩ := List.nodup_cons.1 hn
    cases o with
    | none =>
      simp only [putOuts] at e
      obtain ⟨a, b, c⟩ := putOuts_spec h2 e
      refine ⟨a, fun id hid => b id (fun hm => hid (List.mem_cons_of_mem _ hm)), fun i id hi => ?_⟩
      cases i with
      | zero =>
        simp at hi
        subst hi
        exact .inl ⟨by simp, b k h1⟩
      | succ i => simpa using c i id (by simpa using hi)
    | some o =>
      simp only [putOuts] at e
      split at e
      · rename_i o' ho
        obtain ⟨a, b, c⟩ := putOuts_spec h2 e
        refine ⟨a, fun id hid => ?_, fun i id hi => ?_⟩
        · rw [b id (fun hm => hid (List.mem_cons_of_mem _ hm))]
          show (s.heap.set k o').get id = _
          rw [Tree.get_set_ne _ _ (by rintro rfl; exact hid (by simp))]
        · cases i with
          | zero =>
            simp at hi
            subst hi
            refine .inr ⟨o, o', by simp, ho, ?_⟩
            rw [b k h1]
            exact Tree.get_set_same _ _ _
          | succ i =>
            have hi' : ks[i]? = some id := by simpa using hi
            have hne : id ≠ k := by rintro rfl; exact h1 (List.mem_of_getElem? hi')
            rcases c i id hi' with ⟨x, y⟩ | ⟨q, q', x, y, z⟩
            · refine .inl ⟨by simpa using x, ?_⟩
              rw [y]
              exact Tree.get_set_ne _ _ hne
            · exact .inr ⟨q, q', by simpa using x, y, z⟩
      · cases e

theorem addNews_spec {K : Tree Nat} : ∀ {l : List AObj} {s s' : St}, addNews K l s = some s' → s'.next = s.next + l.length ∧ (∀ id, ¬ (s.next ≤ id ∧ id < s.next + l.length) → s'.heap.get id = s.heap.get id) ∧
    ∀ i o, l[i]? = some o → ∃ o', AObj.ren K o = some o' ∧ s'.heap.get (s.next + i) = some o'
  | [], s, s', e => by cases e; exact ⟨rfl, fun _ _ => rfl, fun i o h => by simp at h⟩
  | o :: l, s, s', e => by
    simp only [addNews] at e
    split at e
    · rename_i o' ho
      obtain ⟨a, b, c⟩ := addNews_spec e
      have hn : (s.add o').next = s.next + 1 := rfl
      rw [hn] at a b c
      refine ⟨by rw [a, List.length_cons]; omega, fun id hid => ?_, fun i q hq => ?_⟩
      · rw [List.length_cons] at hid
        rw [b id (by omega)]
        show (s.heap.set s.next o').get id = _
        exact Tree.get_set_ne _ _ (by omega)
      · cases i with
        | zero =>
          simp at hq
          subst hq
          refine ⟨o', ho, ?_⟩
          rw [b _ (by omega)]
          exact Tree.get_set_same _ _ _
        | succ i =>
          obtain ⟨q', h1, h2⟩ := c i q (by simpa using hq)
          refine ⟨q', h1, ?_⟩
          rw [← h2]
          congr 1; omega
    · cases e
end Go.V
