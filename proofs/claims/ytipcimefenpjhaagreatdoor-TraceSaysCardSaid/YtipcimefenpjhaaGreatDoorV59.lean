/- MEMO HOOKS of calls whose arguments are addresses: a step of the part is a step of the whole. -/
import Derived.Test.YtipcimefenpjhaaGreatDoorV58
set_option linter.unusedVariables false
set_option linter.unusedSimpArgs false
set_option linter.unusedSectionVars false
/- MEMO HOOKS of calls whose arguments are addresses: a step of the part is a step of the whole. -/
namespace Go.V
open Go Go.RowKit

theorem merge_step {φ φ' : Phi} {s s1 s2 : St} {w w' : World} {ks : List Nat} {os : List AObj} {outs : List (Option AObj)} {news : List AObj} (hs : RelSt φ s w) (hp : Part ks s os) (hchg : chgOk os outs = true) (hnew : news.all notRo = true)
    (st : Step (subPhi ks φ) (mkSt os) w φ' (mkSt (fullE os outs ++ news)) w') (hput : putOuts (mkI (ks ++ upFrom news.length s.next) 0 .leaf) ks outs s = some s1) (hadd : addNews (mkI (ks ++ upFrom news.length s.next) 0 .leaf) news s1 = some s2)
    (hf : FreeIn s s.next (s.next + news.length)) : ∃ ψ, RenPhi (mkI (ks ++ upFrom news.length s.next) 0 .leaf) φ' ψ ∧ Step φ s w ψ s2 w' := by
  generalize hK2 : mkI (ks ++ upFrom news.length s.next) 0 .leaf = K2 at *
  have hlen : os.length = ks.length := hp.length
  have hfl := fullE_length hchg
  have ga : ∀ (i id : Nat), ks[i]? = some id → K2.get i = some id := by
    intro i id e
    have hi : i < ks.length := (List.getElem?_eq_some_iff.1 e).1
    rw [← hK2, mkI_get, if_pos (by simp; omega)]
    rw [Nat.sub_zero, List.getElem?_append_left hi]
    exact e
  have gb : ∀ j, j < news.length → K2.get (ks.length + j) = some (s.next + j) := by
    intro j hj
    rw [← hK2, mkI_get, if_pos (by simp [upFrom_length]; omega)]
    rw [Nat.sub_zero, List.getElem?_append_right (by omega)]
    have : ks.length + j - ks.length = j := by omega
    rw [this, upFrom_get _ _ _ hj]
  have gc : ∀ (i id : Nat), K2.get i = some id → (ks[i]? = some id) ∨ ∃ j, j < news.length ∧ i = ks.length + j ∧ id = s.next + j := by
    intro i id e
    rw [← hK2, mkI_get] at e
    split at e
    · rename_i h
      rw [Nat.sub_zero] at e
      by_cases hi : i < ks.length
      · rw [List.getElem?_append_left hi] at e
        exact .inl e
      · rw [List.getElem?_append_right (by omega)] at e
        have hlt : i - ks.length < news.length := by
          have := (List.getElem?_eq_some_iff.1 e).1
          rwa [upFrom_length] at this
        rw [upFrom_get _ _ _ hlt] at e
        exact .inr ⟨i - ks.length, hlt, by omega, by cases e; rfl⟩
    · simp at e
  have hex : ∀ (i id : Nat), ks[i]? = some id → ¬ (s.next ≤ id ∧ id < s.next + news.length) := by
    intro i id e h
    obtain ⟨q, _, a, _⟩ := hp.at e
    rw [hf id h.1 h.2] at a
    cases a
  obtain ⟨p1, p2, p3⟩ := putOuts_spec hp.nodup hput
  obtain ⟨a1, a2, a3⟩ := addNews_spec hadd
  rw [p1] at a1 a2 a3
  have hkn : ∀ id, (mkK ks 0 .leaf).get id = none → id ∉ ks := by
    intro id e hm
    obtain ⟨i, hi⟩ := List.mem_iff_getElem?.1 hm
    rw [hp.kt hi] at e
    cases e
  have G1 : ∀ (j : Nat) (o : AObj), news[j]? = some o → ∃ o', AObj.ren K2 o = some o' ∧ s2.heap.get (s.next + j) = some o' := a3
  have G2 : ∀ (i id : Nat), ks[i]? = some id → (outs[i]? = some none ∧ s2.heap.get id = s.heap.get id) ∨ ∃ o o', outs[i]? = some (some o) ∧ AObj.ren K2 o = some o' ∧ s2.heap.get id = some o' := by
    intro i id e
    have h := a2 id (hex i id e)
    rcases p3 i id e with ⟨x, y⟩ | ⟨o, o', x, y, z⟩
    · exact .inl ⟨x, h.trans y⟩
    · exact .inr ⟨o, o', x, y, h.trans z⟩
  have G3 : ∀ id, id ∉ ks → ¬ (s.next ≤ id ∧ id < s.next + news.length) → s2.heap.get id = s.heap.get id := by
    intro id h1 h2
    rw [a2 id h2, p2 id h1]
  have gF : ∀ i, i < ks.length → (mkSt (fullE os outs ++ news)).heap.get i = (fullE os outs)[i]? := by
    intro i hi
    rw [mkSt_get, List.getElem?_append_left (by omega)]
  have gN : ∀ j, (mkSt (fullE os outs ++ news)).heap.get (ks.length + j) = news[j]? := by
    intro j
    rw [mkSt_get, List.getElem?_append_right (by omega)]
    congr 1; omega
  let ψ : Phi := fun id k => if s.next ≤ id ∧ id < s.next + news.length then φ' (ks.length + (id - s.next)) k else match (mkK ks 0 .leaf).get id with | some i => φ' i k | none => φ id k
  have hψn : ∀ j k, j < news.length → ψ (s.next + j) k = φ' (ks.length + j) k := by
    intro j k hj
    simp only [ψ]
    rw [if_pos (by omega)]
    have : s.next + j - s.next = j := by omega
    rw [this]
  have hψk : ∀ (i id k : Nat), ks[i]? = some id → ψ id k = φ' i k := by
    intro i id k e
    simp only [ψ]
    rw [if_neg (hex i id e), hp.kt e]
  have hψo : ∀ id k, (mkK ks 0 .leaf).get id = none → ¬ (s.next ≤ id ∧ id < s.next + news.length) → ψ id k = φ id k := by
    intro id k e h
    simp only [ψ]
    rw [if_neg h, e]
  have hψ : ∀ id k x, ψ id k = some x → (∃ j, j < news.length ∧ id = s.next + j ∧ φ' (ks.length + j) k = some x) ∨ (∃ i : Nat, ks[i]? = some id ∧ φ' i k = some x) ∨ ((mkK ks 0 .leaf).get id = none ∧ ¬ (s.next ≤ id ∧ id < s.next + news.length) ∧ φ id k = some x) := by
    intro id k x e
    by_cases h : s.next ≤ id ∧ id < s.next + news.length
    · refine .inl ⟨id - s.next, by omega, by omega, ?_⟩
      simp only [ψ] at e
      rwa [if_pos h] at e
    · cases hk : (mkK ks 0 .leaf).get id with
      | some i =>
        refine .inr (.inl ⟨i, hp.tk hk, ?_⟩)
        rwa [hψk i id k (hp.tk hk)] at e
      | none =>
        refine .inr (.inr ⟨rfl, h, ?_⟩)
        rwa [hψo id k hk h] at e
  have hren : RenPhi K2 φ' ψ := by
    intro i id e j x ex
    rcases gc i id e with h | ⟨q, hq, rfl, rfl⟩
    · rw [hψk i id j h]; exact ex
    · rw [hψn q j hq]; exact ex
  have hun : UnPhi (mkK ks 0 .leaf) φ' ψ := by
    intro id i e j x ex
    rw [hψk i id j (hp.tk e)]
    exact ex
  have hsub : ∀ (i id k : Nat) (x : Inc), ks[i]? = some id → φ id k = some x → subPhi ks φ i k = some x := by
    intro i id k x e ex
    simp only [subPhi, e]
    exact ex
  have hnr : ∀ id k x, φ id k = some x → ¬ (s.next ≤ id ∧ id < s.next + news.length) := by
    intro id k x e h
    have := (hs.dom id k x e).1
    rw [hf id h.1 h.2] at this
    cases this
  have hle : PhiLe φ ψ := by
    intro id k x e
    cases hk : (mkK ks 0 .leaf).get id with
    | some i =>
      rw [hψk i id k (hp.tk hk)]
      exact st.le _ _ _ (hsub _ _ _ _ (hp.tk hk) e)
    | none => rw [hψo id k hk (hnr id k x e)]; exact e
  have hIm : ∀ b, InIm (subPhi ks φ) b → InIm φ b := by
    rintro b ⟨i, k, x, e, hb⟩
    obtain ⟨id, _, e1⟩ := subPhi_some e
    exact ⟨id, k, x, e1, hb⟩
  have H : ∀ id k x, φ id k = some x → (mkK ks 0 .leaf).get id = none → w'.heap[x.blk]? = w.heap[x.blk]? := by
    intro id k x e hk
    by_cases hin : InIm (subPhi ks φ) x.blk
    · obtain ⟨i, k', x', e', hb⟩ := hin
      obtain ⟨id', h1, e1⟩ := subPhi_some e'
      rcases hs.inj _ _ _ _ _ _ e1 e hb with ⟨rfl, _⟩ | ⟨r, _⟩
      · rw [hp.kt h1] at hk; cases hk
      · have := st.ro i k' x' e' ((hp.isRo h1).2 r)
        rwa [hb] at this
    · exact st.frame _ (hs.dom id k x e).2 hin
  have hkeep : ∀ id, isRo s id → s2.heap.get id = s.heap.get id := by
    intro id hr
    have hrg : ¬ (s.next ≤ id ∧ id < s.next + news.length) := by
      intro h
      obtain ⟨cs, lo, inc, e⟩ := hr
      rw [hf id h.1 h.2] at e
      cases e
    by_cases hm : id ∈ ks
    · obtain ⟨i, hi⟩ := List.mem_iff_getElem?.1 hm
      rcases G2 i id hi with ⟨_, h⟩ | ⟨o, o', h1, _, _⟩
      · exact h
      · exfalso
        obtain ⟨q, o1, _, b, _⟩ := hp.at hi
        rcases fullE_get hchg i o1 b with ⟨c, _⟩ | ⟨_, _, _, d, _⟩
        · rw [h1] at c; cases c
        · exact not_isRo (s := mkSt os) (by rw [mkSt_get]; exact b) d ((hp.isRo hi).2 hr)
    · exact G3 id hm hrg
  have hroN : ∀ id, isRo s id → isRo s2 id := by
    intro id hr
    obtain ⟨cs, lo, inc, e⟩ := hr
    exact ⟨cs, lo, inc, by rw [hkeep id ⟨cs, lo, inc, e⟩]; exact e⟩
  have hroF : ∀ (i id : Nat), ks[i]? = some id → isRo (mkSt (fullE os outs ++ news)) i → isRo s id := by
    intro i id hi hr
    have hlt : i < ks.length := (List.getElem?_eq_some_iff.1 hi).1
    obtain ⟨q, o1, a, b, c⟩ := hp.at hi
    rcases fullE_get hchg i o1 b with ⟨_, d⟩ | ⟨q', _, d, _, d'⟩
    · refine (hp.isRo hi).1 ?_
      obtain ⟨cs, lo, inc, e⟩ := hr
      rw [gF i hlt, d] at e
      cases e
      exact ⟨cs, lo, inc, by rw [mkSt_get]; exact b⟩
    · exact absurd hr (not_isRo (by rw [gF i hlt]; exact d) d')
  have hroNew : ∀ j, ¬ isRo (mkSt (fullE os outs ++ news)) (ks.length + j) := by
    rintro j ⟨cs, lo, inc, e⟩
    rw [gN] at e
    have := List.all_eq_true.1 hnew _ (List.mem_of_getElem? e)
    cases this
  have hfreshNew : ∀ j k x, φ' (ks.length + j) k = some x → w.heap.size ≤ x.blk := by
    intro j k x e
    rcases st.fresh _ _ _ e with ⟨i, k', x', e', hb⟩ | h
    · rcases st.rel.inj _ _ _ _ _ _ e (st.le _ _ _ e') hb.symm with ⟨h, _⟩ | ⟨h, _⟩
      · obtain ⟨id, h1, _⟩ := subPhi_some e'
        have := (List.getElem?_eq_some_iff.1 h1).1
        omega
      · exact absurd h (hroNew j)
    · exact h
  -- two of the part
  have inj1 : ∀ (i i' id id' k k' : Nat) (x x' : Inc), ks[i]? = some id → ks[i']? = some id' → φ' i k = some x → φ' i' k' = some x' → x.blk = x'.blk → (id = id' ∧ x.base = x'.base ∧ x.sh = x'.sh ∧ x.top = x'.top) ∨ (isRo s2 id ∧ isRo s2 id') := by
    intro i i' id id' k k' x x' e1 e2 h1 h2 hb
    rcases st.rel.inj _ _ _ _ _ _ h1 h2 hb with ⟨rfl, h⟩ | ⟨h, h'⟩
    · rw [e1] at e2; cases e2; exact .inl ⟨rfl, h⟩
    · exact .inr ⟨hroN _ (hroF _ _ e1 h), hroN _ (hroF _ _ e2 h')⟩
  -- one of the part, one that is not
  have inj2 : ∀ (i id id' k k' : Nat) (x x' : Inc), ks[i]? = some id → (mkK ks 0 .leaf).get id' = none → φ' i k = some x → φ id' k' = some x' → x.blk = x'.blk → isRo s2 id ∧ isRo s2 id' := by
    intro i id id' k k' x x' e1 e2 h1 h2 hb
    have hlt := (hs.dom _ _ _ h2).2
    rcases st.fresh _ _ _ h1 with ⟨i2, k2, x2, e3, hb2⟩ | h
    · obtain ⟨id2, e4, h4⟩ := subPhi_some e3
      rcases hs.inj _ _ _ _ _ _ h4 h2 (by omega) with ⟨rfl, _⟩ | ⟨r, r'⟩
      · rw [hp.kt e4] at e2; cases e2
      · rcases st.rel.inj _ _ _ _ _ _ h1 (st.le _ _ _ e3) hb2.symm with ⟨rfl, _⟩ | ⟨h, _⟩
        · rw [e1] at e4; cases e4
          exact ⟨hroN _ r, hroN _ r'⟩
        · exact ⟨hroN _ (hroF _ _ e1 h), hroN _ r'⟩
    · omega
  refine ⟨ψ, hren, hle, ⟨?_, ?_, ?_, ?_⟩, st.size, fun b hb hni => st.frame b hb (fun h => hni (hIm b h)), ?_, ?_, hkeep, ?_, st.os, st.tape, st.output⟩
  · intro id o ho
    by_cases hrg : s.next ≤ id ∧ id < s.next + news.length
    · have hj : id - s.next < news.length := by omega
      have hq : news[id - s.next]? = some news[id - s.next] := List.getElem?_eq_getElem hj
      obtain ⟨o', h1, h2⟩ := G1 _ _ hq
      have e : s.next + (id - s.next) = id := by omega
      rw [e, ho] at h2
      cases h2
      have h3 := st.rel.obj (ks.length + (id - s.next)) _ (by rw [gN]; exact hq)
      have h4 := gb _ hj
      rw [e] at h4
      exact h3.ren h4 hren h1
    · cases hk : (mkK ks 0 .leaf).get id with
      | some i =>
        have hi := hp.tk hk
        have hlt : i < ks.length := (List.getElem?_eq_some_iff.1 hi).1
        obtain ⟨q, o1, a, b, c⟩ := hp.at hi
        rcases G2 i id hi with ⟨h1, h2⟩ | ⟨u, u', h1, h2, h3⟩
        · rw [ho, a] at h2
          cases h2
          rcases fullE_get hchg i o1 b with ⟨_, d⟩ | ⟨_, d, _⟩
          · exact (st.rel.obj i o1 (by rw [gF i hlt]; exact d)).unren hk hun c
          · rw [h1] at d; cases d
        · rw [ho] at h3
          cases h3
          rcases fullE_get hchg i o1 b with ⟨d, _⟩ | ⟨q', d, d', _, _⟩
          · rw [h1] at d; cases d
          · rw [h1] at d; cases d
            exact (st.rel.obj i _ (by rw [gF i hlt]; exact d')).ren (ga i id hi) hren h2
      | none =>
        rw [G3 id (hkn id hk) hrg] at ho
        exact (hs.obj id o ho).mono hle fun k x e => H id k x e hk
  · intro id k x e
    rcases hψ id k x e with ⟨j, hj, rfl, e1⟩ | ⟨i, hi, e1⟩ | ⟨hk, hrg, e1⟩
    · obtain ⟨o', _, h2⟩ := G1 j _ (List.getElem?_eq_getElem hj)
      exact ⟨by rw [h2]; rfl, (st.rel.dom _ _ _ e1).2⟩
    · refine ⟨?_, (st.rel.dom _ _ _ e1).2⟩
      obtain ⟨q, _, a, _, _⟩ := hp.at hi
      rcases G2 i id hi with ⟨_, h⟩ | ⟨_, _, _, _, h⟩
      · rw [h, a]; rfl
      · rw [h]; rfl
    · rw [G3 id (hkn id hk) hrg]
      have := hs.dom _ _ _ e1
      exact ⟨this.1, Nat.lt_of_lt_of_le this.2 st.size⟩
  · intro id k x id' k' x' e e' hb
    rcases hψ id k x e with ⟨j, hj, rfl, e1⟩ | ⟨i, hi, e1⟩ | ⟨hk, hrg, e1⟩
    · rcases hψ id' k' x' e' with ⟨j', hj', rfl, e1'⟩ | ⟨i', hi', e1'⟩ | ⟨hk', hrg', e1'⟩
      · rcases st.rel.inj _ _ _ _ _ _ e1 e1' hb with ⟨h, h'⟩ | ⟨h, _⟩
        · exact .inl ⟨by omega, h'⟩
        · exact absurd h (hroNew j)
      · rcases st.rel.inj _ _ _ _ _ _ e1 e1' hb with ⟨h, h'⟩ | ⟨h, _⟩
        · have := (List.getElem?_eq_some_iff.1 hi').1
          omega
        · exact absurd h (hroNew j)
      · have h1 := hfreshNew _ _ _ e1
        have h2 := (hs.dom _ _ _ e1').2
        omega
    · rcases hψ id' k' x' e' with ⟨j', hj', rfl, e1'⟩ | ⟨i', hi', e1'⟩ | ⟨hk', hrg', e1'⟩
      · rcases st.rel.inj _ _ _ _ _ _ e1 e1' hb with ⟨h, h'⟩ | ⟨_, h⟩
        · have := (List.getElem?_eq_some_iff.1 hi).1
          omega
        · exact absurd h (hroNew j')
      · exact inj1 _ _ _ _ _ _ _ _ hi hi' e1 e1' hb
      · exact .inr (inj2 _ _ _ _ _ _ _ hi hk' e1 e1' hb)
    · rcases hψ id' k' x' e' with ⟨j', hj', rfl, e1'⟩ | ⟨i', hi', e1'⟩ | ⟨hk', hrg', e1'⟩
      · have h1 := hfreshNew _ _ _ e1'
        have h2 := (hs.dom _ _ _ e1).2
        omega
      · exact .inr (inj2 _ _ _ _ _ _ _ hi' hk e1' e1 hb.symm).symm
      · rcases hs.inj _ _ _ _ _ _ e1 e1' hb with h | ⟨h, h'⟩
        · exact .inl h
        · exact .inr ⟨hroN _ h, hroN _ h'⟩
  · intro id k x cs lo inc ro e ho
    rcases hψ id k x e with ⟨j, hj, rfl, e1⟩ | ⟨i, hi, e1⟩ | ⟨hk, hrg, e1⟩
    · obtain ⟨o', h1, h2⟩ := G1 j _ (List.getElem?_eq_getElem hj)
      rw [ho] at h2
      cases h2
      obtain ⟨cs', h3⟩ := AObj.ren_cells h1
      exact st.rel.incs _ _ _ _ _ _ _ e1 (by rw [gN, List.getElem?_eq_getElem hj, h3])
    · have hlt : i < ks.length := (List.getElem?_eq_some_iff.1 hi).1
      obtain ⟨q, o1, a, b, c⟩ := hp.at hi
      rcases G2 i id hi with ⟨h1, h2⟩ | ⟨u, u', h1, h2, h3⟩
      · rw [ho, a] at h2
        cases h2
        obtain ⟨cs', rfl⟩ := AObj.ren_ro c
        rcases fullE_get hchg i _ b with ⟨_, d⟩ | ⟨_, d, _⟩
        · exact st.rel.incs _ _ _ _ _ _ _ e1 (by rw [gF i hlt]; exact d)
        · rw [h1] at d; cases d
      · rw [ho] at h3
        cases h3
        obtain ⟨cs', rfl⟩ := AObj.ren_cells h2
        rcases fullE_get hchg i _ b with ⟨d, _⟩ | ⟨q', d, d', _, _⟩
        · rw [h1] at d; cases d
        · rw [h1] at d; cases d
          exact st.rel.incs _ _ _ _ _ _ _ e1 (by rw [gF i hlt]; exact d')
    · rw [G3 id (hkn id hk) hrg] at ho
      exact hs.incs _ _ _ _ _ _ _ e1 ho
  · intro id k x e hr
    cases hk : (mkK ks 0 .leaf).get id with
    | some i => exact st.ro i k x (hsub _ _ _ _ (hp.tk hk) e) ((hp.isRo (hp.tk hk)).2 hr)
    | none => exact H id k x e hk
  · intro id k x e
    rcases hψ id k x e with ⟨j, hj, rfl, e1⟩ | ⟨i, hi, e1⟩ | ⟨hk, hrg, e1⟩
    · exact .inr (hfreshNew _ _ _ e1)
    · rcases st.fresh _ _ _ e1 with h | h
      · exact .inl (hIm _ h)
      · exact .inr h
    · exact .inl ⟨id, k, x, e1, rfl⟩
  · intro id k x e hr
    rcases hψ id k x e with ⟨j, hj, rfl, e1⟩ | ⟨i, hi, e1⟩ | ⟨hk, hrg, e1⟩
    · obtain ⟨cs, lo, inc, h⟩ := hr
      rw [hf _ (by omega) (by omega)] at h
      cases h
    · have := st.roOld _ _ _ e1 ((hp.isRo hi).2 hr)
      obtain ⟨id', h1, h2⟩ := subPhi_some this
      rw [hi] at h1; cases h1
      exact h2
    · exact e1
end Go.V
