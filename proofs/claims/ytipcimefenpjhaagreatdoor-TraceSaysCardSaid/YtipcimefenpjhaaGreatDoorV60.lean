/- MEMO HOOKS of calls whose arguments are addresses: the hook is right, and tame. -/
import Derived.Test.YtipcimefenpjhaaGreatDoorV59
set_option linter.unusedVariables false
set_option linter.unusedSimpArgs false
set_option linter.unusedSectionVars false
/- MEMO HOOKS of calls whose arguments are addresses: the hook is right, and tame. -/
namespace Go.V
open Go Go.RowKit

theorem chkE_spec {T : Tab} {rec : Rec} {f : FuncId} {E : Ent} (h : chkE T rec f E = true) : chgOk E.objs E.outs = true ∧ E.news.all notRo = true ∧ ∃ v1 s1, callF T rec f E.args (mkSt E.objs) = .val v1 s1 ∧
    ∀ φ0 φ1 w w', RelSt φ0 (mkSt E.objs) w → Step φ0 (mkSt E.objs) w φ1 s1 w' → ∃ φ', Step φ0 (mkSt E.objs) w φ' (mkSt (fullE E.objs E.outs ++ E.news)) w' ∧ ∀ c, VRel φ1 v1 c → VRel φ' E.v c := by
  unfold chkE at h
  split at h
  · rename_i v1 s1 hcall
    split at h
    · cases h
    · rename_i ks hks
      simp only [Bool.and_eq_true] at h
      obtain ⟨h1, h⟩ := h
      split at h
      · cases h
      · rename_i v' hv
        simp only [Bool.and_eq_true] at h
        obtain ⟨h2, h⟩ := h
        split at h
        · cases h
        · rename_i l hl
          simp only [Bool.and_eq_true] at h
          obtain ⟨h3, h4, h5⟩ := h
          refine ⟨h4, h5, v1, s1, hcall, fun φ0 φ1 w w' hs st => ?_⟩
          have hv' := AV.beq_eq h2
          have hl' := objsBeq_eq h3
          subst hv'
          have hnd := reachK_nodup _ .nil (fun i hi => by cases hi) hks
          obtain ⟨g1, g2⟩ := renList_get hl
          rw [← hl']
          have hm := (fullE_length h4).1
          have hpre : ∀ id, id < E.objs.length → ks[id]? = some id := by
            intro id hid
            have := prefB_get h1 id (0 + id) (upFrom_get _ _ _ hid)
            rwa [Nat.zero_add] at this
          have hK : ∀ i id, ks[i]? = some id → (mkK ks 0 .leaf).get id = some i := by
            intro i id e
            have := mkK_at ks 0 .leaf hnd i id e
            simpa using this
          obtain ⟨φ', st', hr⟩ := gc_step (s' := mkSt l) hs st (mkK ks 0 .leaf) (fun i => ks[i]?) hK
            (fun id i e => by
              have := mkK_get ks [] .leaf (by simp) id i (by simpa using e)
              simpa using this)
            (fun id hid => by
              rw [mkSt_get] at hid
              cases hq : E.objs[id]? with
              | none => rw [hq] at hid; cases hid
              | some q => exact hK _ _ (hpre id (List.getElem?_eq_some_iff.1 hq).1))
            (fun i id e => by
              have hi : i < l.length := by rw [g1]; exact (List.getElem?_eq_some_iff.1 e).1
              have ho : l[i]? = some l[i] := List.getElem?_eq_getElem hi
              obtain ⟨id', q, e', hq, hren⟩ := g2 i l[i] ho
              rw [e] at e'; cases e'
              exact ⟨q, l[i], hq, by rw [mkSt_get]; exact ho, .inl hren⟩)
            (fun i o' ho => by
              rw [mkSt_get] at ho
              obtain ⟨id', q, e', hq, hren⟩ := g2 i o' ho
              exact ⟨id', e'⟩)
            (fun id ⟨cs, lo, inc, e⟩ => by
              rw [mkSt_get] at e
              have hlt := (List.getElem?_eq_some_iff.1 e).1
              rw [mkSt_get, mkSt_get, e, hl', List.getElem?_append_left (by omega)]
              rcases fullE_get h4 id _ e with ⟨_, d⟩ | ⟨_, _, _, d, _⟩
              · exact d
              · cases d)
          exact ⟨φ', st', fun c hc => hc.ren hr hv⟩
  · cases h

theorem findE_spec {a : List AV} {os : List AObj} : ∀ {l : List Ent} {E : Ent}, findE a os l = some E → E ∈ l ∧ a = E.args ∧ os = E.objs
  | [], _, h => by cases h
  | F :: l, E, h => by
    simp only [findE] at h
    split at h
    · rename_i h1
      split at h
      · rename_i h2
        cases h
        exact ⟨by simp, AV.beqs_eq h1, objsBeq_eq h2⟩
      · obtain ⟨x, y⟩ := findE_spec h
        exact ⟨List.mem_cons_of_mem _ x, y⟩
    · obtain ⟨x, y⟩ := findE_spec h
      exact ⟨List.mem_cons_of_mem _ x, y⟩

structure MemoA (pre : List Nat) (tbl : List Ent) (args : List AV) (s : St) (v : AV) (s' : St) where
  ks : List Nat
  E : Ent
  s1 : St
  hks : reachK s.heap 100000 (pre ++ idsOfs args) .leaf 0 [] = some ks
  hpre : prefB pre ks = true
  hargs : AV.rens (mkK ks 0 .leaf) args = some E.args
  hobjs : renList (mkK ks 0 .leaf) s.heap ks = some E.objs
  hfind : findE E.args E.objs tbl = some E
  hv : AV.ren (mkI (ks ++ upFrom E.news.length s.next) 0 .leaf) E.v = some v
  hput : putOuts (mkI (ks ++ upFrom E.news.length s.next) 0 .leaf) ks E.outs s = some s1
  hadd : addNews (mkI (ks ++ upFrom E.news.length s.next) 0 .leaf) E.news s1 = some s'

theorem memoAH_spec {pre : List Nat} {tbl : List Ent} {args : List AV} {s s' : St} {v : AV} (h : memoAH pre tbl args s = some (v, s')) : Nonempty (MemoA pre tbl args s v s') := by
  unfold memoAH at h
  cases h1 : reachK s.heap 100000 (pre ++ idsOfs args) .leaf 0 [] with
  | none => rw [h1] at h; cases h
  | some ks =>
    rw [h1] at h
    simp only [] at h
    cases h2 : prefB pre ks with
    | false => rw [h2] at h; cases h
    | true =>
      rw [h2] at h
      simp only [] at h
      cases h3 : AV.rens (mkK ks 0 .leaf) args with
      | none => rw [h3] at h; cases h
      | some a =>
        rw [h3] at h
        simp only [] at h
        cases h4 : renList (mkK ks 0 .leaf) s.heap ks with
        | none => rw [h4] at h; cases h
        | some os =>
          rw [h4] at h
          simp only [] at h
          cases h5 : findE a os tbl with
          | none => rw [h5] at h; cases h
          | some E =>
            rw [h5] at h
            simp only [] at h
            obtain ⟨_, rfl, rfl⟩ := findE_spec h5
            unfold applyE at h
            cases h6 : AV.ren (mkI (ks ++ upFrom E.news.length s.next) 0 .leaf) E.v with
            | none => rw [h6] at h; cases h
            | some v1 =>
              rw [h6] at h
              simp only [] at h
              cases h7 : putOuts (mkI (ks ++ upFrom E.news.length s.next) 0 .leaf) ks E.outs s with
              | none => rw [h7] at h; cases h
              | some s1 =>
                rw [h7] at h
                simp only [] at h
                cases h8 : addNews (mkI (ks ++ upFrom E.news.length s.next) 0 .leaf) E.news s1 with
                | none => rw [h8] at h; cases h
                | some s2 =>
                  rw [h8] at h
                  cases h
                  exact ⟨⟨ks, E, s1, h1, h2, h3, h4, h5, h6, h7, h8⟩⟩

theorem memoAH_of {pre : List Nat} {tbl : List Ent} {args : List AV} {s s' : St} {v : AV} (h : MemoA pre tbl args s v s') : memoAH pre tbl args s = some (v, s') := by
  unfold memoAH applyE
  simp only [h.hks, h.hpre, h.hargs, h.hobjs, h.hfind, h.hv, h.hput, h.hadd]

theorem MemoA.part {pre : List Nat} {tbl : List Ent} {args : List AV} {s s' : St} {v : AV} (h : MemoA pre tbl args s v s') : Part h.ks s h.E.objs :=
  ⟨reachK_nodup _ .nil (fun i hi => by cases hi) h.hks, h.hobjs⟩

/-- The hook is right where each row told is what the call comes to in its own state. -/
theorem memoA_ok {P P0 : Prog} (hp : P0.toProgram = P.toProgram) {pre : List Nat} (hG : ∀ g, g ∈ P0.G → pre[g]? = some g ∧ g ∈ P.G) {T : Tab} {rec : Rec} (hF : FuncsOk P0 T rec) (f : FuncId) (tbl : List Ent)
    (h : ∀ E, E ∈ tbl → chkE T rec f E = true) : HookOk P f fun args s => ofBoth (memoAH pre tbl args s) := by
  intro args s r hres hne φ w cargs hgl hs ha hf
  obtain ⟨v, s2, hm, rfl⟩ := ofBoth_ne hres hne
  obtain ⟨m⟩ := memoAH_spec hm
  have hpart := m.part
  obtain ⟨hmem, _, _⟩ := findE_spec m.hfind
  obtain ⟨hchg, hnew, v1, s1, hcall, hspec⟩ := chkE_spec (h _ hmem)
  have hs0 := sub_rel hs hpart
  have hnext : s2.next = s.next + m.E.news.length := by
    have h1 := (putOuts_spec hpart.nodup m.hput).1
    have h2 := (addNews_spec m.hadd).1
    omega
  have hgl0 : GlobOk P0 (subPhi m.ks φ) := by
    intro g hg
    obtain ⟨h1, h2⟩ := hG g hg
    obtain ⟨x, e, h3, h4, h5, h6⟩ := hgl g h2
    refine ⟨x, ?_, h3, h4, h5, ?_⟩
    · simp only [subPhi, prefB_get m.hpre g g h1]
      exact e
    · intro gl n q1 q2
      have e1 : P0.globals = P.globals := by rw [hp]
      have e2 : szOf P0 gl.type = szOf P gl.type := by unfold szOf; rw [hp]
      rw [e1] at q1
      rw [e2] at q2
      exact h6 gl n q1 q2
  have ha0 := VRels.ren (hpart.renPhi φ) ha m.hargs
  intro o a next Q hk
  have key := hF f m.E.args (mkSt m.E.objs) _ hcall (by simp) (subPhi m.ks φ) w cargs hgl0 hs0 ha0 (fun id h1 _ => by
      rw [mkSt_get]
      exact List.getElem?_eq_none h1) o a next Q (by
    intro c w' φ1 st hv
    obtain ⟨φ2, st2, hv2⟩ := hspec _ φ1 w w' hs0 st
    obtain ⟨ψ, hr, st3⟩ := merge_step hs hpart hchg hnew st2 m.hput m.hadd (fun id h1 h2 => hf id h1 (by show id < s2.next; omega))
    exact hk c w' ψ st3 ((hv2 c hv).ren hr m.hv))
  rw [hp] at key
  exact key

theorem renList_put {K : Tree Nat} {s : St} {b : Nat} {o : AObj} (hb : s.heap.get b = none) : ∀ {l : List Nat} {r : List AObj}, renList K s.heap l = some r → renList K (s.put b o).heap l = some r
  | [], _, e => e
  | k :: l, r, e => by
    simp only [renList] at e ⊢
    cases hk : s.heap.get k with
    | none => rw [hk] at e; cases e
    | some q =>
      rw [hk] at e
      have h1 : (s.put b o).heap.get k = some q := by
        show (s.heap.set b o).get k = _
        rw [Tree.get_set_ne _ _ (by rintro rfl; rw [hb] at hk; cases hk)]
        exact hk
      rw [h1]
      simp only [] at e ⊢
      cases h2 : AObj.ren K q with
      | none => rw [h2] at e; cases e
      | some q' =>
        rw [h2] at e
        cases h3 : renList K s.heap l with
        | none => rw [h3] at e; cases e
        | some r' => rw [h3] at e; rw [renList_put hb h3]; exact e

theorem putOuts_put {K : Tree Nat} {b : Nat} {o : AObj} : ∀ {ks : List Nat} {os : List (Option AObj)} {s s' : St}, b ∉ ks → putOuts K ks os s = some s' → putOuts K ks os (s.put b o) = some (s'.put b o)
  | [], [], s, s', _, e => by cases e; rfl
  | [], _ :: _, _, _, _, e => by cases e
  | _ :: _, [], _, _, _, e => by cases e
  | k :: ks, q :: os, s, s', hn, e => by
    have h1 : b ∉ ks := fun h => hn (List.mem_cons_of_mem _ h)
    have h2 : b ≠ k := fun h => hn (by simp [h])
    cases q with
    | none =>
      simp only [putOuts] at e ⊢
      exact putOuts_put h1 e
    | some q =>
      simp only [putOuts] at e ⊢
      cases hq : AObj.ren K q with
      | none => rw [hq] at e; cases e
      | some q' =>
        rw [hq] at e
        simp only [] at e ⊢
        have : (s.put b o).put k q' = (s.put k q').put b o := by
          simp only [St.put]
          rw [set_comm _ _ _ h2]
        rw [this]
        exact putOuts_put h1 e

theorem addNews_put {K : Tree Nat} {b : Nat} {o : AObj} : ∀ {l : List AObj} {s s' : St}, ¬ (s.next ≤ b ∧ b < s.next + l.length) → addNews K l s = some s' → addNews K l (s.put b o) = some (s'.put b o)
  | [], s, s', _, e => by cases e; rfl
  | q :: l, s, s', hn, e => by
    simp only [addNews] at e ⊢
    cases hq : AObj.ren K q with
    | none => rw [hq] at e; cases e
    | some q' =>
      rw [hq] at e
      simp only [List.length_cons] at e hn ⊢
      have : (s.put b o).add q' = (s.add q').put b o := by
        simp only [St.put, St.add]
        rw [set_comm _ _ _ (by omega)]
      rw [this]
      exact addNews_put (by show ¬ (s.next + 1 ≤ b ∧ b < s.next + 1 + l.length); omega) e

theorem memoA_tame (pre : List Nat) (tbl : List Ent) (args : List AV) (s : St) : Tame s (fun s => ofBoth (memoAH pre tbl args s)) := by
  intro hn
  cases hm : memoAH pre tbl args s with
  | none => simp [hm, ofBoth] at hn
  | some p =>
    obtain ⟨v, s2⟩ := p
    simp only [hm, ofBoth, Res.st, Res.to]
    obtain ⟨m⟩ := memoAH_spec hm
    have hpart := m.part
    obtain ⟨p1, p2, p3⟩ := putOuts_spec hpart.nodup m.hput
    obtain ⟨a1, a2, a3⟩ := addNews_spec m.hadd
    rw [p1] at a1 a2 a3
    have hin : ∀ k, k ∈ m.ks → (s.heap.get k).isSome = true := reachK_in _ (fun i hi => by cases hi) m.hks
    have old : ∀ id, ¬ (s.next ≤ id ∧ id < s.next + m.E.news.length) → ((s2.heap.get id).isSome = true ↔ (s.heap.get id).isSome = true) := by
      intro id h
      rw [a2 id h]
      by_cases hk : id ∈ m.ks
      · obtain ⟨i, hi⟩ := List.mem_iff_getElem?.1 hk
        rcases p3 i id hi with ⟨_, e⟩ | ⟨_, _, _, _, e⟩
        · rw [e]
        · rw [e]; simp [hin id hk]
      · rw [p2 id hk]
    refine ⟨⟨by omega, fun id hid => ?_, fun id hid => ?_⟩, fun b o hb hnb => ?_⟩
    · by_cases h : s.next ≤ id ∧ id < s.next + m.E.news.length
      · have hj : id - s.next < m.E.news.length := by omega
        obtain ⟨o', _, h2⟩ := a3 _ _ (List.getElem?_eq_getElem hj)
        have e : s.next + (id - s.next) = id := by omega
        rw [e] at h2
        rw [h2]; rfl
      · exact (old id h).2 hid
    · by_cases h : s.next ≤ id ∧ id < s.next + m.E.news.length
      · exact .inr ⟨h.1, by omega⟩
      · exact .inl ((old id h).1 hid)
    · have hbk : b ∉ m.ks := fun h => by have := hin b h; rw [hb] at this; cases this
      have : memoAH pre tbl args (s.put b o) = some (v, s2.put b o) := memoAH_of ⟨m.ks, m.E, m.s1.put b o, reachK_put hb _ m.hks, m.hpre, m.hargs, renList_put hb m.hobjs, m.hfind, m.hv, putOuts_put hbk m.hput, addNews_put (by rw [p1]; omega) m.hadd⟩
      rw [this]

theorem EntryOk2.memoA {P P0 : Prog} (hm : P0.follows .mixedOrders = true) (hp : P0.toProgram = P.toProgram) {pre : List Nat} (hG : ∀ g, g ∈ P0.G → pre[g]? = some g ∧ g ∈ P.G) {T : Tab} (h : TabFine P0 T) (n : Nat) (f : Nat) (tbl : List Ent)
    (hc : ∀ E, E ∈ tbl → chkE T (evalF T n) f E = true) : EntryOk2 P f (.hook (memoAH pre tbl)) :=
  .hook (memoA_ok hp hG (by rw [evalF_eq]; exact eval_sound hm h.ok h.tame n) f tbl hc) (fun args s => memoA_tame pre tbl args s)

theorem all_cons {p : Ent → Bool} {E : Ent} {l : List Ent} (h : p E = true) (k : ∀ F, F ∈ l → p F = true) : ∀ F, F ∈ E :: l → p F = true := fun F hF => by
  rcases List.mem_cons.1 hF with rfl | hF
  · exact h
  · exact k F hF
theorem all_app {p : Ent → Bool} {l m : List Ent} (h : ∀ F, F ∈ l → p F = true) (k : ∀ F, F ∈ m → p F = true) : ∀ F, F ∈ l ++ m → p F = true := fun F hF => by
  rcases List.mem_append.1 hF with hF | hF
  · exact h F hF
  · exact k F hF
end Go.V
