/- REGIONS WHOSE ORDER IS DRAWN: soundness. -/
import Derived.Test.YtpccibieeikllaaDoorV23
set_option linter.unusedVariables false
set_option linter.unusedSimpArgs false
set_option linter.unusedSectionVars false
set_option linter.unusedSimpArgs false
/- REGIONS WHOSE ORDER IS DRAWN: soundness. -/
namespace Go.V
open Go

section
variable {P : Prog} {T : Tab} {rec : Rec}

theorem RelSt.at {φ : Phi} {H : Tree AObj} {b c : Nat} {w : World} (h : RelSt φ ⟨H, b⟩ w) : RelSt φ ⟨H, c⟩ w := ⟨h.obj, h.dom, h.inj, h.incs⟩
theorem Step.at {φ φ' : Phi} {H H' : Tree AObj} {b c b' c' : Nat} {w w' : World} (h : Step φ ⟨H, b⟩ w φ' ⟨H', b'⟩ w') : Step φ ⟨H, c⟩ w φ' ⟨H', c'⟩ w' :=
  ⟨h.le, h.rel.at, h.size, h.frame, h.ro, h.fresh, h.roKeep, h.roOld, h.os, h.tape, h.output⟩

theorem exists_min : ∀ {l : List Nat}, l ≠ [] → ∃ i ∈ l, ∀ j ∈ l, i ≤ j
  | [], h => absurd rfl h
  | [x], _ => ⟨x, by simp, by simp⟩
  | x :: y :: l, _ => by
    obtain ⟨i, h1, h2⟩ := exists_min (l := y :: l) (by simp)
    by_cases h : x ≤ i
    · refine ⟨x, by simp, fun j hj => ?_⟩
      rcases List.mem_cons.1 hj with rfl | hj
      · exact Nat.le_refl _
      · exact Nat.le_trans h (h2 j hj)
    · refine ⟨i, List.mem_cons_of_mem _ h1, fun j hj => ?_⟩
      rcases List.mem_cons.1 hj with rfl | hj
      · omega
      · exact h2 j hj

structure Deps (ops : Array Oper) (bef : Nat → Nat) : Prop where
  back : ∀ i o, ops[i]? = some o → ∀ e ∈ o.after, Region.binds .any e = true → e.on < i
  bef : ∀ i j, (bef j).testBit i = true → ∃ o, ops[j]? = some o ∧ ∃ e ∈ o.after, Region.binds .any e = true ∧ (e.on = i ∨ (bef e.on).testBit i = true)

def Closed (ops : Array Oper) (listed : Array Bool) : Prop := ∀ k, listed.getD k false = true → ∀ o, ops[k]? = some o → ∀ e ∈ o.after, Region.binds .any e = true → listed.getD e.on false = true

theorem Deps.reach {ops : Array Oper} {bef : Nat → Nat} (hd : Deps ops bef) {listed : Array Bool} (hc : Closed ops listed) : ∀ k, listed.getD k false = true → ∀ i, (bef k).testBit i = true → listed.getD i false = true := by
  intro k
  induction k using Nat.strongRecOn with
  | _ k ih =>
    intro hk i hi
    obtain ⟨o, ho, e, he, hb, h⟩ := hd.bef i k hi
    have h1 := hc k hk o ho e he hb
    rcases h with rfl | h
    · exact h1
    · exact ih e.on (hd.back k o ho e he hb) h1 i h

theorem getD_in {listed : Array Bool} {i : Nat} (h : i < listed.size) (d d' : Bool) : listed.getD i d = listed.getD i d' := by
  simp [Array.getD_eq_getD_getElem?, h]

theorem draw_any (hops : ∀ o, OpOk P T rec o) (hT : TameHooks T) (hr : TameRec rec) {ops : Array Oper} {nt : Nat} {ds : List Deferred} {bef : Nat → Nat} (hd : Deps ops bef) {e' : Env} {H' : Tree AObj} {Q : Exit → Act → World → Prop} :
    ∀ (m : Nat) (L : List BOp) (listed : Array Bool) {e : Env} {H : Tree AObj} {φ : Phi} {a : Act} {w : World}, L.length = m → L.Pairwise Rel2 → (∀ q ∈ L, Own q) → (∀ q ∈ L, FreeR H q) → evalB T rec L e H = some (e', H') →
      GlobOk P φ → RelSt φ ⟨H, 0⟩ w → RelEnv nt ds φ e a → (∀ q ∈ L, ∃ o, ops[q.row.i]? = some o ∧ ofOper P nt ops o = some q.row.op ∧ q.row.bef = bef q.row.i) → (L.map (·.row.i)).Nodup →
      listed.size = ops.size → (∀ i, i < ops.size → (listed.getD i true = false ↔ i ∈ L.map (·.row.i))) → Closed ops listed →
      (∀ φ' a' w', Step φ ⟨H, 0⟩ w φ' ⟨H', 0⟩ w' → RelEnv nt ds φ' e' a' → Q .normal a' w') → wpAny P.toProgram .any ops Q m listed a w
  | 0, L, listed, e, H, φ, a, w, hlen, _, _, _, hev, hg, hs, he, _, _, hsz, hls, _, hQ => by
    have hL : L = [] := List.length_eq_zero_iff.1 hlen
    subst hL
    simp only [evalB] at hev
    cases hev
    refine ⟨List.eq_nil_iff_forall_not_mem.2 fun j hj => ?_, hQ φ a w (.refl hs) he⟩
    obtain ⟨h0, o, ho, _⟩ := mem_ready.1 hj
    have hlt := (Array.getElem?_eq_some_iff.1 ho).1
    have := (hls j hlt).1 h0
    simp at this
  | m + 1, L, listed, e, H, φ, a, w, hlen, hpw, hown, hfree, hev, hg, hs, he, hrows, hnd, hsz, hls, hcl, hQ => by
    refine ⟨fun hnil => ?_, fun i hi => ?_⟩
    · -- something is ready
      exfalso
      have hne : L.map (·.row.i) ≠ [] := by
        intro h
        have := congrArg List.length h
        simp [hlen] at this
      obtain ⟨i0, h1, h2⟩ := exists_min hne
      obtain ⟨q, hq, hqi⟩ := List.mem_map.1 h1
      obtain ⟨o, ho, _, _⟩ := hrows q hq
      rw [hqi] at ho
      have hlt := (Array.getElem?_eq_some_iff.1 ho).1
      have : i0 ∈ Region.ready .any ops listed := by
        refine mem_ready.2 ⟨(hls i0 hlt).2 h1, o, ho, fun ed hed hb => ?_⟩
        have hlt' := hd.back i0 o ho ed hed hb
        have hin : ed.on < ops.size := by omega
        rw [getD_in (by rw [hsz]; exact hin) false true]
        cases hv : listed.getD ed.on true with
        | true => rfl
        | false =>
          have := h2 _ ((hls ed.on hin).1 hv)
          omega
      rw [hnil] at this
      cases this
    · obtain ⟨h0, o, ho, hdeps⟩ := mem_ready.1 hi
      have hlt := (Array.getElem?_eq_some_iff.1 ho).1
      have hmem := (hls i hlt).1 h0
      obtain ⟨y, hy, hyi⟩ := List.mem_map.1 hmem
      obtain ⟨A, B, rfl⟩ := List.append_of_mem hy
      obtain ⟨o', ho', hofo, hbefy⟩ := hrows y hy
      rw [hyi, ho] at ho'
      cases ho'
      obtain ⟨g, hgd, hop, hdst⟩ := ofOper_spec hofo
      have hpA := List.pairwise_append.1 hpw
      have hpB := List.pairwise_cons.1 hpA.2.1
      have hunord : ∀ x ∈ A, y.row.bef.testBit x.row.i = false := by
        intro x hx
        cases hb : y.row.bef.testBit x.row.i with
        | false => rfl
        | true =>
          exfalso
          rw [hbefy, hyi] at hb
          obtain ⟨o2, ho2, ed, hed, hbd, h⟩ := hd.bef _ _ hb
          rw [ho] at ho2
          cases ho2
          have hl1 := hdeps ed hed hbd
          have hl2 : listed.getD x.row.i false = true := by
            rcases h with h | h
            · rw [← h]; exact hl1
            · exact hd.reach hcl _ hl1 _ h
          obtain ⟨ox, hox, _, _⟩ := hrows x (by simp [hx])
          have hltx := (Array.getElem?_eq_some_iff.1 hox).1
          have := (hls x.row.i hltx).2 (List.mem_map.2 ⟨x, by simp [hx], rfl⟩)
          rw [getD_in (by rw [hsz]; exact hltx) false true, this] at hl2
          cases hl2
      obtain ⟨v, sy, g1, g2, g3, _⟩ := move hT hr A (fun x hx => hpA.2.2 x hx y (by simp)) (fun x hx => hown x (by simp [hx])) (hown y hy) hpA.1 hunord (fun x hx => hfree x (by simp [hx])) (hfree y hy) hev
      have hgood := step_good hT hr g1
      have hofr : ∀ q ∈ A ++ B, FreeR sy.heap q := by
        intro q hq
        rcases List.mem_append.1 hq with hq | hq
        · exact good_freeR hgood (hfree q (by simp [hq])) (.inr (hpA.2.2 q hq y (by simp)).le)
        · exact good_freeR hgood (hfree q (by simp [hq])) (.inl (by rw [g2]; exact (hpB.1 q hq).le))
      have hsub : ∀ q, q ∈ A ++ B → q ∈ A ++ y :: B := by
        intro q hq
        rcases List.mem_append.1 hq with hq | hq <;> simp [hq]
      have hpw2 : (A ++ B).Pairwise Rel2 := List.pairwise_append.2 ⟨hpA.1, hpB.2, fun x hx z hz => hpA.2.2 x hx z (by simp [hz])⟩
      have hnd' : ((A ++ B).map (·.row.i)).Nodup ∧ i ∉ (A ++ B).map (·.row.i) := by
        simp only [List.map_append, List.map_cons] at hnd
        have h1 := List.nodup_append.1 hnd
        have h2 := List.nodup_cons.1 h1.2.1
        rw [List.map_append]
        refine ⟨List.nodup_append.2 ⟨h1.1, h2.2, fun x hx z hz => h1.2.2 x hx z (by simp [hz])⟩, ?_⟩
        rw [← hyi]
        intro hm
        rcases List.mem_append.1 hm with hm | hm
        · exact h1.2.2 _ hm _ (by simp) rfl
        · exact h2.1 hm
      have next : ∀ (c : Value) (φ1 : Phi) (w1 : World), Step φ ⟨H, 0⟩ w φ1 ⟨sy.heap, 0⟩ w1 → VRel φ1 v c → wpAny P.toProgram .any ops Q m (listed.setIfInBounds i true) (a.put o.dst c) w1 := by
        intro c φ1 w1 st hv
        have hdo : y.dst = o.dst := by show y.row.op.dst = _; rw [hop]
        refine draw_any (ds := ds) hops hT hr hd m (A ++ B) _ (e := putV e y.dst v) (H := sy.heap) (φ := φ1) (by simp at hlen ⊢; omega) hpw2 (fun q hq => hown q (hsub q hq)) hofr g3 (hg.mono st.le) st.rel ?_ (fun q hq => hrows q (hsub q hq)) hnd'.1 (by simpa using hsz) ?_ ?_ ?_
        · rw [hdo]; exact relEnv_put (he.mono st.le) hdst hv
        · intro k hk
          by_cases hki : k = i
          · subst hki
            simp [Array.getD_eq_getD_getElem?, hsz, hk]
            have := hnd'.2
            simpa using this
          · rw [getD_set_ne true (fun h => hki h.symm), hls k hk]
            simp only [List.map_append, List.map_cons, List.mem_append, List.mem_cons]
            rw [hyi]
            constructor
            · rintro (h | h | h)
              · exact .inl h
              · exact absurd h hki
              · exact .inr h
            · rintro (h | h)
              · exact .inl h
              · exact .inr (.inr h)
        · intro k hk o2 ho2 ed hed hbd
          refine getD_set_true ?_
          by_cases hki : k = i
          · subst hki
            rw [ho] at ho2
            cases ho2
            exact hdeps ed hed hbd
          · rw [getD_set_ne false (fun h => hki h.symm)] at hk
            exact hcl k hk o2 ho2 ed hed hbd
        · intro φ' a' w' st' he'
          exact hQ φ' a' w' (st.trans st') he'
      unfold wpOp
      rw [ho]
      simp only []
      rw [wanted_rel he hgd]
      have hgy : y.op.guard = g := by show y.row.op.guard = _; rw [hop]
      have hiy : y.op.ins = ofOp P o := by show y.row.op.ins = _; rw [hop]
      rcases step_inv g1 with ⟨k1, rfl, rfl⟩ | ⟨k1, k2⟩
      · rw [hgy] at k1
        rw [k1]
        simp only [Bool.false_eq_true, if_false]
        exact next undef φ w (.refl hs) (.tuple (l' := []) .nil)
      · rw [hgy] at k1
        rw [k1]
        simp only [if_true]
        refine .inl ?_
        rw [hiy] at k2
        refine hops o hg he (hs.at (c := y.b)) k2 (by simp) ?_ ?_
        · intro id q1 q2
          refine hfree y hy id q1 ?_
          rw [← g2]; exact q2
        · intro c w1 φ1 st hv
          exact next c φ1 w1 st.at hv

/- THE CHECKS -/
theorem before_deps (ops : Array Oper) (i j : Nat) (h : ((Region.before ops).getD j 0).testBit i = true) : ∃ o, ops[j]? = some o ∧ ∃ e ∈ o.after, Region.binds .any e = true ∧ (e.on = i ∨ ((Region.before ops).getD e.on 0).testBit i = true) := by
  have inner : ∀ (acc : Array Nat) (l : List Edge) (s : Nat), (l.foldl (fun s e => if Region.binds .any e then s ||| 2 ^ e.on ||| acc.getD e.on 0 else s) s).testBit i = true → s.testBit i = true ∨ ∃ e ∈ l, Region.binds .any e = true ∧ (e.on = i ∨ (acc.getD e.on 0).testBit i = true) := by
    intro acc l
    induction l with
    | nil => intro s h; exact .inl h
    | cons e l ih =>
      intro s h
      simp only [List.foldl_cons] at h
      rcases ih _ h with h1 | ⟨e', he', h1⟩
      · split at h1
        · rename_i hb
          simp only [Nat.testBit_or, Bool.or_eq_true] at h1
          rcases h1 with (h1 | h1) | h1
          · exact .inl h1
          · refine .inr ⟨e, by simp, hb, .inl ?_⟩
            rw [Nat.testBit_two_pow] at h1
            simpa using h1
          · exact .inr ⟨e, by simp, hb, .inr h1⟩
        · exact .inl h1
      · exact .inr ⟨e', by simp [he'], h1⟩
  have outer : ∀ (l : List Oper) (pre : List Oper) (acc : Array Nat), acc.size = pre.length → (∀ k, (acc.getD k 0).testBit i = true → ∃ o, (pre ++ l)[k]? = some o ∧ ∃ e ∈ o.after, Region.binds .any e = true ∧ (e.on = i ∨ (acc.getD e.on 0).testBit i = true)) →
      ∃ out : Array Nat, l.foldl (fun acc o => acc.push (o.after.foldl (fun s e => if Region.binds .any e then s ||| 2 ^ e.on ||| acc.getD e.on 0 else s) 0)) acc = out ∧
        ∀ k, (out.getD k 0).testBit i = true → ∃ o, (pre ++ l)[k]? = some o ∧ ∃ e ∈ o.after, Region.binds .any e = true ∧ (e.on = i ∨ (out.getD e.on 0).testBit i = true) := by
    intro l
    induction l with
    | nil => intro pre acc _ h; exact ⟨acc, rfl, h⟩
    | cons o l ih =>
      intro pre acc hsz hinv
      simp only [List.foldl_cons]
      have mono : ∀ (x k : Nat), (acc.getD k 0).testBit i = true → ((acc.push x).getD k 0).testBit i = true := by
        intro x k hk
        rw [Array.getD_eq_getD_getElem?] at hk ⊢
        rw [Array.getElem?_push]
        split
        · rename_i hks
          rw [hks] at hk
          simp at hk
        · exact hk
      obtain ⟨out, h1, h2⟩ := ih (pre ++ [o]) (acc.push (o.after.foldl (fun s e => if Region.binds .any e then s ||| 2 ^ e.on ||| acc.getD e.on 0 else s) 0)) (by simp [hsz]) (by
        intro k hk
        rw [List.append_assoc, List.singleton_append]
        by_cases hks : k = acc.size
        · subst hks
          refine ⟨o, by rw [hsz]; simp, ?_⟩
          have hk' : (o.after.foldl (fun s e => if Region.binds .any e then s ||| 2 ^ e.on ||| acc.getD e.on 0 else s) 0).testBit i = true := by
            rw [Array.getD_eq_getD_getElem?] at hk
            simpa using hk
          rw [← Array.foldl_toList] at hk'
          rcases inner acc o.after.toList 0 hk' with h | ⟨e, he, hb, h⟩
          · simp at h
          · refine ⟨e, by simpa using he, hb, ?_⟩
            rcases h with h | h
            · exact .inl h
            · exact .inr (mono _ _ h)
        · have hk' : (acc.getD k 0).testBit i = true := by
            rw [Array.getD_eq_getD_getElem?] at hk ⊢
            rw [Array.getElem?_push, if_neg hks] at hk
            exact hk
          obtain ⟨o', ho', e, he, hb, h⟩ := hinv k hk'
          refine ⟨o', ho', e, he, hb, ?_⟩
          rcases h with h | h
          · exact .inl h
          · exact .inr (mono _ _ h))
      refine ⟨out, h1, fun k hk => ?_⟩
      have := h2 k hk
      rwa [List.append_assoc, List.singleton_append] at this
  obtain ⟨out, h1, h2⟩ := outer ops.toList [] #[] rfl (by intro k hk; simp at hk)
  have hout : Region.before ops = out := by
    unfold Region.before
    rw [← h1, ← Array.foldl_toList]
  rw [hout] at h ⊢
  obtain ⟨o, ho, r⟩ := h2 j h
  exact ⟨o, by simpa using ho, r⟩

theorem backOk_spec {ops : Array Oper} (h : backOk ops = true) (i : Nat) (o : Oper) (ho : ops[i]? = some o) (e : Edge) (he : e ∈ o.after) (hb : Region.binds .any e = true) : e.on < i := by
  unfold backOk at h
  rw [List.all_eq_true] at h
  have hm : (o, i) ∈ ops.toList.zipIdx := by
    rw [List.mem_zipIdx_iff_getElem?]
    simpa using ho
  have := h _ hm
  simp only [] at this
  rw [Array.all_eq_true_iff_forall_mem] at this
  have := this e he
  simpa [hb] using this

theorem nodupB_spec : ∀ {l : List Nat}, nodupB l = true → l.Nodup
  | [], _ => .nil
  | x :: l, h => by
    simp only [nodupB, Bool.and_eq_true, Bool.not_eq_true', List.contains_eq_mem, decide_eq_false_iff_not] at h
    exact List.nodup_cons.2 ⟨h.1, nodupB_spec h.2⟩

theorem rowsOk_spec : ∀ {l : List DRow}, rowsOk l = true → l.Pairwise (fun a b => pairOk a b = true) ∧ ∀ r ∈ l, isDst r.op.dst r.tmps = false
  | [], _ => ⟨.nil, by simp⟩
  | x :: l, h => by
    simp only [rowsOk, Bool.and_eq_true, Bool.not_eq_true', List.all_eq_true] at h
    obtain ⟨h1, h2⟩ := rowsOk_spec h.2
    refine ⟨List.pairwise_cons.2 ⟨h.1.2, h1⟩, fun r hr => ?_⟩
    rcases List.mem_cons.1 hr with rfl | hr
    · exact h.1.1
    · exact h2 r hr

theorem mkRow_spec {nt : Nat} {ops : Array Oper} {bef : Array Nat} {i : Nat} {r : DRow} (h : mkRow P nt ops bef i = some r) : ∃ o, ops[i]? = some o ∧ ofOper P nt ops o = some r.op ∧ r.i = i ∧ r.tmps = opTmps r.op ∧ r.cls = clsIns r.op.ins ∧ r.bef = bef.getD i 0 := by
  unfold mkRow at h
  split at h
  · cases h
  · rename_i o ho
    split at h
    · rename_i x hx
      cases h
      exact ⟨o, ho, hx, rfl, rfl, rfl, rfl⟩
    · cases h

theorem rowsOf_spec {nt : Nat} {ops : Array Oper} {bef : Array Nat} : ∀ {l : List Nat} {rs : List DRow}, rowsOf P nt ops bef l = some rs → rs.map (·.i) = l ∧ ∀ r ∈ rs, mkRow P nt ops bef r.i = some r
  | [], rs, h => by simp only [rowsOf] at h; cases h; exact ⟨rfl, by simp⟩
  | i :: l, rs, h => by
    simp only [rowsOf] at h
    split at h
    · rename_i x r hx hr
      cases h
      obtain ⟨h1, h2⟩ := rowsOf_spec hr
      obtain ⟨_, _, _, hi, _⟩ := mkRow_spec hx
      refine ⟨by simp [h1, hi], fun q hq => ?_⟩
      rcases List.mem_cons.1 hq with rfl | hq
      · rw [hi]; exact hx
      · exact h2 q hq
    · cases h

theorem draw_ok (hm : P.follows .mixedOrders = true) (hops : ∀ o, OpOk P T rec o) (hT : TameHooks T) (hr : TameRec rec) : DrawOk P T rec := by
  intro nt ops Q id e s x e' s' hev ds φ a w hg hs he hf hq
  simp only [ofRegion] at hev
  split at hev
  · rename_i rs hrs
    split at hev
    · rename_i hc
      simp only [Bool.and_eq_true] at hc
      obtain ⟨⟨hperm, hrok⟩, hback⟩ := hc
      simp only [isPerm, Bool.and_eq_true, decide_eq_true_eq, List.all_eq_true, List.mem_range, List.contains_eq_mem] at hperm
      obtain ⟨hi1, hi2⟩ := rowsOf_spec hrs
      obtain ⟨hpw, hself⟩ := rowsOk_spec hrok
      simp only [evalC] at hev
      obtain ⟨hx, L, h1, h2, h3, _, h5⟩ := evalB_of hT hr rs [] hev (fun r hr => by
          obtain ⟨o, ho, h1, h2, h3, h4, h5⟩ := mkRow_spec (hi2 r hr)
          obtain ⟨g, _, hop, _⟩ := ofOper_spec h1
          exact ⟨hself r hr, h4, h3, by rw [hop]⟩) hpw (by simp) (by simp)
      subst hx
      have hmap : L.map (·.row.i) = orderGo ops (clsAt P ops) (Region.before ops) ops.size (List.range ops.size) [] := by
        rw [← hi1, ← h1, List.map_map]; rfl
      have hlen : L.length = ops.size := by
        have := congrArg List.length hmap
        rw [List.length_map] at this
        rw [this]; exact hperm.1.1
      refine wp_region_any hm ?_
      have st0 : Step φ s w φ s { w with drawn := w.drawn + 1 } := .same hs rfl rfl rfl rfl
      refine draw_any (ds := ds) hops hT hr (bef := fun j => (Region.before ops).getD j 0) ⟨backOk_spec hback, before_deps ops⟩ ops.size L _ (e := e) (H := s.heap) hlen h2 (fun q hq => (h3 q hq).1) ?_ h5 hg (st0.rel.at (H := s.heap)) he ?_ ?_ (by simp) ?_ ?_ ?_
      · intro q hq id g1 g2
        have := h3 q hq
        exact hf id (by omega) (by omega)
      · intro q hq
        have hqr : q.row ∈ rs := by rw [← h1]; exact List.mem_map_of_mem hq
        obtain ⟨o, ho, k1, k2, k3, k4, k5⟩ := mkRow_spec (hi2 q.row hqr)
        exact ⟨o, ho, k1, k5⟩
      · rw [hmap]; exact nodupB_spec hperm.2
      · intro i hi
        rw [hmap]
        have hin := hperm.1.2 i hi
        simp [Array.getD_eq_getD_getElem?, hi, hin]
      · intro k hk
        exfalso
        rw [Array.getD_eq_getD_getElem?, Array.getElem?_replicate] at hk
        split at hk <;> simp at hk
      · intro φ' a' w' st' he'
        exact hq φ' a' w' (st0.trans (Step.at (H := s.heap) (H' := s'.heap) st')) he'
    · simp only [evalC] at hev; cases hev
  · simp only [evalC] at hev; cases hev

/-- The evaluator is sound. -/
theorem eval_sound (hm : P.follows .mixedOrders = true) (hP : TabOk P T) (hT : TameHooks T) (n : Nat) : FuncsOk P T (evalN T n) :=
  funcs_ok hP (evalN_ok hP hT (fun _ h1 h2 => draw_ok hm h1 hT h2) n).1
end
end Go.V
