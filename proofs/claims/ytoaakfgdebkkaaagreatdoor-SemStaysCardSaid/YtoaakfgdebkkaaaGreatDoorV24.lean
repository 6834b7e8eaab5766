/- REGIONS WHOSE ORDER IS DRAWN: soundness. -/
import Derived.Test.YtoaakfgdebkkaaaGreatDoorV23
set_option linter.unusedVariables false
set_option linter.unusedSimpArgs false
set_option linter.unusedSectionVars false
set_option linter.unusedSimpArgs false
/- REGIONS WHOSE ORDER IS DRAWN: soundness. -/
namespace Go.V
open Go

section
variable {P : Prog} {T : Tab} {rec : Rec}

theorem RelSt.at {φ : Phi} {H : Tree AObj} {b c : Nat} {w : World} (h : RelSt φ ⟨H, b⟩ w) : RelSt φ ⟨H, c⟩ w := ⟨h.obj, h.dom, h.inj, h.incs, h.typ⟩
theorem Step.at {φ φ' : Phi} {H H' : Tree AObj} {b c b' c' : Nat} {w w' : World} (h : Step φ ⟨H, b⟩ w φ' ⟨H', b'⟩ w') : Step φ ⟨H, c⟩ w φ' ⟨H', c'⟩ w' :=
 ⟨h.le, h.rel.at, h.size, h.frame, h.ro, h.fresh, h.roKeep, h.roOld, h.os, h.tape, h.output⟩

theorem exists_min : ∀ {l : List Nat}, l ≠ [] → ∃ i ∈ l, ∀ j ∈ l, i ≤ j
 | [], h => absurd rfl h
 | [x], _ => ⟨x, by simp, by simp⟩
 | x :: y :: l, _ => by
  obtain ⟨i, h1, h2⟩ := exists_min (l := y :: l) (by simp)
  by_cases h : x ≤ i
  · refine ⟨x, by simp, fun j hj => ?_⟩
    rcases List.mem_cons.1 hj with rfl | hj
    · exact Nat.le_refl _
    · exact Nat.le_trans h (h2 j hj)
  · refine ⟨i, List.mem_cons_of_mem _ h1, fun j hj => ?_⟩
    rcases List.mem_cons.1 hj with rfl | hj
    · omega
    · exact h2 j hj

structure Deps (ops : Array Oper) (bef : Nat → Nat) : Prop where
 back : ∀ i o, ops[i]? = some o → ∀ e ∈ o.after, Region.binds .any e = true → e.on < i
 bef : ∀ i j, (bef j).testBit i = true → ∃ o, ops[j]? = some o ∧ ∃ e ∈ o.after, Region.binds .any e = true ∧ (e.on = i ∨ (bef e.on).testBit i = true)

def Closed (ops : Array Oper) (listed : Array Bool) : Prop := ∀ k, listed.getD k false = true → ∀ o, ops[k]? = some o → ∀ e ∈ o.after, Region.binds .any e = true → listed.getD e.on false = true

theorem Deps.reach {ops : Array Oper} {bef : Nat → Nat} (hd : Deps ops bef) {listed : Array Bool} (hc : Closed ops listed) : ∀ k, listed.getD k false = true → ∀ i, (bef k).testBit i = true → listed.getD i false = true := by
 intro k
 induction k using Nat.strongRecOn with
 | _ k ih =>
  intro hk i hi
  obtain ⟨o, ho, e, he, hb, h⟩ := hd.bef i k hi
  have h1 := hc k hk o ho e he hb
  rcases h with rfl | h
  · exact h1
  · exact ih e.on (hd.back k o ho e he hb) h1 i h

theorem getD_in {listed : Array Bool} {i : Nat} (h : i < listed.size) (d d' : Bool) : listed.getD i d = listed.getD i d' := by
 simp [Array.getD_eq_getD_getElem?, h]

theorem draw_any (hops : ∀ o, OpOk P T rec o) (hT : TameHooks T) (hr : TameRec rec) {ops : Array Oper} {nt : Nat} {ds : List Deferred} {bef : Nat → Nat} (hd : Deps ops bef) {e' : Env} {H' : Tree AObj} {Q : Exit → Act → World → Prop} :
 ∀ (m : Nat) (L : List BOp) (listed : Array Bool) {e : Env} {H : Tree AObj} {φ : Phi} {a : Act} {w : World}, L.length = m → L.Pairwise Rel2 → (∀ q ∈ L, Own q) → (∀ q ∈ L, FreeR H q) → evalB T rec L e H = some (e', H') →
  GlobOk P φ → RelSt φ ⟨H, 0⟩ w → RelEnv nt ds φ e a → (∀ q ∈ L, ∃ o, ops[q.row.i]? = some o ∧ ofOper P nt ops o = some q.row.op ∧ q.row.bef = bef q.row.i) → (L.map (·.row.i)).Nodup →
  listed.size = ops.size → (∀ i, i < ops.size → (listed.getD i true = false ↔ i ∈ L.map (·.row.i))) → Closed ops listed →
  (∀ φ' a' w', Step φ ⟨H, 0⟩ w φ' ⟨H', 0⟩ w' → RelEnv nt ds φ' e' a' → Q .normal a' w') → wpAny P.toProgram .any ops Q m listed a w
 | 0, L, listed, e, H, φ, a, w, hlen, _, _, _, hev, hg, hs, he, _, _, hsz, hls, _, hQ => by
  have hL : L = [] := List.length_eq_zero_iff.1 hlen
  subst hL
  simp only [evalB] at hev
  cases hev
  refine ⟨List.eq_nil_iff_forall_not_mem.2 fun j hj => ?_, hQ φ a w (.refl hs) he⟩
  obtain ⟨h0, o, ho, _⟩ := mem_ready.1 hj
  have hlt := (Array.getElem?_eq_some_iff.1 ho).1
  have := (hls j hlt).1 h0
  simp at this
 | m + 1, L, listed, e, H, φ, a, w, hlen, hpw, hown, hfree, hev, hg, hs, he, hrows, hnd, hsz, hls, hcl, hQ => by
  refine ⟨fun hnil => ?_, fun i hi => ?_⟩
  · -- something is ready
    exfalso
    have hne : L.map (·.row.i) ≠ [] := by
     intro h
     have := congrArg List.length h
     simp [hlen] at this
    obtain ⟨i0, h1, h2⟩ := exists_min hne
    obtain ⟨q, hq, hqi⟩ := List.mem_map.1 h1
    obtain ⟨o, ho, _, _⟩ := hrows q hq
    rw [hqi] at ho
    have hlt := (Array.getElem?_eq_some_iff.1 ho).1
    have : i0 ∈ Region.ready .any ops listed := by
     refine mem_ready.2 ⟨(hls i0 hlt).2 h1, o, ho, fun ed hed hb => ?_⟩
     have hlt' := hd.back i0 o ho ed hed hb
     have hin : ed.on < ops.size := by omega
     rw [getD_in (by rw [hsz]; exact hin) false true]
     cases hv : listed.getD ed.on true with
     | true => rfl
     | false =>
      have := h2 _ ((hls ed.on hin).1 hv)
      omega
    rw [hnil] at this
    cases this
  · obtain ⟨h0, o, ho, hdeps⟩ := mem_ready.1 hi
    have hlt := (Array.getElem?_eq_some_iff.1 ho).1
    have hmem := (hls i hlt).1 h0
    obtain ⟨y, hy, hyi⟩ := List.mem_map.1 hmem
    obtain ⟨A, B, rfl⟩ := List.append_of_mem hy
    obtain ⟨o', ho', hofo, hbefy⟩ := hrows y hy
    rw [hyi, ho] at ho'
    cases ho'
    obtain ⟨g, hgd, hop, hdst⟩ := ofOper_spec hofo
    have hpA := List.pairwise_append.1 hpw
    have hpB := List.pairwise_cons.1 hpA.2.1
    have hunord : ∀ x ∈ A, y.row.bef.testBit x.row.i = false := by
     intro x hx
     cases hb : y.row.bef.testBit x.row.i with
     | false => rfl
     | true =>
      exfalso
      rw [hbefy, hyi] at hb
      obtain ⟨o2, ho2, ed, hed, hbd, h⟩ := hd.bef _ _ hb
      rw [ho] at ho2
      cases ho2
      have hl1 := hdeps ed hed hbd
      have hl2 : listed.getD x.row.i false = true := by
       rcases h with h | h
       · rw [← h]; exact hl1
       · exact hd.reach hcl _ hl1 _ h
      obtain ⟨ox, hox, _, _⟩ := hrows x (by simp [hx])
      have hltx := (Array.getElem?_eq_some_iff.1 hox).1
      have := (hls x.row.i hltx).2 (List.mem_map.2 ⟨x, by simp [hx], rfl⟩)
      rw [getD_in (by rw [hsz]; exact hltx) false true, this] at hl2
      cases hl2
    obtain ⟨v, sy, g1, g2, g3, _⟩ := move hT hr A (fun x hx => hpA.2.2 x hx y (by simp)) (fun x hx => hown x (by simp [hx])) (hown y hy) hpA.1 hunord (fun x hx => hfree x (by simp [hx])) (hfree y hy) hev
    have hgood := step_good hT hr g1
    have hofr : ∀ q ∈ A ++ B, FreeR sy.heap q := by
     intro q hq
     rcases List.mem_append.1 hq with hq | hq
     · exact good_freeR hgood (hfree q (by simp [hq])) (.inr (hpA.2.2 q hq y (by simp)).le)
     · exact good_freeR hgood (hfree q (by simp [hq])) (.inl (by rw [g2]; exact (hpB.1 q hq).le))
    have hsub : ∀ q, q ∈ A ++ B → q ∈ A ++ y :: B := by
     intro q hq
     rcases List.mem_append.1 hq with hq | hq <;> simp [hq]
    have hpw2 : (A ++ B).Pairwise Rel2 := List.pairwise_append.2 ⟨hpA.1, hpB.2, fun x hx z hz => hpA.2.2 x hx z (by simp [hz])⟩
    have hnd' : ((A ++ B).map (·.row.i)).Nodup ∧ i ∉ (A ++ B).map (·.row.i) := by
     simp only [List.map_append, List.map_cons] at hnd
     have h1 := List.nodup_append.1 hnd
     have h2 := List.nodup_cons.1 h1.2.1
     rw [List.map_append]
     refine ⟨List.nodup_append.2 ⟨h1.1, h2.2, fun x hx z hz => h1.2.2 x hx z (by simp [hz])⟩, ?_⟩
     rw [← hyi]
     intro hm
     rcases List.mem_append.1 hm with hm | hm
     · exact h1.2.2 _ hm _ (by simp) rfl
     · exact h2.1 hm
    have next : ∀ (c : Value) (φ1 : Phi) (w1 : World), Step φ ⟨H, 0⟩ w φ1 ⟨sy.heap, 0⟩ w1 → VRel φ1 v c → wpAny P.toProgram .any ops Q m (listed.setIfInBounds i true) (a.put o.dst c) w1 := by
     intro c φ1 w1 st hv
     have hdo : y.dst = o.dst := by show y.row.op.dst = _; rw [hop]
     refine draw_any (ds := ds) hops hT hr hd m (A ++ B) _ (e := putV e y.dst v) (H := sy.heap) (φ := φ1) (by simp at hlen ⊢; omega) hpw2 (fun q hq => hown q (hsub q hq)) hofr g3 (hg.mono st.le) st.rel ?_ (fun q hq => hrows q (hsub q hq)) hnd'.1 (by simpa using hsz) ?_ ?_ ?_
     · rw [hdo]; exact relEnv_put (he.mono st.le) hdst hv
     · intro k hk
       by_cases hki : k = i
       · subst hki
         simp [Array.getD_eq_getD_getElem?, hsz, hk]
         have := hnd'.2
         simpa using this
       · rw [getD_set_ne true (fun h => hki h.symm), hls k hk]
         simp only [List.map_append, List.map_cons, List.mem_append, List.mem_cons]
         rw [hyi]
         constructor
         · rintro (h | h | h)
           · exact .inl h
           · exact absurd h hki
           · exact .inr h
         · rintro (h | h)
           · exact .inl h
           · exact .inr (.inr h)
     · intro k hk o2 ho2 ed hed hbd
       refine getD_set_true ?_
       by_cases hki : k = i
       · subst hki
         rw [ho] at ho2
         cases ho2
         exact hdeps ed hed hbd
       · rw [getD_set_ne false (fun h => hki h.symm)] at hk
         exact hcl k hk o2 ho2 ed hed hbd
     · intro φ' a' w' st' he'
       exact hQ φ' a' w' (st.trans st') he'
    unfold wpOp
    rw [ho]
    simp only []
    rw [wanted_rel he hgd]
    have hgy : y.op.guard = g := by show y.row.op.guard = _; rw [hop]
    have hiy : y.op.ins = ofOp P o := by show y.row.op.ins = _; rw [hop]
    rcases step_inv g1 with ⟨k1, rfl, rfl⟩ | ⟨k1, k2⟩
    · rw [hgy] at k1
      rw [k1]
      simp only [Bool.false_eq_true, if_false]
      exact next undef φ w (.refl hs) (.tuple (l' := []) .nil)
    · rw [hgy] at k1
      rw [k1]
      simp only [if_true]
      refine .inl ?_
      rw [hiy] at k2
      refine hops o hg he (hs.at (c := y.b)) k2 (by simp) ?_ ?_
      · intro id q1 q2
        refine hfree y hy id q1 ?_
        rw [← g2]; exact q2
      · intro c w1 φ1 st hv
        exact next c φ1 w1 st.at hv

/- A MAP THAT IS WRITTEN OUT AND ASKED AT ONCE -/
def GInv (n0 : Nat) (G : Lit) (listed : Array Bool) (e : Env) (φ : Phi) (a : Act) (w : World) : Prop :=
 listed.getD G.im false = true → ∃ (b : Nat) (es : List AEntry) (ces : Array MapEntry) (cl : Nat), a.tmps.getD G.d undef = .map (some b) ∧ n0 ≤ b ∧ ¬ InIm φ b ∧ (listed.getD G.iv false = true → a.tmps.getD G.d2 undef = .map (some b)) ∧ w.heap[b]? = some (.map ces cl) ∧ EntsRel φ es ces.toList ∧
  (∀ en, en ∈ es → ∃ i k v, (i, k, v) ∈ G.ins ∧ listed.getD i false = true ∧ en.key = .str k ∧ en.val = opd e v) ∧
  (∀ i k v, (i, k, v) ∈ G.ins → listed.getD i false = true → ∃ en, en ∈ es ∧ en.key = .str k ∧ en.val = opd e v)

theorem put_getD {a : Act} {dst : Option Nat} {c : Value} {t : Nat} (h : isDst dst [t] = false) : (a.put dst c).tmps.getD t undef = a.tmps.getD t undef := by
 cases dst with
 | none => rfl
 | some d =>
  have hne : ¬ d = t := by
   rintro rfl
   simp [isDst] at h
  simp only [Act.put, Array.getD_eq_getD_getElem?, Array.getElem?_setIfInBounds, hne, if_false]

theorem put_getD_same {a : Act} {c : Value} {t : Nat} (h : t < a.tmps.size) : (a.put (some t) c).tmps.getD t undef = c := by
 simp [Act.put, Array.getD_eq_getD_getElem?, h]

theorem opd_put_ne {e : Env} {dst : Option Nat} {v : AV} {u : Opd} (h : ∀ t, u = .t t → isDst dst [t] = false) : opd (putV e dst v) u = opd e u := by
 cases u with
 | c x => rfl
 | t i =>
  cases dst with
  | none => rfl
  | some d =>
   have hne : ¬ i = d := by
    rintro rfl
    have := h i rfl
    simp [isDst] at this
   rw [opd_put, if_neg hne]

theorem GInv.normal {n0 : Nat} {G : Lit} {listed : Array Bool} {e : Env} {φ : Phi} {a : Act} {w : World} (h : GInv n0 G listed e φ a w) {i : Nat} {φ1 : Phi} {s s1 : St} {w1 : World} (st : Step φ s w φ1 s1 w1) (hi : i ≠ G.im)
 (hins : ∀ k v, (i, k, v) ∉ G.ins) {dst : Option Nat} {v : AV} {c : Value} (hd : isDst dst [G.d] = false) (hd2 : (listed.setIfInBounds i true).getD G.iv false = true → (listed.getD G.iv false = true ∧ isDst dst [G.d2] = false) ∨ (a.put dst c).tmps.getD G.d2 undef = a.tmps.getD G.d undef)
 (hv : ∀ j k u, (j, k, u) ∈ G.ins → listed.getD j false = true → ∀ t, u = .t t → isDst dst [t] = false) :
 GInv n0 G (listed.setIfInBounds i true) (putV e dst v) φ1 (a.put dst c) w1 := by
 intro him
 rw [getD_set_ne false (fun h => hi h)] at him
 obtain ⟨b, es, ces, cl, h1, h2, h3, h4, h5, h6, h7, h8⟩ := h him
 have hlt : b < w.heap.size := (Array.getElem?_eq_some_iff.1 h5).1
 have hj : ∀ j k u, (j, k, u) ∈ G.ins → (listed.setIfInBounds i true).getD j false = listed.getD j false := by
  intro j k u hm
  exact getD_set_ne false (fun h => by subst h; exact hins k u hm)
 refine ⟨b, es, ces, cl, by rw [put_getD hd]; exact h1, h2, ?_, fun hl => ?_, by rw [st.frame b hlt h3]; exact h5, h6.mono st.le, fun en hen => ?_, fun j k u hm hl => ?_⟩
 · rintro ⟨id, k, x, ex, hb⟩
   rcases st.fresh id k x ex with h | h
   · rw [hb] at h; exact h3 h
   · omega
 · rcases hd2 hl with ⟨q1, q2⟩ | q
   · rw [put_getD q2]
     exact h4 q1
   · rw [q]; exact h1
 · obtain ⟨j, k, u, g1, g2, g3, g4⟩ := h7 en hen
   exact ⟨j, k, u, g1, by rw [hj j k u g1]; exact g2, g3, by rw [opd_put_ne (hv j k u g1 g2)]; exact g4⟩
 · rw [hj j k u hm] at hl
   obtain ⟨en, g1, g2, g3⟩ := h8 j k u hm hl
   exact ⟨en, g1, g2, by rw [opd_put_ne (hv j k u hm hl)]; exact g3⟩

/-- One block more at the end. -/
theorem step_push {φ : Phi} {s : St} {w : World} (hs : RelSt φ s w) (o : Obj) : Step φ s w φ s { w with heap := w.heap.push o } := by
 have hold : ∀ b, b < w.heap.size → (w.heap.push o)[b]? = w.heap[b]? := by
  intro b hb
  rw [Array.getElem?_push, if_neg (by omega)]
 refine ⟨.refl φ, ⟨fun id q e => (hs.obj id q e).mono (.refl φ) (fun k x hx => hold _ (hs.dom _ _ _ hx).2), fun id k x e => ?_, hs.inj, hs.incs, fun id k x t e ht => ⟨(shape_of_same (hold _ (hs.dom _ _ _ e).2)).trans (hs.typ _ _ _ _ e ht).1, (hs.typ _ _ _ _ e ht).2⟩⟩, by simp, fun b hb _ => hold b hb, fun id k x e _ => hold _ (hs.dom _ _ _ e).2, fun id k x e => .inl ⟨id, k, x, e, rfl⟩, fun _ _ => rfl, fun _ _ _ e _ => e, rfl, rfl, rfl⟩
 have := hs.dom id k x e
 exact ⟨this.1, by simp; omega⟩

/-- A block that is none of the state's turns. -/
theorem Step.beside {φ0 φ : Phi} {s0 s : St} {w0 w : World} (st : Step φ0 s0 w0 φ s w) {b : Nat} (hb : w0.heap.size ≤ b) (hni : ¬ InIm φ b) (o : Obj) : Step φ0 s0 w0 φ s { w with heap := w.heap.setIfInBounds b o } := by
 have hne : ∀ c, c ≠ b → (w.heap.setIfInBounds b o)[c]? = w.heap[c]? := fun c hc => by rw [Array.getElem?_setIfInBounds_ne (Ne.symm hc)]
 have him : ∀ id k x, φ id k = some x → x.blk ≠ b := fun id k x e h => hni ⟨id, k, x, e, h⟩
 refine ⟨st.le, ⟨fun id q e => (st.rel.obj id q e).mono (.refl φ) (fun k x hx => hne _ (him _ _ _ hx)), fun id k x e => ?_, st.rel.inj, st.rel.incs, fun id k x t e ht => ⟨(shape_of_same (hne _ (him _ _ _ e))).trans (st.rel.typ _ _ _ _ e ht).1, (st.rel.typ _ _ _ _ e ht).2⟩⟩, by simp [st.size], fun c hc hn => ?_, fun id k x e hr => ?_, st.fresh, st.roKeep, st.roOld, st.os, st.tape, st.output⟩
 · have := st.rel.dom id k x e
   exact ⟨this.1, by simp; exact this.2⟩
 · show (w.heap.setIfInBounds b o)[c]? = _
   rw [hne c (by omega)]
   exact st.frame c hc hn
 · show (w.heap.setIfInBounds b o)[x.blk]? = _
   rw [hne _ (him _ _ _ (st.le _ _ _ e))]
   exact st.ro id k x e hr

theorem keysOk_spec : ∀ {l : List (Nat × List UInt8 × Opd)}, keysOk l = true → ∀ i k v j k' v', (i, k, v) ∈ l → (j, k', v') ∈ l → (i = j ∧ k = k' ∧ v = v') ∨ (i ≠ j ∧ bytesEq k k' = false)
 | [], _, _, _, _, _, _, _, h, _ => by simp at h
 | (i0, k0, v0) :: r, h, i, k, v, j, k', v', h1, h2 => by
  simp only [keysOk, Bool.and_eq_true, List.all_eq_true, Bool.not_eq_true'] at h
  obtain ⟨ha, hb⟩ := h
  rcases List.mem_cons.1 h1 with e1 | h1
  · cases e1
    rcases List.mem_cons.1 h2 with e2 | h2
    · cases e2; exact .inl ⟨rfl, rfl, rfl⟩
    · have := ha _ h2
      simp only at this
      refine .inr ⟨?_, this.1.1⟩
      rintro rfl
      rw [Nat.beq_refl] at this
      cases this.2
  · rcases List.mem_cons.1 h2 with e2 | h2
    · cases e2
      have := ha _ h1
      simp only at this
      refine .inr ⟨?_, this.1.2⟩
      rintro rfl
      rw [Nat.beq_refl] at this
      cases this.2
    · exact keysOk_spec hb i k v j k' v' h1 h2

theorem findV_str {kb : List UInt8} : ∀ (es : List AEntry) (i : Nat), (∀ en, en ∈ es → ∃ k, en.key = .str k) → ∃ r, findV .str (.str kb) es i = some r ∧ (r = none → ∀ en, en ∈ es → ∀ k, en.key = .str k → bytesEq kb k = false) ∧
 (∀ j v, r = some (j, v) → ∃ en k, en ∈ es ∧ en.key = .str k ∧ bytesEq kb k = true ∧ en.val = v)
 | [], _, _ => ⟨none, rfl, fun _ en h => by simp at h, fun _ _ h => by cases h⟩
 | en :: es, i, h => by
  obtain ⟨k, hk⟩ := h en (by simp)
  simp only [findV, hk, keyEq]
  cases hb : bytesEq kb k with
  | true => exact ⟨_, rfl, (fun h => by cases h), fun j v e => by cases e; exact ⟨en, k, by simp, hk, hb, rfl⟩⟩
  | false =>
   obtain ⟨r, h1, h2, h3⟩ := findV_str es (i + 1) (fun en hen => h en (by simp [hen]))
   refine ⟨r, h1, fun hr en' hen k' hk' => ?_, fun j v e => ?_⟩
   · rcases List.mem_cons.1 hen with rfl | hen
     · rw [hk] at hk'; cases hk'; exact hb
     · exact h2 hr en' hen k' hk'
   · obtain ⟨en', k', g1, g2⟩ := h3 j v e
     exact ⟨en', k', by simp [g1], g2⟩

/-- What is found among what is written out. -/
def litRes (kb : List UInt8) (e : Env) : List (Nat × List UInt8 × Opd) → AV → AV
 | [], acc => acc
 | (_, k, v) :: r, acc => litRes kb e r (match bytesEq kb k with | true => opd e v | false => acc)

theorem litRes_none {kb : List UInt8} {e : Env} : ∀ {l : List (Nat × List UInt8 × Opd)} {acc : AV}, (∀ i k v, (i, k, v) ∈ l → bytesEq kb k = false) → litRes kb e l acc = acc
 | [], _, _ => rfl
 | (i, k, v) :: r, acc, h => by
  simp only [litRes, h i k v (by simp)]
  exact litRes_none fun i k v hm => h i k v (by simp [hm])
theorem litRes_some {kb : List UInt8} {e : Env} : ∀ {l : List (Nat × List UInt8 × Opd)} {acc : AV}, keysOk l = true → ∀ i k v, (i, k, v) ∈ l → bytesEq kb k = true → litRes kb e l acc = opd e v
 | [], _, _, _, _, _, h, _ => by simp at h
 | (i0, k0, v0) :: r, acc, hk, i, k, v, hm, hb => by
  have hsp := keysOk_spec hk
  have hk' : keysOk r = true := by
   simp only [keysOk, Bool.and_eq_true] at hk
   exact hk.2
  have hkb : kb = k := by rw [bytesEq_eq] at hb; simpa using hb
  rcases List.mem_cons.1 hm with e1 | hm
  · cases e1
    simp only [litRes, hb]
    refine litRes_none fun j k' v' hm' => ?_
    rcases hsp _ _ _ _ _ _ (List.mem_cons_self : (_, _, _) ∈ _ :: r) (List.mem_cons_of_mem _ hm') with ⟨rfl, rfl, rfl⟩ | ⟨_, h⟩
    · simp only [keysOk, Bool.and_eq_true, List.all_eq_true] at hk
      have := hk.1 _ hm'
      simp [Nat.beq_refl] at this
    · rw [hkb]; exact h
  · simp only [litRes]
    exact litRes_some hk' i k v hm hb

theorem picks_eval {T : Tab} {rec : Rec} {G : Lit} (hd : G.d ≠ G.d3) (hk1 : isT G.d G.key = false) (hk3 : isT G.d3 G.key = false) {rest : List IOp} {e' : Env} {s s' : St} : ∀ (l : List (Nat × List UInt8 × Opd)) (e e0 : Env), (∀ i k v, (i, k, v) ∈ l → isT G.d v = false ∧ isT G.d3 v = false) →
 (∀ u, isT G.d u = false → isT G.d3 u = false → opd e u = opd e0 u) → evalOps T rec true (litPicks G l ++ rest) e s = .ok .normal e' s' →
 (l ≠ [] → ∃ kb, opd e0 G.key = .str kb) ∧ ∃ e2, evalOps T rec true rest e2 s = .ok .normal e' s' ∧ (∀ u, isT G.d u = false → isT G.d3 u = false → opd e2 u = opd e0 u) ∧ ∀ kb, opd e0 G.key = .str kb → opd e2 (.t G.d3) = litRes kb e0 l (opd e (.t G.d3))
 | [], e, e0, _, he, h => ⟨fun h => absurd rfl h, e, h, he, fun kb _ => rfl⟩
 | (i, k, v) :: r, e, e0, hv, he, h => by
  simp only [litPicks, List.cons_append, evalOps, wantedV, watchOk, evalIns] at h
  have hkey := he G.key hk1 hk3
  have hve := hv i k v (by simp)
  cases hb : binV .eql (opd e G.key) (opd e (.c (.str k))) with
  | none => rw [hb] at h; simp only [ofOpt] at h; cases h
  | some bv =>
   rw [hb] at h
   simp only [ofOpt] at h
   obtain ⟨kb, hkb, rfl⟩ : ∃ kb, opd e G.key = .str kb ∧ bv = .bool (bytesEq kb k) := by
    have : opd e (.c (.str k)) = .str k := rfl
    rw [this] at hb
    cases hq : opd e G.key <;> rw [hq] at hb <;> simp only [binV, binStr] at hb <;> first | (cases hb; done) | skip
    cases hb
    exact ⟨_, rfl, rfl⟩
   have hdv : opd (putV e (some G.d) (.bool (bytesEq kb k))) (.t G.d) = .bool (bytesEq kb k) := by rw [opd_put, if_pos rfl]
   have hvv : opd (putV e (some G.d) (.bool (bytesEq kb k))) v = opd e0 v := by
    rw [opd_put_ne, he v hve.1 hve.2]
    rintro t rfl
    have := hve.1
    simp only [isT] at this
    simp [isDst]
    intro e; subst e; rw [Nat.beq_refl] at this; cases this
   have h3v : opd (putV e (some G.d) (.bool (bytesEq kb k))) (.t G.d3) = opd e (.t G.d3) := by
    rw [opd_put, if_neg (Ne.symm hd)]
   rw [hdv] at h
   have hres : ∃ acc, acc = (match bytesEq kb k with | true => opd e0 v | false => opd e (.t G.d3)) ∧ evalOps T rec true (litPicks G r ++ rest) (putV (putV e (some G.d) (.bool (bytesEq kb k))) (some G.d3) acc) s = .ok .normal e' s' := by
    cases hbb : bytesEq kb k with
    | true => rw [hbb] at h hvv; simp only [] at h; rw [hvv] at h; exact ⟨_, rfl, h⟩
    | false => rw [hbb] at h h3v; simp only [] at h; rw [h3v] at h; exact ⟨_, rfl, h⟩
   obtain ⟨acc, hacc, h'⟩ := hres
   have he2 : ∀ u, isT G.d u = false → isT G.d3 u = false → opd (putV (putV e (some G.d) (.bool (bytesEq kb k))) (some G.d3) acc) u = opd e0 u := by
    intro u u1 u2
    have q : ∀ (t d : Nat), isT d (.t t) = false → isDst (some d) [t] = false := by
     intro t d h
     simp only [isT] at h
     simp [isDst]
     intro e; subst e; rw [Nat.beq_refl] at h; cases h
    rw [opd_put_ne (fun t e => by subst e; exact q t _ u2), opd_put_ne (fun t e => by subst e; exact q t _ u1)]
    exact he u u1 u2
   obtain ⟨_, e2, g1, g2, g3⟩ := picks_eval hd hk1 hk3 r _ e0 (fun i k v hm => hv i k v (by simp [hm])) he2 h'
   refine ⟨fun _ => ⟨kb, by rw [← hkey]; exact hkb⟩, e2, g1, g2, fun kb' hkb' => ?_⟩
   rw [g3 kb' hkb', opd_put, if_pos rfl, hacc]
   have : kb' = kb := by
    rw [hkey, hkb'] at hkb
    cases hkb; rfl
   subst this
   rfl

structure LitF (P : Prog) (ops : Array Oper) (G : Lit) : Prop where
 fm : ∃ t ty pos af, ops[G.im]? = some ⟨some G.d, .makeMap t none, ty, pos, af, none⟩
 fi : ∀ i k v, (i, k, v) ∈ G.ins → ∃ t kb vo ty pos af kt et, ops[i]? = some ⟨none, .insert t (.tmp G.d) (.const (.string kb)) vo, ty, pos, af, none⟩ ∧ k = kb.data.toList ∧ ofOpd P vo = some v ∧ P.underlying t = some (.map kt et) ∧ P.underlying kt = some .string ∧ i < ops.size - 2
 fv : ∃ ty pos af, ops[G.iv]? = some ⟨some G.d2, .move (.tmp G.d), ty, pos, af, none⟩
 fk : ∃ mt ko ty pos af kt et, ops[ops.size - 2]? = some ⟨some G.d3, .lookup mt (.tmp G.d2) ko false, ty, pos, af, none⟩ ∧ P.underlying mt = some (.map kt et) ∧ P.underlying kt = some .string ∧ zeroAV P et = some G.z ∧ ofOpd P ko = some G.key
 fl : ∃ ty pos af, ops[ops.size - 1]? = some ⟨some G.dl, .assign (.tmp G.d3), ty, pos, af, none⟩

theorem litAll_spec {P : Prog} {ops : Array Oper} {d : Nat} : ∀ {l : List Nat} {i : Nat} {k : List UInt8} {v : Opd}, (i, k, v) ∈ litAll P ops d l → i ∈ l ∧ ∃ o, ops[i]? = some o ∧ litIns P d o = some (k, v)
 | [], i, k, v, h => by simp [litAll] at h
 | j :: l, i, k, v, h => by
  simp only [litAll] at h
  split at h
  · rename_i k' v' hj
    rcases List.mem_cons.1 h with e | h
    · cases e
      obtain ⟨o, h1, h2⟩ := Option.bind_eq_some_iff.1 hj
      exact ⟨by simp, o, h1, h2⟩
    · obtain ⟨h1, h2⟩ := litAll_spec h
      exact ⟨by simp [h1], h2⟩
  · obtain ⟨h1, h2⟩ := litAll_spec h
    exact ⟨by simp [h1], h2⟩

theorem litIns_spec {P : Prog} {d : Nat} {o : Oper} {k : List UInt8} {v : Opd} (h : litIns P d o = some (k, v)) : ∃ t kb vo ty pos af kt et, o = ⟨none, .insert t (.tmp d) (.const (.string kb)) vo, ty, pos, af, none⟩ ∧ k = kb.data.toList ∧ ofOpd P vo = some v ∧ P.underlying t = some (.map kt et) ∧ P.underlying kt = some .string := by
 unfold litIns at h
 split at h
 · rename_i t d' kb vo ty pos af
   split at h
   · rename_i kt et hu
     split at h
     · rename_i v' hk hv
       split at h
       · rename_i hb
         cases h
         have : d' = d := by simpa using hb
         subst this
         exact ⟨t, kb, vo, ty, pos, af, kt, et, rfl, rfl, hv, hu, hk⟩
       · cases h
     · cases h
   · cases h
 · cases h

theorem litOf_spec {P : Prog} {ops : Array Oper} {G : Lit} (h : litOf P ops = some G) : LitF P ops G := by
 unfold litOf at h
 split at h
 · rename_i d3 mt d2 ko ty1 pos1 af1 dl e3 ty2 pos2 af2 hk hl
   split at h
   · rename_i kt et hu
     split at h
     · rename_i z key iv hkt hz hko hiv
       split at h
       · rename_i e2 d ty3 pos3 af3 hv
         split at h
         · rename_i im him
           split at h
           · rename_i e1 mt' ty4 pos4 af4 hm
             split at h
             · rename_i hb
               simp only [Bool.and_eq_true] at hb
               obtain ⟨b1, b2, b3⟩ := hb
               obtain rfl := Nat.eq_of_beq_eq_true b1
               obtain rfl := Nat.eq_of_beq_eq_true b2
               obtain rfl := Nat.eq_of_beq_eq_true b3
               cases h
               refine ⟨⟨_, _, _, _, hm⟩, fun i k v hi => ?_, ⟨_, _, _, hv⟩, ⟨mt, ko, _, _, _, kt, et, hk, hu, hkt, hz, hko⟩, ⟨_, _, _, hl⟩⟩
               obtain ⟨g1, o, g2, g3⟩ := litAll_spec hi
               obtain ⟨t, kb, vo, ty, pos, af, kt', et', rfl, q1, q2, q3, q4⟩ := litIns_spec g3
               exact ⟨t, kb, vo, ty, pos, af, kt', et', g2, q1, q2, q3, q4, by simpa using g1⟩
             · cases h
           · cases h
         · cases h
       · cases h
     · cases h
   · cases h
 · cases h

theorem insAt_mem {i : Nat} {k : List UInt8} {v : Opd} : ∀ {l : List (Nat × List UInt8 × Opd)}, insAt i l = some (k, v) → (i, k, v) ∈ l
 | [], h => by cases h
 | (j, k', v') :: r, h => by
  simp only [insAt] at h
  split at h
  · rename_i hb
    cases h
    have : j = i := by simpa using hb
    subst this
    exact List.mem_cons_self
  · exact List.mem_cons_of_mem _ (insAt_mem h)
theorem insAt_none {i : Nat} : ∀ {l : List (Nat × List UInt8 × Opd)}, insAt i l = none → ∀ k v, (i, k, v) ∉ l
 | [], _, k, v, h => by simp at h
 | (j, k', v') :: r, h, k, v, hm => by
  simp only [insAt] at h
  split at h
  · cases h
  · rename_i hb
    rcases List.mem_cons.1 hm with e | hm
    · cases e
      rw [Nat.beq_refl] at hb
      cases hb
    · exact insAt_none h k v hm

/-- What the checks of such a region say. -/
structure LitC (ops : Array Oper) (G : Lit) (nt : Nat) (bef : Nat → Nat) : Prop where
 two : 2 ≤ ops.size
 lk : ∀ i, i < ops.size - 2 → (bef (ops.size - 2)).testBit i = true
 ll : ∀ i, i < ops.size - 1 → (bef (ops.size - 1)).testBit i = true
 insIm : ∀ i k v, (i, k, v) ∈ G.ins → (bef i).testBit G.im = true
 insD : ∀ i k v, (i, k, v) ∈ G.ins → isT G.d v = false ∧ isT G.d3 v = false
 insV : ∀ i k t, (i, k, Opd.t t) ∈ G.ins → ∀ j o, ops[j]? = some o → isDst o.dst [t] = true → (bef i).testBit j = true
 ivIm : (bef G.iv).testBit G.im = true
 dOnly : ∀ j o, ops[j]? = some o → isDst o.dst [G.d] = true → j = G.im
 d2Only : ∀ j o, ops[j]? = some o → isDst o.dst [G.d2] = true → j = G.iv
 key1 : isT G.d G.key = false
 key3 : isT G.d3 G.key = false
 keys : keysOk G.ins = true
 dn : G.d < nt
 d3n : G.d3 < nt
 dln : G.dl < nt
 imn : G.im < ops.size - 2
 ivn : G.iv < ops.size - 2
 dd : G.d ≠ G.d3

theorem litOk_spec {nt : Nat} {ops : Array Oper} {G : Lit} {bef : Array Nat} (h : litOk nt ops G bef = true) : LitC ops G nt (fun j => bef.getD j 0) ∧ G.ins ≠ [] := by
 simp only [litOk, Bool.and_eq_true, decide_eq_true_eq, List.all_eq_true, List.mem_range, Bool.not_eq_true'] at h
 obtain ⟨⟨⟨⟨⟨⟨⟨⟨⟨⟨⟨⟨⟨⟨⟨⟨h1, h2⟩, h3⟩, h4⟩, h5⟩, h6⟩, h7⟩, h8⟩, h9⟩, h10⟩, h11⟩, h12⟩, h13⟩, h14⟩, h15⟩, h16⟩, h17⟩ := h
 refine ⟨?_, by rintro e; rw [e] at h17; cases h17⟩
 have only : ∀ {i t : Nat}, onlyDst ops i t = true → ∀ j o, ops[j]? = some o → isDst o.dst [t] = true → j = i := by
  intro i t h j o ho hd
  simp only [onlyDst, List.all_eq_true, List.mem_range] at h
  have := h j (Array.getElem?_eq_some_iff.1 ho).1
  rw [ho] at this
  simpa [hd] using this
 refine ⟨h1, h2, h3, fun i k v hm => ?_, fun i k v hm => ?_, fun i k t hm j o ho hd => ?_, h5, only h6, only h7, h8, h9, h10, h11, h12, h13, h14, h15, ?_⟩
 · have := h4 _ hm; simp only at this; exact this.1.1.1
 · have := h4 _ hm; simp only at this; exact ⟨this.1.1.2, this.1.2⟩
 · have := h4 _ hm
   simp only [dstBef, List.all_eq_true, List.mem_range] at this
   have := this.2 j (Array.getElem?_eq_some_iff.1 ho).1
   rw [ho] at this
   simpa [hd] using this
 · intro e; rw [e, Nat.beq_refl] at h16; cases h16

theorem draw_lit (hops : ∀ o, OpOk P T rec o) (hT : TameHooks T) (hr : TameRec rec) {ops : Array Oper} {nt : Nat} {ds : List Deferred} {bef : Nat → Nat} {G : Lit} (hd : Deps ops bef) (hF : LitF P ops G) (hC : LitC ops G nt bef) {e' : Env} {H0 H' : Tree AObj} {φ0 : Phi} {w0 : World} {Q : Exit → Act → World → Prop}
 (hend : ∀ (listed : Array Bool) (φ : Phi) (a : Act) (w : World), GlobOk P φ → Step φ0 ⟨H0, 0⟩ w0 φ ⟨H', 0⟩ w → RelEnv nt ds φ e' a → GInv w0.heap.size G listed e' φ a w → listed.size = ops.size → (∀ i, i < ops.size → (listed.getD i true = false ↔ i = ops.size - 2 ∨ i = ops.size - 1)) → Closed ops listed → wpAny P.toProgram .any ops Q 2 listed a w) :
 ∀ (m : Nat) (L : List BOp) (listed : Array Bool) {e : Env} {H : Tree AObj} {φ : Phi} {a : Act} {w : World}, L.length = m → L.Pairwise Rel2 → (∀ q ∈ L, Own q) → (∀ q ∈ L, FreeR H q) → evalB T rec L e H = some (e', H') →
  GlobOk P φ → Step φ0 ⟨H0, 0⟩ w0 φ ⟨H, 0⟩ w → RelEnv nt ds φ e a → GInv w0.heap.size G listed e φ a w → (∀ q ∈ L, ∃ o, ops[q.row.i]? = some o ∧ litOper P nt ops G q.row.i o = some q.row.op ∧ q.row.bef = bef q.row.i ∧ q.row.i < ops.size - 2) → (L.map (·.row.i)).Nodup →
  listed.size = ops.size → (∀ i, i < ops.size → (listed.getD i true = false ↔ i ∈ L.map (·.row.i) ∨ i = ops.size - 2 ∨ i = ops.size - 1)) → Closed ops listed → wpAny P.toProgram .any ops Q (m + 2) listed a w
 | 0, L, listed, e, H, φ, a, w, hlen, _, _, _, hev, hg, st0, he, hgi, _, _, hsz, hls, hcl => by
  have hL : L = [] := List.length_eq_zero_iff.1 hlen
  subst hL
  simp only [evalB] at hev
  cases hev
  exact hend listed φ a w hg st0 he hgi hsz (fun i hi => by simpa using hls i hi) hcl
 | m + 1, L, listed, e, H, φ, a, w, hlen, hpw, hown, hfree, hev, hg, st0, he, hgi, hrows, hnd, hsz, hls, hcl => by
  have hs := st0.rel
  have hne : L.map (·.row.i) ≠ [] := by
   intro h
   have := congrArg List.length h
   simp [hlen] at this
  have toListed : ∀ k, k < ops.size → listed.getD k true = true → listed.getD k false = true := by
   intro k hk h
   rwa [getD_in (by rw [hsz]; exact hk) true false] at h
  refine ⟨fun hnil => ?_, fun i hi => ?_⟩
  · exfalso
    obtain ⟨i0, h1, h2⟩ := exists_min hne
    obtain ⟨q, hq, hqi⟩ := List.mem_map.1 h1
    obtain ⟨o, ho, _, _, hlt2⟩ := hrows q hq
    rw [hqi] at ho hlt2
    have hlt := (Array.getElem?_eq_some_iff.1 ho).1
    have : i0 ∈ Region.ready .any ops listed := by
     refine mem_ready.2 ⟨(hls i0 hlt).2 (.inl h1), o, ho, fun ed hed hb => ?_⟩
     have hlt' := hd.back i0 o ho ed hed hb
     have hin : ed.on < ops.size := by omega
     rw [getD_in (by rw [hsz]; exact hin) false true]
     cases hv : listed.getD ed.on true with
     | true => rfl
     | false =>
      rcases (hls ed.on hin).1 hv with h | h | h
      · have := h2 _ h
        omega
      · omega
      · omega
    rw [hnil] at this
    cases this
  · obtain ⟨h0, o, ho, hdeps⟩ := mem_ready.1 hi
    have hlt := (Array.getElem?_eq_some_iff.1 ho).1
    have befL : ∀ k, (bef i).testBit k = true → listed.getD k false = true := by
     intro k hk
     obtain ⟨o2, ho2, ed, hed, hbd, h⟩ := hd.bef _ _ hk
     rw [ho] at ho2
     cases ho2
     have hl1 := hdeps ed hed hbd
     rcases h with h | h
     · rw [← h]; exact hl1
     · exact hd.reach hcl _ hl1 _ h
    have unl : ∀ k, k < ops.size → listed.getD k true = false → listed.getD k false = true → False := by
     intro k hk h1 h2
     rw [getD_in (by rw [hsz]; exact hk) true false, h2] at h1
     cases h1
    have hmem : i ∈ L.map (·.row.i) := by
     obtain ⟨i0, h1, _⟩ := exists_min hne
     obtain ⟨q, hq, hqi⟩ := List.mem_map.1 h1
     obtain ⟨o2, ho2, _, _, hlt2⟩ := hrows q hq
     rw [hqi] at hlt2
     have hu := (hls i0 (by omega)).2 (.inl h1)
     rcases (hls i hlt).1 h0 with h | rfl | rfl
     · exact h
     · exact (unl i0 (by omega) hu (befL _ (hC.lk _ hlt2))).elim
     · exact (unl i0 (by omega) hu (befL _ (hC.ll _ (by omega)))).elim
    obtain ⟨y, hy, hyi⟩ := List.mem_map.1 hmem
    obtain ⟨A, B, rfl⟩ := List.append_of_mem hy
    obtain ⟨o', ho', hofo, hbefy, hi2⟩ := hrows y hy
    rw [hyi] at ho' hofo hi2
    rw [ho] at ho'
    cases ho'
    have hpA := List.pairwise_append.1 hpw
    have hpB := List.pairwise_cons.1 hpA.2.1
    have hunord : ∀ x ∈ A, y.row.bef.testBit x.row.i = false := by
     intro x hx
     cases hb : y.row.bef.testBit x.row.i with
     | false => rfl
     | true =>
      exfalso
      rw [hbefy, hyi] at hb
      obtain ⟨ox, hox, _, _, _⟩ := hrows x (by simp [hx])
      have hltx := (Array.getElem?_eq_some_iff.1 hox).1
      exact unl _ hltx ((hls x.row.i hltx).2 (.inl (List.mem_map.2 ⟨x, by simp [hx], rfl⟩))) (befL _ hb)
    obtain ⟨v, sy, g1, g2, g3, _⟩ := move hT hr A (fun x hx => hpA.2.2 x hx y (by simp)) (fun x hx => hown x (by simp [hx])) (hown y hy) hpA.1 hunord (fun x hx => hfree x (by simp [hx])) (hfree y hy) hev
    have hgood := step_good hT hr g1
    have hofr : ∀ q ∈ A ++ B, FreeR sy.heap q := by
     intro q hq
     rcases List.mem_append.1 hq with hq | hq
     · exact good_freeR hgood (hfree q (by simp [hq])) (.inr (hpA.2.2 q hq y (by simp)).le)
     · exact good_freeR hgood (hfree q (by simp [hq])) (.inl (by rw [g2]; exact (hpB.1 q hq).le))
    have hsub : ∀ q, q ∈ A ++ B → q ∈ A ++ y :: B := by
     intro q hq
     rcases List.mem_append.1 hq with hq | hq <;> simp [hq]
    have hpw2 : (A ++ B).Pairwise Rel2 := List.pairwise_append.2 ⟨hpA.1, hpB.2, fun x hx z hz => hpA.2.2 x hx z (by simp [hz])⟩
    have hnd' : ((A ++ B).map (·.row.i)).Nodup ∧ i ∉ (A ++ B).map (·.row.i) := by
     simp only [List.map_append, List.map_cons] at hnd
     have h1 := List.nodup_append.1 hnd
     have h2 := List.nodup_cons.1 h1.2.1
     rw [List.map_append]
     refine ⟨List.nodup_append.2 ⟨h1.1, h2.2, fun x hx z hz => h1.2.2 x hx z (by simp [hz])⟩, ?_⟩
     rw [← hyi]
     intro hm
     rcases List.mem_append.1 hm with hm | hm
     · exact h1.2.2 _ hm _ (by simp) rfl
     · exact h2.1 hm
    have next : ∀ (a1 : Act) (φ1 : Phi) (w1 : World), Step φ0 ⟨H0, 0⟩ w0 φ1 ⟨sy.heap, 0⟩ w1 → PhiLe φ φ1 → RelEnv nt ds φ1 (putV e y.dst v) a1 → GInv w0.heap.size G (listed.setIfInBounds i true) (putV e y.dst v) φ1 a1 w1 → wpAny P.toProgram .any ops Q (m + 2) (listed.setIfInBounds i true) a1 w1 := by
     intro a1 φ1 w1 st1 hle he1 hgi1
     refine draw_lit hops hT hr hd hF hC hend m (A ++ B) _ (e := putV e y.dst v) (H := sy.heap) (φ := φ1) (by simp at hlen ⊢; omega) hpw2 (fun q hq => hown q (hsub q hq)) hofr g3 (hg.mono hle) st1 he1 hgi1 (fun q hq => hrows q (hsub q hq)) hnd'.1 (by simpa using hsz) ?_ ?_
     · intro k hk
       by_cases hki : k = i
       · subst hki
         constructor
         · intro h
           exfalso
           simp [Array.getD_eq_getD_getElem?, hsz, hk] at h
         · rintro (h | h | h)
           · exact absurd h hnd'.2
           · omega
           · omega
       · rw [getD_set_ne true (fun h => hki h.symm), hls k hk]
         simp only [List.map_append, List.map_cons, List.mem_append, List.mem_cons]
         rw [hyi]
         constructor
         · rintro ((h | h | h) | h)
           · exact .inl (.inl h)
           · exact absurd h hki
           · exact .inl (.inr h)
           · exact .inr h
         · rintro ((h | h) | h)
           · exact .inl (.inl h)
           · exact .inl (.inr (.inr h))
           · exact .inr h
     · intro k hk o2 ho2 ed hed hbd
       refine getD_set_true ?_
       by_cases hki : k = i
       · subst hki
         rw [ho] at ho2
         cases ho2
         exact hdeps ed hed hbd
       · rw [getD_set_ne false (fun h => hki h.symm)] at hk
         exact hcl k hk o2 ho2 ed hed hbd
    have insNot : ∀ j k u, (j, k, u) ∈ G.ins → listed.getD j false = true → ∀ t, u = .t t → isDst o.dst [t] = false := by
     intro j k u hm hl t hu
     subst hu
     cases hx : isDst o.dst [t] with
     | false => rfl
     | true =>
      have := hC.insV j k t hm i o ho hx
      exact (unl i hlt h0 (hd.reach hcl j hl i this)).elim
    obtain ⟨tm, tym, posm, afm, hom⟩ := hF.fm
    obtain ⟨tyv, posv, afv, hov⟩ := hF.fv
    have hmv : G.im ≠ G.iv := by
     intro h
     rw [h, hov] at hom
     have := congrArg Oper.op (Option.some.inj hom)
     cases this
    have hiu : ∀ k, k = i → listed.getD k false = true → False := fun k hk h => by subst hk; exact unl _ hlt h0 h
    unfold wpOp
    rw [ho]
    simp only []
    unfold litOper at hofo
    cases hbim : Nat.beq i G.im with
    | true =>
     rw [hbim] at hofo
     have him : i = G.im := Nat.eq_of_beq_eq_true hbim
     subst him
     rw [ho] at hom
     cases hom
     simp only [Option.some.injEq] at hofo
     have hstep : v = .anyMap ∧ sy.heap = H := by
      unfold stepB at g1
      have : y.op = ⟨some G.d, none, [], .move (.c .anyMap)⟩ := hofo.symm
      rw [this] at g1
      simp only [wantedV, evalIns, Option.some.injEq, Prod.mk.injEq] at g1
      obtain ⟨rfl, rfl⟩ := g1
      exact ⟨rfl, rfl⟩
     obtain ⟨rfl, hsy⟩ := hstep
     have hyd : y.dst = some G.d := by show y.row.op.dst = _; rw [← hofo]
     have hw : Region.wanted ⟨some G.d, .makeMap tm none, tym, posm, afm, none⟩ (yielded ops a.tmps) = true := rfl
     rw [hw]
     simp only [if_true]
     refine .inl ?_
     refine wp_val (c := .map (some w.heap.size)) (w' := { w with heap := w.heap.push (.map #[] 0) }) (by simp [execOp, Instr.makeMap]) ?_
     refine next _ φ _ ?_ (.refl φ) ?_ ?_
     · rw [hsy]
       exact st0.trans (step_push hs _)
     · rw [hyd]; exact relEnv_put (dst := some G.d) he (fun d hd => by cases hd; exact hC.dn) (.anyMap _)
     · rw [hyd]
       intro _
       refine ⟨w.heap.size, [], #[], 0, put_getD_same (by rw [he.size]; exact hC.dn), st0.size, ?_, fun hl => ?_, by simp, .nil, fun en hen => by simp at hen, fun j k u hm hl => ?_⟩
       · rintro ⟨id, k, x, ex, hb⟩
         have := (hs.dom id k x ex).2
         omega
       · rw [getD_set_ne false hmv] at hl
         exact (hiu _ rfl (hd.reach hcl _ hl _ hC.ivIm)).elim
       · have hji : G.im ≠ j := by
          rintro rfl
          obtain ⟨t, kb, vo, ty, pos, af, kt, et, q1, _⟩ := hF.fi _ k u hm
          rw [ho] at q1
          cases q1
         rw [getD_set_ne false hji] at hl
         exact (hiu _ rfl (hd.reach hcl _ hl _ (hC.insIm j k u hm))).elim
    | false =>
     rw [hbim] at hofo
     have him : i ≠ G.im := by rintro rfl; rw [Nat.beq_refl] at hbim; cases hbim
     simp only [] at hofo
     cases hia : insAt i G.ins with
     | some kv =>
      obtain ⟨k, vo'⟩ := kv
      rw [hia] at hofo
      simp only [Option.some.injEq] at hofo
      have hm := insAt_mem hia
      obtain ⟨t, kb, vo, ty, pos, af, kt, et, q1, rfl, q3, q4, q5, _⟩ := hF.fi i k vo' hm
      rw [ho] at q1
      cases q1
      have hstep : v = opd e vo' ∧ sy.heap = H := by
       unfold stepB at g1
       have : y.op = ⟨none, none, [], .move vo'⟩ := hofo.symm
       rw [this] at g1
       simp only [wantedV, evalIns, Option.some.injEq, Prod.mk.injEq] at g1
       obtain ⟨rfl, rfl⟩ := g1
       exact ⟨rfl, rfl⟩
      obtain ⟨rfl, hsy⟩ := hstep
      have hyd : y.dst = none := by show y.row.op.dst = _; rw [← hofo]
      have hw : Region.wanted ⟨none, .insert t (.tmp G.d) (.const (.string kb)) vo, ty, pos, af, none⟩ (yielded ops a.tmps) = true := rfl
      rw [hw]
      simp only [if_true]
      refine .inl ?_
      obtain ⟨b, es, ces, cl, h1, h2, h3, h4, h5, h6, h7, h8⟩ := hgi (befL _ (hC.insIm i _ _ hm))
      have hlb : b < w.heap.size := (Array.getElem?_eq_some_iff.1 h5).1
      obtain ⟨r, r1, r2, r3⟩ := findV_str (kb := kb.data.toList) es 0 (fun en hen => by obtain ⟨_, k, _, _, _, hk, _⟩ := h7 en hen; exact ⟨k, hk⟩)
      have hrn : r = none := by
       cases r with
       | none => rfl
       | some p =>
        exfalso
        obtain ⟨en, k', c1, c2, c3, _⟩ := r3 p.1 p.2 rfl
        obtain ⟨j, k'', u, d1, d2, d3, _⟩ := h7 en c1
        rw [c2] at d3
        cases d3
        rcases keysOk_spec hC.keys _ _ _ _ _ _ hm d1 with ⟨rfl, _⟩ | ⟨_, hbb⟩
        · exact unl _ hlt h0 d2
        · rw [c3] at hbb; cases hbb
      subst hrn
      have hkk : kkOf P kt = some .str := by simp [kkOf, q5]
      obtain ⟨dd, e1, e2⟩ := kkOf_some hkk
      obtain ⟨cr, f1, f2⟩ := find_ok e2 (VRel.str (φ := φ) kb) 0 h6 r1
      have hcr : cr = none := by
       rcases f2 with ⟨_, h⟩ | ⟨_, _, _, h, _⟩
       · exact h
       · cases h
      subst hcr
      have rv := opd_rel hg he q3
      have hdv : a.eval (.tmp G.d) = .map (some b) := h1
      refine wp_unit (w' := { w with heap := w.heap.setIfInBounds b (.map (ces.push { key := .string kb, val := a.eval vo, born := cl }) (cl + 1)) }) ?_ ?_
      · have hck : a.eval (.const (.string kb)) = .string kb := rfl
        simp only [execOp, hdv, hck, Instr.mapUpdate, Sem.run_bind, run_underlying_some q4, Result.andThen_ok, run_getObj h5, Sem.run_pure, run_checkKey e1 e2, run_findKey e1 f1, run_setObj _ h5]
      · refine next _ φ _ ?_ (.refl φ) (by rw [hyd]; exact he) ?_
        · rw [hsy]; exact st0.beside h2 h3 _
        · rw [hyd]
          intro _
          refine ⟨b, es ++ [⟨.str kb.data.toList, opd e vo', cl⟩], ces.push { key := .string kb, val := a.eval vo, born := cl }, cl + 1, h1, h2, h3, fun hl => ?_, by simp [hlb], ?_, fun en hen => ?_, fun j k u hmj hl => ?_⟩
          · have hne : i ≠ G.iv := by
             rintro rfl
             rw [ho] at hov
             cases hov
            rw [getD_set_ne false hne] at hl
            exact h4 hl
          · rw [Array.toList_push]
            exact h6.append (.cons (.str kb) rv rfl .nil)
          · rcases List.mem_append.1 hen with hen | hen
            · obtain ⟨j, k, u, d1, d2, d3, d4⟩ := h7 en hen
              exact ⟨j, k, u, d1, getD_set_true d2, d3, d4⟩
            · simp only [List.mem_singleton] at hen
              subst hen
              exact ⟨i, _, _, hm, by simp [Array.getD_eq_getD_getElem?, hsz, hlt], rfl, rfl⟩
          · by_cases hji : j = i
            · subst hji
              rcases keysOk_spec hC.keys _ _ _ _ _ _ hm hmj with ⟨_, rfl, rfl⟩ | ⟨hne, _⟩
              · exact ⟨⟨.str kb.data.toList, opd e vo', cl⟩, by simp, rfl, rfl⟩
              · exact absurd rfl hne
            · rw [getD_set_ne false (fun h => hji h.symm)] at hl
              obtain ⟨en, d1, d2, d3⟩ := h8 j k u hmj hl
              exact ⟨en, by simp [d1], d2, d3⟩
     | none =>
      rw [hia] at hofo
      simp only [] at hofo
      have hnin := insAt_none hia
      obtain ⟨g, hgd, hop, hdst⟩ := ofOper_spec hofo
      have hyd : y.dst = o.dst := by show y.row.op.dst = _; rw [hop]
      have hdd : isDst o.dst [G.d] = false := by
       cases hx : isDst o.dst [G.d] with
       | false => rfl
       | true => exact absurd (hC.dOnly i o ho hx) him
      rw [hyd] at next
      by_cases hiv : i = G.iv
      · subst hiv
        rw [ho] at hov
        cases hov
        have hstep : v = opd e (.t G.d) ∧ sy.heap = H := by
         unfold stepB at g1
         have : y.op = ⟨some G.d2, g, [], .move (.t G.d)⟩ := hop
         rw [this] at g1
         have hgn : g = none := by simp only [ofGuard, Option.some.injEq] at hgd; exact hgd.symm
         subst hgn
         simp only [wantedV, evalIns, Option.some.injEq, Prod.mk.injEq] at g1
         obtain ⟨rfl, rfl⟩ := g1
         exact ⟨rfl, rfl⟩
        obtain ⟨rfl, hsy⟩ := hstep
        have hw : Region.wanted ⟨some G.d2, .move (.tmp G.d), tyv, posv, afv, none⟩ (yielded ops a.tmps) = true := rfl
        rw [hw]
        simp only [if_true]
        refine .inl ?_
        have rd : VRel φ (opd e (.t G.d)) (a.eval (.tmp G.d)) := he.val G.d
        refine wp_val (c := a.eval (.tmp G.d)) rfl (next _ φ w (by rw [hsy]; exact st0) (.refl φ) (relEnv_put (dst := some G.d2) he hdst rd) ?_)
        refine hgi.normal (.refl hs) him hnin hdd (fun _ => .inr ?_) insNot
        rw [put_getD_same (by rw [he.size]; exact hdst _ rfl)]
        rfl
      · have hd2 : isDst o.dst [G.d2] = false := by
         cases hx : isDst o.dst [G.d2] with
         | false => rfl
         | true => exact absurd (hC.d2Only i o ho hx) hiv
        have hgn : ∀ (c : Value) (φ1 : Phi) (w1 : World) (v1 : AV), Step φ ⟨H, 0⟩ w φ1 ⟨sy.heap, 0⟩ w1 → GInv w0.heap.size G (listed.setIfInBounds i true) (putV e o.dst v1) φ1 (a.put o.dst c) w1 := by
         intro c φ1 w1 v1 st
         refine hgi.normal st him hnin hdd (fun hl => .inl ⟨?_, hd2⟩) insNot
         rwa [getD_set_ne false (fun h => hiv h)] at hl
        rw [wanted_rel he hgd]
        have hgy : y.op.guard = g := by show y.row.op.guard = _; rw [hop]
        have hiy : y.op.ins = ofOp P o := by show y.row.op.ins = _; rw [hop]
        rcases step_inv g1 with ⟨k1, rfl, rfl⟩ | ⟨k1, k2⟩
        · rw [hgy] at k1
          rw [k1]
          simp only [Bool.false_eq_true, if_false]
          exact next _ φ w st0 (.refl φ) (relEnv_put he hdst (.tuple (l' := []) .nil)) (hgn undef φ w _ (.refl hs))
        · rw [hgy] at k1
          rw [k1]
          simp only [if_true]
          refine .inl ?_
          rw [hiy] at k2
          refine hops o hg he (hs.at (c := y.b)) k2 (by simp) ?_ ?_
          · intro id q1 q2
            refine hfree y hy id q1 ?_
            rw [← g2]; exact q2
          · intro c w1 φ1 st hv
            exact next _ φ1 w1 (st0.trans st.at) st.le (relEnv_put (he.mono st.le) hdst hv) (hgn c φ1 w1 _ st.at)

theorem RelEnv.congr {nt : Nat} {ds : List Deferred} {φ : Phi} {e e2 : Env} {a : Act} (h : RelEnv nt ds φ e a) (hc : ∀ i, opd e2 (.t i) = opd e (.t i)) : RelEnv nt ds φ e2 a :=
 ⟨h.size, fun i => by rw [hc i]; exact h.val i, h.defs⟩

theorem evalOps_app {draw : List IOp} : ∀ {l : List IOp} {e : Env} {s : St} {x : Ex} {e' : Env} {s' : St}, evalOps T rec true (l ++ draw) e s = .ok x e' s' → ∃ e1 s1, evalOps T rec true l e s = .ok .normal e1 s1 ∧ evalOps T rec true draw e1 s1 = .ok x e' s'
 | [], e, s, x, e', s', h => ⟨e, s, rfl, h⟩
 | q :: l, e, s, x, e', s', h => by
  simp only [List.cons_append, evalOps] at h ⊢
  cases hw : wantedV e q.guard with
  | false => rw [hw] at h; exact evalOps_app h
  | true =>
   rw [hw] at h
   simp only [] at h ⊢
   cases hi : evalIns T rec e s q.ins with
   | fail => rw [hi] at h; cases h
   | panic v s2 => rw [hi] at h; cases h
   | val v s2 =>
    rw [hi] at h
    simp only [] at h ⊢
    cases hwt : watchOk e s s2 q.watch with
    | false => rw [hwt] at h; cases h
    | true => rw [hwt] at h; exact evalOps_app h

theorem isT_dst {d : Nat} {u : Opd} (h : isT d u = false) : ∀ t, u = .t t → isDst (some d) [t] = false := by
 rintro t rfl
 simp only [isT] at h
 simp [isDst]
 intro e; subst e; rw [Nat.beq_refl] at h; cases h

theorem tail_eval {G : Lit} {nt : Nat} {ops : Array Oper} {bef : Nat → Nat} (hC : LitC ops G nt bef) (hne : G.ins ≠ []) {e1 e' : Env} {s1 s' : St} {x : Ex} (hev : evalOps T rec true (litTail G) e1 s1 = .ok x e' s') : x = .normal ∧ s' = s1 ∧ ∃ kb, opd e1 G.key = .str kb ∧
 ∀ i, opd e' (.t i) = opd (putV (putV (putV e1 (some G.d3) (litRes kb e1 G.ins G.z)) (some G.d) .anyMap) (some G.dl) (litRes kb e1 G.ins G.z)) (.t i) := by
 have hx : x = .normal := by
  obtain ⟨_, _, _, h2⟩ := evalOps_app (l := litTail G) (draw := []) (by simpa using hev)
  simp only [evalOps] at h2
  cases h2; rfl
 subst hx
 unfold litTail at hev
 simp only [evalOps, wantedV, evalIns, watchOk] at hev
 obtain ⟨q1, e2, q2, q3, q4⟩ := picks_eval hC.dd hC.key1 hC.key3 G.ins _ e1 (fun i k v hm => hC.insD i k v hm) (fun u u1 u2 => by rw [opd_put_ne (isT_dst u2)]) hev
 obtain ⟨kb, hkb⟩ := q1 hne
 have q5 := q4 kb hkb
 rw [opd_put, if_pos rfl] at q5
 have hz : opd e1 (.c G.z) = G.z := rfl
 rw [hz] at q5
 simp only [evalOps, wantedV, evalIns, watchOk] at q2
 cases q2
 refine ⟨rfl, rfl, kb, hkb, fun i => ?_⟩
 have hd3 : opd (putV e2 (some G.d) (opd e2 (.c .anyMap))) (.t G.d3) = litRes kb e1 G.ins G.z := by
  rw [opd_put, if_neg (Ne.symm hC.dd)]; exact q5
 rw [hd3]
 have ha : opd e2 (.c .anyMap) = .anyMap := rfl
 rw [ha]
 rw [opd_put, opd_put, opd_put, opd_put, opd_put]
 by_cases h1 : i = G.dl
 · simp [h1]
 · by_cases h2 : i = G.d
   · simp [h1, h2]
   · by_cases h3 : i = G.d3
     · subst h3
       rw [if_neg h1, if_neg h2, if_neg h1, if_neg h2, if_pos rfl]
       exact q5
     · simp only [h1, h2, h3, if_false]
       refine q3 (.t i) ?_ ?_
       · simp only [isT]
         cases hb : Nat.beq i G.d with
         | false => rfl
         | true => exact absurd (Nat.eq_of_beq_eq_true hb) h2
       · simp only [isT]
         cases hb : Nat.beq i G.d3 with
         | false => rfl
         | true => exact absurd (Nat.eq_of_beq_eq_true hb) h3

theorem lit_end {ops : Array Oper} {nt : Nat} {ds : List Deferred} {bef : Nat → Nat} {G : Lit} (hd : Deps ops bef) (hF : LitF P ops G) (hC : LitC ops G nt bef) (hne : G.ins ≠ []) {e1 e' : Env} {s1 s' : St} {x : Ex} (hev : evalOps T rec true (litTail G) e1 s1 = .ok x e' s') {Q : Exit → Act → World → Prop}
 {listed : Array Bool} {φ : Phi} {a : Act} {w : World} {n0 : Nat} (hg : GlobOk P φ) (he : RelEnv nt ds φ e1 a) (hgi : GInv n0 G listed e1 φ a w) (hsz : listed.size = ops.size) (hls : ∀ i, i < ops.size → (listed.getD i true = false ↔ i = ops.size - 2 ∨ i = ops.size - 1)) (hcl : Closed ops listed)
 (hQ : ∀ a', RelEnv nt ds φ e' a' → Q .normal a' w) : wpAny P.toProgram .any ops Q 2 listed a w := by
 obtain ⟨_, _, kb, hkb, heq⟩ := tail_eval hC hne hev
 have h2 := hC.two
 have inL : ∀ k, k < ops.size - 2 → listed.getD k false = true := by
  intro k hk
  rw [getD_in (by rw [hsz]; omega) false true]
  cases h : listed.getD k true with
  | true => rfl
  | false =>
   have := (hls k (by omega)).1 h
   omega
 obtain ⟨mt, ko, ty, pos, af, kt, et, hk, hmt, hkt, hz, hko⟩ := hF.fk
 obtain ⟨ty2, pos2, af2, hl⟩ := hF.fl
 obtain ⟨b, es, ces, cl, g1, _, _, g4, g5, g6, g7, g8⟩ := hgi (inL _ hC.imn)
 have g4' := g4 (inL _ hC.ivn)
 -- what the map says
 obtain ⟨r, r1, r2, r3⟩ := findV_str (kb := kb) es 0 (fun en hen => by obtain ⟨_, k, _, _, _, hk, _⟩ := g7 en hen; exact ⟨k, hk⟩)
 obtain ⟨cz, z1, z2⟩ := zeroAV_rel hz
 have rk := opd_rel hg he hko
 rw [hkb] at rk
 have hkk : kkOf P kt = some .str := by simp [kkOf, hkt]
 obtain ⟨dd, d1, d2⟩ := kkOf_some hkk
 have hlook : lookIn .str G.z false (.str kb) es = some (litRes kb e1 G.ins G.z) := by
  simp only [lookIn, r1, lookRes]
  congr 1
  cases r with
  | none =>
   simp only []
   refine (litRes_none fun i k v hm => ?_).symm
   obtain ⟨t, kb', vo, ty', pos', af', kt', et', _, _, _, _, _, hi⟩ := hF.fi i k v hm
   obtain ⟨en, c1, c2, _⟩ := g8 i k v hm (inL i hi)
   exact r2 rfl en c1 k c2
  | some p =>
   obtain ⟨en, k, c1, c2, c3, c4⟩ := r3 p.1 p.2 rfl
   obtain ⟨i, k', v, f1, f2, f3, f4⟩ := g7 en c1
   rw [c2] at f3
   cases f3
   simp only []
   rw [litRes_some hC.keys i k v f1 c3, ← f4]
   exact c4.symm
 obtain ⟨cr, c, c1, c2, c3⟩ := lookIn_ok d2 rk (z2 φ) g6 hlook
 have hmv : a.eval (.tmp G.d2) = .map (some b) := g4'
 have hrun : (execOp a.eval ⟨some G.d3, .lookup mt (.tmp G.d2) ko false, ty, pos, af, none⟩).run P.toProgram w = .ok (.value c) w := by
  have : (Instr.lookup mt (.map (some b)) (a.eval ko) false).run P.toProgram w = .ok c w := by
   simp only [Instr.lookup, Sem.run_bind, run_underlying_some hmt, Result.andThen_ok, run_getObj g5, Sem.run_pure, run_checkKey d1 d2, run_findKey d1 c1]
   rcases c3 with ⟨rfl, rfl⟩ | ⟨j, u, rfl, rfl⟩ <;> simp [z1]
  simp only [execOp, hmv, Sem.run_bind, this, Result.andThen_ok, Sem.run_pure]
 have unl : ∀ k, k < ops.size → listed.getD k true = false → listed.getD k false = true → False := by
  intro k hk h1 h2
  rw [getD_in (by rw [hsz]; exact hk) true false, h2] at h1
  cases h1
 -- the first of the two
 have first : ops.size - 2 ∈ Region.ready .any ops listed := by
  refine mem_ready.2 ⟨(hls _ (by omega)).2 (.inl rfl), _, hk, fun ed hed hb => ?_⟩
  exact inL _ (hd.back _ _ hk ed hed hb)
 refine ⟨fun hnil => (by rw [hnil] at first; cases first), fun i hi => ?_⟩
 obtain ⟨h0, o, ho, hdeps⟩ := mem_ready.1 hi
 have hlt := (Array.getElem?_eq_some_iff.1 ho).1
 have befL : ∀ k, (bef i).testBit k = true → listed.getD k false = true := by
  intro k hk
  obtain ⟨o2, ho2, ed, hed, hbd, h⟩ := hd.bef _ _ hk
  rw [ho] at ho2
  cases ho2
  have hl1 := hdeps ed hed hbd
  rcases h with h | h
  · rw [← h]; exact hl1
  · exact hd.reach hcl _ hl1 _ h
 have hi2 : i = ops.size - 2 := by
  rcases (hls i hlt).1 h0 with h | rfl
  · exact h
  · exact (unl (ops.size - 2) (by omega) ((hls _ (by omega)).2 (.inl rfl)) (befL _ (hC.ll _ (by omega)))).elim
 subst hi2
 rw [hk] at ho
 cases ho
 unfold wpOp
 rw [hk]
 simp only []
 have hw1 : Region.wanted ⟨some G.d3, .lookup mt (.tmp G.d2) ko false, ty, pos, af, none⟩ (yielded ops a.tmps) = true := rfl
 rw [hw1]
 simp only [if_true]
 refine .inl (wp_val hrun ?_)
 -- the second
 generalize ha1 : a.put (some G.d3) c = a1
 have he1 : RelEnv nt ds φ (putV e1 (some G.d3) (litRes kb e1 G.ins G.z)) a1 := by
  rw [← ha1]; exact relEnv_put (dst := some G.d3) he (fun d hd => by cases hd; exact hC.d3n) c2
 have hc1 : a1.tmps.getD G.d undef = .map (some b) := by
  rw [← ha1, put_getD]
  · exact g1
  · simp [isDst]; exact fun h => hC.dd h.symm
 have he2 : RelEnv nt ds φ (putV (putV e1 (some G.d3) (litRes kb e1 G.ins G.z)) (some G.d) .anyMap) a1 := by
  refine ⟨he1.size, fun i => ?_, he1.defs⟩
  rw [opd_put]
  split
  · rename_i h; rw [h, hc1]; exact .anyMap _
  · exact he1.val i
 have hv3 : a1.eval (.tmp G.d3) = c := by
  rw [← ha1]
  exact put_getD_same (by rw [he.size]; exact hC.d3n)
 have second : ops.size - 1 ∈ Region.ready .any ops (listed.setIfInBounds (ops.size - 2) true) := by
  refine mem_ready.2 ⟨?_, _, hl, fun ed hed hb => ?_⟩
  · rw [getD_set_ne true (by omega)]
    exact (hls _ (by omega)).2 (.inr rfl)
  · have hlt' := hd.back _ _ hl ed hed hb
    by_cases h : ed.on = ops.size - 2
    · rw [h]; simp [Array.getD_eq_getD_getElem?, hsz]; omega
    · exact getD_set_true (inL _ (by omega))
 refine ⟨fun hnil => (by rw [hnil] at second; cases second), fun i hi => ?_⟩
 obtain ⟨h0', o, ho, _⟩ := mem_ready.1 hi
 have hlt' := (Array.getElem?_eq_some_iff.1 ho).1
 have hi1 : i = ops.size - 1 := by
  by_cases h : i = ops.size - 2
  · subst h
    exfalso
    (simp [Array.getD_eq_getD_getElem?, hsz] at h0') <;> omega
  · rw [getD_set_ne true (fun e => h e.symm)] at h0'
    rcases (hls i hlt').1 h0' with h' | h'
    · exact absurd h' h
    · exact h'
 subst hi1
 rw [hl] at ho
 cases ho
 unfold wpOp
 rw [hl]
 simp only []
 have hw2 : Region.wanted ⟨some G.dl, .assign (.tmp G.d3), ty2, pos2, af2, none⟩ (yielded ops a1.tmps) = true := rfl
 rw [hw2]
 simp only [if_true]
 refine .inl (wp_val (c := a1.eval (.tmp G.d3)) rfl ⟨List.eq_nil_iff_forall_not_mem.2 fun j hj => ?_, hQ _ ?_⟩)
 · obtain ⟨h3, o, ho, _⟩ := mem_ready.1 hj
   have hjl := (Array.getElem?_eq_some_iff.1 ho).1
   by_cases h : j = ops.size - 1
   · subst h
     (simp [Array.getD_eq_getD_getElem?, hsz] at h3) <;> omega
   · rw [getD_set_ne true (fun e => h e.symm)] at h3
     by_cases h' : j = ops.size - 2
     · subst h'
       (simp [Array.getD_eq_getD_getElem?, hsz] at h3) <;> omega
     · rw [getD_set_ne true (fun e => h' e.symm)] at h3
       rcases (hls j hjl).1 h3 with q | q
       · exact h' q
       · exact h q
 · refine RelEnv.congr (relEnv_put (dst := some G.dl) he2 (fun d hd => by cases hd; exact hC.dln) (v := litRes kb e1 G.ins G.z) ?_) heq
   rw [hv3]; exact c2

/- THE CHECKS -/
theorem before_deps (ops : Array Oper) (i j : Nat) (h : ((Region.before ops).getD j 0).testBit i = true) : ∃ o, ops[j]? = some o ∧ ∃ e ∈ o.after, Region.binds .any e = true ∧ (e.on = i ∨ ((Region.before ops).getD e.on 0).testBit i = true) := by
 have inner : ∀ (acc : Array Nat) (l : List Edge) (s : Nat), (l.foldl (fun s e => if Region.binds .any e then s ||| 2 ^ e.on ||| acc.getD e.on 0 else s) s).testBit i = true → s.testBit i = true ∨ ∃ e ∈ l, Region.binds .any e = true ∧ (e.on = i ∨ (acc.getD e.on 0).testBit i = true) := by
  intro acc l
  induction l with
  | nil => intro s h; exact .inl h
  | cons e l ih =>
   intro s h
   simp only [List.foldl_cons] at h
   rcases ih _ h with h1 | ⟨e', he', h1⟩
   · split at h1
     · rename_i hb
       simp only [Nat.testBit_or, Bool.or_eq_true] at h1
       rcases h1 with (h1 | h1) | h1
       · exact .inl h1
       · refine .inr ⟨e, by simp, hb, .inl ?_⟩
         rw [Nat.testBit_two_pow] at h1
         simpa using h1
       · exact .inr ⟨e, by simp, hb, .inr h1⟩
     · exact .inl h1
   · exact .inr ⟨e', by simp [he'], h1⟩
 have outer : ∀ (l : List Oper) (pre : List Oper) (acc : Array Nat), acc.size = pre.length → (∀ k, (acc.getD k 0).testBit i = true → ∃ o, (pre ++ l)[k]? = some o ∧ ∃ e ∈ o.after, Region.binds .any e = true ∧ (e.on = i ∨ (acc.getD e.on 0).testBit i = true)) →
  ∃ out : Array Nat, l.foldl (fun acc o => acc.push (o.after.foldl (fun s e => if Region.binds .any e then s ||| 2 ^ e.on ||| acc.getD e.on 0 else s) 0)) acc = out ∧
   ∀ k, (out.getD k 0).testBit i = true → ∃ o, (pre ++ l)[k]? = some o ∧ ∃ e ∈ o.after, Region.binds .any e = true ∧ (e.on = i ∨ (out.getD e.on 0).testBit i = true) := by
  intro l
  induction l with
  | nil => intro pre acc _ h; exact ⟨acc, rfl, h⟩
  | cons o l ih =>
   intro pre acc hsz hinv
   simp only [List.foldl_cons]
   have mono : ∀ (x k : Nat), (acc.getD k 0).testBit i = true → ((acc.push x).getD k 0).testBit i = true := by
    intro x k hk
    rw [Array.getD_eq_getD_getElem?] at hk ⊢
    rw [Array.getElem?_push]
    split
    · rename_i hks
      rw [hks] at hk
      simp at hk
    · exact hk
   obtain ⟨out, h1, h2⟩ := ih (pre ++ [o]) (acc.push (o.after.foldl (fun s e => if Region.binds .any e then s ||| 2 ^ e.on ||| acc.getD e.on 0 else s) 0)) (by simp [hsz]) (by
    intro k hk
    rw [List.append_assoc, List.singleton_append]
    by_cases hks : k = acc.size
    · subst hks
      refine ⟨o, by rw [hsz]; simp, ?_⟩
      have hk' : (o.after.foldl (fun s e => if Region.binds .any e then s ||| 2 ^ e.on ||| acc.getD e.on 0 else s) 0).testBit i = true := by
       rw [Array.getD_eq_getD_getElem?] at hk
       simpa using hk
      rw [← Array.foldl_toList] at hk'
      rcases inner acc o.after.toList 0 hk' with h | ⟨e, he, hb, h⟩
      · simp at h
      · refine ⟨e, by simpa using he, hb, ?_⟩
        rcases h with h | h
        · exact .inl h
        · exact .inr (mono _ _ h)
    · have hk' : (acc.getD k 0).testBit i = true := by
       rw [Array.getD_eq_getD_getElem?] at hk ⊢
       rw [Array.getElem?_push, if_neg hks] at hk
       exact hk
      obtain ⟨o', ho', e, he, hb, h⟩ := hinv k hk'
      refine ⟨o', ho', e, he, hb, ?_⟩
      rcases h with h | h
      · exact .inl h
      · exact .inr (mono _ _ h))
   refine ⟨out, h1, fun k hk => ?_⟩
   have := h2 k hk
   rwa [List.append_assoc, List.singleton_append] at this
 obtain ⟨out, h1, h2⟩ := outer ops.toList [] #[] rfl (by intro k hk; simp at hk)
 have hout : Region.before ops = out := by
  unfold Region.before
  rw [← h1, ← Array.foldl_toList]
 rw [hout] at h ⊢
 obtain ⟨o, ho, r⟩ := h2 j h
 exact ⟨o, by simpa using ho, r⟩

theorem backOk_spec {ops : Array Oper} (h : backOk ops = true) (i : Nat) (o : Oper) (ho : ops[i]? = some o) (e : Edge) (he : e ∈ o.after) (hb : Region.binds .any e = true) : e.on < i := by
 unfold backOk at h
 rw [List.all_eq_true] at h
 have hm : (o, i) ∈ ops.toList.zipIdx := by
  rw [List.mem_zipIdx_iff_getElem?]
  simpa using ho
 have := h _ hm
 simp only [] at this
 rw [Array.all_eq_true_iff_forall_mem] at this
 have := this e he
 simpa [hb] using this

theorem nodupB_spec : ∀ {l : List Nat}, nodupB l = true → l.Nodup
 | [], _ => .nil
 | x :: l, h => by
  simp only [nodupB, Bool.and_eq_true, Bool.not_eq_true', List.contains_eq_mem, decide_eq_false_iff_not] at h
  exact List.nodup_cons.2 ⟨h.1, nodupB_spec h.2⟩

theorem rowsOk_spec : ∀ {l : List DRow}, rowsOk l = true → l.Pairwise (fun a b => pairOk a b = true) ∧ ∀ r ∈ l, isDst r.op.dst r.tmps = false
 | [], _ => ⟨.nil, by simp⟩
 | x :: l, h => by
  simp only [rowsOk, Bool.and_eq_true, Bool.not_eq_true', List.all_eq_true] at h
  obtain ⟨h1, h2⟩ := rowsOk_spec h.2
  refine ⟨List.pairwise_cons.2 ⟨h.1.2, h1⟩, fun r hr => ?_⟩
  rcases List.mem_cons.1 hr with rfl | hr
  · exact h.1.1
  · exact h2 r hr

theorem mkRow_spec {nt : Nat} {ops : Array Oper} {bef : Array Nat} {i : Nat} {r : DRow} (h : mkRow P nt ops bef i = some r) : ∃ o, ops[i]? = some o ∧ ofOper P nt ops o = some r.op ∧ r.i = i ∧ r.tmps = opTmps r.op ∧ r.cls = clsIns r.op.ins ∧ r.bef = bef.getD i 0 := by
 unfold mkRow at h
 split at h
 · cases h
 · rename_i o ho
   split at h
   · rename_i x hx
     cases h
     exact ⟨o, ho, hx, rfl, rfl, rfl, rfl⟩
   · cases h

theorem rowsOf_spec {nt : Nat} {ops : Array Oper} {bef : Array Nat} : ∀ {l : List Nat} {rs : List DRow}, rowsOf P nt ops bef l = some rs → rs.map (·.i) = l ∧ ∀ r ∈ rs, mkRow P nt ops bef r.i = some r
 | [], rs, h => by simp only [rowsOf] at h; cases h; exact ⟨rfl, by simp⟩
 | i :: l, rs, h => by
  simp only [rowsOf] at h
  split at h
  · rename_i x r hx hr
    cases h
    obtain ⟨h1, h2⟩ := rowsOf_spec hr
    obtain ⟨_, _, _, hi, _⟩ := mkRow_spec hx
    refine ⟨by simp [h1, hi], fun q hq => ?_⟩
    rcases List.mem_cons.1 hq with rfl | hq
    · rw [hi]; exact hx
    · exact h2 q hq
  · cases h

/- AN OPERATION PANICS WHOSE REGION's ORDER IS DRAWN -/
theorem ofOpt_np {s s' : St} {r : Option AV} {v : AV} : ofOpt s r ≠ .panic v s' := by
 cases r <;> simp [ofOpt]
theorem ofSt_np {s' : St} {r : Option St} {v : AV} : ofSt r ≠ .panic v s' := by
 cases r <;> simp [ofSt]
theorem ofBoth_np {s' : St} {r : Option (AV × St)} {v : AV} : ofBoth r ≠ .panic v s' := by
 cases r with
 | none => simp [ofBoth]
 | some p => obtain ⟨a, b⟩ := p; simp [ofBoth]
theorem pan_can {e : Env} {s s' : St} {v : AV} : ∀ {i : Ins}, evalIns T rec e s i = .panic v s' → canPan i = true := by
 intro i h
 cases i <;> first
  | rfl
  | (exfalso
     simp only [evalIns] at h
     (repeat' split at h) <;> first
      | (cases h; done)
      | exact ofOpt_np h
      | exact ofSt_np h
      | exact ofBoth_np h)

theorem evalOps_true {l : List IOp} : ∀ {e : Env} {s : St} {e' : Env} {s' : St}, evalOps T rec false l e s = .ok .normal e' s' → evalOps T rec true l e s = .ok .normal e' s' := by
 induction l with
 | nil => intro e s e' s' h; exact h
 | cons q l ih =>
  intro e s e' s' h
  simp only [evalOps] at h ⊢
  cases hw : wantedV e q.guard with
  | false => rw [hw] at h; exact ih h
  | true =>
   rw [hw] at h
   simp only [] at h ⊢
   cases hi : evalIns T rec e s q.ins with
   | fail => rw [hi] at h; cases h
   | panic v s1 => rw [hi] at h; cases h
   | val v s1 =>
    rw [hi] at h
    simp only [] at h ⊢
    cases hwt : watchOk e s s1 q.watch with
    | false => rw [hwt] at h; cases h
    | true => rw [hwt] at h; exact ih h

def headW (pre : List DRow) (y : DRow) : IOp := match y.cls with
 | .W => { y.op with watch := watchFor y pre }
 | _ => y.op
theorem watched_cons (pre : List DRow) (y : DRow) (l : List DRow) : watched pre (y :: l) = headW pre y :: watched (pre ++ [y]) l := by
 conv => lhs; unfold watched
 rfl
theorem headW_guard (pre : List DRow) (y : DRow) : (headW pre y).guard = y.op.guard := by unfold headW; cases y.cls <;> rfl
theorem headW_ins (pre : List DRow) (y : DRow) : (headW pre y).ins = y.op.ins := by unfold headW; cases y.cls <;> rfl
theorem headW_dst (pre : List DRow) (y : DRow) : (headW pre y).dst = y.op.dst := by unfold headW; cases y.cls <;> rfl

theorem evalOps_pan : ∀ (rs pre : List DRow) {e : Env} {s : St} {x : Ex} {e' : Env} {s' : St}, evalOps T rec false (watched pre rs) e s = .ok x e' s' → x = .normal ∨ ∃ A y B v, rs = A ++ y :: B ∧ x = .panic v ∧ ∃ sA, evalOps T rec true (watched pre A) e s = .ok .normal e' sA ∧ wantedV e' y.op.guard = true ∧ evalIns T rec e' sA y.op.ins = .panic v s'
 | [], pre, e, s, x, e', s', h => by
  simp only [watched, evalOps] at h
  cases h; exact .inl rfl
 | y :: l, pre, e, s, x, e', s', h => by
  rw [watched_cons] at h
  simp only [evalOps, headW_guard, headW_ins, headW_dst] at h
  cases hg : wantedV e y.op.guard with
  | false =>
   rw [hg] at h
   rcases evalOps_pan l (pre ++ [y]) h with h1 | ⟨A, z, B, v, rfl, rfl, sA, h2, h3, h4⟩
   · exact .inl h1
   · refine .inr ⟨y :: A, z, B, v, rfl, rfl, sA, ?_, h3, h4⟩
     rw [watched_cons]
     simp only [evalOps, headW_guard, headW_ins, headW_dst, hg]
     exact h2
  | true =>
   rw [hg] at h
   simp only [] at h
   cases hi : evalIns T rec e s y.op.ins with
   | fail => rw [hi] at h; cases h
   | panic v s1 =>
    rw [hi] at h
    cases h
    exact .inr ⟨[], y, l, v, rfl, rfl, s, rfl, hg, hi⟩
   | val v s1 =>
    rw [hi] at h
    simp only [] at h
    cases hwt : watchOk e s s1 (headW pre y).watch with
    | false => rw [hwt] at h; cases h
    | true =>
     rw [hwt] at h
     rcases evalOps_pan l (pre ++ [y]) h with h1 | ⟨A, z, B, v', rfl, rfl, sA, h2, h3, h4⟩
     · exact .inl h1
     · refine .inr ⟨y :: A, z, B, v', rfl, rfl, sA, ?_, h3, h4⟩
       rw [watched_cons]
       simp only [evalOps, headW_guard, headW_ins, headW_dst, hg, hi, hwt]
       exact h2

theorem panAll_spec : ∀ {rs pre : List DRow}, panAll pre rs = true → ∀ A y B, rs = A ++ y :: B → canPan y.op.ins = true → (∀ x, x ∈ pre ++ A → x.cls = .N ∨ x.cls = .R ∨ y.bef.testBit x.i = true) ∧ ∀ z, z ∈ B → z.bef.testBit y.i = true
 | [], pre, _, A, y, B, h, _ => by simp at h
 | r :: rs, pre, h, A, y, B, he, hp => by
  simp only [panAll, Bool.and_eq_true] at h
  obtain ⟨h1, h2⟩ := h
  cases A with
  | nil =>
   simp only [List.nil_append, List.cons.injEq] at he
   obtain ⟨rfl, rfl⟩ := he
   simp only [hp, Bool.not_true, Bool.false_or, Bool.and_eq_true, List.all_eq_true] at h1
   refine ⟨fun x hx => ?_, h1.2⟩
   have := h1.1 x (by simpa using hx)
   simp only [Bool.or_eq_true, beq_iff_eq] at this
   rcases this with (h | h) | h
   · exact .inl h
   · exact .inr (.inl h)
   · exact .inr (.inr h)
  | cons a A =>
   simp only [List.cons_append, List.cons.injEq] at he
   obtain ⟨rfl, rfl⟩ := he
   have := panAll_spec h2 A y B rfl hp
   refine ⟨fun x hx => this.1 x (by simpa using hx), this.2⟩

/-- Rows that only look change nothing, and nothing that others ask. -/
theorem pure_rows : ∀ {L : List BOp} {e : Env} {H : Tree AObj} {e' : Env} {H' : Tree AObj}, (∀ q ∈ L, Own q ∧ (q.row.cls = .N ∨ q.row.cls = .R)) → evalB T rec L e H = some (e', H') → H' = H ∧ ∀ t, (∀ q ∈ L, isDst q.dst [t] = false) → opd e' (.t t) = opd e (.t t)
 | [], e, H, e', H', _, h => by simp only [evalB] at h; cases h; exact ⟨rfl, fun _ _ => rfl⟩
 | q :: L, e, H, e', H', hp, h => by
  simp only [evalB] at h
  obtain ⟨ho, hc⟩ := hp q (by simp)
  cases hs : stepB T rec q.op q.b e H with
  | none => rw [hs] at h; cases h
  | some p =>
   obtain ⟨v, s'⟩ := p
   rw [hs] at h
   simp only [] at h
   split at h
   · obtain ⟨h1, h2⟩ := pure_rows (fun q hq => hp q (by simp [hq])) h
     have hH : s'.heap = H := by
      rcases step_inv hs with ⟨_, _, rfl⟩ | ⟨_, hi⟩
      · rfl
      · have hcl := ho.cls
        rcases hc with hc | hc
        · have := (cls_N (by rw [← hcl]; exact hc) hi).1; rw [this]
        · have := (cls_R (by rw [← hcl]; exact hc) hi).1; rw [this]
     refine ⟨by rw [h1, hH], fun t ht => ?_⟩
     rw [h2 t (fun q hq => ht q (by simp [hq]))]
     have hd := ht q (by simp)
     exact opd_put_ne (u := .t t) (dst := q.dst) (e := e) (v := v) (fun t' et => by cases et; exact hd)
   · cases h

theorem draw_pan (hops : ∀ o, OpOk P T rec o) (hT : TameHooks T) (hr : TameRec rec) {ops : Array Oper} {nt : Nat} {ds : List Deferred} {bef : Nat → Nat} (hd : Deps ops bef) {eA : Env} {HA : Tree AObj} {H0 : Tree AObj} {φ0 : Phi} {w0 : World} {Q : Exit → Act → World → Prop}
 {y : DRow} {bA : Nat} {v : AV} {s' : St} {Bs : List Nat} (hy : ∃ o, ops[y.i]? = some o ∧ ofOper P nt ops o = some y.op ∧ y.bef = bef y.i) (hyt : y.tmps = opTmps y.op) (hyw : wantedV eA y.op.guard = true) (hyp : evalIns T rec eA ⟨HA, bA⟩ y.op.ins = .panic v s') (hBs : ∀ i, i ∈ Bs → (bef i).testBit y.i = true)
 (hQ : ∀ φ' a' w' c, Step φ0 ⟨H0, 0⟩ w0 φ' ⟨s'.heap, 0⟩ w' → a'.defers = ds → VRel φ' v c → Q (.panic [{ v := c, recovered := false }]) a' w') :
 ∀ (m : Nat) (L : List BOp) (listed : Array Bool) {e : Env} {H : Tree AObj} {φ : Phi} {a : Act} {w : World}, L.length = m → L.Pairwise Rel2 → (∀ q ∈ L, Own q) → (∀ q ∈ L, FreeR H q) → (∀ q ∈ L, q.n ≤ bA) → (∀ id, bA ≤ id → id < s'.next → H.get id = none) → evalB T rec L e H = some (eA, HA) →
  GlobOk P φ → Step φ0 ⟨H0, 0⟩ w0 φ ⟨H, 0⟩ w → RelEnv nt ds φ e a → (∀ q ∈ L, ∃ o, ops[q.row.i]? = some o ∧ ofOper P nt ops o = some q.row.op ∧ q.row.bef = bef q.row.i) → (∀ q ∈ L, pairOk q.row y = true ∧ (q.row.cls = .N ∨ q.row.cls = .R ∨ y.bef.testBit q.row.i = true)) → (L.map (·.row.i)).Nodup → (∀ q ∈ L, q.row.i ≠ y.i ∧ q.row.i ∉ Bs) →
  listed.size = ops.size → (∀ i, i < ops.size → (listed.getD i true = false ↔ i ∈ L.map (·.row.i) ∨ i = y.i ∨ i ∈ Bs)) → Closed ops listed → ∀ k, wpAny P.toProgram .any ops Q (m + 1 + k) listed a w := by
 intro m
 induction m using Nat.strongRecOn with
 | _ m IH =>
 intro L listed e H φ a w hlen hpw hown hfree hbn hfy hev hg st0 he hrows hpy hnd hdis hsz hls hcl k
 have hs := st0.rel
 obtain ⟨oy, hoy, hofy, hbefy0⟩ := hy
 have hylt := (Array.getElem?_eq_some_iff.1 hoy).1
 have unl : ∀ k, k < ops.size → listed.getD k true = false → listed.getD k false = true → False := by
  intro k hk h1 h2
  rw [getD_in (by rw [hsz]; exact hk) true false, h2] at h1
  cases h1
 have hyu := (hls y.i hylt).2 (.inr (.inl rfl))
 have hm1 : m + 1 + k = (m + k) + 1 := by omega
 rw [hm1]
 refine ⟨fun hnil => ?_, fun i hi => ?_⟩
 · exfalso
   have hex : ∃ i0, i0 < ops.size ∧ listed.getD i0 true = false ∧ ∀ j, j < i0 → listed.getD j true = true := by
    have key : ∀ n, n < ops.size → listed.getD n true = false → ∃ i0, i0 < ops.size ∧ listed.getD i0 true = false ∧ ∀ j, j < i0 → listed.getD j true = true := by
     intro n
     induction n using Nat.strongRecOn with
     | _ n ih =>
      intro hn h
      by_cases hx : ∃ j, j < n ∧ listed.getD j true = false
      · obtain ⟨j, hj, hj2⟩ := hx
        exact ih j hj (by omega) hj2
      · refine ⟨n, hn, h, fun j hj => ?_⟩
        cases hv : listed.getD j true with
        | true => rfl
        | false => exact absurd ⟨j, hj, hv⟩ hx
    exact key y.i hylt hyu
   obtain ⟨i0, h1, h2, h3⟩ := hex
   have ho : ∃ o, ops[i0]? = some o := ⟨ops[i0], Array.getElem?_eq_getElem h1⟩
   obtain ⟨o, ho⟩ := ho
   have : i0 ∈ Region.ready .any ops listed := by
    refine mem_ready.2 ⟨h2, o, ho, fun ed hed hb => ?_⟩
    have hlt' := hd.back i0 o ho ed hed hb
    rw [getD_in (by rw [hsz]; omega) false true]
    exact h3 _ hlt'
   rw [hnil] at this
   cases this
 · obtain ⟨h0, o, ho, hdeps⟩ := mem_ready.1 hi
   have hlt := (Array.getElem?_eq_some_iff.1 ho).1
   have befL : ∀ k, (bef i).testBit k = true → listed.getD k false = true := by
    intro k hk
    obtain ⟨o2, ho2, ed, hed, hbd, h⟩ := hd.bef _ _ hk
    rw [ho] at ho2
    cases ho2
    have hl1 := hdeps ed hed hbd
    rcases h with h | h
    · rw [← h]; exact hl1
    · exact hd.reach hcl _ hl1 _ h
   rcases (hls i hlt).1 h0 with hmem | hiy | hB
   · -- one of those before it
     obtain ⟨q, hq, hqi⟩ := List.mem_map.1 hmem
     obtain ⟨A, B, rfl⟩ := List.append_of_mem hq
     obtain ⟨o', ho', hofo, hbefq⟩ := hrows q hq
     rw [hqi, ho] at ho'
     cases ho'
     obtain ⟨g, hgd, hop, hdst⟩ := ofOper_spec hofo
     have hpA := List.pairwise_append.1 hpw
     have hpB := List.pairwise_cons.1 hpA.2.1
     have hunord : ∀ x ∈ A, q.row.bef.testBit x.row.i = false := by
      intro x hx
      cases hb : q.row.bef.testBit x.row.i with
      | false => rfl
      | true =>
       exfalso
       rw [hbefq, hqi] at hb
       obtain ⟨ox, hox, _, _⟩ := hrows x (by simp [hx])
       have hltx := (Array.getElem?_eq_some_iff.1 hox).1
       exact unl _ hltx ((hls x.row.i hltx).2 (.inl (List.mem_map.2 ⟨x, by simp [hx], rfl⟩))) (befL _ hb)
     obtain ⟨u, sy, g1, g2, g3, _⟩ := move hT hr A (fun x hx => hpA.2.2 x hx q (by simp)) (fun x hx => hown x (by simp [hx])) (hown q hq) hpA.1 hunord (fun x hx => hfree x (by simp [hx])) (hfree q hq) hev
     have hgood := step_good hT hr g1
     have hofr : ∀ z ∈ A ++ B, FreeR sy.heap z := by
      intro z hz
      rcases List.mem_append.1 hz with hz | hz
      · exact good_freeR hgood (hfree z (by simp [hz])) (.inr (hpA.2.2 z hz q (by simp)).le)
      · exact good_freeR hgood (hfree z (by simp [hz])) (.inl (by rw [g2]; exact (hpB.1 z hz).le))
     have hfy' : ∀ id, bA ≤ id → id < s'.next → sy.heap.get id = none := by
      intro id h1 h2
      refine hgood.none (hfy id h1 h2) ?_
      have := hbn q hq
      show ¬ (q.b ≤ id ∧ id < sy.next)
      rw [g2]
      omega
     have hsub : ∀ z, z ∈ A ++ B → z ∈ A ++ q :: B := by
      intro z hz
      rcases List.mem_append.1 hz with hz | hz <;> simp [hz]
     have hpw2 : (A ++ B).Pairwise Rel2 := List.pairwise_append.2 ⟨hpA.1, hpB.2, fun x hx z hz => hpA.2.2 x hx z (by simp [hz])⟩
     have hnd' : ((A ++ B).map (·.row.i)).Nodup ∧ i ∉ (A ++ B).map (·.row.i) := by
      simp only [List.map_append, List.map_cons] at hnd
      have h1 := List.nodup_append.1 hnd
      have h2 := List.nodup_cons.1 h1.2.1
      rw [List.map_append]
      refine ⟨List.nodup_append.2 ⟨h1.1, h2.2, fun x hx z hz => h1.2.2 x hx z (by simp [hz])⟩, ?_⟩
      rw [← hqi]
      intro hm
      rcases List.mem_append.1 hm with hm | hm
      · exact h1.2.2 _ hm _ (by simp) rfl
      · exact h2.1 hm
     -- whether the one that panics, or one behind it, has the same number
     have hsame : ¬ (i = y.i ∨ i ∈ Bs) := by
      have := hdis q hq
      rw [hqi] at this
      rintro (h | h)
      · exact this.1 h
      · exact this.2 h
     have hm0 : ∃ m', m = m' + 1 := by
      refine ⟨m - 1, ?_⟩
      simp at hlen
      omega
     obtain ⟨m', rfl⟩ := hm0
     have next : ∀ (c : Value) (φ1 : Phi) (w1 : World), Step φ ⟨H, 0⟩ w φ1 ⟨sy.heap, 0⟩ w1 → VRel φ1 u c → wpAny P.toProgram .any ops Q (m' + 1 + k) (listed.setIfInBounds i true) (a.put o.dst c) w1 := by
      intro c φ1 w1 st hv
      have hdo : q.dst = o.dst := by show q.row.op.dst = _; rw [hop]
      refine IH m' (by omega) (A ++ B) _ (e := putV e q.dst u) (H := sy.heap) (φ := φ1) (by simp at hlen ⊢; omega) hpw2 (fun z hz => hown z (hsub z hz)) hofr (fun z hz => hbn z (hsub z hz)) hfy' g3 (hg.mono st.le) (st0.trans st) ?_ (fun z hz => hrows z (hsub z hz)) (fun z hz => hpy z (hsub z hz)) hnd'.1 (fun z hz => hdis z (hsub z hz)) (by simpa using hsz) ?_ ?_ k
      · rw [hdo]; exact relEnv_put (he.mono st.le) hdst hv
      · intro j hj
        by_cases hji : j = i
        · subst hji
          constructor
          · intro h
            exfalso
            simp [Array.getD_eq_getD_getElem?, hsz, hj] at h
          · rintro (h | h)
            · exact absurd h hnd'.2
            · exact absurd h hsame
        · rw [getD_set_ne true (fun h => hji h.symm), hls j hj]
          simp only [List.map_append, List.map_cons, List.mem_append, List.mem_cons]
          rw [hqi]
          constructor
          · rintro ((h | h | h) | h)
            · exact .inl (.inl h)
            · exact absurd h hji
            · exact .inl (.inr h)
            · exact .inr h
          · rintro ((h | h) | h)
            · exact .inl (.inl h)
            · exact .inl (.inr (.inr h))
            · exact .inr h
      · intro j hj o2 ho2 ed hed hbd
        refine getD_set_true ?_
        by_cases hji : j = i
        · subst hji
          rw [ho] at ho2
          cases ho2
          exact hdeps ed hed hbd
        · rw [getD_set_ne false (fun h => hji h.symm)] at hj
          exact hcl j hj o2 ho2 ed hed hbd
     have hmk : m' + 1 + k = m' + 1 + k := rfl
     unfold wpOp
     rw [ho]
     simp only []
     rw [wanted_rel he hgd]
     have hgy : q.op.guard = g := by show q.row.op.guard = _; rw [hop]
     have hiy : q.op.ins = ofOp P o := by show q.row.op.ins = _; rw [hop]
     rcases step_inv g1 with ⟨k1, rfl, rfl⟩ | ⟨k1, k2⟩
     · rw [hgy] at k1
       rw [k1]
       simp only [Bool.false_eq_true, if_false]
       exact next undef φ w (.refl hs) (.tuple (l' := []) .nil)
     · rw [hgy] at k1
       rw [k1]
       simp only [if_true]
       refine .inl ?_
       rw [hiy] at k2
       refine hops o hg he (hs.at (c := q.b)) k2 (by simp) ?_ ?_
       · intro id q1 q2
         refine hfree q hq id q1 ?_
         rw [← g2]; exact q2
       · intro c w1 φ1 st hv
         exact next c φ1 w1 st.at hv
   · -- the one that panics
     subst hiy
     rw [hoy] at ho
     cases ho
     obtain ⟨g, hgd, hop, hdst⟩ := ofOper_spec hofy
     have hun : ∀ q ∈ L, y.bef.testBit q.row.i = false := by
      intro q hq
      cases hb : y.bef.testBit q.row.i with
      | false => rfl
      | true =>
       exfalso
       rw [hbefy0] at hb
       obtain ⟨ox, hox, _, _⟩ := hrows q hq
       have hltx := (Array.getElem?_eq_some_iff.1 hox).1
       exact unl _ hltx ((hls q.row.i hltx).2 (.inl (List.mem_map.2 ⟨q, hq, rfl⟩))) (befL _ hb)
     obtain ⟨hH, hT2⟩ := pure_rows (fun q hq => ⟨hown q hq, by
      rcases (hpy q hq).2 with h | h | h
      · exact .inl h
      · exact .inr h
      · rw [hun q hq] at h; cases h⟩) hev
     have hsame : ∀ t, t ∈ opTmps y.op → opd eA (.t t) = opd e (.t t) := by
      intro t ht
      refine hT2 t fun q hq => ?_
      obtain ⟨_, _, h3⟩ := pairOk_spec (hpy q hq).1
      rcases h3 with h | ⟨_, h, _⟩
      · rw [hun q hq] at h; cases h
      · rw [hyt] at h
        cases hx : isDst q.dst [t] with
        | false => rfl
        | true =>
         exfalso
         have : isDst q.row.op.dst (opTmps y.op) = true := by
          cases hdd : q.row.op.dst with
          | none =>
           have : q.dst = none := hdd
           rw [this] at hx; cases hx
          | some d =>
           have : q.dst = some d := hdd
           rw [this] at hx
           simp [isDst] at hx
           subst hx
           simpa [isDst] using ht
         rw [this] at h; cases h
     have hwt : wantedV e y.op.guard = true := by
      cases hgg : y.op.guard with
      | none => rfl
      | some p =>
       obtain ⟨t, b⟩ := p
       rw [hgg] at hyw
       simp only [wantedV] at hyw ⊢
       rw [← hsame t (by simp [opTmps, hgg])]
       exact hyw
     have hin : evalIns T rec e ⟨HA, bA⟩ y.op.ins = .panic v s' := by
      rw [← hyp]
      refine (evalIns_congr (opd_of_tmp fun t ht => ?_)).symm
      refine hsame t ?_
      unfold opTmps
      split
      · simp [ht]
      · exact ht
     subst hH
     unfold wpOp
     rw [hoy]
     simp only []
     have hgy : y.op.guard = g := by rw [hop]
     have hiy : y.op.ins = ofOp P oy := by rw [hop]
     rw [wanted_rel he hgd, ← hgy, hwt]
     simp only [if_true]
     refine .inl ?_
     rw [hiy] at hin
     refine hops oy hg he (hs.at (c := bA)) hin (by simp) (fun id h1 h2 => hfy id h1 h2) ?_
     intro c w1 φ1 st hv
     exact hQ φ1 a w1 c (st0.trans (Step.at (H := HA) (H' := s'.heap) st)) he.defs hv
   · -- one behind it
     exact (unl y.i hylt hyu (befL _ (hBs i hB))).elim

theorem litOper_watch {P : Prog} {nt : Nat} {ops : Array Oper} {G : Lit} {i : Nat} {o : Oper} {x : IOp} (h : litOper P nt ops G i o = some x) : x.watch = [] := by
 unfold litOper at h
 split at h
 · cases h; rfl
 · split at h
   · cases h; rfl
   · obtain ⟨g, _, rfl, _⟩ := ofOper_spec h
     rfl

theorem litRow_spec {nt : Nat} {ops : Array Oper} {G : Lit} {bef : Array Nat} {i : Nat} {r : DRow} (h : litRow P nt ops G bef i = some r) : ∃ o, ops[i]? = some o ∧ litOper P nt ops G i o = some r.op ∧ r.i = i ∧ r.tmps = opTmps r.op ∧ r.cls = clsIns r.op.ins ∧ r.bef = bef.getD i 0 := by
 unfold litRow at h
 split at h
 · cases h
 · rename_i o ho
   split at h
   · rename_i x hx
     cases h
     exact ⟨o, ho, hx, rfl, rfl, rfl, rfl⟩
   · cases h

theorem litRows_spec {nt : Nat} {ops : Array Oper} {G : Lit} {bef : Array Nat} : ∀ {l : List Nat} {rs : List DRow}, litRows P nt ops G bef l = some rs → rs.map (·.i) = l ∧ ∀ r ∈ rs, litRow P nt ops G bef r.i = some r
 | [], rs, h => by simp only [litRows] at h; cases h; exact ⟨rfl, by simp⟩
 | i :: l, rs, h => by
  simp only [litRows] at h
  split at h
  · rename_i x r hx hr
    cases h
    obtain ⟨h1, h2⟩ := litRows_spec hr
    obtain ⟨_, _, _, hi, _⟩ := litRow_spec hx
    refine ⟨by simp [h1, hi], fun q hq => ?_⟩
    rcases List.mem_cons.1 hq with rfl | hq
    · rw [hi]; exact hx
    · exact h2 q hq
  · cases h

theorem lit_region (hm : P.follows .mixedOrders = true) (hops : ∀ o, OpOk P T rec o) (hT : TameHooks T) (hr : TameRec rec) {nt : Nat} {ops : Array Oper} {Q : Exit → Act → World → Prop} {id : Nat} {e : Env} {s : St} {x : Ex} {e' : Env} {s' : St}
 (hev : evalC T rec (litRegion P nt ops) e s = .ok x e' s') {ds : List Deferred} {φ : Phi} {a : Act} {w : World} (hg : GlobOk P φ) (hs : RelSt φ s w) (he : RelEnv nt ds φ e a) (hf : FreeIn s s.next s'.next) (hq : ExPost nt ds φ s w x e' s' Q) : (Code.region id ops true).wp P.toProgram Q a w := by
 unfold litRegion at hev
 split at hev
 · simp only [evalC] at hev; cases hev
 · rename_i G hG
   simp only [] at hev
   split at hev
   · rename_i rs hrs
     split at hev
     · rename_i hc
       simp only [Bool.and_eq_true] at hc
       obtain ⟨⟨⟨⟨hperm, hlt⟩, hrok⟩, hback⟩, hlit⟩ := hc
       simp only [isPerm, Bool.and_eq_true, decide_eq_true_eq, List.all_eq_true, List.mem_range, List.contains_eq_mem] at hperm hlt
       obtain ⟨hC, hne⟩ := litOk_spec hlit
       have hF := litOf_spec hG
       have hd : Deps ops (fun j => (Region.before ops).getD j 0) := ⟨backOk_spec hback, before_deps ops⟩
       obtain ⟨hi1, hi2⟩ := litRows_spec hrs
       obtain ⟨hpw, hself⟩ := rowsOk_spec hrok
       simp only [evalC] at hev
       obtain ⟨e1, s1, hev1, hev2⟩ := evalOps_app hev
       obtain ⟨rfl, rfl, _⟩ := tail_eval hC hne hev2
       obtain ⟨_, L, h1, h2, h3, _, h5⟩ := evalB_of hT hr rs [] hev1 (fun r hr => by
        obtain ⟨o, ho, h1, h2, h3, h4, h5⟩ := litRow_spec (hi2 r hr)
        exact ⟨hself r hr, h4, h3, litOper_watch h1⟩) hpw (by simp) (by simp)
       have hmap : L.map (·.row.i) = orderGo ops (litCls P ops G) (Region.before ops) ops.size (List.range (ops.size - 2)) [] := by
        rw [← hi1, ← h1, List.map_map]; rfl
       have hlen : L.length = ops.size - 2 := by
        have := congrArg List.length hmap
        rw [List.length_map] at this
        rw [this]; exact hperm.1.1
       refine wp_region_any hm ?_
       have st0 : Step φ s w φ s { w with drawn := w.drawn + 1 } := .same hs rfl rfl rfl rfl
       have h2' := hC.two
       have key := draw_lit hops hT hr (Q := Q) hd hF hC (φ0 := φ) (w0 := w) (H0 := s.heap) (e' := e1) (H' := s'.heap) (ds := ds) (fun listed φ' a' w' hg' st' he' hgi' hsz' hls' hcl' =>
        lit_end hd hF hC hne hev2 hg' he' hgi' hsz' hls' hcl' fun a2 he2 => hq φ' a2 w' (Step.at (H := s.heap) (H' := s'.heap) st') he2) (ops.size - 2) L (Array.replicate ops.size false) (e := e) (H := s.heap) (φ := φ) (a := a) (w := { w with drawn := w.drawn + 1 }) hlen h2 (fun q hq => (h3 q hq).1) ?_ h5 hg (st0.at (H := s.heap)) he ?_ ?_ ?_ (by simp) ?_ ?_
       · have e2 : ops.size - 2 + 2 = ops.size := by omega
         rw [e2] at key
         exact key
       · intro q hq id g1 g2
         have := h3 q hq
         exact hf id (by omega) (by omega)
       · intro h
         rw [Array.getD_eq_getD_getElem?, Array.getElem?_replicate] at h
         split at h <;> simp at h
       · intro q hq
         have hqr : q.row ∈ rs := by rw [← h1]; exact List.mem_map_of_mem hq
         obtain ⟨o, ho, k1, k2, k3, k4, k5⟩ := litRow_spec (hi2 q.row hqr)
         refine ⟨o, ho, k1, k5, ?_⟩
         refine hlt _ ?_
         rw [← hmap]
         exact List.mem_map.2 ⟨q, hq, rfl⟩
       · rw [hmap]; exact nodupB_spec hperm.2
       · intro i hi
         rw [hmap]
         have : (Array.replicate ops.size false).getD i true = false := by simp [Array.getD_eq_getD_getElem?, hi]
         rw [this]
         simp only [true_iff]
         by_cases h : i < ops.size - 2
         · exact .inl (by simpa using hperm.1.2 i h)
         · by_cases h' : i = ops.size - 2
           · exact .inr (.inl h')
           · exact .inr (.inr (by omega))
       · intro k hk
         exfalso
         rw [Array.getD_eq_getD_getElem?, Array.getElem?_replicate] at hk
         split at hk <;> simp at hk
     · simp only [evalC] at hev; cases hev
   · simp only [evalC] at hev; cases hev

theorem draw_rows (hm : P.follows .mixedOrders = true) (hops : ∀ o, OpOk P T rec o) (hT : TameHooks T) (hr : TameRec rec) {nt : Nat} {ops : Array Oper} {Q : Exit → Act → World → Prop} {id : Nat} {e : Env} {s : St} {x : Ex} {e' : Env} {s' : St} {rs : List DRow} (hrs : rowsOf P nt ops (Region.before ops) (orderGo ops (clsAt P ops) (Region.before ops) ops.size (List.range ops.size) []) = some rs)
 (hperm0 : isPerm ops.size (orderGo ops (clsAt P ops) (Region.before ops) ops.size (List.range ops.size) []) = true) (hrok : rowsOk rs = true) (hback : backOk ops = true) (hev : evalOps T rec true (watched [] rs) e s = .ok x e' s') {ds : List Deferred} {φ : Phi} {a : Act} {w : World}
 (hg : GlobOk P φ) (hs : RelSt φ s w) (he : RelEnv nt ds φ e a) (hf : FreeIn s s.next s'.next) (hq : ExPost nt ds φ s w x e' s' Q) : (Code.region id ops true).wp P.toProgram Q a w := by
 have hperm := hperm0
 simp only [isPerm, Bool.and_eq_true, decide_eq_true_eq, List.all_eq_true, List.mem_range, List.contains_eq_mem] at hperm
 obtain ⟨hi1, hi2⟩ := rowsOf_spec hrs
 obtain ⟨hpw, hself⟩ := rowsOk_spec hrok
 obtain ⟨hx, L, h1, h2, h3, _, h5⟩ := evalB_of hT hr rs [] hev (fun r hr => by
  obtain ⟨o, ho, h1, h2, h3, h4, h5⟩ := mkRow_spec (hi2 r hr)
  obtain ⟨g, _, hop, _⟩ := ofOper_spec h1
  exact ⟨hself r hr, h4, h3, by rw [hop]⟩) hpw (by simp) (by simp)
 subst hx
 have hmap : L.map (·.row.i) = orderGo ops (clsAt P ops) (Region.before ops) ops.size (List.range ops.size) [] := by
  rw [← hi1, ← h1, List.map_map]; rfl
 have hlen : L.length = ops.size := by
  have := congrArg List.length hmap
  rw [List.length_map] at this
  rw [this]; exact hperm.1.1
 refine wp_region_any hm ?_
 have st0 : Step φ s w φ s { w with drawn := w.drawn + 1 } := .same hs rfl rfl rfl rfl
 refine draw_any (ds := ds) hops hT hr (bef := fun j => (Region.before ops).getD j 0) ⟨backOk_spec hback, before_deps ops⟩ ops.size L _ (e := e) (H := s.heap) hlen h2 (fun q hq => (h3 q hq).1) ?_ h5 hg (st0.rel.at (H := s.heap)) he ?_ ?_ (by simp) ?_ ?_ ?_
 · intro q hq id g1 g2
   have := h3 q hq
   exact hf id (by omega) (by omega)
 · intro q hq
   have hqr : q.row ∈ rs := by rw [← h1]; exact List.mem_map_of_mem hq
   obtain ⟨o, ho, k1, k2, k3, k4, k5⟩ := mkRow_spec (hi2 q.row hqr)
   exact ⟨o, ho, k1, k5⟩
 · rw [hmap]; exact nodupB_spec hperm.2
 · intro i hi
   rw [hmap]
   have hin := hperm.1.2 i hi
   simp [Array.getD_eq_getD_getElem?, hi, hin]
 · intro k hk
   exfalso
   rw [Array.getD_eq_getD_getElem?, Array.getElem?_replicate] at hk
   split at hk <;> simp at hk
 · intro φ' a' w' st' he'
   exact hq φ' a' w' (st0.trans (Step.at (H := s.heap) (H' := s'.heap) st')) he'

theorem draw_rowsP (hm : P.follows .mixedOrders = true) (hops : ∀ o, OpOk P T rec o) (hT : TameHooks T) (hr : TameRec rec) {nt : Nat} {ops : Array Oper} {Q : Exit → Act → World → Prop} {id : Nat} {e : Env} {s : St} {v : AV} {e0 e' : Env} {s' : St} {rs : List DRow} (hrs : rowsOf P nt ops (Region.before ops) (orderGo ops (clsAt P ops) (Region.before ops) ops.size (List.range ops.size) []) = some rs)
 (hperm0 : isPerm ops.size (orderGo ops (clsAt P ops) (Region.before ops) ops.size (List.range ops.size) []) = true) (hrok : rowsOk rs = true) (hback : backOk ops = true) (hpan : panAll [] rs = true) (hev : evalOps T rec false (watched [] rs) e s = .ok (.panic v) e0 s') {ds : List Deferred} {φ : Phi} {a : Act} {w : World}
 (hg : GlobOk P φ) (hs : RelSt φ s w) (he : RelEnv nt ds φ e a) (hf : FreeIn s s.next s'.next) (hq : ExPost nt ds φ s w (.panicW v) e' s' Q) : (Code.region id ops true).wp P.toProgram Q a w := by
 have hperm := hperm0
 simp only [isPerm, Bool.and_eq_true, decide_eq_true_eq, List.all_eq_true, List.mem_range, List.contains_eq_mem] at hperm
 obtain ⟨hi1, hi2⟩ := rowsOf_spec hrs
 obtain ⟨hpw, hself⟩ := rowsOk_spec hrok
 rcases evalOps_pan rs [] hev with h | ⟨A, y, B, v', rfl, hv', sA, hA, hyw, hyp⟩
 · cases h
 cases hv'
 have hpwA := List.pairwise_append.1 hpw
 have rok : ∀ r ∈ A ++ y :: B, RowOk r := fun r hr => by
  obtain ⟨o, ho, h1, h2, h3, h4, h5⟩ := mkRow_spec (hi2 r hr)
  obtain ⟨g, _, hop, _⟩ := ofOper_spec h1
  exact ⟨hself r hr, h4, h3, by rw [hop]⟩
 obtain ⟨_, L, h1, h2, h3, _, h5⟩ := evalB_of hT hr A [] hA (fun r hr => rok r (by simp [hr])) hpwA.1 (by simp) (by simp)
 have hps := panAll_spec hpan A y B rfl (pan_can hyp)
 have hLmap : L.map (·.row.i) = A.map (·.i) := by rw [← h1, List.map_map]; rfl
 have hLlen : L.length = A.length := by rw [← h1, List.length_map]
 have hord : (A ++ y :: B).map (·.i) = orderGo ops (clsAt P ops) (Region.before ops) ops.size (List.range ops.size) [] := hi1
 have hlen : A.length + 1 + B.length = ops.size := by
  have := congrArg List.length hord
  rw [List.length_map, hperm.1.1] at this
  simp at this
  omega
 have hnd := nodupB_spec hperm.2
 rw [← hord] at hnd
 simp only [List.map_append, List.map_cons] at hnd
 have hnd1 := List.nodup_append.1 hnd
 have hgA := (ops_tame hT hr _ _ _ hA).1
 have tm := ins_tame hT hr (e := e0) (s := sA) (i := y.op.ins)
 unfold Tame at tm
 simp only [hyp, Res.st] at tm
 have hgY := (tm (by simp)).1
 have n1 := hgA.next
 have n2 := hgY.next
 obtain ⟨oy, hoy, k1, k2, k3, k4, k5⟩ := mkRow_spec (hi2 y (by simp))
 refine wp_region_any hm ?_
 have st0 : Step φ s w φ s { w with drawn := w.drawn + 1 } := .same hs rfl rfl rfl rfl
 have key := draw_pan (ds := ds) hops hT hr (nt := nt) (Q := Q) (bef := fun j => (Region.before ops).getD j 0) ⟨backOk_spec hback, before_deps ops⟩ (eA := e0) (HA := sA.heap) (H0 := s.heap) (φ0 := φ) (w0 := { w with drawn := w.drawn + 1 }) (y := y) (bA := sA.next) (v := v) (s' := s') (Bs := B.map (·.i))
  ⟨oy, hoy, k1, k5⟩ k3 hyw hyp (fun i hi => by
   obtain ⟨z, hz, rfl⟩ := List.mem_map.1 hi
   have := hps.2 z hz
   obtain ⟨_, _, _, _, _, _, q5⟩ := mkRow_spec (hi2 z (by simp [hz]))
   rwa [q5] at this)
  (fun φ' a' w' c st' hdf hv => hq φ' a' w' (st0.trans (Step.at (H := s.heap) (H' := s'.heap) st')) hdf c hv)
  A.length L (Array.replicate ops.size false) (e := e) (H := s.heap) (φ := φ) (a := a) (w := { w with drawn := w.drawn + 1 }) hLlen h2 (fun q hq => (h3 q hq).1) ?_ (fun q hq => (h3 q hq).2.2) ?_ h5 hg (Step.refl (st0.rel.at (H := s.heap))) he ?_ ?_ ?_ ?_ (by simp) ?_ ?_ B.length
 · rw [hlen] at key
   exact key
 · intro q hq id g1 g2
   have := h3 q hq
   exact hf id (by omega) (by omega)
 · intro id g1 g2
   exact hf id (by omega) g2
 · intro q hq
   have hqr : q.row ∈ A := by rw [← h1]; exact List.mem_map_of_mem hq
   obtain ⟨o, ho, k1, k2, k3, k4, k5⟩ := mkRow_spec (hi2 q.row (by simp [hqr]))
   exact ⟨o, ho, k1, k5⟩
 · intro q hq
   have hqr : q.row ∈ A := by rw [← h1]; exact List.mem_map_of_mem hq
   exact ⟨hpwA.2.2 _ hqr y (by simp), hps.1 _ (by simpa using hqr)⟩
 · rw [hLmap]; exact hnd1.1
 · intro q hq
   have hqr : q.row ∈ A := by rw [← h1]; exact List.mem_map_of_mem hq
   have hqm : q.row.i ∈ A.map (·.i) := List.mem_map_of_mem hqr
   exact ⟨fun h => hnd1.2.2 _ hqm _ (by simp) h, fun h => hnd1.2.2 _ hqm _ (by simp only [List.mem_cons]; exact .inr h) rfl⟩
 · intro i hi
   have hin := hperm.1.2 i hi
   rw [← hord] at hin
   simp only [decide_eq_true_eq, List.map_append, List.map_cons, List.mem_append, List.mem_cons] at hin
   have : (Array.replicate ops.size false).getD i true = false := by simp [Array.getD_eq_getD_getElem?, hi]
   rw [this, hLmap]
   simp only [true_iff]
   exact hin
 · intro k hk
   exfalso
   rw [Array.getD_eq_getD_getElem?, Array.getElem?_replicate] at hk
   split at hk <;> simp at hk

theorem draw_ok (hm : P.follows .mixedOrders = true) (hops : ∀ o, OpOk P T rec o) (hT : TameHooks T) (hr : TameRec rec) : DrawOk P T rec := by
 intro nt ops Q id e s x e' s' hev ds φ a w hg hs he hf hq
 simp only [ofRegion] at hev
 split at hev
 · rename_i rs hrs
   split at hev
   · rename_i hc
     simp only [Bool.and_eq_true] at hc
     obtain ⟨⟨hperm, hrok⟩, hback⟩ := hc
     split at hev
     · rename_i hp
       simp only [Bool.and_eq_true] at hp
       simp only [evalC] at hev
       cases ho : evalOps T rec false (watched [] rs) e s with
       | fail => rw [ho] at hev; cases hev
       | ok x0 e0 s0 =>
        rw [ho] at hev
        rcases evalOps_pan rs [] ho with rfl | ⟨A, y, B, v, _, rfl, _⟩
        · simp only [] at hev
          cases hev
          exact draw_rows hm hops hT hr hrs hperm hrok hback (evalOps_true ho) hg hs he hf hq
        · simp only [] at hev
          cases hev
          exact draw_rowsP hm hops hT hr hrs hperm hrok hback hp.2 ho hg hs he hf hq
     · simp only [evalC] at hev
       exact draw_rows hm hops hT hr hrs hperm hrok hback hev hg hs he hf hq
   · exact lit_region hm hops hT hr hev hg hs he hf hq
 · exact lit_region hm hops hT hr hev hg hs he hf hq

/-- The evaluator is sound. -/
theorem eval_sound (hm : P.follows .mixedOrders = true) (hP : TabOk P T) (hT : TameHooks T) (n : Nat) : FuncsOk P T (evalN T n) :=
 funcs_ok hP (evalN_ok hP hT (fun _ h1 h2 => draw_ok hm h1 hT h2) n).1
end
end Go.V
