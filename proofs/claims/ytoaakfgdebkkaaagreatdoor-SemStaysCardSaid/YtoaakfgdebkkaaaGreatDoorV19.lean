/- SOUNDNESS: regions in one order, code, functions. -/
import Derived.Test.YtoaakfgdebkkaaaGreatDoorVB
import Derived.LoopN
import Derived.Scope
set_option linter.unusedVariables false
set_option linter.unusedSimpArgs false
set_option linter.unusedSectionVars false
/- SOUNDNESS: regions in one order, code, functions. -/
namespace Go.V
open Go

section
variable {P : Prog} {T : Tab} {rec : Rec}

theorem Good.free {s s1 : St} {n : Nat} (hg : Good s s1) (hf : FreeIn s s.next n) : FreeIn s1 s1.next n := by
 intro id h1 h2
 have := hg.next
 cases h : s1.heap.get id with
 | none => rfl
 | some o =>
  rcases hg.new id (by rw [h]; rfl) with x | x
  · rw [hf id (by omega) h2] at x; cases x
  · omega

theorem FreeIn.less {s : St} {n m k : Nat} (hf : FreeIn s n m) (h : k ≤ m) : FreeIn s n k := fun id a b => hf id a (by omega)

theorem opd_put {e : Env} {d i : Nat} {v : AV} : opd (putV e (some d) v) (.t i) = if i = d then v else opd e (.t i) := by
 simp only [opd, putV, Tree.get_set]
 split
 · rename_i o ho
   split at ho
   · rename_i h; rw [if_pos h]; cases ho; rfl
   · rename_i h; rw [if_neg h, ho]
 · rename_i ho
   split at ho
   · cases ho
   · rename_i h; rw [if_neg h, ho]

theorem relEnv_put {nt : Nat} {ds : List Deferred} {φ : Phi} {e : Env} {a : Act} {dst : Option Nat} {v : AV} {c : Value} (h : RelEnv nt ds φ e a) (hd : ∀ d, dst = some d → d < nt) (hv : VRel φ v c) : RelEnv nt ds φ (putV e dst v) (a.put dst c) := by
 cases dst with
 | none => exact h
 | some d =>
  have hlt := hd d rfl
  refine ⟨by simpa [Act.put] using h.size, fun i => ?_, h.defs⟩
  rw [opd_put]
  have hs : d < a.tmps.size := by rw [h.size]; exact hlt
  simp only [Act.put, Array.getD_eq_getD_getElem?, Array.getElem?_setIfInBounds]
  by_cases hi : i = d
  · subst hi
    simp only [if_true, hs]
    exact hv
  · have : ¬ d = i := fun x => hi x.symm
    simp only [hi, this, if_false]
    have := h.val i
    rwa [Array.getD_eq_getD_getElem?] at this

theorem wanted_rel {nt : Nat} {ds : List Deferred} {φ : Phi} {e : Env} {a : Act} {ops : Array Oper} {o : Oper} {g : Option (Nat × Bool)} (h : RelEnv nt ds φ e a) (hg : ofGuard ops o.guard = some g) : Region.wanted o (yielded ops a.tmps) = wantedV e g := by
 unfold ofGuard at hg
 unfold Region.wanted
 cases ho : o.guard with
 | none => rw [ho] at hg; cases hg; rfl
 | some p =>
  obtain ⟨j, b⟩ := p
  rw [ho] at hg
  simp only [] at hg ⊢
  cases hd : (ops[j]?).bind (·.dst) with
  | none => rw [hd] at hg; cases hg
  | some d =>
   rw [hd] at hg
   cases hg
   have hv := h.val d
   rw [Array.getD_eq_getD_getElem?] at hv
   simp only [wantedV, yielded, hd, Option.bind_some]
   cases ht : a.tmps[d]? with
   | none =>
    rw [ht] at hv
    cases hq : opd e (.t d) <;> rw [hq] at hv <;> first | rfl | cases hv
   | some c =>
    rw [ht] at hv
    simp only [Option.getD_some] at hv
    cases hq : opd e (.t d) <;> rw [hq] at hv <;> cases hv <;> rfl

theorem ofOper_spec {nt : Nat} {ops : Array Oper} {o : Oper} {x : IOp} (h : ofOper P nt ops o = some x) : ∃ g, ofGuard ops o.guard = some g ∧ x = ⟨o.dst, g, [], ofOp P o⟩ ∧ ∀ d, o.dst = some d → d < nt := by
 unfold ofOper at h
 split at h
 · cases h
 · rename_i g hg
   cases hd : o.dst with
   | none =>
    rw [hd] at h
    cases h
    exact ⟨g, hg, rfl, fun d hdd => by cases hdd⟩
   | some d =>
    rw [hd] at h
    simp only [decide_eq_true_eq] at h
    split at h
    · rename_i hlt
      cases h
      exact ⟨g, hg, rfl, fun d' hdd => by cases hdd; exact hlt⟩
    · cases h

/-- What is to hold behind a part of the code. -/
def ExPost (nt : Nat) (ds : List Deferred) (φ : Phi) (s : St) (w : World) (x : Ex) (e' : Env) (s' : St) (Q : Exit → Act → World → Prop) : Prop :=
 ∀ φ' a' w', Step φ s w φ' s' w' → (match x with | .panicW _ => a'.defers = ds | _ => RelEnv nt ds φ' e' a') → match x with
  | .normal => Q .normal a' w'
  | .exit k => Q (.exit k) a' w'
  | .goto l => Q (.goto l) a' w'
  | .ret => Q .ret a' w'
  | .panic v => ∀ c, VRel φ' v c → Q (.panic [{ v := c, recovered := false }]) a' w'
  | .panicW v => ∀ c, VRel φ' v c → Q (.panic [{ v := c, recovered := false }]) a' w'

theorem ExPost.behind {nt : Nat} {ds : List Deferred} {φ φ1 : Phi} {s s1 s' : St} {w w1 : World} {x : Ex} {e' : Env} {Q : Exit → Act → World → Prop} (h : ExPost nt ds φ s w x e' s' Q) (st : Step φ s w φ1 s1 w1) : ExPost nt ds φ1 s1 w1 x e' s' Q :=
 fun φ' a' w' st' he => h φ' a' w' (st.trans st') he

theorem ops_ok (hops : ∀ o, OpOk P T rec o) (hT : TameHooks T) (hr : TameRec rec) {nt : Nat} {ops : Array Oper} {Q : Exit → Act → World → Prop} :
 ∀ (l : List Nat) {il : List IOp} {e : Env} {s : St} {x : Ex} {e' : Env} {s' : St}, opsFrom P nt ops l = some il → evalOps T rec false il e s = .ok x e' s' →
  ∀ {ds : List Deferred} {φ : Phi} {a : Act} {w : World}, GlobOk P φ → RelSt φ s w → RelEnv nt ds φ e a → FreeIn s s.next s'.next → ExPost nt ds φ s w x e' s' Q → wpOps P.toProgram ops Q l a w
 | [], il, e, s, x, e', s', hil, hev, ds, φ, a, w, hg, hs, he, hf, hq => by
  simp only [opsFrom] at hil
  cases hil
  simp only [evalOps] at hev
  cases hev
  exact hq φ a w (.refl hs) he
 | i :: l, il, e, s, x, e', s', hil, hev, ds, φ, a, w, hg, hs, he, hf, hq => by
  simp only [opsFrom] at hil
  cases ho : ops[i]? with
  | none => rw [ho] at hil; cases hil
  | some o =>
   rw [ho] at hil
   simp only [] at hil
   split at hil
   · rename_i y r hy hrr
     cases hil
     obtain ⟨g, hgd, rfl, hdst⟩ := ofOper_spec hy
     simp only [wpOps, ho]
     rw [wanted_rel he hgd]
     simp only [evalOps] at hev
     cases hw : wantedV e g with
     | false =>
      rw [hw] at hev
      simp only [Bool.false_eq_true, if_false] at hev ⊢
      exact ops_ok hops hT hr l hrr hev hg hs (relEnv_put he hdst (.tuple (l' := []) .nil)) hf hq
     | true =>
      rw [hw] at hev
      simp only [if_true] at hev ⊢
      refine .inl ?_
      have tm := ins_tame hT hr (e := e) (s := s) (i := ofOp P o)
      cases hi : evalIns T rec e s (ofOp P o) with
      | fail => rw [hi] at hev; cases hev
      | panic v s1 =>
       rw [hi] at hev
       simp only [] at hev
       cases hev
       refine hops o hg he hs hi (by simp) hf ?_
       intro c w' φ' st hv
       exact hq φ' a w' st (he.mono st.le) c hv
      | val v s1 =>
       rw [hi] at hev
       simp only [watchOk] at hev
       unfold Tame at tm
       simp only [hi, Res.st] at tm
       have hgood := (tm (by simp)).1
       have hg2 := (ops_tame hT hr x e' s' hev).1
       refine hops o hg he hs hi (by simp) (hf.less hg2.next) ?_
       intro c w' φ' st hv
       exact ops_ok hops hT hr l hrr hev (hg.mono st.le) st.rel (relEnv_put (he.mono st.le) hdst hv) (hgood.free hf) (hq.behind st)
   · cases hil

def DrawOk (P : Prog) (T : Tab) (rec : Rec) : Prop :=
 ∀ {nt : Nat} {ops : Array Oper} {Q : Exit → Act → World → Prop} {id : Nat} {e : Env} {s : St} {x : Ex} {e' : Env} {s' : St},
  evalC T rec (ofRegion P nt ops true) e s = .ok x e' s' → ∀ {ds : List Deferred} {φ : Phi} {a : Act} {w : World}, GlobOk P φ → RelSt φ s w → RelEnv nt ds φ e a → FreeIn s s.next s'.next → ExPost nt ds φ s w x e' s' Q →
   (Code.region id ops true).wp P.toProgram Q a w

def InScope (P : Prog) (c cur : Code) (Q : Exit → Act → World → Prop) (a : Act) (w : World) : Prop :=
 ∀ (b : Frame) (k : List Item) (cs : List Frame), ∃ e a' w', Q e a' w' ∧ Arrives P.toProgram (lone (b.at a (.code cur :: .inScope c :: k)) cs w) b k cs e a' w'

theorem wp_scope {c : Code} {Q : Exit → Act → World → Prop} {a : Act} {w : World} (h : InScope P c c Q a w) : (Code.scope c).wp P.toProgram Q a w := by
 intro b k cs
 obtain ⟨e, a', w', hq, harr⟩ := h b k cs
 exact ⟨e, a', w', hq, .of_steps (.one step_scope) harr⟩

def scopeQ (P : Prog) (c : Code) (Q : Exit → Act → World → Prop) : Exit → Act → World → Prop
 | .goto l, a, w => ∃ r, findLabel c l = some r ∧ InScope P c r Q a w
 | e, a, w => Q e a w

theorem inScope_go {c cur : Code} {Q : Exit → Act → World → Prop} {a : Act} {w : World} (h : cur.wp P.toProgram (scopeQ P c Q) a w) : InScope P c cur Q a w := by
 intro b k cs
 obtain ⟨e, a₁, w₁, hq, harr⟩ := h b (.inScope c :: k) cs
 cases e with
 | normal => exact ⟨.normal, a₁, w₁, hq, Steps.trans harr (.one step_inScope)⟩
 | exit id => exact ⟨.exit id, a₁, w₁, hq, fun k' hk => harr k' (by simp [exitTo, hk])⟩
 | goto l =>
  obtain ⟨r, hr, hin⟩ := hq
  obtain ⟨e₂, a₂, w₂, hq₂, harr₂⟩ := hin b k cs
  exact ⟨e₂, a₂, w₂, hq₂, .of_steps (harr _ (by simp [gotoIn, hr])) harr₂⟩
 | ret => exact ⟨_, a₁, w₁, hq, harr⟩
 | panic ch => exact ⟨_, a₁, w₁, hq, harr⟩
 | outgrown => exact ⟨_, a₁, w₁, hq, harr⟩

theorem labelOf_some {g : Code → ICode} {b : Code} {l : Nat} {c : ICode} : ∀ {r : List Nat}, labelOf l (labsOf g b r) = some c → ∃ r, findLabel b l = some r ∧ c = g r
 | [], h => by simp [labsOf, labelOf] at h
 | k :: r, h => by
  simp only [labsOf] at h
  split at h
  · rename_i q hq
    simp only [labelOf] at h
    split at h
    · rename_i hk
      cases h
      have : k = l := by simpa using hk
      subst this
      exact ⟨q, hq, rfl⟩
    · exact labelOf_some h
  · exact labelOf_some h

def CodeOk (P : Prog) (rec : Rec) : Prop :=
 ∀ {c : Code} {f nt : Nat} {Q : Exit → Act → World → Prop} {e : Env} {s : St} {x : Ex} {e' : Env} {s' : St}, rec (ofCode P nt f c) e s = .ok x e' s' →
  ∀ {ds : List Deferred} {φ : Phi} {a : Act} {w : World}, GlobOk P φ → RelSt φ s w → RelEnv nt ds φ e a → FreeIn s s.next s'.next → ExPost nt ds φ s w x e' s' Q → c.wp P.toProgram Q a w

def ScopeOk (P : Prog) (rec : Rec) : Prop :=
 ∀ {b r : Code} {f nt : Nat} {Q : Exit → Act → World → Prop} {e : Env} {s : St} {x : Ex} {e' : Env} {s' : St}, rec (.scope (ofCode P nt f r) (labsOf (ofCode P nt f) b (labelsIn b))) e s = .ok x e' s' →
  ∀ {ds : List Deferred} {φ : Phi} {a : Act} {w : World}, GlobOk P φ → RelSt φ s w → RelEnv nt ds φ e a → FreeIn s s.next s'.next → ExPost nt ds φ s w x e' s' Q → InScope P b r Q a w

theorem scope_step (hr : TameRec rec) (hc : CodeOk P rec) (hs' : ScopeOk P rec) : ScopeOk P (evalC T rec) := by
 intro b r f nt Q e s x e' s' hev ds φ a w hg hs he hf hq
 simp only [evalC] at hev
 refine inScope_go ?_
 cases h1 : rec (ofCode P nt f r) e s with
 | fail => rw [h1] at hev; cases hev
 | ok x1 e1 s1 =>
  rw [h1] at hev
  have hgood := (hr _ _ _ _ _ _ h1).1
  cases x1 with
  | goto l =>
   simp only [] at hev
   cases hl : labelOf l (labsOf (ofCode P nt f) b (labelsIn b)) with
   | none => rw [hl] at hev; cases hev
   | some c =>
    rw [hl] at hev
    simp only [] at hev
    obtain ⟨r', hr1, rfl⟩ := labelOf_some hl
    have hg2 := (hr _ _ _ _ _ _ hev).1
    refine hc h1 hg hs he (hf.less hg2.next) ?_
    intro φ' a' w' st he'
    exact ⟨r', hr1, hs' hev (hg.mono st.le) st.rel he' (hgood.free hf) (hq.behind st)⟩
  | normal => simp only [] at hev; cases hev; exact hc h1 hg hs he hf hq
  | exit k => simp only [] at hev; cases hev; exact hc h1 hg hs he hf hq
  | ret => simp only [] at hev; cases hev; exact hc h1 hg hs he hf hq
  | panic v => simp only [] at hev; cases hev; exact hc h1 hg hs he hf hq
  | panicW v => simp only [] at hev; cases hev; exact hc h1 hg hs he hf hq


def InLoop (P : Prog) (c : Code) (Q : Exit → Act → World → Prop) (a : Act) (w : World) : Prop :=
 ∀ (b : Frame) (k : List Item) (cs : List Frame), ∃ e a' w', Q e a' w' ∧ Arrives P.toProgram (lone (b.at a (.code c :: .inLoop c :: k)) cs w) b k cs e a' w'

theorem wp_inLoop {c : Code} {Q : Exit → Act → World → Prop} {a : Act} {w : World} (h : InLoop P c Q a w) : (Code.loop c).wp P.toProgram Q a w := by
 intro b k cs
 obtain ⟨e, a', w', hq, harr⟩ := h b k cs
 exact ⟨e, a', w', hq, .of_steps (.one step_loop) harr⟩

theorem inLoop_go {c : Code} {Q : Exit → Act → World → Prop} {a : Act} {w : World} (h : c.wp P.toProgram (Exit.then (InLoop P c Q) Q) a w) : InLoop P c Q a w := by
 intro b k cs
 obtain ⟨e, a₁, w₁, hq, harr⟩ := h b (.inLoop c :: k) cs
 cases e with
 | normal =>
  obtain ⟨e₂, a₂, w₂, hq₂, harr₂⟩ := hq b k cs
  exact ⟨e₂, a₂, w₂, hq₂, .of_steps (Steps.trans harr (.one step_inLoop)) harr₂⟩
 | exit id => exact ⟨_, a₁, w₁, hq, .pass (x := .inLoop c) rfl (fun _ _ => .inl (by simp)) harr⟩
 | goto l => exact ⟨_, a₁, w₁, hq, .pass (x := .inLoop c) rfl (fun _ _ => .inl (by simp)) harr⟩
 | ret => exact ⟨_, a₁, w₁, hq, .pass (x := .inLoop c) rfl (fun _ _ => .inl (by simp)) harr⟩
 | panic ch => exact ⟨_, a₁, w₁, hq, .pass (x := .inLoop c) rfl (fun _ _ => .inl (by simp)) harr⟩
 | outgrown => exact ⟨_, a₁, w₁, hq, .pass (x := .inLoop c) rfl (fun _ _ => .inl (by simp)) harr⟩

def LoopOk (P : Prog) (rec : Rec) : Prop :=
 ∀ {b : Code} {f nt : Nat} {Q : Exit → Act → World → Prop} {e : Env} {s : St} {x : Ex} {e' : Env} {s' : St}, rec (.loop (ofCode P nt f b)) e s = .ok x e' s' →
  ∀ {ds : List Deferred} {φ : Phi} {a : Act} {w : World}, GlobOk P φ → RelSt φ s w → RelEnv nt ds φ e a → FreeIn s s.next s'.next → ExPost nt ds φ s w x e' s' Q → InLoop P b Q a w

theorem loop_step (hr : TameRec rec) (hc : CodeOk P rec) (hl : LoopOk P rec) : LoopOk P (evalC T rec) := by
 intro b f nt Q e s x e' s' hev ds φ a w hg hs he hf hq
 simp only [evalC] at hev
 refine inLoop_go ?_
 cases h1 : rec (ofCode P nt f b) e s with
 | fail => rw [h1] at hev; cases hev
 | ok x1 e1 s1 =>
  rw [h1] at hev
  have hgood := (hr _ _ _ _ _ _ h1).1
  cases x1 with
  | normal =>
   simp only [] at hev
   have hg2 := (hr _ _ _ _ _ _ hev).1
   refine hc h1 hg hs he (hf.less hg2.next) ?_
   intro φ' a' w' st he'
   exact hl hev (hg.mono st.le) st.rel he' (hgood.free hf) (hq.behind st)
  | goto l => simp only [] at hev; cases hev; exact hc h1 hg hs he hf hq
  | exit k => simp only [] at hev; cases hev; exact hc h1 hg hs he hf hq
  | ret => simp only [] at hev; cases hev; exact hc h1 hg hs he hf hq
  | panic v => simp only [] at hev; cases hev; exact hc h1 hg hs he hf hq
  | panicW v => simp only [] at hev; cases hev; exact hc h1 hg hs he hf hq

theorem code_step (hops : ∀ o, OpOk P T rec o) (hT : TameHooks T) (hr : TameRec rec) (hD : DrawOk P T rec) (hc : CodeOk P rec) (hs' : ScopeOk P (evalC T rec)) (hl : LoopOk P (evalC T rec)) : CodeOk P (evalC T rec) := by
 intro c f nt Q e s x e' s' hev ds φ a w hg hs he hf hq
 cases f with
 | zero => simp only [ofCode, evalC] at hev; cases hev
 | succ f =>
  cases c with
  | skip => simp only [ofCode, evalC] at hev; cases hev; exact wp_skip (hq φ a w (.refl hs) he)
  | label l => simp only [ofCode, evalC] at hev; cases hev; exact wp_label (hq φ a w (.refl hs) he)
  | exit id => simp only [ofCode, evalC] at hev; cases hev; exact wp_exit (hq φ a w (.refl hs) he)
  | goto l => simp only [ofCode, evalC] at hev; cases hev; exact wp_goto (hq φ a w (.refl hs) he)
  | ret => simp only [ofCode, evalC] at hev; cases hev; exact wp_ret (hq φ a w (.refl hs) he)
  | region id ops draw =>
   simp only [ofCode] at hev
   cases draw with
   | true => exact hD hev hg hs he hf hq
   | false =>
    simp only [ofRegion] at hev
    split at hev
    · rename_i il hil
      simp only [evalC] at hev
      exact wp_region (ops_ok hops hT hr _ hil hev hg hs he hf hq)
    · simp only [evalC] at hev; cases hev
  | seq p q =>
   simp only [ofCode, evalC] at hev
   refine wp_seq ?_
   cases h1 : rec (ofCode P nt f p) e s with
   | fail => rw [h1] at hev; cases hev
   | ok x1 e1 s1 =>
    rw [h1] at hev
    have hgood := (hr _ _ _ _ _ _ h1).1
    cases x1 with
    | normal =>
     simp only [] at hev
     have hg2 := (hr _ _ _ _ _ _ hev).1
     refine hc h1 hg hs he (hf.less hg2.next) ?_
     intro φ' a' w' st he'
     exact hc hev (hg.mono st.le) st.rel he' (hgood.free hf) (hq.behind st)
    | goto l => simp only [] at hev; cases hev; exact hc h1 hg hs he hf hq
    | exit k => simp only [] at hev; cases hev; exact hc h1 hg hs he hf hq
    | ret => simp only [] at hev; cases hev; exact hc h1 hg hs he hf hq
    | panic v => simp only [] at hev; cases hev; exact hc h1 hg hs he hf hq
    | panicW v => simp only [] at hev; cases hev; exact hc h1 hg hs he hf hq
  | cond c p q =>
   simp only [ofCode] at hev
   cases hcc : ofOpd P c with
   | none => rw [hcc] at hev; simp only [evalC] at hev; cases hev
   | some y =>
    rw [hcc] at hev
    simp only [evalC] at hev
    have rc := opd_rel hg he hcc
    split at hev
    · rename_i hb
      rw [hb] at rc
      refine wp_cond_true (by cases hv : a.eval c <;> rw [hv] at rc <;> cases rc; rfl) (hc hev hg hs he hf hq)
    · rename_i hb
      rw [hb] at rc
      refine wp_cond_false (by cases hv : a.eval c <;> rw [hv] at rc <;> cases rc; rfl) (hc hev hg hs he hf hq)
    · cases hev
  | block id b =>
   simp only [ofCode, evalC] at hev
   refine wp_block ?_
   cases h1 : rec (ofCode P nt f b) e s with
   | fail => rw [h1] at hev; cases hev
   | ok x1 e1 s1 =>
    rw [h1] at hev
    cases x1 with
    | exit k =>
     simp only [] at hev
     cases hk : Nat.beq k id with
     | true =>
      rw [hk] at hev
      cases hev
      have hkid : k = id := by simpa using hk
      refine hc h1 hg hs he hf ?_
      intro φ' a' w' st he'
      simp only [Exit.inBlock, hkid, if_true]
      exact hq φ' a' w' st he'
     | false =>
      rw [hk] at hev
      cases hev
      have hkid : ¬ k = id := by intro hh; rw [hh, Nat.beq_refl] at hk; cases hk
      refine hc h1 hg hs he hf ?_
      intro φ' a' w' st he'
      simp only [Exit.inBlock, hkid, if_false]
      exact hq φ' a' w' st he'
    | normal => simp only [] at hev; cases hev; exact hc h1 hg hs he hf hq
    | goto l => simp only [] at hev; cases hev; exact hc h1 hg hs he hf hq
    | ret => simp only [] at hev; cases hev; exact hc h1 hg hs he hf hq
    | panic v => simp only [] at hev; cases hev; exact hc h1 hg hs he hf hq
    | panicW v => simp only [] at hev; cases hev; exact hc h1 hg hs he hf hq
  | loop b =>
   simp only [ofCode] at hev
   exact wp_inLoop (hl hev hg hs he hf hq)
  | scope b =>
   simp only [ofCode] at hev
   exact wp_scope (hs' hev hg hs he hf hq)
  | _ => simp only [ofCode, evalC] at hev; cases hev
end
end Go.V
