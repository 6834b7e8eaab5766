/- SOUNDNESS: functions. -/
import Derived.Test.YtoaakfgdebkkaaaGreatDoorV19
set_option linter.unusedVariables false
set_option linter.unusedSimpArgs false
set_option linter.unusedSectionVars false
/- SOUNDNESS: functions. -/
/- SOUNDNESS: functions. -/
namespace Go.V
open Go

section
variable {P : Prog} {T : Tab} {rec : Rec}

theorem opd_set {e : Env} {d i : Nat} {v : AV} : opd (e.set d v) (.t i) = if i = d then v else opd e (.t i) := opd_put (e := e) (d := d) (i := i) (v := v)

theorem bind_get : ∀ (args : List AV) (k : Nat) (e : Env) (i : Nat), opd (bind args k e) (.t i) = if k ≤ i then (match args[i - k]? with | some v => v | none => opd e (.t i)) else opd e (.t i)
 | [], k, e, i => by simp [bind]
 | v :: l, k, e, i => by
  simp only [bind]
  rw [bind_get l (k + 1) (e.set k v) i, opd_set]
  by_cases h1 : k + 1 ≤ i
  · have h2 : k ≤ i := by omega
    have h3 : ¬ i = k := by omega
    have h4 : i - k = (i - (k + 1)) + 1 := by omega
    simp only [h1, h2, h3, if_true, if_false, h4, List.getElem?_cons_succ]
  · by_cases h5 : i = k
    · subst h5
      have : ¬ i + 1 ≤ i := by omega
      simp [this]
    · have h2 : ¬ k ≤ i := by omega
      simp only [h1, h2, h5, if_false]

theorem bind_rel {φ : Phi} {args : List AV} {cargs : List Value} {nt : Nat} (h : VRels φ args cargs) (hle : args.length ≤ nt) :
 RelEnv nt [] φ (bind args 0 .leaf) { tmps := cargs.toArray ++ Array.replicate (nt - cargs.toArray.size) undef, defers := [] } := by
 have hl := h.length
 refine ⟨by simp; omega, fun i => ?_, rfl⟩
 rw [bind_get]
 simp only [Nat.zero_le, if_true, Nat.sub_zero]
 rw [Array.getD_eq_getD_getElem?, Array.getElem?_append]
 by_cases hi : i < args.length
 · have hi' : i < cargs.toArray.size := by simp; omega
   rw [if_pos hi']
   have hv : args[i]? = some args[i] := List.getElem?_eq_getElem hi
   obtain ⟨c, c1, c2⟩ := h.get hv
   rw [hv]
   simp only [List.getElem?_toArray, c1, Option.getD_some]
   exact c2
 · have hi' : ¬ i < cargs.toArray.size := by simp; omega
   rw [if_neg hi']
   have hv : args[i]? = none := List.getElem?_eq_none (by omega)
   rw [hv]
   have hu : (Option.getD ((Array.replicate (nt - cargs.toArray.size) undef)[i - cargs.toArray.size]?) undef) = undef := by
    rw [Array.getElem?_replicate]
    split <;> rfl
   rw [hu]
   exact .tuple (l' := []) .nil

def resF (tmps : Array Value) : ResultVar → Sem Value
 | .tmp t => pure (tmps.getD t undef)
 | .cell x t => do loadVar t (← asAddr (tmps.getD x undef))

theorem result_ok {nt : Nat} {ds : List Deferred} {φ : Phi} {s : St} {w : World} {e : Env} {a : Act} (hs : RelSt φ s w) (he : RelEnv nt ds φ e a) {r : ResultVar} {rv : RVar} {v : AV} (h1 : ofResult P r = some rv) (h2 : resultV e s rv = some v) :
 ∃ c, (resF a.tmps r).run P.toProgram w = .ok c w ∧ VRel φ v c := by
 cases r with
 | tmp t =>
  simp only [ofResult] at h1
  cases h1
  simp only [resultV] at h2
  cases h2
  exact ⟨_, rfl, he.val t⟩
 | cell x t =>
  simp only [ofResult] at h1
  split at h1
  · rename_i n hn
    cases h1
    simp only [resultV] at h2
    have hx := he.val x
    obtain ⟨c, c1, c2⟩ := load_ok (P := P) hs hx hn h2
    refine ⟨c, ?_, c2⟩
    unfold loadV at h2
    split at h2
    · rename_i ad hc
      rw [hc] at hx
      show (do loadVar t (← asAddr (a.tmps.getD x undef)) : Sem Value).run P.toProgram w = _
      generalize a.tmps.getD x undef = cx at hx c1 ⊢
      cases hx
      simpa [Instr.loadAt, Instr.sureAddr, asAddr] using c1
    · cases h2
  · cases h1

theorem results_list {nt : Nat} {ds : List Deferred} {φ : Phi} {s : St} {w : World} {e : Env} {a : Act} (hs : RelSt φ s w) (he : RelEnv nt ds φ e a) : ∀ {l : List ResultVar} {rs : List RVar} {vs : List AV}, ofResults P l = some rs → resultsV e s rs = some vs →
 ∃ cs, (l.mapM (resF a.tmps)).run P.toProgram w = .ok cs w ∧ VRels φ vs cs
 | [], rs, vs, h1, h2 => by
  simp only [ofResults] at h1
  cases h1
  simp only [resultsV] at h2
  cases h2
  exact ⟨[], rfl, .nil⟩
 | r :: l, rs, vs, h1, h2 => by
  simp only [ofResults] at h1
  split at h1
  · rename_i rv rr hr hrr
    cases h1
    simp only [resultsV] at h2
    split at h2
    · rename_i v hv
      split at h2
      · rename_i vs' hvs
        cases h2
        obtain ⟨c, c1, c2⟩ := result_ok hs he hr hv
        obtain ⟨cs, d1, d2⟩ := results_list hs he hrr hvs
        refine ⟨c :: cs, ?_, .cons c2 d2⟩
        rw [List.mapM_cons]
        simp only [Sem.run_bind, c1, Result.andThen_ok, d1, Sem.run_pure]
      · cases h2
    · cases h2
  · cases h1

theorem results_ok {nt : Nat} {ds : List Deferred} {φ : Phi} {s : St} {w : World} {e : Env} {a : Act} {fn : Func} {rs : List RVar} {vs : List AV} (hs : RelSt φ s w) (he : RelEnv nt ds φ e a) (h1 : ofResults P fn.results.toList = some rs) (h2 : resultsV e s rs = some vs) :
 ∃ c, (results fn a.tmps).run P.toProgram w = .ok c w ∧ VRel φ (tupled vs) c := by
 obtain ⟨cs, c1, c2⟩ := results_list hs he h1 h2
 have hr : results fn a.tmps = (do
  let vs ← fn.results.mapM (resF a.tmps)
  pure (if h : vs.size = 1 then vs[0] else .tuple vs)) := by
  unfold results
  congr 1
 have hm : fn.results.mapM (resF a.tmps) = List.toArray <$> fn.results.toList.mapM (resF a.tmps) := by
  conv => lhs; rw [show fn.results = fn.results.toList.toArray by simp]
  rw [List.mapM_toArray]
 rw [hr, hm]
 simp only [Sem.run_bind, map_eq_pure_bind, c1, Result.andThen_ok, Sem.run_pure]
 refine ⟨_, rfl, ?_⟩
 · cases c2 with
   | nil => exact .tuple (l' := []) .nil
   | cons a b =>
    cases b with
    | nil => exact a
    | cons b c =>
     simp only [tupled]
     rw [dif_neg (by simp)]
     exact .tuple (.cons a (.cons b c))

/-- The functions of the table are the program's. -/
def HookOk (P : Prog) (f : FuncId) (h : List AV → St → Res) : Prop :=
 ∀ args s r, h args s = r → r ≠ .fail → ∀ φ w cargs, GlobOk P φ → RelSt φ s w → VRels φ args cargs → Free s r.nextId → CallOk P φ s w f cargs.toArray r

structure TabOk (P : Prog) (T : Tab) : Prop where
 code : ∀ f ir, T f = some (.code ir) → ∃ fn, P.funcs[f]? = some fn ∧ ofFunc P fn = some ir ∧ (fn.name == "runtime.NumGoroutine") = false
 ext : ∀ f k, T f = some (.ext k) → HookOk P f (extV k)
 hook : ∀ f h, T f = some (.hook h) → HookOk P f fun args s => ofBoth (h args s)

theorem funcs_ok (hP : TabOk P T) (hc : CodeOk P rec) : FuncsOk P T rec := by
 intro f args s r hcall hn φ w cargs hg hs hargs hf
 unfold callF at hcall
 split at hcall
 · rename_i ir hir
   obtain ⟨fn, hfn, hof, hname⟩ := hP.code f ir hir
   unfold ofFunc at hof
   split at hof
   · rename_i c rs hbody hrs
     cases hof
     intro o a next Q hk
     have hrun : (callFunc f cargs.toArray).run P.toProgram w = .ok (.enter f cargs.toArray) w := by
      simp only [beq_eq_false_iff_ne, ne_eq] at hname; simp [callFunc, hfn, hname, hbody]
     rw [hrun, Oper.upon_enter]
     refine calls_of_wp hfn hbody ?_
     unfold runFn at hcall
     split at hcall
     · rename_i hle
       have hbind := bind_rel (φ := φ) hargs hle
       simp only [] at hcall hle
       cases h1 : rec (ofCode P fn.ntmps 400 c) (bind args 0 .leaf) s with
       | fail => rw [h1] at hcall; exact absurd hcall.symm hn
       | ok x e s' =>
        rw [h1] at hcall
        cases x with
        | exit k => exact absurd hcall.symm hn
        | goto k => exact absurd hcall.symm hn
        | normal =>
         simp only [] at hcall
         cases hl : resultsV e s' rs with
         | none => rw [hl] at hcall; exact absurd hcall.symm hn
         | some l =>
          rw [hl] at hcall
          subst hcall
          refine hc h1 hg hs hbind hf ?_
          intro φ' a' w' st he
          obtain ⟨v, v1, v2⟩ := results_ok (P := P) st.rel he hrs hl
          exact ⟨he.defs, v, v1, hk v w' φ' st v2⟩
        | ret =>
         simp only [] at hcall
         cases hl : resultsV e s' rs with
         | none => rw [hl] at hcall; exact absurd hcall.symm hn
         | some l =>
          rw [hl] at hcall
          subst hcall
          refine hc h1 hg hs hbind hf ?_
          intro φ' a' w' st he
          obtain ⟨v, v1, v2⟩ := results_ok (P := P) st.rel he hrs hl
          exact ⟨he.defs, v, v1, hk v w' φ' st v2⟩
        | panic v =>
         simp only [] at hcall
         subst hcall
         refine hc h1 hg hs hbind hf ?_
         intro φ' a' w' st he c hv
         exact ⟨he.defs, hk c w' φ' st hv⟩
        | panicW v =>
         simp only [] at hcall
         subst hcall
         refine hc h1 hg hs hbind hf ?_
         intro φ' a' w' st he c hv
         exact ⟨he, hk c w' φ' st hv⟩
     · exact absurd hcall.symm hn
   · cases hof
 · rename_i k hk
   exact hP.ext f k hk args s r hcall hn φ w cargs hg hs hargs hf
 · rename_i h hh
   exact hP.hook f h hh args s r hcall hn φ w cargs hg hs hargs hf
 · exact absurd hcall.symm hn

theorem evalN_ok (hP : TabOk P T) (hT : TameHooks T) (hD : ∀ rec, (∀ o, OpOk P T rec o) → TameRec rec → DrawOk P T rec) : ∀ n, CodeOk P (evalN T n) ∧ ScopeOk P (evalN T n) ∧ LoopOk P (evalN T n)
 | 0 => by
  refine ⟨?_, ?_, ?_⟩
  · intro c f nt Q e s x e' s' h
    cases h
  · intro b r f nt Q e s x e' s' h
    cases h
  · intro b f nt Q e s x e' s' h
    cases h
 | n + 1 => by
  obtain ⟨h1, h2, h3⟩ := evalN_ok hP hT hD n
  have hr := evalN_tame hT n
  have hops := op_ok (funcs_ok hP h1)
  have hs : ScopeOk P (evalN T (n + 1)) := scope_step (P := P) (T := T) hr h1 h2
  have hl : LoopOk P (evalN T (n + 1)) := loop_step (P := P) (T := T) hr h1 h3
  exact ⟨code_step hops hT hr (hD _ hops hr) h1 hs hl, hs, hl⟩
end
end Go.V
set_option linter.unusedSimpArgs false
/- REGIONS WHOSE ORDER IS DRAWN: the classes of instructions. -/
namespace Go.V
open Go

section
variable {T : Tab} {rec : Rec}

theorem ofOpt_inv {s s' : St} {r : Option AV} {v : AV} (h : ofOpt s r = .val v s') : r = some v ∧ s' = s := by
 cases r with
 | none => cases h
 | some w => cases h; exact ⟨rfl, rfl⟩

theorem cls_N {i : Ins} (hc : clsIns i = .N) {e : Env} {s s' : St} {v : AV} (h : evalIns T rec e s i = .val v s') : s' = s ∧ ∀ t, evalIns T rec e t i = .val v t := by
 cases i
 case conv k x =>
  cases k <;> simp only [clsIns, reduceCtorEq] at hc <;> simp only [evalIns] at h ⊢ <;> obtain ⟨h1, h2⟩ := ofOpt_inv h <;> exact ⟨h2, fun t => by rw [h1]; rfl⟩
 case bld k x y =>
  cases k <;> simp only [clsIns, reduceCtorEq] at hc
  simp only [evalIns, bldV] at h ⊢
  cases hx : opd e x <;> rw [hx] at h <;> simp only [ofBoth, reduceCtorEq] at h
  · split at h
    · rename_i hh
      split at hh
      · rename_i hc2
        cases hh; cases h; exact ⟨rfl, fun t => by simp only [hx, if_pos hc2]; rfl⟩
      · cases hh
    · cases h
  · cases h; exact ⟨rfl, fun t => by simp only [hx]; rfl⟩
 case bin => obtain ⟨h1, h2⟩ := ofOpt_inv h; exact ⟨h2, fun t => by simp only [evalIns, h1]; rfl⟩
 case un => obtain ⟨h1, h2⟩ := ofOpt_inv h; exact ⟨h2, fun t => by simp only [evalIns, h1]; rfl⟩
 case sliceStr => obtain ⟨h1, h2⟩ := ofOpt_inv h; exact ⟨h2, fun t => by simp only [evalIns, h1]; rfl⟩
 case sliceSl => obtain ⟨h1, h2⟩ := ofOpt_inv h; exact ⟨h2, fun t => by simp only [evalIns, h1]; rfl⟩
 case assertT => obtain ⟨h1, h2⟩ := ofOpt_inv h; exact ⟨h2, fun t => by simp only [evalIns, h1]; rfl⟩
 all_goals first
  | (simp only [clsIns, reduceCtorEq] at hc; done)
  | (simp only [evalIns] at h ⊢
     repeat' split at h
     all_goals first
      | (cases h; done)
      | (cases h; exact ⟨rfl, fun t => rfl⟩)
      | (obtain ⟨h1, h2⟩ := ofOpt_inv h; exact ⟨h2, fun t => by rw [h1]; rfl⟩)
      | (rename_i hh; simp only [if_pos hh]; obtain ⟨h1, h2⟩ := ofOpt_inv h; exact ⟨h2, fun t => by rw [h1]; rfl⟩)
      | (rename_i hh; simp only [if_pos hh]; cases h; exact ⟨rfl, fun t => rfl⟩))

theorem cls_A {i : Ins} (hc : clsIns i = .A) {e : Env} {s s' : St} {v : AV} (h : evalIns T rec e s i = .val v s') : ∃ o, s' = s.add o ∧ ∀ t, t.next = s.next → evalIns T rec e t i = .val v (t.add o) := by
 cases i
 case conv k x =>
  cases k <;> simp only [clsIns, reduceCtorEq] at hc
  simp only [evalIns] at h ⊢
  cases hx : opd e x <;> rw [hx] at h <;> simp only [convV, ofOpt, reduceCtorEq] at h
  split at h
  · rename_i hh; cases h; exact ⟨_, rfl, fun t ht => by simp only [hx, if_pos hh, ht]⟩
  · cases h
 case bld k x y => cases k <;> simp only [clsIns, reduceCtorEq] at hc
 all_goals first
  | (simp only [clsIns, reduceCtorEq] at hc; done)
  | (simp only [evalIns, boxV] at h ⊢
     repeat' split at h
     all_goals first
      | (cases h; done)
      | (rename_i hh; simp only [if_pos hh]; cases h; refine ⟨_, rfl, fun t ht => ?_⟩; simp only [ht]; done)
      | (cases h; refine ⟨_, rfl, fun t ht => ?_⟩; simp only [ht]; done))

def Sees (s : St) (e : Env) (i : Ins) : Prop := ∀ x ∈ watchOf i, ∀ id, footId (opd e x) = some id → (s.heap.get id).isSome = true
def SameAt (s t : St) (e : Env) (i : Ins) : Prop := ∀ x ∈ watchOf i, ∀ id, footId (opd e x) = some id → t.heap.get id = s.heap.get id

theorem readAt_same {s t : St} {a : AAddr} {n : Nat} {l : List AV} (h : s.readAt a n = some l) (ht : t.heap.get a.id = s.heap.get a.id) : t.readAt a n = some l := by
 unfold St.readAt at h ⊢
 rw [ht]; exact h
theorem readAt_some {s : St} {a : AAddr} {n : Nat} {l : List AV} (h : s.readAt a n = some l) : (s.heap.get a.id).isSome = true := by
 unfold St.readAt at h
 split at h
 · rename_i ho; rw [ho]; rfl
 · cases h

theorem cls_R {i : Ins} (hc : clsIns i = .R) {e : Env} {s s' : St} {v : AV} (h : evalIns T rec e s i = .val v s') : s' = s ∧ Sees s e i ∧ ∀ t, SameAt s t e i → evalIns T rec e t i = .val v t := by
 cases i
 case load agg n x =>
  simp only [evalIns] at h ⊢
  obtain ⟨h1, h2⟩ := ofOpt_inv h
  refine ⟨h2, ?_, fun t ht => ?_⟩
  · intro y hy id hid
    simp only [watchOf, List.mem_singleton] at hy
    subst hy
    unfold loadV at h1
    split at h1
    · rename_i hx
      rw [hx] at hid
      cases hid
      split at h1
      · rename_i hl; exact readAt_some hl
      · cases h1
    · cases h1
  · have : loadV t agg n (opd e x) = some v := by
     unfold loadV at h1 ⊢
     split at h1
     · rename_i hx
       split at h1
       · rename_i hl
         have := ht x (by simp [watchOf]) _ (by rw [hx]; rfl)
         simp only [readAt_same hl this]
         exact h1
       · cases h1
     · cases h1
    rw [this]; rfl
 case lookup k z ok m key =>
  simp only [evalIns] at h ⊢
  obtain ⟨h1, h2⟩ := ofOpt_inv h
  refine ⟨h2, ?_, fun t ht => ?_⟩
  · intro y hy id hid
    simp only [watchOf, List.mem_singleton] at hy
    subst hy
    unfold lookupV at h1
    split at h1
    · rename_i hx; rw [hx] at hid; cases hid
    · rename_i hx
      rw [hx] at hid
      cases hid
      split at h1
      · rename_i ho; rw [ho]; rfl
      · cases h1
    · cases h1
  · have : lookupV t k z ok (opd e m) (opd e key) = some v := by
     unfold lookupV at h1 ⊢
     split at h1
     · exact h1
     · rename_i hx
       have := ht m (by simp [watchOf]) _ (by rw [hx]; rfl)
       simp only [this]
       exact h1
     · cases h1
    rw [this]; rfl
 case lenMap x =>
  simp only [evalIns] at h ⊢
  refine ⟨?_, ?_, fun t ht => ?_⟩
  · split at h
    · cases h; rfl
    · split at h <;> cases h; rfl
    · cases h
  · intro y hy id hid
    simp only [watchOf, List.mem_singleton] at hy
    subst hy
    split at h
    · rename_i hx; rw [hx] at hid; cases hid
    · rename_i hx
      rw [hx] at hid
      cases hid
      split at h
      · rename_i ho; rw [ho]; rfl
      · cases h
    · cases h
  · split at h
    · cases h; rfl
    · rename_i hx
      have := ht x (by simp [watchOf]) _ (by rw [hx]; rfl)
      simp only [this]
      split at h
      · rename_i ho; cases h; simp only [ho]
      · cases h
    · cases h
 case sliceArr n esz x lo hi mx =>
  simp only [evalIns] at h ⊢
  obtain ⟨h1, h2⟩ := ofOpt_inv h
  refine ⟨h2, ?_, fun t ht => ?_⟩
  · intro y hy id hid
    simp only [watchOf, List.mem_singleton] at hy
    subst hy
    unfold sliceArrV at h1
    split at h1
    · rename_i hx
      rw [hx] at hid
      cases hid
      split at h1
      · rename_i hl; exact readAt_some hl
      · cases h1
    · cases h1
  · have : sliceArrV t n esz (opd e x) (oopd e lo) (oopd e hi) (oopd e mx) = some v := by
     unfold sliceArrV at h1 ⊢
     split at h1
     · rename_i hx
       split at h1
       · rename_i hl
         have := ht x (by simp [watchOf]) _ (by rw [hx]; rfl)
         simp only [readAt_same hl this]
         exact h1
       · cases h1
     · cases h1
    rw [this]; rfl
 case conv k x =>
  cases k <;> simp only [clsIns, reduceCtorEq] at hc
  simp only [evalIns] at h ⊢
  split at h
  · simp_all
  · rename_i hx
    cases h
    refine ⟨rfl, ?_, fun t _ => rfl⟩
    intro y hy id hid
    simp only [watchOf, List.mem_singleton] at hy
    subst hy
    rw [hx] at hid; cases hid
  · rename_i hx
    cases h
    refine ⟨rfl, ?_, fun t _ => rfl⟩
    intro y hy id hid
    simp only [watchOf, List.mem_singleton] at hy
    subst hy
    rw [hx] at hid; cases hid
  · rename_i hx
    split at h
    · rename_i l hl
      split at h
      · rename_i bs hb
        cases h
        refine ⟨rfl, ?_, fun t ht => ?_⟩
        · intro y hy id hid
          simp only [watchOf, List.mem_singleton] at hy
          subst hy
          rw [hx] at hid; cases hid
          exact readAt_some hl
        · have := ht x (by simp [watchOf]) _ (by rw [hx]; rfl)
          simp only [readAt_same hl this, hb]
      · cases h
    · cases h
  · rename_i q1 q2 q3 q4
    have : convV .bytesStr (opd e x) = none := by simp [convV]
    rw [this] at h
    cases h
 case bld k x y => cases k <;> simp only [clsIns, reduceCtorEq] at hc
 all_goals (simp only [clsIns, reduceCtorEq] at hc; done)
end
end Go.V
set_option linter.unusedSimpArgs false
/- REGIONS WHOSE ORDER IS DRAWN: two steps may change places. -/
namespace Go.V
open Go

/- what 'beq' says -/
theorem bytesEq_eq' : ∀ {a b : List UInt8}, bytesEq a b = true → a = b
 | [], [], _ => rfl
 | [], _ :: _, h => by simp [bytesEq] at h
 | _ :: _, [], h => by simp [bytesEq] at h
 | a :: l, b :: m, h => by
  simp only [bytesEq] at h
  split at h
  · rename_i hh
    have h1 : a.toNat = b.toNat := by simpa using hh
    have : a = b := UInt8.toNat_inj.1 h1
    rw [this, bytesEq_eq' h]
  · cases h

mutual
theorem AV.beq_eq : ∀ {a b : AV}, AV.beq a b = true → a = b
 | .bool a, b, h => by cases b <;> simp [AV.beq] at h; rw [h]
 | .int k n, b, h => by cases b <;> simp [AV.beq] at h; rw [h.1, h.2]
 | .float k n, b, h => by cases b <;> simp [AV.beq] at h; rw [h.1, h.2]
 | .complex k n m, b, h => by cases b <;> simp [AV.beq] at h; rw [h.1.1, h.1.2, h.2]
 | .str s, b, h => by cases b <;> simp [AV.beq] at h; rw [bytesEq_eq' h]
 | .ptr a, b, h => by cases b <;> simp [AV.beq] at h; rw [h]
 | .nilPtr, b, h => by cases b <;> simp [AV.beq] at h; rfl
 | .slice a l c x z, b, h => by cases b <;> simp [AV.beq] at h; rw [h.1.1.1.1, h.1.1.1.2, h.1.1.2, h.1.2, h.2]
 | .nilSlice, b, h => by cases b <;> simp [AV.beq] at h; rfl
 | .empty, b, h => by cases b <;> simp [AV.beq] at h; rfl
 | .map a, b, h => by cases b <;> simp [AV.beq] at h; rw [h]
 | .nilMap, b, h => by cases b <;> simp [AV.beq] at h; rfl
 | .anyMap, b, h => by cases b <;> simp [AV.beq] at h; rfl
 | .func f l m, b, h => by cases b <;> simp [AV.beq] at h; rw [h.1.1, AV.beqs_eq h.1.2, AV.beqs_eq h.2]
 | .nilFunc, b, h => by cases b <;> simp [AV.beq] at h; rfl
 | .iface t v, b, h => by cases b <;> simp [AV.beq] at h; rw [h.1, AV.beq_eq h.2]
 | .nilIface, b, h => by cases b <;> simp [AV.beq] at h; rfl
 | .agg l, b, h => by cases b <;> simp [AV.beq] at h; rw [AV.beqs_eq h]
 | .tuple l, b, h => by cases b <;> simp [AV.beq] at h; rw [AV.beqs_eq h]
theorem AV.beqs_eq : ∀ {a b : List AV}, AV.beqs a b = true → a = b
 | [], [], _ => rfl
 | [], _ :: _, h => by simp [AV.beqs] at h
 | _ :: _, [], h => by simp [AV.beqs] at h
 | a :: l, b :: m, h => by
  simp only [AV.beqs, Bool.and_eq_true] at h
  rw [AV.beq_eq h.1, AV.beqs_eq h.2]
end

theorem entsBeq_eq : ∀ {a b : List AEntry}, entsBeq a b = true → a = b
 | [], [], _ => rfl
 | [], _ :: _, h => by simp [entsBeq] at h
 | _ :: _, [], h => by simp [entsBeq] at h
 | ⟨k, v, n⟩ :: l, ⟨k', v', n'⟩ :: m, h => by
  simp only [entsBeq, Bool.and_eq_true, decide_eq_true_eq] at h
  rw [AV.beq_eq h.1.1.1, AV.beq_eq h.1.1.2, h.1.2, entsBeq_eq h.2]

theorem AObj.beq_eq {a b : AObj} (h : AObj.beq a b = true) : a = b := by
 cases a <;> cases b <;> simp [AObj.beq] at h
 · rw [AV.beqs_eq h.1.1.1, h.1.1.2, h.1.2, h.2]
 · rw [entsBeq_eq h.1, h.2]

theorem sameObj_eq {a b : Option AObj} (h : sameObj a b = true) : a = b := by
 cases a <;> cases b <;> simp [sameObj] at h
 rw [AObj.beq_eq h]

theorem watch_same {e : Env} {s s' : St} : ∀ {l : List Opd}, watchOk e s s' l = true → ∀ x ∈ l, ∀ id, footId (opd e x) = some id → s'.heap.get id = s.heap.get id
 | [], _, x, hx, _, _ => by cases hx
 | y :: l, h, x, hx, id, hid => by
  simp only [watchOk, Bool.and_eq_true] at h
  rcases List.mem_cons.1 hx with rfl | hx
  · have h1 := h.1
    rw [hid] at h1
    exact (sameObj_eq h1).symm
  · exact watch_same h.2 x hx id hid

theorem watch_congr {e e' : Env} {s s' t t' : St} (hs : s.heap = t.heap) (hs' : s'.heap = t'.heap) : ∀ {l : List Opd}, (∀ x ∈ l, opd e x = opd e' x) → watchOk e s s' l = watchOk e' t t' l
 | [], _ => rfl
 | y :: l, h => by
  simp only [watchOk]
  rw [h y (by simp), hs, hs', watch_congr hs hs' fun x hx => h x (by simp [hx])]

/- one step -/
section
variable {T : Tab} {rec : Rec}

structure BOp where
 row : DRow
 watch : List Opd
 b : Nat
 n : Nat

def BOp.op (q : BOp) : IOp := q.row.op
def BOp.dst (q : BOp) : Option Nat := q.row.op.dst

def stepB (T : Tab) (rec : Rec) (x : IOp) (b : Nat) (e : Env) (h : Tree AObj) : Option (AV × St) :=
 match wantedV e x.guard with
 | true => match evalIns T rec e ⟨h, b⟩ x.ins with
  | .val v s' => some (v, s')
  | _ => none
 | false => some (.undef, ⟨h, b⟩)

def watchB (q : BOp) (e : Env) (h h' : Tree AObj) : Bool := match wantedV e q.op.guard with
 | true => watchOk e ⟨h, 0⟩ ⟨h', 0⟩ q.watch
 | false => true

def evalB (T : Tab) (rec : Rec) : List BOp → Env → Tree AObj → Option (Env × Tree AObj)
 | [], e, h => some (e, h)
 | q :: l, e, h => match stepB T rec q.op q.b e h with
  | some (v, s') => if s'.next = q.n ∧ watchB q e h s'.heap = true then evalB T rec l (putV e q.dst v) s'.heap else none
  | none => none

def FreeR (h : Tree AObj) (q : BOp) : Prop := ∀ id, q.b ≤ id → id < q.n → h.get id = none

structure Own (x : BOp) : Prop where
 self : isDst x.dst x.row.tmps = false
 le : x.b ≤ x.n
 watch : x.row.cls ≠ .W → x.watch = []
 cls : x.row.cls = clsIns x.op.ins
 tmps : x.row.tmps = opTmps x.op

structure Rel2 (x y : BOp) : Prop where
 lookR : x.row.cls = .R → isDst y.dst x.row.tmps = false
 look : y.row.bef.testBit x.row.i = true ∨ isDst y.dst x.row.tmps = false
 wlook : isDst y.dst (tmpsOf x.watch) = false
 dst : sameDst x.dst y.dst = false
 le : x.n ≤ y.b
 free : y.row.bef.testBit x.row.i = true ∨ (isDst x.dst y.row.tmps = false ∧ clsOk x.row.cls y.row.cls = true ∧ (x.row.cls = .R → y.row.cls = .W → ∀ o ∈ watchOf x.op.ins, o ∈ y.watch))

theorem opd_putV {e : Env} {d : Option Nat} {v : AV} {t : Nat} {l : List Nat} (h : isDst d l = false) (ht : t ∈ l) : opd (putV e d v) (.t t) = opd e (.t t) := by
 cases d with
 | none => rfl
 | some d =>
  rw [opd_put]
  have : ¬ t = d := by
   rintro rfl
   simp [isDst] at h
   exact h ht
  rw [if_neg this]

theorem putV_comm {e : Env} {d d' : Option Nat} {v v' : AV} (h : sameDst d d' = false) : putV (putV e d v) d' v' = putV (putV e d' v') d v := by
 cases d with
 | none => rfl
 | some d =>
  cases d' with
  | none => rfl
  | some d' =>
   simp only [putV]
   exact set_comm _ _ _ (by simpa [sameDst] using h)

theorem wanted_congr {e e' : Env} {x : IOp} (h : ∀ t ∈ opTmps x, opd e (.t t) = opd e' (.t t)) : wantedV e x.guard = wantedV e' x.guard := by
 cases hg : x.guard with
 | none => rfl
 | some p =>
  obtain ⟨t, w⟩ := p
  simp only [wantedV]
  rw [h t (by simp [opTmps, hg])]

theorem ins_congr {e e' : Env} {x : IOp} {s : St} (h : ∀ t ∈ opTmps x, opd e (.t t) = opd e' (.t t)) : evalIns T rec e s x.ins = evalIns T rec e' s x.ins := by
 refine evalIns_congr (opd_of_tmp fun t ht => h t ?_)
 unfold opTmps
 split
 · exact List.mem_cons_of_mem _ ht
 · exact ht

theorem step_congr {e e' : Env} {x : IOp} {b : Nat} {H : Tree AObj} (h : ∀ t ∈ opTmps x, opd e (.t t) = opd e' (.t t)) : stepB T rec x b e H = stepB T rec x b e' H := by
 unfold stepB
 rw [wanted_congr h, ins_congr h]

theorem stepB_put {e : Env} {x : IOp} {b : Nat} {H : Tree AObj} {d : Option Nat} {v : AV} (h : isDst d (opTmps x) = false) : stepB T rec x b (putV e d v) H = stepB T rec x b e H :=
 step_congr fun _ ht => opd_putV h ht

theorem wanted_putV {e : Env} {x : IOp} {d : Option Nat} {v : AV} (h : isDst d (opTmps x) = false) : wantedV (putV e d v) x.guard = wantedV e x.guard :=
 wanted_congr fun _ ht => opd_putV h ht

theorem step_good (hT : TameHooks T) (hr : TameRec rec) {x : IOp} {b : Nat} {e : Env} {H : Tree AObj} {v : AV} {s' : St} (h : stepB T rec x b e H = some (v, s')) : Good ⟨H, b⟩ s' := by
 unfold stepB at h
 split at h
 · have tm := ins_tame hT hr (e := e) (s := ⟨H, b⟩) (i := x.ins)
   unfold Tame at tm
   cases hi : evalIns T rec e ⟨H, b⟩ x.ins with
   | fail => rw [hi] at h; cases h
   | panic v s => rw [hi] at h; cases h
   | val v s =>
    rw [hi] at h
    cases h
    simp only [hi, Res.st] at tm
    exact (tm (by simp)).1
 · cases h; exact .refl _

theorem step_inv {x : IOp} {b : Nat} {e : Env} {H : Tree AObj} {v : AV} {s' : St} (h : stepB T rec x b e H = some (v, s')) :
 (wantedV e x.guard = false ∧ v = .undef ∧ s' = ⟨H, b⟩) ∨ (wantedV e x.guard = true ∧ evalIns T rec e ⟨H, b⟩ x.ins = .val v s') := by
 unfold stepB at h
 split at h
 · rename_i hw
   cases hi : evalIns T rec e ⟨H, b⟩ x.ins with
   | fail => rw [hi] at h; cases h
   | panic v s => rw [hi] at h; cases h
   | val v s => rw [hi] at h; cases h; exact .inr ⟨hw, rfl⟩
 · rename_i hw
   cases h
   exact .inl ⟨hw, rfl, rfl⟩

theorem step_not {x : IOp} {b : Nat} {e : Env} {H : Tree AObj} (h : wantedV e x.guard = false) : stepB T rec x b e H = some (.undef, ⟨H, b⟩) := by
 unfold stepB; rw [h]
theorem step_yes {x : IOp} {b : Nat} {e : Env} {H : Tree AObj} {v : AV} {s' : St} (h : wantedV e x.guard = true) (hi : evalIns T rec e ⟨H, b⟩ x.ins = .val v s') : stepB T rec x b e H = some (v, s') := by
 unfold stepB; rw [h]; simp only [hi]

/-- Two steps change places. -/
theorem swap (hT : TameHooks T) (hr : TameRec rec) {x y : BOp} (ox : Own x) (oy : Own y) (hxy : Rel2 x y) (hu : y.row.bef.testBit x.row.i = false) {e : Env} {H : Tree AObj} (fy : FreeR H y) {vx vy : AV} {s1 s2 : St}
 (h1 : stepB T rec x.op x.b e H = some (vx, s1)) (n1 : s1.next = x.n) (w1 : watchB x e H s1.heap = true)
 (h2 : stepB T rec y.op y.b (putV e x.dst vx) s1.heap = some (vy, s2)) (n2 : s2.next = y.n)
 (hw : x.row.cls = .R → y.row.cls = .W → wantedV e y.op.guard = true → ∀ o ∈ watchOf x.op.ins, ∀ id, footId (opd e o) = some id → s2.heap.get id = s1.heap.get id) :
 ∃ sy sx, stepB T rec y.op y.b e H = some (vy, sy) ∧ sy.next = y.n ∧ stepB T rec x.op x.b (putV e y.dst vy) sy.heap = some (vx, sx) ∧ sx.heap = s2.heap ∧ sx.next = x.n ∧ watchB x (putV e y.dst vy) sy.heap sx.heap = true ∧
  ((x.row.cls = .N ∨ x.row.cls = .R) → s1.heap = H ∧ sy.heap = s2.heap) := by
 obtain ⟨hyl, hcl, hwl⟩ : isDst x.dst y.row.tmps = false ∧ clsOk x.row.cls y.row.cls = true ∧ (x.row.cls = .R → y.row.cls = .W → ∀ o ∈ watchOf x.op.ins, o ∈ y.watch) := by
  rcases hxy.free with h | h
  · rw [hu] at h; cases h
  · exact h
 have hyl' : isDst x.dst (opTmps y.op) = false := by rw [← oy.tmps]; exact hyl
 have hxl' : isDst y.dst (opTmps x.op) = false := by rw [← ox.tmps]; exact hxy.look.resolve_left (by rw [hu]; simp)
 rw [stepB_put hyl'] at h2
 have hwx : ∀ v, wantedV (putV e y.dst v) x.op.guard = wantedV e x.op.guard := fun v => wanted_putV hxl'
 have hcx : ∀ v s, evalIns T rec (putV e y.dst v) s x.op.ins = evalIns T rec e s x.op.ins := fun v s => ins_congr fun t ht => opd_putV hxl' ht
 have hwatch : ∀ v, ∀ o ∈ x.watch, opd (putV e y.dst v) o = opd e o := fun v => opd_of_tmp fun t ht => opd_putV hxy.wlook ht
 rcases step_inv h1 with ⟨g1, rfl, rfl⟩ | ⟨g1, i1⟩
 · -- x is not wanted
   exact ⟨s2, ⟨s2.heap, x.b⟩, h2, n2, by rw [step_not (by rw [hwx]; exact g1)], rfl, n1, by simp [watchB, hwx, g1], fun _ => ⟨rfl, rfl⟩⟩
 · rcases step_inv h2 with ⟨g2, rfl, rfl⟩ | ⟨g2, i2⟩
   · -- y is not wanted
     refine ⟨⟨H, y.b⟩, s1, step_not g2, n2, step_yes (by rw [hwx]; exact g1) (by rw [hcx]; exact i1), rfl, n1, ?_, ?_⟩
     · unfold watchB at w1 ⊢
       rw [hwx, g1]
       rw [g1] at w1
       rw [watch_congr (e' := e) rfl rfl (hwatch _)]
       exact w1
     · intro hc
       have : s1.heap = H := by
        rcases hc with hc | hc
        · rw [ox.cls] at hc; rw [(cls_N hc i1).1]
        · rw [ox.cls] at hc; rw [(cls_R hc i1).1]
       exact ⟨this, this.symm⟩
   · -- both
     have noW : x.row.cls ≠ .W → ∀ h h', watchB x (putV e y.dst vy) h h' = true := by
      intro hne h h'
      unfold watchB
      rw [ox.watch hne]
      split <;> rfl
     cases hcx' : x.row.cls with
     | N =>
      have hc := ox.cls ▸ hcx'
      obtain ⟨q1, q2⟩ := cls_N hc i1
      subst q1
      refine ⟨s2, ⟨s2.heap, x.b⟩, h2, n2, step_yes (by rw [hwx]; exact g1) (by rw [hcx]; exact q2 _), rfl, n1, noW (by rw [hcx']; simp) _ _, fun _ => ⟨rfl, rfl⟩⟩
     | R =>
      have hc := ox.cls ▸ hcx'
      obtain ⟨q1, q2, q3⟩ := cls_R hc i1
      subst q1
      cases hcy' : y.row.cls with
      | N =>
       have hcy := oy.cls ▸ hcy'
       obtain ⟨r1, r2⟩ := cls_N hcy i2
       subst r1
       exact ⟨_, ⟨H, x.b⟩, h2, n2, step_yes (by rw [hwx]; exact g1) (by rw [hcx]; exact i1), rfl, n1, noW (by rw [hcx']; simp) _ _, fun _ => ⟨rfl, rfl⟩⟩
      | R =>
       have hcy := oy.cls ▸ hcy'
       obtain ⟨r1, r2⟩ := cls_R hcy i2
       subst r1
       exact ⟨_, ⟨H, x.b⟩, h2, n2, step_yes (by rw [hwx]; exact g1) (by rw [hcx]; exact i1), rfl, n1, noW (by rw [hcx']; simp) _ _, fun _ => ⟨rfl, rfl⟩⟩
      | A =>
       have hcy := oy.cls ▸ hcy'
       obtain ⟨o, r1, r2⟩ := cls_A hcy i2
       subst r1
       have same : SameAt ⟨H, x.b⟩ ⟨(St.add ⟨H, y.b⟩ o).heap, x.b⟩ e x.op.ins := by
        intro z hz id hid
        have hs := q2 z hz id hid
        simp only [St.add, Tree.get_set]
        have hb : H.get y.b = none := fy y.b (Nat.le_refl _) (by rw [← n2]; simp [St.add])
        have : ¬ id = y.b := by rintro rfl; rw [hb] at hs; cases hs
        rw [if_neg this]
       exact ⟨_, ⟨(St.add ⟨H, y.b⟩ o).heap, x.b⟩, h2, n2, step_yes (by rw [hwx]; exact g1) (by rw [hcx]; exact q3 _ same), rfl, n1, noW (by rw [hcx']; simp) _ _, fun _ => ⟨rfl, rfl⟩⟩
      | W =>
       have same : SameAt ⟨H, x.b⟩ ⟨s2.heap, x.b⟩ e x.op.ins := fun z hz id hid => hw hcx' hcy' g2 z hz id hid
       exact ⟨s2, ⟨s2.heap, x.b⟩, h2, n2, step_yes (by rw [hwx]; exact g1) (by rw [hcx]; exact q3 _ same), rfl, n1, noW (by rw [hcx']; simp) _ _, fun _ => ⟨rfl, rfl⟩⟩
     | A =>
      have hc := ox.cls ▸ hcx'
      obtain ⟨o, q1, q2⟩ := cls_A hc i1
      subst q1
      cases hcy' : y.row.cls with
      | N =>
       have hcy := oy.cls ▸ hcy'
       obtain ⟨r1, r2⟩ := cls_N hcy i2
       subst r1
       exact ⟨⟨H, y.b⟩, St.add ⟨H, x.b⟩ o, step_yes g2 (r2 _), n2, step_yes (by rw [hwx]; exact g1) (by rw [hcx]; exact i1), rfl, n1, noW (by rw [hcx']; simp) _ _, fun h => by rcases h with h | h <;> cases h⟩
      | A =>
       have hcy := oy.cls ▸ hcy'
       obtain ⟨o', r1, r2⟩ := cls_A hcy i2
       subst r1
       have hne : x.b ≠ y.b := by
        have h1 : x.n = x.b + 1 := by rw [← n1]; rfl
        have h2 := hxy.le
        omega
       refine ⟨St.add ⟨H, y.b⟩ o', St.add ⟨(St.add ⟨H, y.b⟩ o').heap, x.b⟩ o, step_yes g2 (r2 ⟨H, y.b⟩ rfl), n2, step_yes (by rw [hwx]; exact g1) (by rw [hcx]; exact q2 ⟨_, x.b⟩ rfl), ?_, n1, noW (by rw [hcx']; simp) _ _, fun h => by rcases h with h | h <;> cases h⟩
       simp only [St.add]
       exact set_comm _ _ _ (Ne.symm hne)
      | R => rw [hcx', hcy'] at hcl; cases hcl
      | W => rw [hcx', hcy'] at hcl; cases hcl
     | W =>
      cases hcy' : y.row.cls with
      | N =>
       have hcy := oy.cls ▸ hcy'
       obtain ⟨r1, r2⟩ := cls_N hcy i2
       subst r1
       refine ⟨⟨H, y.b⟩, s1, step_yes g2 (r2 _), n2, step_yes (by rw [hwx]; exact g1) (by rw [hcx]; exact i1), rfl, n1, ?_, fun h => by rcases h with h | h <;> cases h⟩
       unfold watchB at w1 ⊢
       rw [hwx, g1]
       rw [g1] at w1
       rw [watch_congr (e' := e) rfl rfl (hwatch _)]
       exact w1
      | A =>
       have hcy := oy.cls ▸ hcy'
       obtain ⟨o', r1, r2⟩ := cls_A hcy i2
       subst r1
       have hb : H.get y.b = none := fy y.b (Nat.le_refl _) (by rw [← n2]; simp [St.add])
       have hnb : ¬ ((⟨H, x.b⟩ : St).next ≤ y.b ∧ y.b < s1.next) := by have := hxy.le; rw [n1]; omega
       have tm := ins_tame hT hr (e := e) (s := ⟨H, x.b⟩) (i := x.op.ins)
       unfold Tame at tm
       simp only [i1, Res.st, Res.to] at tm
       obtain ⟨hg, hk⟩ := tm (by simp)
       refine ⟨St.add ⟨H, y.b⟩ o', s1.put y.b o', step_yes g2 (r2 ⟨H, y.b⟩ rfl), n2, step_yes (by rw [hwx]; exact g1) (by rw [hcx]; exact hk y.b o' hb hnb), rfl, n1, ?_, fun h => by rcases h with h | h <;> cases h⟩
       unfold watchB at w1 ⊢
       rw [hwx, g1]
       rw [g1] at w1
       refine (watch_congr (e' := e) (t := (⟨H, 0⟩ : St).put y.b o') (t' := (⟨s1.heap, 0⟩ : St).put y.b o') rfl rfl (hwatch _)).trans ?_
       exact watch_over (s := ⟨H, 0⟩) (s' := ⟨s1.heap, 0⟩) (over_put hb) (over_put (hg.none hb hnb)) w1
      | R => rw [hcx', hcy'] at hcl; cases hcl
      | W => rw [hcx', hcy'] at hcl; cases hcl
end
end Go.V
