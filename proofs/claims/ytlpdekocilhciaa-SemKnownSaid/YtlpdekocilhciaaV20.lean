/- SOUNDNESS: functions. -/
import Derived.Test.YtlpdekocilhciaaV19
/- SOUNDNESS: functions. -/
namespace Go.V
open Go

section
variable {P : Prog} {T : Tab} {rec : Rec}

theorem opd_set {e : Env} {d i : Nat} {v : AV} : opd (e.set d v) (.t i) = if i = d then v else opd e (.t i) := opd_put (e := e) (d := d) (i := i) (v := v)

theorem bind_get : ∀ (args : List AV) (k : Nat) (e : Env) (i : Nat), opd (bind args k e) (.t i) = if k ≤ i then (match args[i - k]? with | some v => v | none => opd e (.t i)) else opd e (.t i)
  | [], k, e, i => by simp [bind]
  | v :: l, k, e, i => by
    simp only [bind]
    rw [bind_get l (k + 1) (e.set k v) i, opd_set]
    by_cases h1 : k + 1 ≤ i
    · have h2 : k ≤ i := by omega
      have h3 : ¬ i = k := by omega
      have h4 : i - k = (i - (k + 1)) + 1 := by omega
      simp only [h1, h2, h3, if_true, if_false, h4, List.getElem?_cons_succ]
    · by_cases h5 : i = k
      · subst h5
        have : ¬ i + 1 ≤ i := by omega
        simp [this]
      · have h2 : ¬ k ≤ i := by omega
        simp only [h1, h2, h5, if_false]

theorem bind_rel {φ : Phi} {args : List AV} {cargs : List Value} {nt : Nat} (h : VRels φ args cargs) (hle : args.length ≤ nt) :
    RelEnv nt φ (bind args 0 .leaf) { tmps := cargs.toArray ++ Array.replicate (nt - cargs.toArray.size) undef, defers := [] } := by
  have hl := h.length
  refine ⟨by simp; omega, fun i => ?_, rfl⟩
  rw [bind_get]
  simp only [Nat.zero_le, if_true, Nat.sub_zero]
  rw [Array.getD_eq_getD_getElem?, Array.getElem?_append]
  by_cases hi : i < args.length
  · have hi' : i < cargs.toArray.size := by simp; omega
    rw [if_pos hi']
    have hv : args[i]? = some args[i] := List.getElem?_eq_getElem hi
    obtain ⟨c, c1, c2⟩ := h.get hv
    rw [hv]
    simp only [List.getElem?_toArray, c1, Option.getD_some]
    exact c2
  · have hi' : ¬ i < cargs.toArray.size := by simp; omega
    rw [if_neg hi']
    have hv : args[i]? = none := List.getElem?_eq_none (by omega)
    rw [hv]
    have hu : (Option.getD ((Array.replicate (nt - cargs.toArray.size) undef)[i - cargs.toArray.size]?) undef) = undef := by
      rw [Array.getElem?_replicate]
      split <;> rfl
    rw [hu]
    exact .tuple (l' := []) .nil

def resF (tmps : Array Value) : ResultVar → Sem Value
  | .tmp t => pure (tmps.getD t undef)
  | .cell x t => do loadVar t (← asAddr (tmps.getD x undef))

theorem result_ok {nt : Nat} {φ : Phi} {s : St} {w : World} {e : Env} {a : Act} (hs : RelSt φ s w) (he : RelEnv nt φ e a) {r : ResultVar} {rv : RVar} {v : AV} (h1 : ofResult P r = some rv) (h2 : resultV e s rv = some v) :
    ∃ c, (resF a.tmps r).run P.toProgram w = .ok c w ∧ VRel φ v c := by
  cases r with
  | tmp t =>
    simp only [ofResult] at h1
    cases h1
    simp only [resultV] at h2
    cases h2
    exact ⟨_, rfl, he.val t⟩
  | cell x t =>
    simp only [ofResult] at h1
    split at h1
    · rename_i n hn
      cases h1
      simp only [resultV] at h2
      have hx := he.val x
      obtain ⟨c, c1, c2⟩ := load_ok (P := P) hs hx hn h2
      refine ⟨c, ?_, c2⟩
      unfold loadV at h2
      split at h2
      · rename_i ad hc
        rw [hc] at hx
        show (do loadVar t (← asAddr (a.tmps.getD x undef)) : Sem Value).run P.toProgram w = _
        generalize a.tmps.getD x undef = cx at hx c1 ⊢
        cases hx
        simpa [Instr.loadAt, Instr.sureAddr, asAddr] using c1
      · cases h2
    · cases h1

theorem results_list {nt : Nat} {φ : Phi} {s : St} {w : World} {e : Env} {a : Act} (hs : RelSt φ s w) (he : RelEnv nt φ e a) : ∀ {l : List ResultVar} {rs : List RVar} {vs : List AV}, ofResults P l = some rs → resultsV e s rs = some vs →
    ∃ cs, (l.mapM (resF a.tmps)).run P.toProgram w = .ok cs w ∧ VRels φ vs cs
  | [], rs, vs, h1, h2 => by
    simp only [ofResults] at h1
    cases h1
    simp only [resultsV] at h2
    cases h2
    exact ⟨[], rfl, .nil⟩
  | r :: l, rs, vs, h1, h2 => by
    simp only [ofResults] at h1
    split at h1
    · rename_i rv rr hr hrr
      cases h1
      simp only [resultsV] at h2
      split at h2
      · rename_i v hv
        split at h2
        · rename_i vs' hvs
          cases h2
          obtain ⟨c, c1, c2⟩ := result_ok hs he hr hv
          obtain ⟨cs, d1, d2⟩ := results_list hs he hrr hvs
          refine ⟨c :: cs, ?_, .cons c2 d2⟩
          rw [List.mapM_cons]
          simp only [Sem.run_bind, c1, Result.andThen_ok, d1, Sem.run_pure]
        · cases h2
      · cases h2
    · cases h1

theorem results_ok {nt : Nat} {φ : Phi} {s : St} {w : World} {e : Env} {a : Act} {fn : Func} {rs : List RVar} {vs : List AV} (hs : RelSt φ s w) (he : RelEnv nt φ e a) (h1 : ofResults P fn.results.toList = some rs) (h2 : resultsV e s rs = some vs) :
    ∃ c, (results fn a.tmps).run P.toProgram w = .ok c w ∧ VRel φ (tupled vs) c := by
  obtain ⟨cs, c1, c2⟩ := results_list hs he h1 h2
  have hr : results fn a.tmps = (do
      let vs ← fn.results.mapM (resF a.tmps)
      pure (if h : vs.size = 1 then vs[0] else .tuple vs)) := by
    unfold results
    congr 1
  have hm : fn.results.mapM (resF a.tmps) = List.toArray <$> fn.results.toList.mapM (resF a.tmps) := by
    conv => lhs; rw [show fn.results = fn.results.toList.toArray by simp]
    rw [List.mapM_toArray]
  rw [hr, hm]
  simp only [Sem.run_bind, map_eq_pure_bind, c1, Result.andThen_ok, Sem.run_pure]
  refine ⟨_, rfl, ?_⟩
  · cases c2 with
    | nil => exact .tuple (l' := []) .nil
    | cons a b =>
      cases b with
      | nil => exact a
      | cons b c =>
        simp only [tupled]
        rw [dif_neg (by simp)]
        exact .tuple (.cons a (.cons b c))

/-- The functions of the table are the program's. -/
def HookOk (P : Prog) (f : FuncId) (h : List AV → St → Res) : Prop :=
  ∀ args s r, h args s = r → r ≠ .fail → ∀ φ w cargs, GlobOk P φ → RelSt φ s w → VRels φ args cargs → Free s r.nextId → CallOk P φ s w f cargs.toArray r

structure TabOk (P : Prog) (T : Tab) : Prop where
  code : ∀ f ir, T f = some (.code ir) → ∃ fn, P.funcs[f]? = some fn ∧ ofFunc P fn = some ir ∧ (fn.name == "runtime.NumGoroutine") = false
  ext : ∀ f k, T f = some (.ext k) → HookOk P f (extV k)
  hook : ∀ f h, T f = some (.hook h) → HookOk P f fun args s => ofBoth (h args s)

theorem funcs_ok (hP : TabOk P T) (hc : CodeOk P rec) : FuncsOk P T rec := by
  intro f args s r hcall hn φ w cargs hg hs hargs hf
  unfold callF at hcall
  split at hcall
  · rename_i ir hir
    obtain ⟨fn, hfn, hof, hname⟩ := hP.code f ir hir
    unfold ofFunc at hof
    split at hof
    · rename_i c rs hbody hrs
      cases hof
      intro o a next Q hk
      have hrun : (callFunc f cargs.toArray).run P.toProgram w = .ok (.enter f cargs.toArray) w := by
        simp only [beq_eq_false_iff_ne, ne_eq] at hname; simp [callFunc, hfn, hname, hbody]
      rw [hrun, Oper.upon_enter]
      refine calls_of_wp hfn hbody ?_
      unfold runFn at hcall
      split at hcall
      · rename_i hle
        have hbind := bind_rel (φ := φ) hargs hle
        simp only [] at hcall hle
        cases h1 : rec (ofCode P fn.ntmps 400 c) (bind args 0 .leaf) s with
        | fail => rw [h1] at hcall; exact absurd hcall.symm hn
        | ok x e s' =>
          rw [h1] at hcall
          cases x with
          | exit k => exact absurd hcall.symm hn
          | goto k => exact absurd hcall.symm hn
          | normal =>
            simp only [] at hcall
            cases hl : resultsV e s' rs with
            | none => rw [hl] at hcall; exact absurd hcall.symm hn
            | some l =>
              rw [hl] at hcall
              subst hcall
              refine hc h1 hg hs hbind hf ?_
              intro φ' a' w' st he
              obtain ⟨v, v1, v2⟩ := results_ok (P := P) st.rel he hrs hl
              exact ⟨he.defs, v, v1, hk v w' φ' st v2⟩
          | ret =>
            simp only [] at hcall
            cases hl : resultsV e s' rs with
            | none => rw [hl] at hcall; exact absurd hcall.symm hn
            | some l =>
              rw [hl] at hcall
              subst hcall
              refine hc h1 hg hs hbind hf ?_
              intro φ' a' w' st he
              obtain ⟨v, v1, v2⟩ := results_ok (P := P) st.rel he hrs hl
              exact ⟨he.defs, v, v1, hk v w' φ' st v2⟩
          | panic v =>
            simp only [] at hcall
            subst hcall
            refine hc h1 hg hs hbind hf ?_
            intro φ' a' w' st he c hv
            exact ⟨he.defs, hk c w' φ' st hv⟩
      · exact absurd hcall.symm hn
    · cases hof
  · rename_i k hk
    exact hP.ext f k hk args s r hcall hn φ w cargs hg hs hargs hf
  · rename_i h hh
    exact hP.hook f h hh args s r hcall hn φ w cargs hg hs hargs hf
  · exact absurd hcall.symm hn

theorem evalN_ok (hP : TabOk P T) (hT : TameHooks T) (hD : ∀ rec, (∀ o, OpOk P T rec o) → TameRec rec → DrawOk P T rec) : ∀ n, CodeOk P (evalN T n) ∧ ScopeOk P (evalN T n) ∧ LoopOk P (evalN T n)
  | 0 => by
    refine ⟨?_, ?_, ?_⟩
    · intro c f nt Q e s x e' s' h
      cases h
    · intro b r f nt Q e s x e' s' h
      cases h
    · intro b f nt Q e s x e' s' h
      cases h
  | n + 1 => by
    obtain ⟨h1, h2, h3⟩ := evalN_ok hP hT hD n
    have hr := evalN_tame hT n
    have hops := op_ok (funcs_ok hP h1)
    have hs : ScopeOk P (evalN T (n + 1)) := scope_step (P := P) (T := T) hr h1 h2
    have hl : LoopOk P (evalN T (n + 1)) := loop_step (P := P) (T := T) hr h1 h3
    exact ⟨code_step hops hT hr (hD _ hops hr) h1 hs hl, hs, hl⟩
end
end Go.V
