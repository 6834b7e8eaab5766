/- SOUNDNESS: the library's bodyless functions. -/
import Derived.Test.YtoaakfgdebkkaaaGreatDoorV26
set_option linter.unusedVariables false
set_option linter.unusedSimpArgs false
set_option linter.unusedSectionVars false
/- SOUNDNESS: the library's bodyless functions. -/
namespace Go.V
open Go Go.RowKit

section
variable {P : Prog}

/-- What is asked of a bodyless function. -/
def ExtRun (P : Prog) (k : ExtK) (e : Array Value → Sem Value) : Prop :=
 ∀ args s r, extV k args s = r → r ≠ .fail → ∃ v s', r = .val v s' ∧ ∀ φ w cargs, RelSt φ s w → VRels φ args cargs → Free s s'.next → ∃ c w' φ', (e cargs.toArray).run P.toProgram w = .ok c w' ∧ Step φ s w φ' s' w' ∧ VRel φ' v c

structure ExtFact (P : Program) (f : Nat) (fn : Func) (e : Array Value → Sem Value) : Prop where
 func : P.funcs[f]? = some fn
 name : (fn.name == "runtime.NumGoroutine") = false
 body : fn.body.isNone = true
 next : Extern.findNext fn = none
 find : Extern.find fn = some e

theorem ext_hook {f : Nat} {k : ExtK} {fn : Func} {e : Array Value → Sem Value} (h : ExtFact P.toProgram f fn e) (hrun : ExtRun P k e) : HookOk P f (extV k) := by
 intro args s r hr hne φ w cargs _ hs ha hf o a next Q hk
 obtain ⟨v, s', rfl, h1⟩ := hrun args s r hr hne
 obtain ⟨c, w', φ', h2, h3, h4⟩ := h1 φ w cargs hs ha hf
 have hname := h.name
 simp only [beq_eq_false_iff_ne, ne_eq] at hname
 have : (callFunc f cargs.toArray).run P.toProgram w = .ok (.value c) w' := by
  have hb : fn.body = none := Option.isNone_iff_eq_none.1 h.body
  simp [callFunc, h.func, hname, hb, h.next, h.find, h2]
 rw [this, Oper.upon_value]
 exact hk c w' φ' h3 h4

theorem pure_run {k : ExtK} {e : Array Value → Sem Value} (h : ∀ args s r, extV k args s = r → r ≠ .fail → ∃ v, r = .val v s ∧ ∀ φ cargs, VRels φ args cargs → ∃ c, (∀ w, (e cargs.toArray).run P.toProgram w = .ok c w) ∧ VRel φ v c) : ExtRun P k e := by
 intro args s r hr hne
 obtain ⟨v, hv, h1⟩ := h args s r hr hne
 refine ⟨v, s, hv, fun φ w cargs hs ha _ => ?_⟩
 obtain ⟨c, h2, h3⟩ := h1 φ cargs ha
 exact ⟨c, w, φ, h2 w, .refl hs, h3⟩

theorem ext_floor : ExtRun P .floor (Extern.MathFloor.toIntegral "math.archFloor" .down) := by
 refine pure_run fun args s r hr hne => ?_
 unfold extV at hr
 split at hr <;> first | cases ‹ExtK.floor = _› | skip
 · obtain ⟨v, h1, rfl⟩ := ofOpt_ne hr hne
   refine ⟨v, rfl, fun φ cargs ha => ?_⟩
   cases ha with
   | cons a b => cases a; cases b; exact pureAV_run h1
 · exact absurd hr.symm hne
theorem ext_fmax : ExtRun P .fmax (Extern.MathDim.pick "math.archMax" false .gt) := by
 refine pure_run fun args s r hr hne => ?_
 unfold extV at hr
 split at hr <;> first | cases ‹ExtK.fmax = _› | skip
 · obtain ⟨v, h1, rfl⟩ := ofOpt_ne hr hne
   refine ⟨v, rfl, fun φ cargs ha => ?_⟩
   cases ha with
   | cons a b =>
    cases b with
    | cons b c => cases a; cases b; cases c; exact pureAV_run h1
 · exact absurd hr.symm hne
theorem ext_fmin : ExtRun P .fmin (Extern.MathDim.pick "math.archMin" true .lt) := by
 refine pure_run fun args s r hr hne => ?_
 unfold extV at hr
 split at hr <;> first | cases ‹ExtK.fmin = _› | skip
 · obtain ⟨v, h1, rfl⟩ := ofOpt_ne hr hne
   refine ⟨v, rfl, fun φ cargs ha => ?_⟩
   cases ha with
   | cons a b =>
    cases b with
    | cons b c => cases a; cases b; cases c; exact pureAV_run h1
 · exact absurd hr.symm hne
end

/- THE TABLE, OUT OF A LIST -/
def lookT (f : Nat) : List (Nat × FnImp) → Option FnImp
 | [] => none
 | (g, k) :: l => match Nat.beq g f with | true => some k | false => lookT f l

/-- What is asked of an entry. -/
def EntryOk (P : Prog) (f : Nat) : FnImp → Prop
 | .code ir => ∃ fn, P.funcs[f]? = some fn ∧ ofFunc P fn = some ir ∧ (fn.name == "runtime.NumGoroutine") = false
 | .ext k => HookOk P f (extV k)
 | .hook _ => False

inductive AllOk (P : Prog) : List (Nat × FnImp) → Prop
 | nil : AllOk P []
 | cons {f : Nat} {i : FnImp} {l : List (Nat × FnImp)} : EntryOk P f i → AllOk P l → AllOk P ((f, i) :: l)

theorem AllOk.get {P : Prog} {f : Nat} {i : FnImp} : ∀ {l : List (Nat × FnImp)}, AllOk P l → lookT f l = some i → EntryOk P f i
 | _, .nil, h => by cases h
 | _, .cons (f := g) a b, h => by
  simp only [lookT] at h
  split at h
  · rename_i hg
    cases h
    have : g = f := by simpa using hg
    subst this
    exact a
  · exact b.get h

theorem AllOk.tab {P : Prog} {l : List (Nat × FnImp)} (h : AllOk P l) : TabOk P (fun f => lookT f l) :=
 ⟨fun f ir hf => h.get hf, fun f k hf => h.get hf, fun f k hf => (h.get hf).elim⟩
theorem AllOk.hooks {P : Prog} {l : List (Nat × FnImp)} (h : AllOk P l) : TameHooks (fun f => lookT f l) :=
 fun f k hf => (h.get hf).elim
end Go.V
