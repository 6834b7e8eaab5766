/- SOUNDNESS: the library's bodyless functions. -/
import Derived.Test.YtkjddipkaaelaaaDoorV26
set_option linter.unusedVariables false
set_option linter.unusedSimpArgs false
set_option linter.unusedSectionVars false
/- SOUNDNESS: the library's bodyless functions. -/
namespace Go.V
open Go Go.RowKit

section
variable {P : Prog}

/-- What is asked of a bodyless function. -/
def ExtRun (P : Prog) (k : ExtK) (e : Array Value → Sem Value) : Prop :=
  ∀ args s r, extV k args s = r → r ≠ .fail → ∃ v s', r = .val v s' ∧ ∀ φ w cargs, RelSt φ s w → VRels φ args cargs → Free s s'.next → ∃ c w' φ', (e cargs.toArray).run P.toProgram w = .ok c w' ∧ Step φ s w φ' s' w' ∧ VRel φ' v c

structure ExtFact (P : Program) (f : Nat) (fn : Func) (e : Array Value → Sem Value) : Prop where
  func : P.funcs[f]? = some fn
  name : (fn.name == "runtime.NumGoroutine") = false
  body : fn.body.isNone = true
  next : Extern.findNext fn = none
  find : Extern.find fn = some e



end

/- THE TABLE, OUT OF A LIST -/
def lookT (f : Nat) : List (Nat × FnImp) → Option FnImp
  | [] => none
  | (g, k) :: l => match Nat.beq g f with | true => some k | false => lookT f l

/-- What is asked of an entry. -/
def EntryOk (P : Prog) (f : Nat) : FnImp → Prop
  | .code ir => ∃ fn, P.funcs[f]? = some fn ∧ ofFunc P fn = some ir ∧ (fn.name == "runtime.NumGoroutine") = false
  | .ext k => HookOk P f (extV k)
  | .hook _ => False

inductive AllOk (P : Prog) : List (Nat × FnImp) → Prop
  | nil : AllOk P []
  | cons {f : Nat} {i : FnImp} {l : List (Nat × FnImp)} : EntryOk P f i → AllOk P l → AllOk P ((f, i) :: l)

theorem AllOk.get {P : Prog} {f : Nat} {i : FnImp} : ∀ {l : List (Nat × FnImp)}, AllOk P l → lookT f l = some i → EntryOk P f i
  | _, .nil, h => by cases h
  | _, .cons (f := g) a b, h => by
    simp only [lookT] at h
    split at h
    · rename_i hg
      cases h
      have : g = f := by simpa using hg
      subst this
      exact a
    · exact b.get h

theorem AllOk.tab {P : Prog} {l : List (Nat × FnImp)} (h : AllOk P l) : TabOk P (fun f => lookT f l) :=
  ⟨fun f ir hf => h.get hf, fun f k hf => h.get hf, fun f k hf => (h.get hf).elim⟩
theorem AllOk.hooks {P : Prog} {l : List (Nat × FnImp)} (h : AllOk P l) : TameHooks (fun f => lookT f l) :=
  fun f k hf => (h.get hf).elim
end Go.V
