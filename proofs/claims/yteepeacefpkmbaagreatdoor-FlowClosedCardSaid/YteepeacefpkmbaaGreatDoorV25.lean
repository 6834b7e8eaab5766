/- THE TABLE OF A PROGRAM's FUNCTIONS, AND WHAT AN EVALUATION SAYS OF A CALL. -/
import Derived.Test.YteepeacefpkmbaaGreatDoorV24
import Derived.Below
import GoSem.Extern.Table
set_option linter.unusedVariables false
set_option linter.unusedSimpArgs false
set_option linter.unusedSectionVars false
/- THE TABLE OF A PROGRAM's FUNCTIONS, AND WHAT AN EVALUATION SAYS OF A CALL. -/
namespace Go.V
open Go Go.RowKit

def extOf (f : Nat) : List (Nat × ExtK) → Option ExtK
  | [] => none
  | (g, k) :: l => match Nat.beq g f with | true => some k | false => extOf f l

def codeOf (P : Prog) (f : Nat) : Option FnImp := match P.funcs[f]? with
  | some fn => match fn.name == "runtime.NumGoroutine" with
    | true => none
    | false => match ofFunc P fn with
      | some ir => some (.code ir)
      | none => none
  | none => none

/-- The table: the library's bodyless functions, then the code. -/
def tabOf (P : Prog) (exts : List (Nat × ExtK)) : Tab := fun f => match extOf f exts with
  | some k => some (.ext k)
  | none => codeOf P f

theorem tabOf_hooks (P : Prog) (exts : List (Nat × ExtK)) : TameHooks (tabOf P exts) := by
  intro f h hf
  unfold tabOf at hf
  split at hf
  · cases hf
  · unfold codeOf at hf
    split at hf
    · split at hf
      · cases hf
      · split at hf <;> cases hf
    · cases hf

theorem tabOf_ok (P : Prog) (exts : List (Nat × ExtK)) (he : ∀ f k, extOf f exts = some k → HookOk P f (extV k)) : TabOk P (tabOf P exts) := by
  refine ⟨fun f ir hf => ?_, fun f k hf => ?_, fun f h hf => ?_⟩
  · unfold tabOf at hf
    split at hf
    · cases hf
    · unfold codeOf at hf
      split at hf
      · rename_i fn hfn
        split at hf
        · cases hf
        · rename_i hname
          split at hf
          · rename_i ir' hir
            cases hf
            exact ⟨fn, hfn, hir, hname⟩
          · cases hf
      · cases hf
  · unfold tabOf at hf
    split at hf
    · rename_i k' hk
      cases hf
      exact he f k hk
    · unfold codeOf at hf
      split at hf
      · split at hf
        · cases hf
        · split at hf <;> cases hf
      · cases hf
  · unfold tabOf at hf
    split at hf
    · cases hf
    · unfold codeOf at hf
      split at hf
      · split at hf
        · cases hf
        · split at hf <;> cases hf
      · cases hf

/-- What an evaluation says of a call. -/
theorem calls_of_eval {P : Prog} {T : Tab} (hm : P.follows .mixedOrders = true) (hP : TabOk P T) (hT : TameHooks T) {n : Nat} {f : FuncId} {args : List AV} {s s' : St} {v : AV} (h : callF T (evalN T n) f args s = .val v s') {ir : IFunc} (hc : T f = some (.code ir))
    {φ : Phi} {w : World} {cargs : List Value} (hg : GlobOk P φ) (hs : RelSt φ s w) (ha : VRels φ args cargs) (hf : Free s s'.next) :
    Calls P.toProgram f cargs.toArray w fun e w' => ∃ c φ', e = .returned c ∧ Step φ s w φ' s' w' ∧ VRel φ' v c := by
  obtain ⟨fn, hfn, hof, hname⟩ := hP.code f ir hc
  have hbody : ∃ c, fn.body = some c := by
    unfold ofFunc at hof
    split at hof
    · exact ⟨_, by assumption⟩
    · cases hof
  obtain ⟨c, hbody⟩ := hbody
  have hrun : (callFunc f cargs.toArray).run P.toProgram w = .ok (.enter f cargs.toArray) w := by
    simp only [beq_eq_false_iff_ne, ne_eq] at hname
    simp [callFunc, hfn, hname, hbody]
  have key := eval_sound hm hP hT n f args s _ h (by simp) φ w cargs hg hs ha hf ⟨some 0, .alloc 0, 0, "", #[], none⟩ ⟨#[undef], []⟩
    (fun a w' => ∃ c φ', a.tmps[0]? = some c ∧ Step φ s w φ' s' w' ∧ VRel φ' v c) (fun _ _ _ => False) (fun c w' φ' st hv => ⟨c, φ', by simp [Act.put], st, hv⟩)
  rw [hrun, Oper.upon_enter] at key
  refine Calls.mono key fun e w' he => ?_
  cases e with
  | returned c =>
    obtain ⟨c', φ', h1, h2, h3⟩ := he
    simp [Act.put] at h1
    subst h1
    exact ⟨c, φ', rfl, h2, h3⟩
  | panicked ch => exact he.elim
  | outgrown => obtain ⟨_, _, h⟩ := he; exact h.elim

def s0 : St := ⟨.leaf, 0⟩
def phi0 : Phi := fun _ _ => none

theorem rel0 (w : World) : RelSt phi0 s0 w :=
  ⟨fun id o h => (by cases h), fun id k x h => (by cases h), fun id k x id' k' x' h => (by cases h), fun id k x cs lo inc ro h => (by cases h)⟩

theorem Step.below {w w' : World} {φ' : Phi} {s' : St} (h : Step phi0 s0 w φ' s' w') : Below w.heap.size w w' :=
  ⟨h.os, h.tape, h.output, h.size, fun k hk => h.frame k hk (fun ⟨_, _, _, e, _⟩ => by cases e)⟩

def isYes : Res → Bool
  | .val (.bool true) _ => true
  | _ => false

def isCode : Option FnImp → Bool
  | some (.code _) => true
  | _ => false

/-- A closed law: its evaluation from nothing answers true. -/
theorem closed_law {P : Prog} {T : Tab} (hm : P.follows .mixedOrders = true) (hP : TabOk P T) (hT : TameHooks T) (hG : P.G = []) {n : Nat} {f : FuncId} (hc : isCode (T f) = true) (h : isYes (callF T (evalN T n) f [] s0) = true) (w : World) :
    Calls P.toProgram f #[] w fun e w' => e = .returned (.bool true) ∧ Below w.heap.size w w' := by
  cases hr : callF T (evalN T n) f [] s0 with
  | fail => rw [hr] at h; cases h
  | panic v s => rw [hr] at h; cases h
  | val v s' =>
    rw [hr] at h
    have hv : v = .bool true := by
      cases v with
      | bool b => cases b with
        | true => rfl
        | false => cases h
      | _ => cases h
    subst hv
    obtain ⟨ir, hir⟩ : ∃ ir, T f = some (.code ir) := by
      cases ht : T f with
      | none => rw [ht] at hc; cases hc
      | some i =>
        cases i with
        | code ir => exact ⟨ir, rfl⟩
        | ext k => rw [ht] at hc; cases hc
        | hook k => rw [ht] at hc; cases hc
    have hgl : GlobOk P phi0 := by
      intro g hg
      rw [hG] at hg
      simp at hg
    refine Calls.mono (calls_of_eval hm hP hT hr hir (cargs := []) hgl (rel0 w) .nil (fun id _ _ => rfl)) fun e w' he => ?_
    obtain ⟨c, φ', rfl, st, hv⟩ := he
    cases hv
    exact ⟨rfl, st.below⟩
end Go.V
