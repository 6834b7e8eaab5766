/- THE TABLE OF A PROGRAM's FUNCTIONS, AND WHAT AN EVALUATION SAYS OF A CALL. -/
import Derived.Test.YtoaakfgdebkkaaaGreatDoorV24
import Derived.Below
import GoSem.Extern.Table
set_option linter.unusedVariables false
set_option linter.unusedSimpArgs false
set_option linter.unusedSectionVars false
/- THE TABLE OF A PROGRAM's FUNCTIONS, AND WHAT AN EVALUATION SAYS OF A CALL. -/
namespace Go.V
open Go Go.RowKit

def extOf (f : Nat) : List (Nat × ExtK) → Option ExtK
 | [] => none
 | (g, k) :: l => match Nat.beq g f with | true => some k | false => extOf f l

def codeOf (P : Prog) (f : Nat) : Option FnImp := match P.funcs[f]? with
 | some fn => match fn.name == "runtime.NumGoroutine" with
  | true => none
  | false => match ofFunc P fn with
   | some ir => some (.code ir)
   | none => none
 | none => none

/-- The table: the library's bodyless functions, then the code. -/
def tabOf (P : Prog) (exts : List (Nat × ExtK)) : Tab := fun f => match extOf f exts with
 | some k => some (.ext k)
 | none => codeOf P f



/-- What an evaluation says of a call. -/
theorem calls_of_eval {P : Prog} {T : Tab} (hm : P.follows .mixedOrders = true) (hP : TabOk P T) (hT : TameHooks T) {n : Nat} {f : FuncId} {args : List AV} {s s' : St} {v : AV} (h : callF T (evalN T n) f args s = .val v s') {ir : IFunc} (hc : T f = some (.code ir))
 {φ : Phi} {w : World} {cargs : List Value} (hg : GlobOk P φ) (hs : RelSt φ s w) (ha : VRels φ args cargs) (hf : Free s s'.next) :
 Calls P.toProgram f cargs.toArray w fun e w' => ∃ c φ', e = .returned c ∧ Step φ s w φ' s' w' ∧ VRel φ' v c := by
 obtain ⟨fn, hfn, hof, hname⟩ := hP.code f ir hc
 have hbody : ∃ c, fn.body = some c := by
  unfold ofFunc at hof
  split at hof
  · exact ⟨_, by assumption⟩
  · cases hof
 obtain ⟨c, hbody⟩ := hbody
 have hrun : (callFunc f cargs.toArray).run P.toProgram w = .ok (.enter f cargs.toArray) w := by
  simp only [beq_eq_false_iff_ne, ne_eq] at hname
  simp [callFunc, hfn, hname, hbody]
 have key := eval_sound hm hP hT n f args s _ h (by simp) φ w cargs hg hs ha hf ⟨some 0, .alloc 0, 0, "", #[], none⟩ ⟨#[undef], []⟩
  (fun a w' => ∃ c φ', a.tmps[0]? = some c ∧ Step φ s w φ' s' w' ∧ VRel φ' v c) (fun _ _ _ => False) (fun c w' φ' st hv => ⟨c, φ', by simp [Act.put], st, hv⟩)
 rw [hrun, Oper.upon_enter] at key
 refine Calls.mono key fun e w' he => ?_
 cases e with
 | returned c =>
  obtain ⟨c', φ', h1, h2, h3⟩ := he
  simp [Act.put] at h1
  subst h1
  exact ⟨c, φ', rfl, h2, h3⟩
 | panicked ch => exact he.elim
 | outgrown => obtain ⟨_, _, h⟩ := he; exact h.elim

def s0 : St := ⟨.leaf, 0⟩
def phi0 : Phi := fun _ _ => none

theorem rel0 (w : World) : RelSt phi0 s0 w :=
 ⟨fun id o h => (by cases h), fun id k x h => (by cases h), fun id k x id' k' x' h => (by cases h), fun id k x cs lo inc ro h => (by cases h), fun id k x t h => (by cases h)⟩


def isYes : Res → Bool
 | .val (.bool true) _ => true
 | _ => false

def isCode : Option FnImp → Bool
 | some (.code _) => true
 | _ => false

end Go.V
