/- A bodyless function that changes nothing, as a hook; internal/bytealg.CountString. -/
import Derived.Test.YteepeacefpkmbaaGreatDoorV64
import Derived.Lib.Bytealg
set_option linter.unusedVariables false
set_option linter.unusedSimpArgs false
set_option linter.unusedSectionVars false
/- A bodyless function that changes nothing, as a hook; internal/bytealg.CountString. -/
namespace Go.V
open Go Go.RowKit

def fnH (g : List AV → Option AV) (args : List AV) (s : St) : Option (AV × St) := match g args with
  | some v => some (v, s)
  | none => none

theorem fnH_ok {P : Prog} {f : Nat} {fn : Func} {e : Array Value → Sem Value} (h : ExtFact P.toProgram f fn e) {g : List AV → Option AV}
    (hrun : ∀ args v, g args = some v → ∀ φ cargs, VRels φ args cargs → ∃ c, (∀ w, (e cargs.toArray).run P.toProgram w = .ok c w) ∧ VRel φ v c) : HookOk P f (fun args s => ofBoth (fnH g args s)) := by
  intro args s r hr hne φ w cargs _ hs ha hf o a next Q hk
  dsimp only at hr
  unfold fnH at hr
  cases hg : g args with
  | none => rw [hg] at hr; exact absurd hr.symm hne
  | some v =>
    rw [hg] at hr
    cases hr
    obtain ⟨c, h2, h3⟩ := hrun args v hg φ cargs ha
    have hname := h.name
    simp only [beq_eq_false_iff_ne, ne_eq] at hname
    have : (callFunc f cargs.toArray).run P.toProgram w = .ok (.value c) w := by
      have hb : fn.body = none := Option.isNone_iff_eq_none.1 h.body
      simp [callFunc, h.func, hname, hb, h.next, h.find, h2]
    rw [this, Oper.upon_value]
    exact hk c w φ (.refl hs) h3

theorem fnH_tame (g : List AV → Option AV) (args : List AV) (s : St) : Tame s (fun s => ofBoth (fnH g args s)) := by
  intro hn
  unfold fnH at hn ⊢
  cases hg : g args with
  | none => rw [hg] at hn; exact absurd rfl hn
  | some v =>
    refine ⟨Good.refl _, fun b o _ _ => rfl⟩

def countStr : List AV → Option AV
  | [.str l, .int .u8 (.ofNat c)] => match Nat.blt c 256 with
    | true => some (.int .i64 (Int.ofNat (Lib.countByte l (UInt8.ofNat c))))
    | false => none
  | _ => none

theorem countStr_run (P : Program) (args : List AV) (v : AV) (h : countStr args = some v) (φ : Phi) (cargs : List Value) (ha : VRels φ args cargs) : ∃ c, (∀ w, (Extern.BytealgCount.count cargs.toArray).run P w = .ok c w) ∧ VRel φ v c := by
  unfold countStr at h
  split at h
  · rename_i l c
    split at h
    · cases h
      cases ha with
      | cons a b =>
        cases b with
        | cons b d =>
          cases d
          obtain ⟨sb, rfl, rfl⟩ := str_inv a
          cases b
          exact ⟨_, fun w => Lib.run_countString .., .int _ _⟩
    · cases h
  · cases h
end Go.V
