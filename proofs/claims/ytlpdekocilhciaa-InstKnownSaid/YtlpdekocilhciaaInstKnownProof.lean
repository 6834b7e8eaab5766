/- 'coxless/coxlesslaw04.InstKnown' returns true, whatever the world. No condition. The law's code in the small language is run by the kernel; isa's and inst's functions come in by their contracts. -/
import Derived.Test.YtlpdekocilhciaaLInstKnown
import Derived.Test.YtlpdekocilhciaaV43
import Derived.Test.YtlpdekocilhciaaInstOk
import Derived.Test.YtlpdekocilhciaaRows
import Derived.WalkKit
import Derived.ProofKit
import Derived.OpenShut
set_option linter.unusedVariables false
set_option linter.unusedSimpArgs false
set_option linter.unusedSectionVars false
namespace Go.Proofs.Ytlpdekocilhciaa.instKnown
open Go Go.V Go.ChangeShapes Go.WideShapes Go.ChangeAt Go.RowKit

set_option maxRecDepth 1000000 in
theorem okLaw : EntryOk prog 9 (.code ir9) := ⟨Try.f9, Try.func9, by kernel_rfl, by kernel_rfl⟩
theorem own : ownKnob Try.prog.godebug = none := by kernel_rfl
theorem laid : laidOutB Try.prog = true := by kernel_rfl
theorem readable : (Try.f9.params.toList.all fun t => Try.prog.readableRec t && decide (t < Try.prog.types.size)) = true := by kernel_rfl
theorem restype : Try.f9.resultTypes = #[4] := by kernel_rfl

theorem walk (W : World) : Calls Try.prog 9 #[] W fun e W' => e = .returned (.bool true) ∧ Below W.heap.size W W' := by
  have hf := fine_known (P := prog) mixed rfl all okLaw
  refine closed_law (P := prog) mixed hf.ok hf.tame rfl (n := 2000) rfl ?_ W
  rw [← evalF_eq]
  exact known_ev

set_option maxRecDepth 100000 in
theorem lifted (os : Os) (started : os.Started) (H : Type) (enc : TypeId × Value → H) :
    ReturnsInHanded {} Try.checked os 9 .any (Rows.instKnownSpec.pre6 enc Try.prog Try.f9 Rows.instKnownRow.domain false) (Rows.instKnownSpec.post enc Try.prog Try.f9 false true false false) := by
  refine returnsInHanded_of_change (C := Try.checked) own started (by kernel_rfl) Try.func9
    (ChangeSpec.witness6 (enc := enc) (C := Try.checked) false ⟨#[], #[], []⟩ 8 (by kernel_rfl) (by kernel_rfl) (by kernel_rfl) (by kernel_rfl)) ?_
  intro W base args ds gs before hval0 hW hcnd _
  have hW' := hW
  obtain ⟨p, q, hA0, hV, rfl, hfz, hnd⟩ := hW
  have hA : DataW.TrodAll enc Try.prog W 0 (fun _ => true) true Try.f9.params.toList args.toList ds p := hA0
  rw [Try.params9] at hA
  obtain ⟨rfl, rfl⟩ := trodVars_none hV
  obtain ⟨rfl, rfl, rfl⟩ := trodAll_none hA
  clear hA0 hval0
  refine (walk W).mono fun e W' ⟨he, hg⟩ => ?_
  subst he
  exact ⟨_, rfl, law_post laid readable (tb := 4) restype Try.underlying4 hW' rfl rfl hg⟩

theorem over : Rows.instKnownRow.holds Try.pinned (OpenSpec.ofChange Rows.instKnownSpec) :=
  OpenClaim.holds_of_wide 9 Try.f9 rfl rfl rfl rfl rfl rfl rfl ⟨rfl, rfl, rfl, rfl, rfl⟩ rfl rfl rfl rfl rfl (by kernel_rfl) Try.func9 (by kernel_rfl)
    (of_decide_eq_true (by kernel_rfl)) (by unfold Func.isWrapper; first | (rw [if_pos (by decide +kernel)]; kernel_rfl) | (rw [if_neg (by decide +kernel)]; exact ⟨rfl, rfl⟩))
    (fun os started H enc _ => lifted os started H enc)

/-- THE STATEMENT -/
theorem proved : Rows.InstKnownSaid :=
  over
#print axioms proved
end Go.Proofs.Ytlpdekocilhciaa.instKnown
