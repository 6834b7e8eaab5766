/- 'coxless/coxlesslaw24.MemKnown' returns true, whatever the world. No condition. The law's code in the small language is run by the kernel; slices.Sorted(maps.Keys) comes in by its contract, whatever order the map's range takes. -/
import Derived.Test.YtlpdekocilhciaaLMemKnown
import Derived.Test.YtlpdekocilhciaaMemOk2
import Derived.Test.YtlpdekocilhciaaV43
import Derived.Test.YtlpdekocilhciaaRows
import Derived.WalkKit
import Derived.ProofKit
import Derived.OpenShut
set_option linter.unusedVariables false
set_option linter.unusedSimpArgs false
set_option linter.unusedSectionVars false
namespace Go.Proofs.Ytlpdekocilhciaa.memKnown
open Go Go.V Go.ChangeShapes Go.WideShapes Go.ChangeAt Go.RowKit

set_option maxRecDepth 1000000 in
theorem okLaw : EntryOk prog 5 (.code ir5) := ⟨Try.f5, Try.func5, by kernel_rfl, by kernel_rfl⟩
theorem own : ownKnob Try.prog.godebug = none := by kernel_rfl
theorem laid : laidOutB Try.prog = true := by kernel_rfl
theorem readable : (Try.f5.params.toList.all fun t => Try.prog.readableRec t && decide (t < Try.prog.types.size)) = true := by kernel_rfl
theorem restype : Try.f5.resultTypes = #[4] := by kernel_rfl

set_option maxRecDepth 100000 in
theorem walk (W : World)  : Calls Try.prog 5 #[] W fun e W' => e = .returned (.bool true) ∧ Below W.heap.size W W' := by
  have hf : TabFine prog (tabL t_memKnown) := AllOk2.fine (.cons (.old okLaw) (memList_ok mixed all rfl okClone))
  refine closed_law (P := prog) mixed hf.ok hf.tame rfl (n := 2000) rfl ?_ W
  rw [← evalF_eq]
  exact memKnown_ev

set_option maxRecDepth 100000 in
theorem lifted (os : Os) (started : os.Started) (H : Type) (enc : TypeId × Value → H) :
    ReturnsInHanded {} Try.checked os 5 .any (Rows.memKnownSpec.pre6 enc Try.prog Try.f5 Rows.memKnownRow.domain false) (Rows.memKnownSpec.post enc Try.prog Try.f5 false true false false) := by
  refine returnsInHanded_of_change (C := Try.checked) own started (by kernel_rfl) Try.func5
    (ChangeSpec.witness6 (enc := enc) (C := Try.checked) false ⟨#[], #[], []⟩ 8 (by kernel_rfl) (by kernel_rfl) (by kernel_rfl) (by kernel_rfl)) ?_
  intro W base args ds gs before hval0 hW hcnd _
  have hW' := hW
  obtain ⟨p, q, hA0, hV, rfl, hfz, hnd⟩ := hW
  have hA : DataW.TrodAll enc Try.prog W 0 (fun _ => true) true Try.f5.params.toList args.toList ds p := hA0
  rw [Try.params5] at hA
  obtain ⟨rfl, rfl⟩ := trodVars_none hV
  obtain ⟨rfl, rfl, rfl⟩ := trodAll_none hA
  clear hA0 hval0
  refine (walk W ).mono fun e W' ⟨he, hg⟩ => ?_
  subst he
  exact ⟨_, rfl, law_post laid readable (tb := 4) restype Try.underlying4 hW' rfl rfl hg⟩

theorem over : Rows.memKnownRow.holds Try.pinned (OpenSpec.ofChange Rows.memKnownSpec) :=
  OpenClaim.holds_of_wide 5 Try.f5 rfl rfl rfl rfl rfl rfl rfl ⟨rfl, rfl, rfl, rfl, rfl⟩ rfl rfl rfl rfl rfl (by kernel_rfl) Try.func5 (by kernel_rfl)
    (of_decide_eq_true (by kernel_rfl)) (by unfold Func.isWrapper; first | (rw [if_pos (by decide +kernel)]; kernel_rfl) | (rw [if_neg (by decide +kernel)]; exact ⟨rfl, rfl⟩))
    (fun os started H enc _ => lifted os started H enc)

/-- THE STATEMENT -/
theorem proved : Rows.MemKnownSaid :=
  over
#print axioms proved
end Go.Proofs.Ytlpdekocilhciaa.memKnown
