/- 'coxless/coxlesslaw04.InstTells' returns true, whatever the instruction and the world. No condition. The walk goes over the law's code in the small language, whose evaluation is sound (V24); isa's, inst's and the document's functions come in by their contracts. -/
import Derived.Test.YtlpdekocilhciaaLTells7
import Derived.Test.YtlpdekocilhciaaFInst
import Derived.Test.YtlpdekocilhciaaTellsOk
import Derived.Test.YtlpdekocilhciaaV43
import Derived.Test.YtlpdekocilhciaaInstOk
import Derived.Test.YtlpdekocilhciaaRows
import Derived.WalkKit
import Derived.ProofKit
import Derived.OpenShut
set_option linter.unusedVariables false
set_option linter.unusedSimpArgs false
set_option linter.unusedSectionVars false
namespace Go.Proofs.Ytlpdekocilhciaa.instTells
open Go Go.V Go.ChangeShapes Go.WideShapes Go.ChangeAt Go.RowKit

set_option maxRecDepth 1000000 in
theorem okLaw : EntryOk prog 10 (.code ir10) := ⟨Try.f10, Try.func10, by kernel_rfl, by kernel_rfl⟩
theorem own : ownKnob Try.prog.godebug = none := by kernel_rfl
theorem laid : laidOutB Try.prog = true := by kernel_rfl
theorem readable : (Try.f10.params.toList.all fun t => Try.prog.readableRec t && decide (t < Try.prog.types.size)) = true := by kernel_rfl
theorem restype : Try.f10.resultTypes = #[4] := by kernel_rfl

set_option maxRecDepth 100000 in
theorem walk (W : World) (base : Nat) (v : Value) (hv : Value.okWide Try.prog W .any base 33 v) : Calls Try.prog 10 #[v] W fun e W' => e = .returned (.bool true) ∧ Below W.heap.size W W' := by
  obtain ⟨i, hi, hrel⟩ := inst_arg Try.underlying33 (by kernel_rfl) (by kernel_rfl) Try.underlying5 Try.underlying4 Try.underlying31 Try.underlying2 hv
  exact calls_of_ran (P := prog) mixed (fine_tells mixed rfl all tells_all okLaw) rfl (ir := ir10) rfl (.cons hrel .nil) (tells_done s0 wfs0 i hi) W

set_option maxRecDepth 100000 in
theorem lifted (os : Os) (started : os.Started) (H : Type) (enc : TypeId × Value → H) :
    ReturnsInHanded {} Try.checked os 10 .any (Rows.instTellsSpec.pre6 enc Try.prog Try.f10 Rows.instTellsRow.domain false) (Rows.instTellsSpec.post enc Try.prog Try.f10 false true false false) := by
  refine returnsInHanded_of_change (C := Try.checked) own started (by kernel_rfl) Try.func10
    (ChangeSpec.witness6 (enc := enc) (C := Try.checked) false ⟨#[], #[.agg ⟨[.int .u8 0, .int .u8 0, .int .u8 0, .int .u8 0, .int .u8 0, .int .u8 0, .int .u8 0, .bool false, .bool false, .int .u16 0, .int .i64 0]⟩], []⟩ 8 (by kernel_rfl) (by kernel_rfl) (by kernel_rfl) (by kernel_rfl)) ?_
  intro W base args ds gs before hval0 hW hcnd _
  have hval : ∀ (j : Nat) t v, Try.f10.params[j]? = some t → args[j]? = some v → Value.okWide Try.prog W .any base t v := hval0
  have hW' := hW
  obtain ⟨p, q, hA0, hV, rfl, hfz, hnd⟩ := hW
  have hA : DataW.TrodAll enc Try.prog W 0 (fun _ => true) true Try.f10.params.toList args.toList ds p := hA0
  rw [Try.params10] at hA hval
  obtain ⟨rfl, rfl⟩ := trodVars_none hV
  obtain ⟨v, d, rfl, rfl, hd⟩ := trodAll_one hA
  clear hA0 hval0
  refine (walk W base v (hval 0 33 v rfl rfl)).mono fun e W' ⟨he, hg⟩ => ?_
  subst he
  exact ⟨_, rfl, law_post laid readable (tb := 4) restype Try.underlying4 hW' rfl rfl hg⟩

theorem over : Rows.instTellsRow.holds Try.pinned (OpenSpec.ofChange Rows.instTellsSpec) :=
  OpenClaim.holds_of_wide 10 Try.f10 rfl rfl rfl rfl rfl rfl rfl ⟨rfl, rfl, rfl, rfl, rfl⟩ rfl rfl rfl rfl rfl (by kernel_rfl) Try.func10 (by kernel_rfl)
    (of_decide_eq_true (by kernel_rfl)) (by unfold Func.isWrapper; first | (rw [if_pos (by decide +kernel)]; kernel_rfl) | (rw [if_neg (by decide +kernel)]; exact ⟨rfl, rfl⟩))
    (fun os started H enc _ => lifted os started H enc)

/-- THE STATEMENT -/
theorem proved : Rows.InstTellsSaid :=
  over
#print axioms proved
end Go.Proofs.Ytlpdekocilhciaa.instTells
