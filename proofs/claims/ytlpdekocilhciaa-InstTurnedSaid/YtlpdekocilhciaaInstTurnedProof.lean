/- 'coxless/coxlesslaw04.InstTurned' returns true, whatever the instruction, the number and the world. No condition. The walk goes over the law's code in the small language, whose evaluation is sound; isa's and inst's functions come in by their contracts. -/
import Derived.Test.YtlpdekocilhciaaLTurn3
import Derived.Test.YtlpdekocilhciaaFInst
import Derived.Test.YtlpdekocilhciaaV43
import Derived.Test.YtlpdekocilhciaaInstOk
import Derived.Test.YtlpdekocilhciaaRows
import Derived.WalkKit
import Derived.ProofKit
import Derived.OpenShut
set_option linter.unusedVariables false
set_option linter.unusedSimpArgs false
set_option linter.unusedSectionVars false
namespace Go.Proofs.Ytlpdekocilhciaa.instTurned
open Go Go.V Go.ChangeShapes Go.WideShapes Go.ChangeAt Go.RowKit

set_option maxRecDepth 1000000 in
theorem okLaw : EntryOk prog 8 (.code ir8) := ⟨Try.f8, Try.func8, by kernel_rfl, by kernel_rfl⟩
theorem own : ownKnob Try.prog.godebug = none := by kernel_rfl
theorem laid : laidOutB Try.prog = true := by kernel_rfl
theorem readable : (Try.f8.params.toList.all fun t => Try.prog.readableRec t && decide (t < Try.prog.types.size)) = true := by kernel_rfl
theorem restype : Try.f8.resultTypes = #[4] := by kernel_rfl

set_option maxRecDepth 100000 in
theorem walk (W : World) (base : Nat) (v v1 : Value) (hv : Value.okWide Try.prog W .any base 33 v) (hv1 : Value.okWide Try.prog W .any base 5 v1) : Calls Try.prog 8 #[v, v1] W fun e W' => e = .returned (.bool true) ∧ Below W.heap.size W W' := by
  obtain ⟨i, hi, hrel⟩ := inst_arg Try.underlying33 (by kernel_rfl) (by kernel_rfl) Try.underlying5 Try.underlying4 Try.underlying31 Try.underlying2 hv
  obtain ⟨n, rfl, h0, h1⟩ := val_int Try.underlying5 hv1
  simp [IntKind.min, IntKind.max, IntKind.signed, IntKind.bits] at h0 h1
  exact calls_of_ran (P := prog) mixed (fine_turned mixed rfl all okLaw) rfl (ir := ir8) rfl (.cons hrel (.cons (.int _ _) .nil)) (turned_ran rfl rfl rfl rfl s0 i (In.okI_of hi) n h0 (by omega)) W

set_option maxRecDepth 100000 in
theorem lifted (os : Os) (started : os.Started) (H : Type) (enc : TypeId × Value → H) :
    ReturnsInHanded {} Try.checked os 8 .any (Rows.instTurnedSpec.pre6 enc Try.prog Try.f8 Rows.instTurnedRow.domain false) (Rows.instTurnedSpec.post enc Try.prog Try.f8 false true false false) := by
  refine returnsInHanded_of_change (C := Try.checked) own started (by kernel_rfl) Try.func8
    (ChangeSpec.witness6 (enc := enc) (C := Try.checked) false ⟨#[], #[.agg ⟨[.int .u8 0, .int .u8 0, .int .u8 0, .int .u8 0, .int .u8 0, .int .u8 0, .int .u8 0, .bool false, .bool false, .int .u16 0, .int .i64 0]⟩, .int .u8 0], []⟩ 8 (by kernel_rfl) (by kernel_rfl) (by kernel_rfl) (by kernel_rfl)) ?_
  intro W base args ds gs before hval0 hW hcnd _
  have hval : ∀ (j : Nat) t v, Try.f8.params[j]? = some t → args[j]? = some v → Value.okWide Try.prog W .any base t v := hval0
  have hW' := hW
  obtain ⟨p, q, hA0, hV, rfl, hfz, hnd⟩ := hW
  have hA : DataW.TrodAll enc Try.prog W 0 (fun _ => true) true Try.f8.params.toList args.toList ds p := hA0
  rw [Try.params8] at hA hval
  obtain ⟨rfl, rfl⟩ := trodVars_none hV
  obtain ⟨v, v1, d, d1, p0, p1, rfl, rfl, rfl, hd, hd1⟩ := trodAll_two hA
  clear hA0 hval0
  refine (walk W base v v1 (hval 0 33 v rfl rfl) (hval 1 5 v1 rfl rfl)).mono fun e W' ⟨he, hg⟩ => ?_
  subst he
  exact ⟨_, rfl, law_post laid readable (tb := 4) restype Try.underlying4 hW' rfl rfl hg⟩

theorem over : Rows.instTurnedRow.holds Try.pinned (OpenSpec.ofChange Rows.instTurnedSpec) :=
  OpenClaim.holds_of_wide 8 Try.f8 rfl rfl rfl rfl rfl rfl rfl ⟨rfl, rfl, rfl, rfl, rfl⟩ rfl rfl rfl rfl rfl (by kernel_rfl) Try.func8 (by kernel_rfl)
    (of_decide_eq_true (by kernel_rfl)) (by unfold Func.isWrapper; first | (rw [if_pos (by decide +kernel)]; kernel_rfl) | (rw [if_neg (by decide +kernel)]; exact ⟨rfl, rfl⟩))
    (fun os started H enc _ => lifted os started H enc)

/-- THE STATEMENT -/
theorem proved : Rows.InstTurnedSaid :=
  over
#print axioms proved
end Go.Proofs.Ytlpdekocilhciaa.instTurned
