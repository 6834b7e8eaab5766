/- 'coxless/coxlesslaw24.MemStays' returns true, whatever its arguments and the world. No condition. The walk goes over the code in the small language, whose evaluation is sound; slices.Sorted(maps.Keys) comes in by its contract, whatever order the map's range takes; the acts lie in an abstract state of what is only read. -/
import Derived.Test.YtlpdekocilhciaaMemK
import Derived.Test.YtlpdekocilhciaaMemOk3
import Derived.Test.YtlpdekocilhciaaRows
import Derived.WalkKit
import Derived.ProofKit
import Derived.OpenShut
set_option linter.unusedVariables false
set_option linter.unusedSimpArgs false
set_option linter.unusedSectionVars false
namespace Go.Proofs.Ytlpdekocilhciaa.memStays
open Go Go.V Go.ChangeShapes Go.WideShapes Go.ChangeAt Go.RowKit

set_option maxRecDepth 1000000 in
theorem okLaw : EntryOk prog 7 (.code ir7) := ⟨Try.f7, Try.func7, by kernel_rfl, by kernel_rfl⟩
theorem own : ownKnob Try.prog.godebug = none := by kernel_rfl
theorem laid : laidOutB Try.prog = true := by kernel_rfl
theorem readable : (Try.f7.params.toList.all fun t => Try.prog.readableRec t && decide (t < Try.prog.types.size)) = true := by kernel_rfl
theorem restype : Try.f7.resultTypes = #[4] := by kernel_rfl
abbrev T : Tab := tabL ((7, .code ir7) :: memAll)
theorem fine : TabFine prog T := AllOk2.fine (.cons (.old okLaw) memAll_ok)
theorem doTab : DoTab T := ⟨rfl, rfl, rfl, rfl, rfl, rfl, rfl, rfl, rfl, rfl, rfl⟩
theorem partsTab : PartsTab T := ⟨rfl, rfl, rfl, rfl, rfl, rfl, rfl, rfl, rfl, rfl⟩

set_option maxRecDepth 100000 in
theorem walk (W : World) (H : Type) (enc : TypeId × Value → H) (base : Nat) (v v1 v2 v3 v4 : Value) (d : DataW H) (p : List MemPlace) (hd : DataW.Trod enc Try.prog W 0 (fun _ => true) true 48 v d p) (hv : Value.okWide Try.prog W .any base 48 v) (hv1 : Value.okWide Try.prog W .any base 22 v1) (hv2 : Value.okWide Try.prog W .any base 3 v2) (hv3 : Value.okWide Try.prog W .any base 22 v3) (hv4 : Value.okWide Try.prog W .any base 22 v4) : Calls Try.prog 7 #[v, v1, v2, v3, v4] W fun e W' => e = .returned (.bool true) ∧ Below W.heap.size W W' := by
  obtain ⟨φ, s, x, l, hI, hx, hl⟩ := acts_arg Try.underlying48 tyActs hv hd (rel0 W) allRo0 wfs0
  obtain ⟨k, rfl, k0, k1⟩ := val_int Try.underlying22 hv1
  obtain ⟨n, rfl, _, _⟩ := val_int Try.underlying3 hv2
  obtain ⟨q, rfl, q0, q1⟩ := val_int Try.underlying22 hv3
  obtain ⟨o, rfl, o0, o1⟩ := val_int Try.underlying22 hv4
  simp [IntKind.min, IntKind.max, IntKind.signed, IntKind.bits] at k0 k1 q0 q1 o0 o1
  obtain ⟨k, rfl⟩ := Int.eq_ofNat_of_zero_le k0
  obtain ⟨q, rfl⟩ := Int.eq_ofNat_of_zero_le q0
  obtain ⟨o, rfl⟩ := Int.eq_ofNat_of_zero_le o0
  exact calls_of_ran_ro (P := prog) mixed fine rfl (ir := ir7) rfl (.cons hx (.cons (.int _ _) (.cons (.int _ _) (.cons (.int _ _) (.cons (.int _ _) .nil))))) hI.rel hI.ro hI.wfs (stays_ran rfl doTab partsTab hI.wfs hl k q o n (by omega) (by omega) (by omega))

set_option maxRecDepth 100000 in
theorem lifted (os : Os) (started : os.Started) (H : Type) (enc : TypeId × Value → H) :
    ReturnsInHanded {} Try.checked os 7 .any (Rows.memStaysSpec.pre6 enc Try.prog Try.f7 Rows.memStaysRow.domain false) (Rows.memStaysSpec.post enc Try.prog Try.f7 false true false false) := by
  refine returnsInHanded_of_change (C := Try.checked) own started (by kernel_rfl) Try.func7
    (ChangeSpec.witness6 (enc := enc) (C := Try.checked) false ⟨#[], #[.slice none 0 0, .int .u32 0, .int .i64 0, .int .u32 0, .int .u32 0], []⟩ 8 (by kernel_rfl) (by kernel_rfl) (by kernel_rfl) (by kernel_rfl)) ?_
  intro W base args ds gs before hval0 hW hcnd _
  have hval : ∀ (j : Nat) t v, Try.f7.params[j]? = some t → args[j]? = some v → Value.okWide Try.prog W .any base t v := hval0
  have hW' := hW
  obtain ⟨p, q, hA0, hV, rfl, hfz, hnd⟩ := hW
  have hA : DataW.TrodAll enc Try.prog W 0 (fun _ => true) true Try.f7.params.toList args.toList ds p := hA0
  rw [Try.params7] at hA hval
  obtain ⟨rfl, rfl⟩ := trodVars_none hV
  obtain ⟨v, v1, v2, v3, v4, d, d1, d2, d3, d4, p0, rfl, rfl, hd⟩ := trodAll_five hA
  clear hA0 hval0
  refine (walk W H enc base v v1 v2 v3 v4 d p0 hd (hval 0 48 v rfl rfl) (hval 1 22 v1 rfl rfl) (hval 2 3 v2 rfl rfl) (hval 3 22 v3 rfl rfl) (hval 4 22 v4 rfl rfl)).mono fun e W' ⟨he, hg⟩ => ?_
  subst he
  exact ⟨_, rfl, law_post laid readable (tb := 4) restype Try.underlying4 hW' rfl rfl hg⟩

theorem over : Rows.memStaysRow.holds Try.pinned (OpenSpec.ofChange Rows.memStaysSpec) :=
  OpenClaim.holds_of_wide 7 Try.f7 rfl rfl rfl rfl rfl rfl rfl ⟨rfl, rfl, rfl, rfl, rfl⟩ rfl rfl rfl rfl rfl (by kernel_rfl) Try.func7 (by kernel_rfl)
    (of_decide_eq_true (by kernel_rfl)) (by unfold Func.isWrapper; first | (rw [if_pos (by decide +kernel)]; kernel_rfl) | (rw [if_neg (by decide +kernel)]; exact ⟨rfl, rfl⟩))
    (fun os started H enc _ => lifted os started H enc)

/-- THE STATEMENT -/
theorem proved : Rows.MemStaysSaid :=
  over
#print axioms proved
end Go.Proofs.Ytlpdekocilhciaa.memStays
