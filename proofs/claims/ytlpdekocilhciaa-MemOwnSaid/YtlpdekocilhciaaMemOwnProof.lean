/- 'coxless/coxlesslaw24.MemOwn' returns true, whatever its arguments and the world. No condition. The walk goes over the code in the small language, whose evaluation is sound; slices.Sorted(maps.Keys) comes in by its contract, whatever order the map's range takes; the acts lie in an abstract state of what is only read. -/
import Derived.Test.YtlpdekocilhciaaMemO
import Derived.Test.YtlpdekocilhciaaMemOk3
import Derived.Test.YtlpdekocilhciaaRows
import Derived.WalkKit
import Derived.ProofKit
import Derived.OpenShut
set_option linter.unusedVariables false
set_option linter.unusedSimpArgs false
set_option linter.unusedSectionVars false
namespace Go.Proofs.Ytlpdekocilhciaa.memOwn
open Go Go.V Go.ChangeShapes Go.WideShapes Go.ChangeAt Go.RowKit

set_option maxRecDepth 1000000 in
theorem okLaw : EntryOk prog 6 (.code ir6) := ⟨Try.f6, Try.func6, by kernel_rfl, by kernel_rfl⟩
theorem own : ownKnob Try.prog.godebug = none := by kernel_rfl
theorem laid : laidOutB Try.prog = true := by kernel_rfl
theorem readable : (Try.f6.params.toList.all fun t => Try.prog.readableRec t && decide (t < Try.prog.types.size)) = true := by kernel_rfl
theorem restype : Try.f6.resultTypes = #[4] := by kernel_rfl
abbrev T : Tab := tabL ((6, .code ir6) :: memAll)
theorem fine : TabFine prog T := AllOk2.fine (.cons (.old okLaw) memAll_ok)
theorem doTab : DoTab T := ⟨rfl, rfl, rfl, rfl, rfl, rfl, rfl, rfl, rfl, rfl, rfl⟩
theorem partsTab : PartsTab T := ⟨rfl, rfl, rfl, rfl, rfl, rfl, rfl, rfl, rfl, rfl⟩

set_option maxRecDepth 100000 in
theorem walk (W : World) (H : Type) (enc : TypeId × Value → H) (base : Nat) (v v1 : Value) (d d1 : DataW H) (p p1 : List MemPlace) (hd : DataW.Trod enc Try.prog W 0 (fun _ => true) true 48 v d p) (hd1 : DataW.Trod enc Try.prog W 0 (fun _ => true) true 48 v1 d1 p1) (hv : Value.okWide Try.prog W .any base 48 v) (hv1 : Value.okWide Try.prog W .any base 48 v1) : Calls Try.prog 6 #[v, v1] W fun e W' => e = .returned (.bool true) ∧ Below W.heap.size W W' := by
  obtain ⟨φ, s, x, l, hI, hx, hl⟩ := acts_arg Try.underlying48 tyActs hv hd (rel0 W) allRo0 wfs0
  obtain ⟨φ', s', x', l', hI', hx', hl'⟩ := acts_arg Try.underlying48 tyActs hv1 hd1 hI.rel hI.ro hI.wfs
  exact calls_of_ran_ro (P := prog) mixed fine rfl (ir := ir6) rfl (.cons (hx.mono hI'.le) (.cons hx' .nil)) hI'.rel hI'.ro hI'.wfs (own_ran rfl doTab partsTab rfl hI'.wfs (hl.keep hI'.wfs hI'.keep (Nat.le_refl _)) hl')

set_option maxRecDepth 100000 in
theorem lifted (os : Os) (started : os.Started) (H : Type) (enc : TypeId × Value → H) :
    ReturnsInHanded {} Try.checked os 6 .any (Rows.memOwnSpec.pre6 enc Try.prog Try.f6 Rows.memOwnRow.domain false) (Rows.memOwnSpec.post enc Try.prog Try.f6 false true false false) := by
  refine returnsInHanded_of_change (C := Try.checked) own started (by kernel_rfl) Try.func6
    (ChangeSpec.witness6 (enc := enc) (C := Try.checked) false ⟨#[], #[.slice none 0 0, .slice none 0 0], []⟩ 8 (by kernel_rfl) (by kernel_rfl) (by kernel_rfl) (by kernel_rfl)) ?_
  intro W base args ds gs before hval0 hW hcnd _
  have hval : ∀ (j : Nat) t v, Try.f6.params[j]? = some t → args[j]? = some v → Value.okWide Try.prog W .any base t v := hval0
  have hW' := hW
  obtain ⟨p, q, hA0, hV, rfl, hfz, hnd⟩ := hW
  have hA : DataW.TrodAll enc Try.prog W 0 (fun _ => true) true Try.f6.params.toList args.toList ds p := hA0
  rw [Try.params6] at hA hval
  obtain ⟨rfl, rfl⟩ := trodVars_none hV
  obtain ⟨v, v1, d, d1, p0, p1, rfl, rfl, rfl, hd, hd1⟩ := trodAll_two hA
  clear hA0 hval0
  refine (walk W H enc base v v1 d d1 p0 p1 hd hd1 (hval 0 48 v rfl rfl) (hval 1 48 v1 rfl rfl)).mono fun e W' ⟨he, hg⟩ => ?_
  subst he
  exact ⟨_, rfl, law_post laid readable (tb := 4) restype Try.underlying4 hW' rfl rfl hg⟩

theorem over : Rows.memOwnRow.holds Try.pinned (OpenSpec.ofChange Rows.memOwnSpec) :=
  OpenClaim.holds_of_wide 6 Try.f6 rfl rfl rfl rfl rfl rfl rfl ⟨rfl, rfl, rfl, rfl, rfl⟩ rfl rfl rfl rfl rfl (by kernel_rfl) Try.func6 (by kernel_rfl)
    (of_decide_eq_true (by kernel_rfl)) (by unfold Func.isWrapper; first | (rw [if_pos (by decide +kernel)]; kernel_rfl) | (rw [if_neg (by decide +kernel)]; exact ⟨rfl, rfl⟩))
    (fun os started H enc _ => lifted os started H enc)

/-- THE STATEMENT -/
theorem proved : Rows.MemOwnSaid :=
  over
#print axioms proved
end Go.Proofs.Ytlpdekocilhciaa.memOwn
