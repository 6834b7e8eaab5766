/- 'coxless/coxlesslaw27.TraceSays' returns true at any two states, whatever the world, where the listed tables read as the program lays them; the card ties them to the program's text. What is said of a state is walked once, and tells the state. -/
import Derived.Test.YtipcimefenpjhaaGreatDoorTkOk
import Derived.Test.YtipcimefenpjhaaGreatDoorTS9
import Derived.Test.YtipcimefenpjhaaGreatDoorTSArg
import Derived.Test.YtipcimefenpjhaaGreatDoorV54
import Derived.Test.YtipcimefenpjhaaGreatDoorRows
import Derived.Test.YtipcimefenpjhaaGreatDoorCards
import Derived.Test.YtipcimefenpjhaaGreatDoorTie
import Derived.SevenTiedAt
import Derived.Lay
import Derived.MakeChecks
import Derived.WalkKit
import Derived.ProofKit
import Derived.OpenShut
set_option linter.unusedVariables false
set_option linter.unusedSimpArgs false
set_option linter.unusedSectionVars false
namespace Go.Proofs.YtipcimefenpjhaaGreatDoor.traceSays
open Go Go.V Go.ChangeShapes Go.WideShapes Go.ChangeAt Go.RowKit

theorem own : ownKnob Tryz.prog.godebug = none := by kernel_rfl
theorem laid : laidOutB Tryz.prog = true := by kernel_rfl
theorem readable : (Tryz.f3.params.toList.all fun t => Tryz.prog.readableRec t && decide (t < Tryz.prog.types.size)) = true := by kernel_rfl
theorem restype : Tryz.f3.resultTypes = #[4] := by kernel_rfl

theorem ok_says : AllOk2 prog t_says :=
  .cons (ok_l7.get (f := 6) rfl) (.cons (ok_l7.get (f := 8) rfl) ok_l0)
theorem fine_says : TabFine prog (tabL t_says) := AllOk2.fine ok_says
set_option maxRecDepth 100000 in
theorem state_in {W : World} {base : Nat} {v : Value} (h : Value.okWide Tryz.prog W .any base 27 v) : ∃ m : Mst, m.Ok ∧ VRel phi0 (.agg m.cells) v :=
  state_arg Tryz.underlying27 (by kernel_rfl) (by kernel_rfl) Tryz.underlying22 Tryz.underlying4 Tryz.underlying5 h

set_option maxRecDepth 100000 in
theorem walk (W : World) (base : Nat) (hL : laidMetH Tryz.prog theLaid W) (v v1 : Value) (hv : Value.okWide Tryz.prog W .any base 27 v) (hv1 : Value.okWide Tryz.prog W .any base 27 v1) : Calls Tryz.prog 3 #[v, v1] W fun e W' => e = .returned (.bool true) ∧ Below W.heap.size W W' := by
  obtain ⟨φ, hr, hro, hw, hg⟩ := glob_state hL
  obtain ⟨m, hm, rm⟩ := state_in hv
  obtain ⟨q, hq, rq⟩ := state_in hv1
  have hle : PhiLe phi0 φ := fun _ _ _ h => by cases h
  exact calls_of_ran_g (P := prog) mixed fine_says (ir := ir3) rfl (.cons (rm.mono hle) (.cons (rq.mono hle) .nil)) hg hr hro hw (traceSays_all hw m q hm hq)

set_option maxRecDepth 100000 in
theorem lifted (os : Os) (started : os.Started) (H : Type) (enc : TypeId × Value → H) :
    ReturnsInHanded {} Tryz.checked os 3 .any (fun w args => (Rows.traceSaysSpec.pre enc Tryz.prog Tryz.f3 Rows.traceSaysRow.domain false w args ∧ laidMetH Tryz.prog theLaid w) ∧ sizedMet enc Tryz.prog Tryz.f3 (OpenSpec.ofChange Rows.traceSaysSpec) false w args)
      (Rows.traceSaysSpec.post enc Tryz.prog Tryz.f3 false true false false) := by
  refine returnsInHanded_of_change_and (C := Tryz.checked) (X := fun w _ => laidMetH Tryz.prog theLaid w) (fun _ _ _ hh h => h.of_heap hh) own started (by kernel_rfl) Tryz.func3
    (ChangeSpec.witness_shaped (enc := enc) (C := Tryz.checked) (os := os) (X := fun w _ => laidMetH Tryz.prog theLaid w) false (World.laidAll Tryz.prog os theLaid) #[.agg ⟨[.int .u32 0, .int .u32 0, .int .u32 0, .int .u32 0, .int .u32 0, .int .u32 0, .int .u32 0, .int .u32 0, .int .u32 0, .int .u32 0, .int .u32 0, .int .u32 0, .int .u32 0, .int .u32 0, .int .u32 0, .int .u32 0, .int .u32 0, .int .u32 0, .int .u32 0, .int .u32 0, .int .u32 0, .int .u32 0, .int .u32 0, .int .u32 0, .int .u32 0, .int .u32 0, .int .u32 0, .int .u32 0, .int .u32 0, .int .u32 0, .int .u32 0, .int .u32 0, .bool false, .bool false, .bool false, .bool false, .int .u32 0, .int .u32 0, .int .u32 0, .int .u32 0, .int .u32 0, .int .u8 0]⟩, .agg ⟨[.int .u32 0, .int .u32 0, .int .u32 0, .int .u32 0, .int .u32 0, .int .u32 0, .int .u32 0, .int .u32 0, .int .u32 0, .int .u32 0, .int .u32 0, .int .u32 0, .int .u32 0, .int .u32 0, .int .u32 0, .int .u32 0, .int .u32 0, .int .u32 0, .int .u32 0, .int .u32 0, .int .u32 0, .int .u32 0, .int .u32 0, .int .u32 0, .int .u32 0, .int .u32 0, .int .u32 0, .int .u32 0, .int .u32 0, .int .u32 0, .int .u32 0, .int .u32 0, .bool false, .bool false, .bool false, .bool false, .int .u32 0, .int .u32 0, .int .u32 0, .int .u32 0, .int .u32 0, .int .u8 0]⟩] 8 (World.laidAll_os _ _ _)
      (World.shaped_of_ZipB (by kernel_rfl) (by kernel_rfl)) (by kernel_rfl) (by kernel_rfl) (by kernel_rfl)
      (by rw [MakeChecks.laidMetH_plain _ _ _ (by kernel_rfl)]; exact laidMet_laidAll _ (by kernel_rfl) (by kernel_rfl))) ?_
  intro W base args ds gs before hval0 hW hc _ hL _
  have hW' := hW
  obtain ⟨p, q, hA0, hV, rfl, _, _⟩ := hW
  have hA : DataW.TrodAll enc Tryz.prog W 0 (fun _ => true) true Tryz.f3.params.toList args.toList ds p := hA0
  rw [Tryz.params3] at hA
  obtain ⟨rfl, rfl⟩ := trodVars_none hV
  have hval : ∀ (j : Nat) t v, Tryz.f3.params[j]? = some t → args[j]? = some v → Value.okWide Tryz.prog W .any base t v := hval0
  rw [Tryz.params3] at hval
  obtain ⟨v, v1, d, d1, p0, p1, rfl, rfl, rfl, hd, hd1⟩ := trodAll_two hA
  clear hA0 hval0
  refine (walk W base hL v v1 (hval 0 27 v rfl rfl) (hval 1 27 v1 rfl rfl)).mono fun e W' ⟨he, hg⟩ => ?_
  subst he
  exact ⟨_, rfl, law_post laid readable (tb := 4) restype Tryz.underlying4 hW' rfl rfl hg⟩

theorem and_mk {a b : Bool} (h : a = true) (k : b = true) : (a && b) = true := by rw [h, k]; rfl
set_option maxHeartbeats 4000000 in
theorem closed : joinedFacts Tryz.pinned.checked.prog 3 Tryz.f3 Rows.traceSaysSpec Rows.traceSaysRow = true := by
  unfold joinedFacts
  repeat' (with_reducible apply and_mk)
  all_goals (as_aux_lemma => kernel_rfl)
set_option maxHeartbeats 4000000 in
theorem wrapper : Tryz.f3.isWrapper Tryz.pinned.checked.prog Rows.traceSaysRow.wrapper Rows.traceSaysRow.mainSum := by unfold Func.isWrapper; first | (rw [if_pos (by decide +kernel)]; kernel_rfl) | (rw [if_neg (by decide +kernel)]; exact ⟨rfl, rfl⟩)

theorem over : Rows.traceSaysRow.holds Tryz.pinned (OpenSpec.ofChange Rows.traceSaysSpec) :=
  OpenClaim.holds_of_wide 3 Tryz.f3 rfl rfl rfl rfl rfl rfl rfl ⟨rfl, rfl, rfl, rfl, rfl⟩ rfl rfl rfl rfl rfl (by kernel_rfl) Tryz.func3 closed
    (of_decide_eq_true (by kernel_rfl)) wrapper
    (fun os started H enc _ => lifted os started H enc)

/-- THE 27MENT: the tied card. -/
theorem proved : Rows.TraceSaysCardSaid :=
  Claim7.holds_tied_plain_at .later [] [.wider, .wider, .wider, .wider, .data, .data, .data, .data] true (true, "459fb1a3d8e97fbe5e33c68680c122404979888bfc4ba89e587abc9b0e9266c9") false
    over (fun _ h => by cases h) (by kernel_rfl) (fun _ h => by cases h) traceSays_row_tie rfl ⟨rfl, rfl⟩ (by kernel_rfl) rfl
    (fun f fn hf hfn => by
      obtain rfl : f = 3 := Option.some.inj ((show Tryz.prog.funcNamed "coxless/coxlesslaw27.TraceSays" = some 3 by kernel_rfl).symm.trans hf) |>.symm
      obtain rfl : fn = Tryz.f3 := (Option.some.inj (Tryz.func3.symm.trans hfn)).symm
      exact ⟨by kernel_rfl, fun j t ht => by
        rw [Tryz.params3] at ht
        match j, ht with
        | 0, ht => simp at ht; subst ht; exact (show Tryz.prog.wantsStandIn 27 = false by kernel_rfl)
        | 1, ht => simp at ht; subst ht; exact (show Tryz.prog.wantsStandIn 27 = false by kernel_rfl)
        | j + 2, ht => simp at ht⟩)
    (by kernel_rfl)
#print axioms proved
end Go.Proofs.YtipcimefenpjhaaGreatDoor.traceSays
