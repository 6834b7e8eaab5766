/- 'coxless/coxlesslaw22.ShowTwo' returns true at any two instructions, whatever the world, where the listed tables read as the program lays them; the card ties them to the program's text. What is printed is walked as a text; the texts of two right instructions are told apart op by op. -/
import Derived.Test.YtkjddipkaaelaaaDoorSqTw
import Derived.Test.YtkjddipkaaelaaaDoorFInst
import Derived.Test.YtkjddipkaaelaaaDoorV67
import Derived.Test.YtkjddipkaaelaaaDoorV54
import Derived.Test.YtkjddipkaaelaaaDoorRows
import Derived.Test.YtkjddipkaaelaaaDoorCards
import Derived.Test.YtkjddipkaaelaaaDoorTie
import Derived.SevenTiedAt
import Derived.Lay
import Derived.MakeChecks
import Derived.WalkKit
import Derived.ProofKit
import Derived.OpenShut
set_option linter.unusedVariables false
set_option linter.unusedSimpArgs false
set_option linter.unusedSectionVars false
namespace Go.Proofs.YtkjddipkaaelaaaDoor.showTwo
open Go Go.V Go.ChangeShapes Go.WideShapes Go.ChangeAt Go.RowKit

theorem own : ownKnob Tryd.prog.godebug = none := by kernel_rfl
theorem laid : laidOutB Tryd.prog = true := by kernel_rfl
theorem readable : (Tryd.f3.params.toList.all fun t => Tryd.prog.readableRec t && decide (t < Tryd.prog.types.size)) = true := by kernel_rfl
theorem restype : Tryd.f3.resultTypes = #[4] := by kernel_rfl

theorem two_all (hG : WFS sG) {i j : In} (hi : i.ok = true) (hj : j.ok = true) : Ran (tabL t_tells) 3 [.agg i.cells, .agg j.cells] sG fun v _ => v = .bool true :=
  showTwo_ran rfl shTab ⟨hG, pTab_sG⟩ (fun s' h => (memoYes_ran rfl hG h awake_yes).mono fun _ _ e => e.1) hi hj
set_option maxRecDepth 100000 in
theorem walk (W : World) (hL : laidMetH Tryd.prog theLaid W) (base : Nat) (v v1 : Value) (hv : Value.okWide Tryd.prog W .any base 24 v) (hv1 : Value.okWide Tryd.prog W .any base 24 v1) : Calls Tryd.prog 3 #[v, v1] W fun e W' => e = .returned (.bool true) ∧ Below W.heap.size W W' := by
  obtain ⟨φ, hr, hro, hw, hg⟩ := glob_state hL
  obtain ⟨i, hi, ri⟩ := inst_arg Tryd.underlying24 (by kernel_rfl) (by kernel_rfl) Tryd.underlying5 Tryd.underlying4 Tryd.underlying22 Tryd.underlying2 hv
  obtain ⟨j, hj, rj⟩ := inst_arg Tryd.underlying24 (by kernel_rfl) (by kernel_rfl) Tryd.underlying5 Tryd.underlying4 Tryd.underlying22 Tryd.underlying2 hv1
  have hle : PhiLe phi0 φ := fun _ _ _ h => by cases h
  exact calls_of_ran_g (P := prog) mixed fine_tells (ir := ir3) rfl (.cons (ri.mono hle) (.cons (rj.mono hle) .nil)) hg hr hro hw (two_all hw hi hj)

set_option maxRecDepth 100000 in
theorem lifted (os : Os) (started : os.Started) (H : Type) (enc : TypeId × Value → H) :
    ReturnsInHanded {} Tryd.checked os 3 .any (fun w args => (Rows.showTwoSpec.pre enc Tryd.prog Tryd.f3 Rows.showTwoRow.domain false w args ∧ laidMetH Tryd.prog theLaid w) ∧ sizedMet enc Tryd.prog Tryd.f3 (OpenSpec.ofChange Rows.showTwoSpec) false w args)
      (Rows.showTwoSpec.post enc Tryd.prog Tryd.f3 false true false false) := by
  refine returnsInHanded_of_change_and (C := Tryd.checked) (X := fun w _ => laidMetH Tryd.prog theLaid w) (fun _ _ _ hh h => h.of_heap hh) own started (by kernel_rfl) Tryd.func3
    (ChangeSpec.witness_shaped (enc := enc) (C := Tryd.checked) (os := os) (X := fun w _ => laidMetH Tryd.prog theLaid w) false (World.laidAll Tryd.prog os theLaid) #[.agg ⟨[.int .u8 0, .int .u8 0, .int .u8 0, .int .u8 0, .int .u8 0, .int .u8 0, .int .u8 0, .bool false, .bool false, .int .u16 0, .int .i64 0]⟩, .agg ⟨[.int .u8 0, .int .u8 0, .int .u8 0, .int .u8 0, .int .u8 0, .int .u8 0, .int .u8 0, .bool false, .bool false, .int .u16 0, .int .i64 0]⟩] 8 (World.laidAll_os _ _ _)
      (World.shaped_of_ZipB (by kernel_rfl) (by kernel_rfl)) (by kernel_rfl) (by kernel_rfl) (by kernel_rfl)
      (by rw [MakeChecks.laidMetH_plain _ _ _ (by kernel_rfl)]; exact laidMet_laidAll _ (by kernel_rfl) (by kernel_rfl))) ?_
  intro W base args ds gs before hval0 hW hc _ hL _
  have hW' := hW
  obtain ⟨p, q, hA0, hV, rfl, _, _⟩ := hW
  have hA : DataW.TrodAll enc Tryd.prog W 0 (fun _ => true) true Tryd.f3.params.toList args.toList ds p := hA0
  rw [Tryd.params3] at hA
  obtain ⟨rfl, rfl⟩ := trodVars_none hV
  have hval : ∀ (j : Nat) t v, Tryd.f3.params[j]? = some t → args[j]? = some v → Value.okWide Tryd.prog W .any base t v := hval0
  rw [Tryd.params3] at hval
  obtain ⟨v, v1, d, d1, p0, p1, rfl, rfl, rfl, hd, hd1⟩ := trodAll_two hA
  clear hA0 hval0
  refine (walk W hL base v v1 (hval 0 24 v rfl rfl) (hval 1 24 v1 rfl rfl)).mono fun e W' ⟨he, hg⟩ => ?_
  subst he
  exact ⟨_, rfl, law_post laid readable (tb := 4) restype Tryd.underlying4 hW' rfl rfl hg⟩

theorem and_mk {a b : Bool} (h : a = true) (k : b = true) : (a && b) = true := by rw [h, k]; rfl
set_option maxHeartbeats 4000000 in
theorem closed : joinedFacts Tryd.pinned.checked.prog 3 Tryd.f3 Rows.showTwoSpec Rows.showTwoRow = true := by
  unfold joinedFacts
  repeat' (with_reducible apply and_mk)
  all_goals (as_aux_lemma => kernel_rfl)
set_option maxHeartbeats 4000000 in
theorem wrapper : Tryd.f3.isWrapper Tryd.pinned.checked.prog Rows.showTwoRow.wrapper Rows.showTwoRow.mainSum := by unfold Func.isWrapper; first | (rw [if_pos (by decide +kernel)]; kernel_rfl) | (rw [if_neg (by decide +kernel)]; exact ⟨rfl, rfl⟩)

theorem over : Rows.showTwoRow.holds Tryd.pinned (OpenSpec.ofChange Rows.showTwoSpec) :=
  OpenClaim.holds_of_wide 3 Tryd.f3 rfl rfl rfl rfl rfl rfl rfl ⟨rfl, rfl, rfl, rfl, rfl⟩ rfl rfl rfl rfl rfl (by kernel_rfl) Tryd.func3 closed
    (of_decide_eq_true (by kernel_rfl)) wrapper
    (fun os started H enc _ => lifted os started H enc)

/-- THE STATEMENT: the tied card. -/
theorem proved : Rows.ShowTwoCardSaid :=
  Claim7.holds_tied_plain_at .later [] [.data, .data, .data] true (true, "c88672ed88ec1a7ebfad5ab35aca41dfc40e40cf0b36ca19997aa8dd8397435f") false
    over (fun _ h => by cases h) (by kernel_rfl) (fun _ h => by cases h) showTwo_row_tie rfl ⟨rfl, rfl⟩ (by kernel_rfl) rfl
    (fun f fn hf hfn => by
      obtain rfl : f = 3 := Option.some.inj ((show Tryd.prog.funcNamed "coxless/coxlesslaw22.ShowTwo" = some 3 by kernel_rfl).symm.trans hf) |>.symm
      obtain rfl : fn = Tryd.f3 := (Option.some.inj (Tryd.func3.symm.trans hfn)).symm
      exact ⟨by kernel_rfl, fun j t ht => by
        rw [Tryd.params3] at ht
        match j, ht with
        | 0, ht => simp at ht; subst ht; exact (show Tryd.prog.wantsStandIn 24 = false by kernel_rfl)
        | 1, ht => simp at ht; subst ht; exact (show Tryd.prog.wantsStandIn 24 = false by kernel_rfl)
        | j + 2, ht => simp at ht⟩)
    (by kernel_rfl)
#print axioms proved
end Go.Proofs.YtkjddipkaaelaaaDoor.showTwo
