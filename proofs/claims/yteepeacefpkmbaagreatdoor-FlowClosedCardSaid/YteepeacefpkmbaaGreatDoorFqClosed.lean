/- 'coxless/coxlesslaw30.FlowClosed' returns true at any nodes and any number, whatever the world, where the listed tables read as the program lays them; the card ties them to the program's text. The walks over sets, maps and sorting are contracts over the code in the small language, whose evaluation is sound; the law's awake is run by the kernel. -/
import Derived.Test.YteepeacefpkmbaaGreatDoorFqTc
import Derived.Test.YteepeacefpkmbaaGreatDoorFLArg
import Derived.Test.YteepeacefpkmbaaGreatDoorV54
import Derived.Test.YteepeacefpkmbaaGreatDoorRows
import Derived.Test.YteepeacefpkmbaaGreatDoorCards
import Derived.Test.YteepeacefpkmbaaGreatDoorTie
import Derived.SevenTiedAt
import Derived.Lay
import Derived.MakeChecks
import Derived.WalkKit
import Derived.ProofKit
import Derived.OpenShut
set_option linter.unusedVariables false
set_option linter.unusedSimpArgs false
set_option linter.unusedSectionVars false
namespace Go.Proofs.YteepeacefpkmbaaGreatDoor.flowClosed
open Go Go.V Go.ChangeShapes Go.WideShapes Go.ChangeAt Go.RowKit

theorem own : ownKnob Tryz.prog.godebug = none := by kernel_rfl
theorem laid : laidOutB Tryz.prog = true := by kernel_rfl
theorem readable : (Tryz.f4.params.toList.all fun t => Tryz.prog.readableRec t && decide (t < Tryz.prog.types.size)) = true := by kernel_rfl
theorem restype : Tryz.f4.resultTypes = #[4] := by kernel_rfl

theorem tyNds : tyOf Tryz.prog 8 22 = some (.slice ndTy) := by
  have c28 : Tryz.prog.cellsOf 28 = 4 := by kernel_rfl
  have c23 : Tryz.prog.cellsOf 23 = 1 := by kernel_rfl
  have c3 : Tryz.prog.cellsOf 3 = 1 := by kernel_rfl
  have c26 : Tryz.prog.cellsOf 26 = 1 := by kernel_rfl
  have c4 : Tryz.prog.cellsOf 4 = 1 := by kernel_rfl
  simp [tyOf, tyOf.go, ndTy, tySize, tySizes, Tryz.underlying22, Tryz.underlying28, Tryz.underlying23, Tryz.underlying3, Tryz.underlying26, Tryz.underlying4, c28, c23, c3, c26, c4]
set_option maxRecDepth 100000 in
theorem walk (W : World) (hL : laidMetH Tryz.prog theLaid W) (H : Type) (enc : TypeId × Value → H) (base : Nat) (v v1 : Value) (d : DataW H) (p : List MemPlace) (hd : DataW.Trod enc Tryz.prog W 0 (fun _ => true) true 22 v d p) (hv : Value.okWide Tryz.prog W .any base 22 v) (hv1 : Value.okWide Tryz.prog W .any base 23 v1) : Calls Tryz.prog 4 #[v, v1] W fun e W' => e = .returned (.bool true) ∧ Below W.heap.size W W' := by
  obtain ⟨φ, hr, hro, hw, hg⟩ := glob_state hL
  obtain ⟨φ', s, x, L, hI, hx, hn⟩ := nds_arg Tryz.underlying22 tyNds hv hd hr hro hw
  obtain ⟨k, rfl, k0, k1⟩ := val_int Tryz.underlying23 hv1
  simp [IntKind.min, IntKind.max, IntKind.signed, IntKind.bits] at k0 k1
  obtain ⟨k, rfl⟩ := Int.eq_ofNat_of_zero_le k0
  exact calls_of_ran_g (P := prog) mixed fine_flow (ir := ir4) rfl (.cons hx (.cons (.int _ _) .nil)) (hg.mono hI.le) hI.rel hI.ro hI.wfs (flow_all hw (imp_ext hI sG_full) hn k)

set_option maxRecDepth 100000 in
theorem lifted (os : Os) (started : os.Started) (H : Type) (enc : TypeId × Value → H) :
    ReturnsInHanded {} Tryz.checked os 4 .any (fun w args => (Rows.flowClosedSpec.pre enc Tryz.prog Tryz.f4 Rows.flowClosedRow.domain false w args ∧ laidMetH Tryz.prog theLaid w) ∧ sizedMet enc Tryz.prog Tryz.f4 (OpenSpec.ofChange Rows.flowClosedSpec) false w args)
      (Rows.flowClosedSpec.post enc Tryz.prog Tryz.f4 false true false false) := by
  refine returnsInHanded_of_change_and (C := Tryz.checked) (X := fun w _ => laidMetH Tryz.prog theLaid w) (fun _ _ _ hh h => h.of_heap hh) own started (by kernel_rfl) Tryz.func4
    (ChangeSpec.witness_shaped (enc := enc) (C := Tryz.checked) (os := os) (X := fun w _ => laidMetH Tryz.prog theLaid w) false (World.laidAll Tryz.prog os theLaid) #[.slice none 0 0, .int .u32 0] 8 (World.laidAll_os _ _ _)
      (World.shaped_of_ZipB (by kernel_rfl) (by kernel_rfl)) (by kernel_rfl) (by kernel_rfl) (by kernel_rfl)
      (by rw [MakeChecks.laidMetH_plain _ _ _ (by kernel_rfl)]; exact laidMet_laidAll _ (by kernel_rfl) (by kernel_rfl))) ?_
  intro W base args ds gs before hval0 hW hc _ hL _
  have hW' := hW
  obtain ⟨p, q, hA0, hV, rfl, _, _⟩ := hW
  have hA : DataW.TrodAll enc Tryz.prog W 0 (fun _ => true) true Tryz.f4.params.toList args.toList ds p := hA0
  rw [Tryz.params4] at hA
  obtain ⟨rfl, rfl⟩ := trodVars_none hV
  have hval : ∀ (j : Nat) t v, Tryz.f4.params[j]? = some t → args[j]? = some v → Value.okWide Tryz.prog W .any base t v := hval0
  rw [Tryz.params4] at hval
  obtain ⟨v, v1, d, d1, p0, p1, rfl, rfl, rfl, hd, hd1⟩ := trodAll_two hA
  clear hA0 hval0
  refine (walk W hL H enc base v v1 d p0 hd (hval 0 22 v rfl rfl) (hval 1 23 v1 rfl rfl)).mono fun e W' ⟨he, hg⟩ => ?_
  subst he
  exact ⟨_, rfl, law_post laid readable (tb := 4) restype Tryz.underlying4 hW' rfl rfl hg⟩

theorem and_mk {a b : Bool} (h : a = true) (k : b = true) : (a && b) = true := by rw [h, k]; rfl
set_option maxHeartbeats 4000000 in
theorem closed : joinedFacts Tryz.pinned.checked.prog 4 Tryz.f4 Rows.flowClosedSpec Rows.flowClosedRow = true := by
  unfold joinedFacts
  repeat' (with_reducible apply and_mk)
  all_goals (as_aux_lemma => kernel_rfl)
set_option maxHeartbeats 4000000 in
theorem wrapper : Tryz.f4.isWrapper Tryz.pinned.checked.prog Rows.flowClosedRow.wrapper Rows.flowClosedRow.mainSum := by unfold Func.isWrapper; first | (rw [if_pos (by decide +kernel)]; kernel_rfl) | (rw [if_neg (by decide +kernel)]; exact ⟨rfl, rfl⟩)

theorem over : Rows.flowClosedRow.holds Tryz.pinned (OpenSpec.ofChange Rows.flowClosedSpec) :=
  OpenClaim.holds_of_wide 4 Tryz.f4 rfl rfl rfl rfl rfl rfl rfl ⟨rfl, rfl, rfl, rfl, rfl⟩ rfl rfl rfl rfl rfl (by kernel_rfl) Tryz.func4 closed
    (of_decide_eq_true (by kernel_rfl)) wrapper
    (fun os started H enc _ => lifted os started H enc)

/-- THE STATEMENT: the tied card. -/
theorem proved : Rows.FlowClosedCardSaid :=
  Claim7.holds_tied_plain_at .later [] [.wider, .wider, .wider, .wider, .data, .data, .data, .data, .sentinel, .sentinel] true (true, "deacaceb45de842313a32acbac2b2028ceac2df9d393f9d6540b742181daa9ba") true
    over (fun _ h => by cases h) (by kernel_rfl) (fun _ h => by cases h) flowClosed_row_tie rfl ⟨rfl, rfl⟩ (by kernel_rfl) rfl
    (fun f fn hf hfn => by
      obtain rfl : f = 4 := Option.some.inj ((show Tryz.prog.funcNamed "coxless/coxlesslaw30.FlowClosed" = some 4 by kernel_rfl).symm.trans hf) |>.symm
      obtain rfl : fn = Tryz.f4 := (Option.some.inj (Tryz.func4.symm.trans hfn)).symm
      exact ⟨by kernel_rfl, fun j t ht => by
        rw [Tryz.params4] at ht
        match j, ht with
        | 0, ht => simp at ht; subst ht; exact (show Tryz.prog.wantsStandIn 22 = false by kernel_rfl)
        | 1, ht => simp at ht; subst ht; exact (show Tryz.prog.wantsStandIn 23 = false by kernel_rfl)
        | j + 2, ht => simp at ht⟩)
    (by kernel_rfl)
#print axioms proved
end Go.Proofs.YteepeacefpkmbaaGreatDoor.flowClosed
