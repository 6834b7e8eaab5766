/- 'coxless/coxlesslaw16.ParseNames' returns true, whatever the name and the world, where the listed tables read as the program lays them; the card ties them to the program's text. The law's code in the small language is run by the kernel, call by call; Isa's and inst's functions come in by their contracts. -/
import Derived.Test.YtnmheejmdimldaaDoorPnOk
import Derived.Test.YtnmheejmdimldaaDoorPN9
import Derived.Test.YtnmheejmdimldaaDoorV54
import Derived.Test.YtnmheejmdimldaaDoorRows
import Derived.Test.YtnmheejmdimldaaDoorCards
import Derived.Test.YtnmheejmdimldaaDoorTie
import Derived.SevenTiedAt
import Derived.Lay
import Derived.MakeChecks
import Derived.WalkKit
import Derived.ProofKit
import Derived.OpenShut
set_option linter.unusedVariables false
set_option linter.unusedSimpArgs false
set_option linter.unusedSectionVars false
namespace Go.Proofs.YtnmheejmdimldaaDoor.parseNames
open Go Go.V Go.ChangeShapes Go.WideShapes Go.ChangeAt Go.RowKit

theorem own : ownKnob Tryd.prog.godebug = none := by kernel_rfl
theorem laid : laidOutB Tryd.prog = true := by kernel_rfl
theorem readable : (Tryd.f3.params.toList.all fun t => Tryd.prog.readableRec t && decide (t < Tryd.prog.types.size)) = true := by kernel_rfl
theorem restype : Tryd.f3.resultTypes = #[4] := by kernel_rfl

theorem o0_0 : EntryOk prog0 27 (.code ir27) := ⟨Tryd.f27, Tryd.func27, by kernel_rfl, by kernel_rfl⟩
theorem o0_1 : EntryOk prog0 50 (.code ir50) := ⟨Tryd.f50, Tryd.func50, by kernel_rfl, by kernel_rfl⟩
theorem o0_2 : EntryOk prog0 69 (.code ir69) := ⟨Tryd.f69, Tryd.func69, by kernel_rfl, by kernel_rfl⟩
theorem o0_3 : EntryOk prog0 18 (.code ir18) := ⟨Tryd.f18, Tryd.func18, by kernel_rfl, by kernel_rfl⟩
theorem o0_4 : EntryOk prog0 8 (.code ir8) := ⟨Tryd.f8, Tryd.func8, by kernel_rfl, by kernel_rfl⟩
theorem o0_5 : EntryOk prog0 9 (.code ir9) := ⟨Tryd.f9, Tryd.func9, by kernel_rfl, by kernel_rfl⟩
theorem allItoa : AllOk prog0 itoaCode := .cons o0_0 (.cons o0_1 (.cons o0_2 (.cons o0_3 (.cons o0_4 (.cons o0_5 (.nil))))))
theorem ok_names : AllOk2 prog t_names :=
  .cons (ok_l5.get (f := 5) rfl) (.cons (globs (itoa_lit mixed0 rfl allItoa)) (.cons (globs (map_lit mixed0 rfl allItoa rights_ev)) (.cons (globs (map_lit mixed0 rfl allItoa compares_ev)) ok_l0)))
theorem fine_names : TabFine prog (tabL t_names) := AllOk2.fine ok_names

set_option maxRecDepth 100000 in
theorem walk (W : World) (hL : laidMetH Tryd.prog theLaid W) (b : ByteArray) : Calls Tryd.prog 3 #[.string b] W fun e W' => e = .returned (.bool true) ∧ Below W.heap.size W W' := by
  obtain ⟨φ, hr, hro, hw, hg⟩ := glob_state hL
  exact calls_of_ran_g (P := prog) mixed fine_names (ir := ir3) rfl (.cons (.str b) .nil) hg hr hro hw (names_ran hw b.data.toList)

set_option maxRecDepth 100000 in
theorem lifted (os : Os) (started : os.Started) (H : Type) (enc : TypeId × Value → H) :
    ReturnsInHanded {} Tryd.checked os 3 .any (fun w args => (Rows.parseNamesSpec.pre enc Tryd.prog Tryd.f3 Rows.parseNamesRow.domain false w args ∧ laidMetH Tryd.prog theLaid w) ∧ sizedMet enc Tryd.prog Tryd.f3 (OpenSpec.ofChange Rows.parseNamesSpec) false w args)
      (Rows.parseNamesSpec.post enc Tryd.prog Tryd.f3 false true false false) := by
  refine returnsInHanded_of_change_and (C := Tryd.checked) (X := fun w _ => laidMetH Tryd.prog theLaid w) (fun _ _ _ hh h => h.of_heap hh) own started (by kernel_rfl) Tryd.func3
    (ChangeSpec.witness_shaped (enc := enc) (C := Tryd.checked) (os := os) (X := fun w _ => laidMetH Tryd.prog theLaid w) false (World.laidAll Tryd.prog os theLaid) #[.string .empty] 8 (World.laidAll_os _ _ _)
      (World.shaped_of_ZipB (by kernel_rfl) (by kernel_rfl)) (by kernel_rfl) (by kernel_rfl) (by kernel_rfl)
      (by rw [MakeChecks.laidMetH_plain _ _ _ (by kernel_rfl)]; exact laidMet_laidAll _ (by kernel_rfl) (by kernel_rfl))) ?_
  intro W base args ds gs before hval0 hW hc _ hL _
  have hW' := hW
  obtain ⟨p, q, hA0, hV, rfl, _, _⟩ := hW
  have hA : DataW.TrodAll enc Tryd.prog W 0 (fun _ => true) true Tryd.f3.params.toList args.toList ds p := hA0
  rw [Tryd.params3] at hA
  obtain ⟨rfl, rfl⟩ := trodVars_none hV
  have hval : ∀ (j : Nat) t v, Tryd.f3.params[j]? = some t → args[j]? = some v → Value.okWide Tryd.prog W .any base t v := hval0
  rw [Tryd.params3] at hval
  obtain ⟨v, d, rfl, rfl, hd⟩ := trodAll_one hA
  clear hA0 hval0
  obtain ⟨b, rfl⟩ := value_str (by first | exact Tryd.underlying9 | kernel_rfl) (hval 0 _ _ rfl rfl)
  refine (walk W hL b).mono fun e W' ⟨he, hg⟩ => ?_
  subst he
  exact ⟨_, rfl, law_post laid readable (tb := 4) restype Tryd.underlying4 hW' rfl rfl hg⟩

theorem over : Rows.parseNamesRow.holds Tryd.pinned (OpenSpec.ofChange Rows.parseNamesSpec) :=
  OpenClaim.holds_of_wide 3 Tryd.f3 rfl rfl rfl rfl rfl rfl rfl ⟨rfl, rfl, rfl, rfl, rfl⟩ rfl rfl rfl rfl rfl (by kernel_rfl) Tryd.func3 (by kernel_rfl)
    (of_decide_eq_true (by kernel_rfl)) (by unfold Func.isWrapper; first | (rw [if_pos (by decide +kernel)]; kernel_rfl) | (rw [if_neg (by decide +kernel)]; exact ⟨rfl, rfl⟩))
    (fun os started H enc _ => lifted os started H enc)

/-- THE STATEMENT: the tied card. -/
theorem proved : Rows.ParseNamesCardSaid :=
  Claim7.holds_tied_plain_at .later [] [.data, .data, .data, .sentinel, .sentinel] true (true, "03b3da8991af0d0e26c5a4aa992c94baf7655f6d8e1d74ccd616537f6ea2b4f7") true
    over (fun _ h => by cases h) (by kernel_rfl) (fun _ h => by cases h) parseNames_row_tie rfl ⟨rfl, rfl⟩ (by kernel_rfl) rfl
    (fun f fn hf hfn => by
      obtain rfl : f = 3 := Option.some.inj ((show Tryd.prog.funcNamed "coxless/coxlesslaw16.ParseNames" = some 3 by kernel_rfl).symm.trans hf) |>.symm
      obtain rfl : fn = Tryd.f3 := (Option.some.inj (Tryd.func3.symm.trans hfn)).symm
      exact ⟨by kernel_rfl, fun j t ht => by
        rw [Tryd.params3] at ht
        match j, ht with
        | 0, ht => simp at ht; subst ht; exact (show Tryd.prog.wantsStandIn 9 = false by kernel_rfl)
        | j + 1, ht => simp at ht⟩)
    (by kernel_rfl)
#print axioms proved
end Go.Proofs.YtnmheejmdimldaaDoor.parseNames
