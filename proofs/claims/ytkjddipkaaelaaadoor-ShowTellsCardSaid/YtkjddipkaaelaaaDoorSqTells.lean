/- 'coxless/coxlesslaw22.ShowTells' returns true at any instruction, any packet and any name, whatever the world, where the listed tables read as the program lays them; the card ties them to the program's text. What is printed is walked as a text, and is the document's pattern, op by op. -/
import Derived.Test.YtkjddipkaaelaaaDoorSqTl
import Derived.Test.YtkjddipkaaelaaaDoorPKArg
import Derived.Test.YtkjddipkaaelaaaDoorV66
import Derived.Test.YtkjddipkaaelaaaDoorV67
import Derived.Test.YtkjddipkaaelaaaDoorV54
import Derived.Test.YtkjddipkaaelaaaDoorRows
import Derived.Test.YtkjddipkaaelaaaDoorCards
import Derived.Test.YtkjddipkaaelaaaDoorTie
import Derived.SevenTiedAt
import Derived.Lay
import Derived.MakeChecks
import Derived.WalkKit
import Derived.ProofKit
import Derived.OpenShut
set_option linter.unusedVariables false
set_option linter.unusedSimpArgs false
set_option linter.unusedSectionVars false
namespace Go.Proofs.YtkjddipkaaelaaaDoor.showTells
open Go Go.V Go.ChangeShapes Go.WideShapes Go.ChangeAt Go.RowKit

theorem own : ownKnob Tryd.prog.godebug = none := by kernel_rfl
theorem laid : laidOutB Tryd.prog = true := by kernel_rfl
theorem readable : (Tryd.f4.params.toList.all fun t => Tryd.prog.readableRec t && decide (t < Tryd.prog.types.size)) = true := by kernel_rfl
theorem restype : Tryd.f4.resultTypes = #[4] := by kernel_rfl

theorem tyPk : tyOf Tryd.prog 8 31 = some pkTy := by
  have c31 : Tryd.prog.cellsOf 31 = 5 := by kernel_rfl
  have c29 : Tryd.prog.cellsOf 29 = 1 := by kernel_rfl
  have c24 : Tryd.prog.cellsOf 24 = 11 := by kernel_rfl
  have c5 : Tryd.prog.cellsOf 5 = 1 := by kernel_rfl
  have c4 : Tryd.prog.cellsOf 4 = 1 := by kernel_rfl
  have c22 : Tryd.prog.cellsOf 22 = 1 := by kernel_rfl
  have c2 : Tryd.prog.cellsOf 2 = 1 := by kernel_rfl
  simp [tyOf, tyOf.go, pkTy, instTy, tySize, tySizes, Tryd.underlying31, Tryd.underlying29, Tryd.underlying24, Tryd.underlying5, Tryd.underlying4, Tryd.underlying22, Tryd.underlying2, c31, c29, c24, c5, c4, c22, c2]
theorem tells_all {s : St} (hG : WFS sG) (hE : Ext sG s) {i : In} (hi : i.ok = true) {x : AV} {l : List In} {e0 e1 raw : Bool} {y : AV} (hy : y.isCell = true) (hxc : x.isCell = true) (hx : RdI s x l) (hok : ∀ i ∈ l, i.ok = true) (name : List UInt8) : Ran (tabL t_tells) 4 [.agg i.cells, .agg [x, .bool e0, .bool e1, .bool raw, y], .str name] s fun v _ => v = .bool true :=
  showTells_ran rfl shTab pkTab (PS.ext ⟨hG, pTab_sG⟩ hE) (fun s' h => (memoYes_ran rfl hG (hE.trans h) awake_yes).mono fun _ _ e => e.1) hi hy hxc hx hok name
set_option maxRecDepth 100000 in
theorem walk (W : World) (hL : laidMetH Tryd.prog theLaid W) (H : Type) (enc : TypeId × Value → H) (base : Nat) (v v1 v2 : Value) (d : DataW H) (p : List MemPlace) (hd : DataW.Trod enc Tryd.prog W 0 (fun _ => true) true 31 v1 d p) (hv : Value.okWide Tryd.prog W .any base 24 v) (hv1 : Value.okWide Tryd.prog W .any base 31 v1) (hv2 : Value.okWide Tryd.prog W .any base 9 v2) : Calls Tryd.prog 4 #[v, v1, v2] W fun e W' => e = .returned (.bool true) ∧ Below W.heap.size W W' := by
  obtain ⟨φ, hr, hro, hw, hg⟩ := glob_state hL
  obtain ⟨i, hi, ri⟩ := inst_arg Tryd.underlying24 (by kernel_rfl) (by kernel_rfl) Tryd.underlying5 Tryd.underlying4 Tryd.underlying22 Tryd.underlying2 hv
  obtain ⟨φ', s, x, l, e0, e1, raw, y, hI, hx, hR, hok, hxc, hyc⟩ := pack_arg Tryd.underlying31 tyPk hv1 hd hr hro hw
  obtain ⟨nm, rfl⟩ := value_str Tryd.underlying9 hv2
  have hle : PhiLe phi0 φ' := fun _ _ _ h => by cases h
  exact calls_of_ran_g (P := prog) mixed fine_tells (ir := ir4) rfl (.cons (ri.mono hle) (.cons hx (.cons (.str nm) .nil))) (hg.mono hI.le) hI.rel hI.ro hI.wfs (tells_all hw (imp_ext hI sG_full) hi hyc hxc hR hok _)

set_option maxRecDepth 100000 in
theorem lifted (os : Os) (started : os.Started) (H : Type) (enc : TypeId × Value → H) :
    ReturnsInHanded {} Tryd.checked os 4 .any (fun w args => (Rows.showTellsSpec.pre enc Tryd.prog Tryd.f4 Rows.showTellsRow.domain false w args ∧ laidMetH Tryd.prog theLaid w) ∧ sizedMet enc Tryd.prog Tryd.f4 (OpenSpec.ofChange Rows.showTellsSpec) false w args)
      (Rows.showTellsSpec.post enc Tryd.prog Tryd.f4 false true false false) := by
  refine returnsInHanded_of_change_and (C := Tryd.checked) (X := fun w _ => laidMetH Tryd.prog theLaid w) (fun _ _ _ hh h => h.of_heap hh) own started (by kernel_rfl) Tryd.func4
    (ChangeSpec.witness_shaped (enc := enc) (C := Tryd.checked) (os := os) (X := fun w _ => laidMetH Tryd.prog theLaid w) false (World.laidAll Tryd.prog os theLaid) #[.agg ⟨[.int .u8 0, .int .u8 0, .int .u8 0, .int .u8 0, .int .u8 0, .int .u8 0, .int .u8 0, .bool false, .bool false, .int .u16 0, .int .i64 0]⟩, .agg ⟨[.slice none 0 0, .bool false, .bool false, .bool false, .bool false]⟩, .string ⟨#[]⟩] 8 (World.laidAll_os _ _ _)
      (World.shaped_of_ZipB (by kernel_rfl) (by kernel_rfl)) (by kernel_rfl) (by kernel_rfl) (by kernel_rfl)
      (by rw [MakeChecks.laidMetH_plain _ _ _ (by kernel_rfl)]; exact laidMet_laidAll _ (by kernel_rfl) (by kernel_rfl))) ?_
  intro W base args ds gs before hval0 hW hc _ hL _
  have hW' := hW
  obtain ⟨p, q, hA0, hV, rfl, _, _⟩ := hW
  have hA : DataW.TrodAll enc Tryd.prog W 0 (fun _ => true) true Tryd.f4.params.toList args.toList ds p := hA0
  rw [Tryd.params4] at hA
  obtain ⟨rfl, rfl⟩ := trodVars_none hV
  have hval : ∀ (j : Nat) t v, Tryd.f4.params[j]? = some t → args[j]? = some v → Value.okWide Tryd.prog W .any base t v := hval0
  rw [Tryd.params4] at hval
  obtain ⟨v, v1, v2, d, d1, d2, p0, p1, p2, rfl, rfl, rfl, hd, hd1, hd2⟩ := trodAll_three hA
  clear hA0 hval0
  refine (walk W hL H enc base v v1 v2 d1 p1 hd1 (hval 0 24 v rfl rfl) (hval 1 31 v1 rfl rfl) (hval 2 9 v2 rfl rfl)).mono fun e W' ⟨he, hg⟩ => ?_
  subst he
  exact ⟨_, rfl, law_post laid readable (tb := 4) restype Tryd.underlying4 hW' rfl rfl hg⟩

theorem and_mk {a b : Bool} (h : a = true) (k : b = true) : (a && b) = true := by rw [h, k]; rfl
set_option maxHeartbeats 4000000 in
theorem closed : joinedFacts Tryd.pinned.checked.prog 4 Tryd.f4 Rows.showTellsSpec Rows.showTellsRow = true := by
  unfold joinedFacts
  repeat' (with_reducible apply and_mk)
  all_goals (as_aux_lemma => kernel_rfl)
set_option maxHeartbeats 4000000 in
theorem wrapper : Tryd.f4.isWrapper Tryd.pinned.checked.prog Rows.showTellsRow.wrapper Rows.showTellsRow.mainSum := by unfold Func.isWrapper; first | (rw [if_pos (by decide +kernel)]; kernel_rfl) | (rw [if_neg (by decide +kernel)]; exact ⟨rfl, rfl⟩)

theorem over : Rows.showTellsRow.holds Tryd.pinned (OpenSpec.ofChange Rows.showTellsSpec) :=
  OpenClaim.holds_of_wide 4 Tryd.f4 rfl rfl rfl rfl rfl rfl rfl ⟨rfl, rfl, rfl, rfl, rfl⟩ rfl rfl rfl rfl rfl (by kernel_rfl) Tryd.func4 closed
    (of_decide_eq_true (by kernel_rfl)) wrapper
    (fun os started H enc _ => lifted os started H enc)

/-- THE STATEMENT: the tied card. -/
theorem proved : Rows.ShowTellsCardSaid :=
  Claim7.holds_tied_plain_at .later [] [.data, .data, .data] true (true, "c88672ed88ec1a7ebfad5ab35aca41dfc40e40cf0b36ca19997aa8dd8397435f") false
    over (fun _ h => by cases h) (by kernel_rfl) (fun _ h => by cases h) showTells_row_tie rfl ⟨rfl, rfl⟩ (by kernel_rfl) rfl
    (fun f fn hf hfn => by
      obtain rfl : f = 4 := Option.some.inj ((show Tryd.prog.funcNamed "coxless/coxlesslaw22.ShowTells" = some 4 by kernel_rfl).symm.trans hf) |>.symm
      obtain rfl : fn = Tryd.f4 := (Option.some.inj (Tryd.func4.symm.trans hfn)).symm
      exact ⟨by kernel_rfl, fun j t ht => by
        rw [Tryd.params4] at ht
        match j, ht with
        | 0, ht => simp at ht; subst ht; exact (show Tryd.prog.wantsStandIn 24 = false by kernel_rfl)
        | 1, ht => simp at ht; subst ht; exact (show Tryd.prog.wantsStandIn 31 = false by kernel_rfl)
        | 2, ht => simp at ht; subst ht; exact (show Tryd.prog.wantsStandIn 9 = false by kernel_rfl)
        | j + 3, ht => simp at ht⟩)
    (by kernel_rfl)
#print axioms proved
end Go.Proofs.YtkjddipkaaelaaaDoor.showTells
