/- 'coxless/coxlesslaw25.SemStays' returns true at any packet, any address, any state and any acts, whatever the world, where the listed tables read as the program lays them; the card ties them to the program's text. What a packet does is walked once, exactly; what it leaves as it was is told of that in plain words. -/
import Derived.Test.YtoaakfgdebkkaaaGreatDoorSsTl
import Derived.Carry
import Derived.Test.YtoaakfgdebkkaaaGreatDoorSsOk
import Derived.Test.YtoaakfgdebkkaaaGreatDoorV54
import Derived.Test.YtoaakfgdebkkaaaGreatDoorRows
import Derived.Test.YtoaakfgdebkkaaaGreatDoorCards
import Derived.Test.YtoaakfgdebkkaaaGreatDoorTie
import Derived.SevenTiedAt
import Derived.Lay
import Derived.MakeChecks
import Derived.WalkKit
import Derived.ProofKit
import Derived.OpenShut
set_option linter.unusedVariables false
set_option linter.unusedSimpArgs false
set_option linter.unusedSectionVars false
namespace Go.Proofs.YtoaakfgdebkkaaaGreatDoor.semStays
open Go Go.V Go.ChangeShapes Go.WideShapes Go.ChangeAt Go.RowKit

theorem own : ownKnob Tryz.prog.godebug = none := by kernel_rfl
theorem laid : laidOutB Tryz.prog = true := by kernel_rfl
theorem readable : (Tryz.f3.params.toList.all fun t => Tryz.prog.readableRec t && decide (t < Tryz.prog.types.size)) = true := by kernel_rfl
theorem restype : Tryz.f3.resultTypes = #[4] := by kernel_rfl

theorem tyPk : tyOf Tryz.prog 8 24 = some pkTy := by
 have c24 : Tryz.prog.cellsOf 24 = 5 := by kernel_rfl
 have c22 : Tryz.prog.cellsOf 22 = 1 := by kernel_rfl
 have c45 : Tryz.prog.cellsOf 45 = 11 := by kernel_rfl
 have c5 : Tryz.prog.cellsOf 5 = 1 := by kernel_rfl
 have c4 : Tryz.prog.cellsOf 4 = 1 := by kernel_rfl
 have c43 : Tryz.prog.cellsOf 43 = 1 := by kernel_rfl
 have c2 : Tryz.prog.cellsOf 2 = 1 := by kernel_rfl
 simp [tyOf, tyOf.go, pkTy, instTy, tySize, tySizes, Tryz.underlying24, Tryz.underlying22, Tryz.underlying45, Tryz.underlying5, Tryz.underlying4, Tryz.underlying43, Tryz.underlying2, c24, c22, c45, c5, c4, c43, c2]
theorem tyActs : tyOf Tryz.prog 8 31 = some (.slice actTy) := by
 have c31 : Tryz.prog.cellsOf 31 = 1 := by kernel_rfl
 have c55 : Tryz.prog.cellsOf 55 = 5 := by kernel_rfl
 have c5 : Tryz.prog.cellsOf 5 = 1 := by kernel_rfl
 have c25 : Tryz.prog.cellsOf 25 = 1 := by kernel_rfl
 have c3 : Tryz.prog.cellsOf 3 = 1 := by kernel_rfl
 have c9 : Tryz.prog.cellsOf 9 = 1 := by kernel_rfl
 simp [tyOf, tyOf.go, actTy, tySize, tySizes, Tryz.underlying31, Tryz.underlying55, Tryz.underlying5, Tryz.underlying25, Tryz.underlying3, Tryz.underlying9, c31, c55, c5, c25, c3, c9]
set_option maxRecDepth 100000 in
theorem walk (W : World) (hL : laidMetH Tryz.prog theLaid W) (H : Type) (enc : TypeId × Value → H) (base : Nat) (v v1 v2 v3 : Value) (d d3 : DataW H) (p p3 : List MemPlace) (hd : DataW.Trod enc Tryz.prog W 0 (fun _ => true) true 24 v d p) (hd3 : DataW.Trod enc Tryz.prog W 0 (fun _ => true) true 31 v3 d3 p3) (hv : Value.okWide Tryz.prog W .any base 24 v) (hv1 : Value.okWide Tryz.prog W .any base 25 v1) (hv2 : Value.okWide Tryz.prog W .any base 30 v2) (hv3 : Value.okWide Tryz.prog W .any base 31 v3) : Calls Tryz.prog 3 #[v, v1, v2, v3] W fun e W' => e = .returned (.bool true) ∧ Below W.heap.size W W' := by
 obtain ⟨φ, hr, hro, hw, hg⟩ := glob_state hL
 obtain ⟨nx, rfl, _, _⟩ := val_int Tryz.underlying25 hv1
 obtain ⟨m, hm, hmr, rm⟩ := state_arg Tryz.underlying30 (by kernel_rfl) (by kernel_rfl) Tryz.underlying25 Tryz.underlying4 Tryz.underlying5 hv2
 obtain ⟨φ1, s1, q, hI1, rq, hR, hok, hxc⟩ := pack_in Tryz.underlying24 tyPk hv hd hr hro hw
 obtain ⟨φ2, s2, x, l, hI2, rx, hA⟩ := acts_arg Tryz.underlying31 tyActs hv3 hd3 hI1.rel hI1.ro hI1.wfs
 have hle : PhiLe phi0 φ2 := fun _ _ _ h => by cases h
 have hI := hI1.trans hI2
 exact calls_of_ran_g (P := prog) mixed fine_ss (ir := ir3) rfl (.cons (rq.mono hI2.le) (.cons (.int _ _) (.cons (rm.mono hle) (.cons rx .nil)))) (hg.mono hI.le) hI2.rel hI2.ro hI2.wfs (ss_all hw (imp_ext hI sG_full) hm hmr (hR.imp hI2) hxc hok hA nx)

set_option maxRecDepth 100000 in
theorem lifted (os : Os) (started : os.Started) (H : Type) (enc : TypeId × Value → H) :
 ReturnsInHanded {} Tryz.checked os 3 .any (fun w args => (Rows.semStaysSpec.pre enc Tryz.prog Tryz.f3 Rows.semStaysRow.domain false w args ∧ laidMetH Tryz.prog theLaid w) ∧ sizedMet enc Tryz.prog Tryz.f3 (OpenSpec.ofChange Rows.semStaysSpec) false w args)
  (Rows.semStaysSpec.post enc Tryz.prog Tryz.f3 false true false false) := by
 refine returnsInHanded_of_change_and (C := Tryz.checked) (X := fun w _ => laidMetH Tryz.prog theLaid w) (fun _ _ _ hh h => h.of_heap hh) own started (by kernel_rfl) Tryz.func3
  (ChangeSpec.witness_shaped (enc := enc) (C := Tryz.checked) (os := os) (X := fun w _ => laidMetH Tryz.prog theLaid w) false (World.laidAll Tryz.prog os theLaid) #[.agg ⟨[.slice none 0 0, .bool false, .bool false, .bool false, .bool false]⟩, .int .u32 0, .agg ⟨[.int .u32 0, .int .u32 0, .int .u32 0, .int .u32 0, .int .u32 0, .int .u32 0, .int .u32 0, .int .u32 0, .int .u32 0, .int .u32 0, .int .u32 0, .int .u32 0, .int .u32 0, .int .u32 0, .int .u32 0, .int .u32 0, .int .u32 0, .int .u32 0, .int .u32 0, .int .u32 0, .int .u32 0, .int .u32 0, .int .u32 0, .int .u32 0, .int .u32 0, .int .u32 0, .int .u32 0, .int .u32 0, .int .u32 0, .int .u32 0, .int .u32 0, .int .u32 0, .bool false, .bool false, .bool false, .bool false, .int .u32 0, .int .u32 0, .int .u32 0, .int .u32 0, .int .u32 0, .int .u8 0]⟩, .slice none 0 0] 8 (World.laidAll_os _ _ _)
   (World.shaped_of_ZipB (by kernel_rfl) (by kernel_rfl)) (by kernel_rfl) (by kernel_rfl) (by kernel_rfl)
   (by rw [MakeChecks.laidMetH_plain _ _ _ (by kernel_rfl)]; exact laidMet_laidAll _ (by kernel_rfl) (by kernel_rfl))) ?_
 intro W base args ds gs before hval0 hW hc _ hL _
 have hW' := hW
 obtain ⟨p, q, hA0, hV, rfl, _, _⟩ := hW
 have hA : DataW.TrodAll enc Tryz.prog W 0 (fun _ => true) true Tryz.f3.params.toList args.toList ds p := hA0
 rw [Tryz.params3] at hA
 obtain ⟨rfl, rfl⟩ := trodVars_none hV
 have hval : ∀ (j : Nat) t v, Tryz.f3.params[j]? = some t → args[j]? = some v → Value.okWide Tryz.prog W .any base t v := hval0
 rw [Tryz.params3] at hval
 obtain ⟨v, v1, v2, v3, d, d1, d2, d3, p0, p1, p2, p3, rfl, rfl, rfl, hd, hd1, hd2, hd3⟩ := trodAll_four hA
 clear hA0 hval0
 refine (walk W hL H enc base v v1 v2 v3 d d3 p0 p3 hd hd3 (hval 0 24 v rfl rfl) (hval 1 25 v1 rfl rfl) (hval 2 30 v2 rfl rfl) (hval 3 31 v3 rfl rfl)).mono fun e W' ⟨he, hg⟩ => ?_
 subst he
 exact ⟨_, rfl, law_post laid readable (tb := 4) restype Tryz.underlying4 hW' rfl rfl hg⟩

theorem and_mk {a b : Bool} (h : a = true) (k : b = true) : (a && b) = true := by rw [h, k]; rfl
set_option maxHeartbeats 4000000 in
theorem closed : joinedFacts Tryz.pinned.checked.prog 3 Tryz.f3 Rows.semStaysSpec Rows.semStaysRow = true := by
 unfold joinedFacts
 repeat' (with_reducible apply and_mk)
 all_goals (as_aux_lemma => kernel_rfl)
set_option maxHeartbeats 4000000 in
theorem wrapper : Tryz.f3.isWrapper Tryz.pinned.checked.prog Rows.semStaysRow.wrapper Rows.semStaysRow.mainSum := by unfold Func.isWrapper; first | (rw [if_pos (by decide +kernel)]; kernel_rfl) | (rw [if_neg (by decide +kernel)]; exact ⟨rfl, rfl⟩)

theorem over : Rows.semStaysRow.holds Tryz.pinned (OpenSpec.ofChange Rows.semStaysSpec) :=
 OpenClaim.holds_of_wide 3 Tryz.f3 rfl rfl rfl rfl rfl rfl rfl ⟨rfl, rfl, rfl, rfl, rfl⟩ rfl rfl rfl rfl rfl (by kernel_rfl) Tryz.func3 closed
  (of_decide_eq_true (by kernel_rfl)) wrapper
  (fun os started H enc _ => lifted os started H enc)

/-- THE STATEMENT: the tied card. -/
theorem proved : Rows.SemStaysCardSaid :=
 Claim7.holds_tied_plain_at .later [] [.wider, .wider, .wider, .data] true (true, "646e98f270cb36904577657ba1e39f42b953f064568c8434ad0c7f1d01b09ffb") true
  over (fun _ h => by cases h) (by kernel_rfl) (fun _ h => by cases h) semStays_row_tie rfl ⟨rfl, rfl⟩ (by kernel_rfl) rfl
  (fun f fn hf hfn => by
   obtain rfl : f = 3 := Option.some.inj ((show Tryz.prog.funcNamed "coxless/coxlesslaw25.SemStays" = some 3 by kernel_rfl).symm.trans hf) |>.symm
   obtain rfl : fn = Tryz.f3 := (Option.some.inj (Tryz.func3.symm.trans hfn)).symm
   exact ⟨by kernel_rfl, fun j t ht => by
    rw [Tryz.params3] at ht
    match j, ht with
    | 0, ht => simp at ht; subst ht; exact (show Tryz.prog.wantsStandIn 24 = false by kernel_rfl)
    | 1, ht => simp at ht; subst ht; exact (show Tryz.prog.wantsStandIn 25 = false by kernel_rfl)
    | 2, ht => simp at ht; subst ht; exact (show Tryz.prog.wantsStandIn 30 = false by kernel_rfl)
    | 3, ht => simp at ht; subst ht; exact (show Tryz.prog.wantsStandIn 31 = false by kernel_rfl)
    | j + 4, ht => simp at ht⟩)
  (by kernel_rfl)
#print axioms proved
end Go.Proofs.YtoaakfgdebkkaaaGreatDoor.semStays
