/- A hook that leaves the state as it is, out of a contract of the model that says 'Below'; a call from a state with globals. -/
import Derived.Test.YtoaakfgdebkkaaaGreatDoorV51
set_option linter.unusedVariables false
set_option linter.unusedSimpArgs false
set_option linter.unusedSectionVars false
/- A hook that leaves the state as it is, out of a contract of the model that says 'Below'; a call from a state with globals. -/
namespace Go.V
open Go Go.RowKit Go.ChangeShapes Go.WideShapes Go.ChangeAt
theorem calls_of_ran_g {P : Prog} {T : Tab} (hm : P.follows .mixedOrders = true) (h : TabFine P T) {f : FuncId} {ir : IFunc} (hc : T f = some (.code ir)) {φ : Phi} {s : St} {W : World} {args : List AV} {cargs : List Value} (ha : VRels φ args cargs) (hgl : GlobOk P φ)
 (hs : RelSt φ s W) (hro : AllRo s) (hw : WFS s) (hr : Ran T f args s fun v _ => v = .bool true) : Calls P.toProgram f cargs.toArray W fun e W' => e = .returned (.bool true) ∧ Below W.heap.size W W' := by
 obtain ⟨n, v, s', hcall, rfl⟩ := hr
 refine Calls.mono (calls_of_eval hm h.ok h.tame hcall hc hgl hs ha (fun id hid _ => hw id hid)) fun e w' he => ?_
 obtain ⟨c, φ', rfl, st, hv⟩ := he
 cases hv
 exact ⟨rfl, st.below_ro hs hro⟩
end Go.V
