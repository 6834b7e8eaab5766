/- A hook that leaves the state as it is, out of a contract of the model that says 'Below'; a call from a state with globals. -/
import Derived.Test.YtkjddipkaaelaaaDoorV51
set_option linter.unusedVariables false
set_option linter.unusedSimpArgs false
set_option linter.unusedSectionVars false
/- A hook that leaves the state as it is, out of a contract of the model that says 'Below'; a call from a state with globals. -/
namespace Go.V
open Go Go.RowKit Go.ChangeShapes Go.WideShapes Go.ChangeAt
theorem step_of_below {φ : Phi} {s : St} {w w' : World} (hs : RelSt φ s w) (hb : Below w.heap.size w w') : Step φ s w φ s w' := by
  have hk : ∀ id k x, φ id k = some x → w'.heap[x.blk]? = w.heap[x.blk]? := fun id k x e => hb.block _ (hs.dom _ _ _ e).2
  refine ⟨.refl φ, ⟨?_, ?_, hs.inj, hs.incs, fun id k x t e ht => ⟨(shape_of_same (hk id k x e)).trans (hs.typ _ _ _ _ e ht).1, (hs.typ _ _ _ _ e ht).2⟩⟩, hb.size, fun b h _ => hb.block b h, fun id k x e _ => hk id k x e, fun id k x e => .inl ⟨id, k, x, e, rfl⟩, fun _ _ => rfl, fun _ _ _ e _ => e, hb.os, hb.tape, hb.output⟩
  · intro id o ho
    have := hs.obj id o ho
    cases o with
    | cells cs lo inc ro =>
      obtain ⟨h1, h2⟩ := this
      refine ⟨h1, fun k hk1 hk2 => ?_⟩
      obtain ⟨x, hx, cc, el, fz, hh, r⟩ := h2 k hk1 hk2
      exact ⟨x, hx, cc, el, fz, by rw [hk _ _ _ hx]; exact hh, r⟩
    | map es clock =>
      obtain ⟨x, es', hx, hh, r⟩ := this
      exact ⟨x, es', hx, by rw [hk _ _ _ hx]; exact hh, r⟩
  · intro id k x e
    obtain ⟨h1, h2⟩ := hs.dom _ _ _ e
    exact ⟨h1, Nat.lt_of_lt_of_le h2 hb.size⟩
theorem calls_of_ran_g {P : Prog} {T : Tab} (hm : P.follows .mixedOrders = true) (h : TabFine P T) {f : FuncId} {ir : IFunc} (hc : T f = some (.code ir)) {φ : Phi} {s : St} {W : World} {args : List AV} {cargs : List Value} (ha : VRels φ args cargs) (hgl : GlobOk P φ)
    (hs : RelSt φ s W) (hro : AllRo s) (hw : WFS s) (hr : Ran T f args s fun v _ => v = .bool true) : Calls P.toProgram f cargs.toArray W fun e W' => e = .returned (.bool true) ∧ Below W.heap.size W W' := by
  obtain ⟨n, v, s', hcall, rfl⟩ := hr
  refine Calls.mono (calls_of_eval hm h.ok h.tame hcall hc hgl hs ha (fun id hid _ => hw id hid)) fun e w' he => ?_
  obtain ⟨c, φ', rfl, st, hv⟩ := he
  cases hv
  exact ⟨rfl, st.below_ro hs hro⟩
end Go.V
