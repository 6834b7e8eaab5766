/- GLOBALS: variables that are listed lie in the abstract state under their own numbers. -/
import Derived.Test.YteepeacefpkmbaaGreatDoorVE
set_option linter.unusedVariables false
set_option linter.unusedSimpArgs false
set_option linter.unusedSectionVars false
/- GLOBALS: variables that are listed lie in the abstract state under their own numbers. -/
namespace Go.V
open Go Go.RowKit Go.ChangeShapes Go.WideShapes Go.ChangeAt
theorem imp_glob {W : World} {φ : Phi} {s : St} (h : RelSt φ s W) (hr : AllRo s) (hw : WFS s) {cs : List AV} {arr : Array Value} {el : TypeId} {fz : Nat × Nat} (hh : W.heap[s.next]? = some (.cells arr el fz)) (hv : VRels φ cs arr.toList) :
    Imp W φ s (φ.upd s.next 0 ⟨s.next, 0, 0, cs.length, arr.size⟩) (s.add (.cells cs 0 0 true)) := by
  have hlt : s.next < W.heap.size := (Array.getElem?_eq_some_iff.1 hh).1
  have hlen : cs.length = arr.size := by rw [hv.length, Array.length_toList]
  refine imp_add h hr hw cs ⟨s.next, 0, 0, cs.length, arr.size⟩ hlt fun φ' hle hX => ?_
  refine ⟨Nat.le_refl _, fun k hk hk' => ?_⟩
  obtain rfl : k = 0 := by omega
  refine ⟨_, hX, arr, el, fz, hh, rfl, (fun h => by cases h), Nat.zero_le _, Nat.le_refl _, fun _ => rfl, by show 0 + (cs.length - 0) ≤ arr.size; omega, fun j v _ hj hv' => ?_⟩
  obtain ⟨c, hc, hvr⟩ := hv.get hv'
  refine ⟨c, ?_, hvr.mono hle⟩
  show arr[0 + (j - 0)]? = some c
  rw [Nat.zero_add, Nat.sub_zero, ← Array.getElem?_toList]
  exact hc
theorem upd_at (φ : Phi) (i k : Nat) (x : Inc) : (φ.upd i k x) i k = some x := by simp [Phi.upd]
theorem vrels_ints (φ : Phi) (k : IntKind) : ∀ zs : List Int, VRels φ (zs.map (.int k)) (zs.map (.int k))
  | [] => .nil
  | z :: zs => .cons (.int k z) (vrels_ints φ k zs)

/-- A variable that reads as a row of whole numbers. -/
theorem ints_of_trod {H : Type} {enc : TypeId × Value → H} {P : Program} {W : World} {sp : Nat → Bool} {held : Bool} {t e : TypeId} {n : Nat} {k : IntKind} (hu : P.underlying t = some (.array n e)) (hue : P.underlying e = some (.int k)) (hce : P.cellsOf e = 1) (hct : P.cellsOf t = n) {m : Nat} {cs : List Value} {zs : List Int} {ps : List MemPlace}
    (hx : DataW.trod enc P W 0 sp held m t cs = some (.agg (zs.map fun z => .lit (.int k z)), ps)) : cs = zs.map (.int k) := by
  cases m with
  | zero => simp [DataW.trod] at hx
  | succ m =>
  simp only [DataW.trod, hu] at hx
  split at hx
  · rename_i hc
    cases hm : ((List.range n).mapM fun i => DataW.trod enc P W 0 sp held m e ((cs.drop (i * P.cellsOf e)).take (P.cellsOf e))) with
    | none => rw [hm] at hx; simp at hx
    | some xs =>
      rw [hm] at hx
      simp only [Option.map_some, Option.some.injEq, Prod.mk.injEq, DataW.agg.injEq] at hx
      obtain ⟨hx, _⟩ := hx
      obtain ⟨hl, hg⟩ := mapM_at hm
      have hl : xs.length = n := by simpa using hl
      have hzl : zs.length = n := by
        have := congrArg List.length hx
        simp at this; omega
      apply List.ext_getElem?
      intro i
      by_cases hi : i < n
      · obtain ⟨y, hy, hy2⟩ := hg i i (by simp [hi])
        rw [hce] at hy2
        have hci : i < cs.length := by omega
        have ht : List.take 1 (List.drop (i * 1) cs) = [cs[i]] := by
          rw [Nat.mul_one, List.drop_eq_getElem_cons hci, List.take_succ_cons, List.take_zero]
        rw [ht] at hy2
        have hyz : (xs.map (·.1))[i]? = some y.1 := by rw [List.getElem?_map, hy]; rfl
        rw [hx, List.getElem?_map, List.getElem?_eq_getElem (by omega)] at hyz
        have hyz := Option.some.inj hyz
        rw [List.getElem?_eq_getElem hci, List.getElem?_map, List.getElem?_eq_getElem (by omega)]
        congr 1
        cases m with
        | zero => simp [DataW.trod] at hy2
        | succ m =>
        generalize hcv : cs[i] = v at hy2
        cases v <;> simp [DataW.trod, hue] at hy2
        obtain ⟨⟨rfl, _⟩, rfl⟩ := hy2
        simp at hyz
        simp [hyz]
      · rw [List.getElem?_eq_none (by omega), List.getElem?_eq_none (by simp; omega)]
  · cases hx

/-- One listed variable's cells. -/
theorem var_cells {P : Program} {W : World} {name : String} {g : Nat} (hg : P.globalNamed name = some g) {cs : Array Value} (hv : W.var? P name = some cs) : ∃ el fz, W.heap[g]? = some (.cells cs el fz) := by
  unfold World.var? at hv
  rw [hg] at hv
  simp only [Option.bind_some] at hv
  split at hv
  · rename_i c a b hh
    cases hv
    exact ⟨_, _, hh⟩
  · cases hv
end Go.V
