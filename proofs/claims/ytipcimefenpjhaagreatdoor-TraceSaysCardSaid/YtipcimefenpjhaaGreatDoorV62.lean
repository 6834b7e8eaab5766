/- A listed variable that holds an error's text. -/
import Derived.Test.YtipcimefenpjhaaGreatDoorV61
set_option linter.unusedVariables false
set_option linter.unusedSimpArgs false
set_option linter.unusedSectionVars false
/- A listed variable that holds an error's text. -/
namespace Go.V
open Go Go.RowKit Go.ChangeShapes Go.WideShapes Go.ChangeAt

def gsent (g tp : Nat) (text : List UInt8) (s : St) : St := (s.add (.cells [.str text] 0 0 true)).put g (.cells [.iface tp (.ptr ⟨s.next, 0, 0, 1⟩)] 0 0 true)

theorem gsent_step {P : Program} {W : World} {φ : Phi} {s : St} (h : RelSt φ s W) (hr : AllRo s) (hw : WFS s) {name : String} {g tp : Nat} {text : List UInt8} {a : Addr} {sv : ByteArray} (hg : P.globalNamed name = some g) (hv : W.var? P name = some #[.iface tp (.pointer (some a))])
    (hc : W.cell? a = some (.string sv)) (ht : sv.data.toList = text) (hgn : Nat.blt g s.next = true) (hf : (match s.heap.get g with | none => true | some _ => false) = true) :
    ∃ φ', Imp W φ s φ' (gsent g tp text s) ∧ ∃ n top, φ' g 0 = some ⟨g, 0, 0, n, top⟩ ∧ 1 ≤ n := by
  have hf' : s.heap.get g = none := by
    cases hh : s.heap.get g with
    | none => rfl
    | some _ => rw [hh] at hf; cases hf
  have hgl : g < s.next := by simpa using hgn
  obtain ⟨b, o, sp⟩ := a
  obtain ⟨cc, el, fz, hh, hsp, hco⟩ : ∃ cc el fz, W.heap[b]? = some (.cells cc el fz) ∧ sp = none ∧ cc[o]? = some (.string sv) := by
    unfold World.cell? at hc
    simp only at hc
    split at hc
    · rename_i c x y hx
      cases sp with
      | none => exact ⟨c, x, y, hx, rfl, by simpa using hc⟩
      | some _ => simp at hc
    · cases hc
  subst hsp
  have hol : o < cc.size := (Array.getElem?_eq_some_iff.1 hco).1
  have i1 := imp_add h hr hw [.str text] ⟨b, o, 0, 1, cc.size⟩ (Array.getElem?_eq_some_iff.1 hh).1 (fun φ' hle hX => by
    refine ⟨Nat.le_refl _, fun k hk hk' => ?_⟩
    obtain rfl : k = 0 := by omega
    refine ⟨_, hX, cc, el, fz, hh, rfl, (fun h => by cases h), by show 0 ≤ 1; omega, by show 1 ≤ 1; omega, fun _ => rfl, by show o + (1 - 0) ≤ cc.size; omega, fun j v _ hj hv' => ?_⟩
    obtain rfl : j = 0 := by have : j < 1 := hj; omega
    simp only [List.getElem?_cons_zero, Option.some.injEq] at hv'
    subst hv'
    refine ⟨.string sv, by show cc[o + (0 - 0)]? = _; simpa using hco, ?_⟩
    rw [← ht]
    exact .str sv)
  obtain ⟨_, _, hhg⟩ := var_cells hg hv
  have hf2 : (s.add (.cells [.str text] 0 0 true)).heap.get g = none := by
    show (s.heap.set s.next _).get g = none
    rw [Tree.get_set_ne _ _ (by omega)]
    exact hf'
  have i2 := imp_globp (cs := [.iface tp (.ptr ⟨s.next, 0, 0, 1⟩)]) i1.rel i1.ro i1.wfs (g := g) (by show g < s.next + 1; omega) hf2 hhg (.cons (.iface (by
    have e := upd_at φ s.next 0 (⟨b, o, 0, 1, cc.size⟩ : Inc)
    have := VRel.ptr (φ := φ.upd s.next 0 ⟨b, o, 0, 1, cc.size⟩) (a := ⟨s.next, 0, 0, 1⟩) (x := ⟨b, o, 0, 1, cc.size⟩) e (Nat.le_refl _) (Nat.le_refl _)
    simpa using this)) .nil)
  exact ⟨_, i1.trans i2, _, _, upd_at _ _ _ _, Nat.le_refl _⟩
end Go.V
