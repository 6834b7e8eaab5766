/- A listed variable's block at its own number. -/
import Derived.Test.YtoaakfgdebkkaaaGreatDoorV53
set_option linter.unusedVariables false
set_option linter.unusedSimpArgs false
set_option linter.unusedSectionVars false
/- A listed variable's block at its own number. -/
namespace Go.V
open Go Go.RowKit Go.ChangeShapes Go.WideShapes Go.ChangeAt
/-- One thing more that is only read, at a free number. -/
theorem imp_put {W : World} {φ : Phi} {s : St} (h : RelSt φ s W) (hr : AllRo s) (hw : WFS s) {g : Nat} (hg : g < s.next) (hf : s.heap.get g = none) (cs : List AV) (x : Inc) (hx : x.blk < W.heap.size) (ho : ∀ φ', PhiLe φ φ' → φ' g 0 = some x → ObjRel φ' W g (.cells cs 0 0 true)) :
 Imp W φ s (φ.upd g 0 x) (s.put g (.cells cs 0 0 true)) := by
 have hnk := free_phi h hf
 have hle : PhiLe φ (φ.upd g 0 x) := Phi.upd_le (hnk 0)
 have hroA : AllRo (s.put g (.cells cs 0 0 true)) := by
  intro id hid
  rw [put_get] at hid
  unfold isRo
  simp only [put_get]
  split at hid
  · rename_i hc; rw [if_pos hc]; exact ⟨_, _, _, rfl⟩
  · rename_i hc; rw [if_neg hc]; exact hr id hid
 refine ⟨⟨?_, ?_, ?_, ?_, ?_⟩, hroA, hw.put hg _, hle, fun id o e => ?_⟩
 · intro id o e
   rw [put_get] at e
   split at e
   · rename_i hid; cases e; rw [hid]; exact ho _ hle (Phi.upd_same _ _ _ _)
   · exact (h.obj id o e).mono hle fun _ _ _ => rfl
 · intro id k y e
   rw [put_get]
   rcases Phi.upd_cases e with ⟨rfl, rfl, rfl⟩ | e'
   · simp [hx]
   · have := h.dom id k y e'
     split
     · simp; exact this.2
     · exact this
 · intro id k y id' k' y' e e' _
   refine .inr ⟨hroA id ?_, hroA id' ?_⟩
   · rw [put_get]
     rcases Phi.upd_cases e with ⟨rfl, rfl, rfl⟩ | e1
     · simp
     · split
       · rfl
       · exact (h.dom _ _ _ e1).1
   · rw [put_get]
     rcases Phi.upd_cases e' with ⟨rfl, rfl, rfl⟩ | e1
     · simp
     · split
       · rfl
       · exact (h.dom _ _ _ e1).1
 · intro id k y cs' lo inc ro e e2
   rw [put_get] at e2
   rcases Phi.upd_cases e with ⟨rfl, rfl, rfl⟩ | e1
   · exact Nat.zero_le _
   · split at e2
     · rename_i hid; rw [hid, hnk] at e1; cases e1
     · exact h.incs _ _ _ _ _ _ _ e1 e2
 · intro id k y t e ht
   rcases Phi.upd_cases e with ⟨rfl, rfl, rfl⟩ | e1
   · exact (ty_zero ht).elim
   · exact h.typ _ _ _ _ e1 ht
 · rw [put_get, if_neg]
   · exact e
   · intro hc; rw [hc, hf] at e; cases e
theorem imp_globp {W : World} {φ : Phi} {s : St} (h : RelSt φ s W) (hr : AllRo s) (hw : WFS s) {g : Nat} (hg : g < s.next) (hf : s.heap.get g = none) {cs : List AV} {arr : Array Value} {el : TypeId} {fz : Nat × Nat} (hh : W.heap[g]? = some (.cells arr el fz)) (hv : VRels φ cs arr.toList) :
 Imp W φ s (φ.upd g 0 ⟨g, 0, 0, cs.length, cs.length⟩) (s.put g (.cells cs 0 0 true)) := by
 have hlt : g < W.heap.size := (Array.getElem?_eq_some_iff.1 hh).1
 have hlen : cs.length = arr.size := by rw [hv.length, Array.length_toList]
 refine imp_put h hr hw hg hf cs ⟨g, 0, 0, cs.length, cs.length⟩ hlt fun φ' hle hX => ?_
 refine ⟨Nat.le_refl _, fun k hk hk' => ?_⟩
 obtain rfl : k = 0 := by omega
 refine ⟨_, hX, arr, el, fz, hh, hlen.symm, (fun h => by cases h), Nat.zero_le _, Nat.le_refl _, fun _ => rfl, by show 0 + (cs.length - 0) ≤ cs.length; omega, fun j v _ hj hv' => ?_⟩
 obtain ⟨c, hc, hvr⟩ := hv.get hv'
 refine ⟨c, ?_, hvr.mono hle⟩
 show arr[0 + (j - 0)]? = some c
 rw [Nat.zero_add, Nat.sub_zero, ← Array.getElem?_toList]
 exact hc
/-- A listed variable: its data laid, then its block. -/
theorem glob_lay {H : Type} {enc : TypeId × Value → H} {P : Program} {W : World} {held : Bool} {φ : Phi} {s : St} (h : RelSt φ s W) (hr : AllRo s) (hw : WFS s) {name : String} {g t : Nat} {ty : Ty} (hg : P.globalNamed name = some g) (ht : tyOf P 8 t = some ty) {cs : Array Value} (hv : W.var? P name = some cs) {m : Nat} {d : DataW H} {ps : List MemPlace} (hd : DataW.trod enc P W 0 (fun _ => true) held m t cs.toList = some (d, ps)) {l : List AV} {s1 : St} (hl : layD ty d s = some (l, s1)) (hg1 : g < s1.next) (hf : s1.heap.get g = none) :
 ∃ φ', Imp W φ s φ' (s1.put g (.cells l 0 0 true)) ∧ φ' g 0 = some ⟨g, 0, 0, l.length, l.length⟩ := by
 obtain ⟨φ1, s1', l', i1, v1, e1, _⟩ := lay_trod 8 t ty ht m cs.toList _ hd φ s h hr hw
 rw [hl] at e1
 cases e1
 obtain ⟨_, _, hh⟩ := var_cells hg hv
 have i2 := imp_globp i1.rel i1.ro i1.wfs hg1 hf hh v1
 exact ⟨_, i1.trans i2, upd_at _ _ _ _⟩
end Go.V
