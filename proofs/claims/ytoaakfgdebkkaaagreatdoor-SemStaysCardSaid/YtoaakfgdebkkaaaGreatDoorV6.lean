/- SOUNDNESS: WRITING, NEW OBJECTS, APPEND. -/
import Derived.Test.YtoaakfgdebkkaaaGreatDoorV5
set_option linter.unusedVariables false
set_option linter.unusedSimpArgs false
set_option linter.unusedSectionVars false
/- SOUNDNESS: WRITING, NEW OBJECTS, APPEND. -/
namespace Go.V
open Go

section
variable {P : Prog} {φ : Phi} {s : St} {w : World}

theorem splice_get (cs : List AV) (off : Nat) (vs : List AV) (h : off + vs.length ≤ cs.length) (j : Nat) :
 (spliceAt cs off vs)[j]? = if off ≤ j ∧ j < off + vs.length then vs[j - off]? else cs[j]? := by
 unfold spliceAt
 by_cases h1 : j < off
 · rw [if_neg (by omega), List.getElem?_append_left (by simp; omega), List.getElem?_take, if_pos h1]
 · rw [List.getElem?_append_right (by simp; omega)]
   have e : (cs.take off).length = off := by simp; omega
   rw [e]
   by_cases h2 : j < off + vs.length
   · rw [if_pos ⟨by omega, h2⟩, List.getElem?_append_left (by omega)]
   · rw [if_neg (by omega), List.getElem?_append_right (by omega), List.getElem?_drop]
     congr 1; omega
theorem splice_length (cs : List AV) (off : Nat) (vs : List AV) (h : off + vs.length ≤ cs.length) : (spliceAt cs off vs).length = cs.length := by
 unfold spliceAt; simp; omega

theorem write_ok (hs : RelSt φ s w) {id : Nat} {cs : List AV} {lo inc off : Nat} {x : Inc} {vs : List AV} {cvs : List Value} (ho : s.heap.get id = some (.cells cs lo inc false)) (hx : φ id inc = some x)
 (hoff : x.sh ≤ off) (hlen : off + vs.length ≤ x.n) (hv : VRels φ vs cvs) (hc : vs.all AV.isCell = true) :
 ∃ w', (storeCells ⟨x.blk, x.base + (off - x.sh), none⟩ cvs).run P.toProgram w = .ok () w' ∧ Step φ s w φ (s.put id (.cells (spliceAt cs off vs) inc inc false)) w' := by
 have hlo : lo ≤ inc := (hs.obj id _ ho).1
 obtain ⟨cc, el, fz, hh, e1, e2, e3, e4, e5, e6, e7⟩ := cells_inv hs ho hx hlo (Nat.le_refl _)
 have hl := hv.length
 have hn : x.n = cs.length := e5 (by simp)
 obtain ⟨w', cc', hr, h1, h2, h3, h4⟩ := run_storeCells (P := P) (b := x.blk) (o := x.base + (off - x.sh)) cvs 0 w cc el fz hh (by omega) (by rw [e1]; exact e2 rfl) (hv.allCells hc)
 refine ⟨w', hr, step_put hs ho hx (by intro _ _ _ e; cases e) (by intro _ _ _ _ e k y hy; cases e; exact hs.incs _ _ _ _ _ _ _ hy ho) h3.size h3.other (by simp only [World.shape?, h1, hh, h2]) h3.os h3.tape h3.output ?_⟩
 refine ⟨Nat.le_refl _, fun k hk1 hk2 => ?_⟩
 have : k = inc := by omega
 subst this
 have hsl := splice_length cs off vs (by omega)
 refine ⟨x, hx, cc', el, fz, h1, by omega, e2, e3, by omega, fun _ => by omega, e6, fun j v hj1 hj2 hjv => ?_⟩
 rw [splice_get cs off vs (by omega)] at hjv
 rw [h4]
 by_cases hj : off ≤ j ∧ j < off + vs.length
 · rw [if_pos hj] at hjv
   have n1 : x.base + (off - x.sh) + 0 ≤ x.base + (j - x.sh) ∧ x.base + (j - x.sh) < x.base + (off - x.sh) + 0 + cvs.length := by omega
   rw [if_pos n1]
   obtain ⟨c, hc1, hc2⟩ := hv.get hjv
   refine ⟨c, ?_, hc2⟩
   rw [← hc1]; congr 1; omega
 · rw [if_neg hj] at hjv
   have n1 : ¬ (x.base + (off - x.sh) + 0 ≤ x.base + (j - x.sh) ∧ x.base + (j - x.sh) < x.base + (off - x.sh) + 0 + cvs.length) := by omega
   rw [if_neg n1]
   exact e7 j v hj1 hj2 hjv

theorem store_ok (hs : RelSt φ s w) {t : TypeId} {n : Nat} {x v : AV} {cx cv : Value} {s' : St} (hx : VRel φ x cx) (hv : VRel φ v cv) (hsz : szOf P t = some n) (h : storeV s n x v = some s') :
 ∃ w', (Instr.storeAt t cx cv).run P.toProgram w = .ok () w' ∧ Step φ s w φ s' w' := by
 unfold storeV at h
 split at h
 · rename_i a
   split at h
   · rename_i cs lo inc ho
     split at h
     · rename_i hc
       obtain ⟨c1, c2, c3, c4⟩ := hc
       cases h
       cases hx
       rename_i x h1 h2 h3
       rw [c1] at h1
       have hvc := hv.cells
       have hl := hvc.length
       obtain ⟨w', hr, hst⟩ := write_ok (P := P) hs ho h1 h2 (by omega) hvc c4
       refine ⟨w', ?_, hst⟩
       have hsz' : cv.cells.size = n := by have : cv.cells.toList.length = cv.cells.size := rfl; omega
       simp [Instr.storeAt, Instr.sureAddr, storeVar, run_sizeOf hsz, hsz', hr]
     · cases h
   · cases h
 · cases h

/- new objects -/
theorem newRowK_ok (hs : RelSt φ s w) (hf : s.heap.get s.next = none) {l : List AV} {cells : Array Value} {el : TypeId} {top K : Nat} (hK : ∀ t, K / tyBase = t + 1 → t = el) (hl : l.length ≤ cells.size) (ht : cells.size = top)
 (hv : ∀ (j : Nat) (v : AV), l[j]? = some v → ∃ c, cells[j]? = some c ∧ VRel φ v c) :
 (newRow el cells).run P.toProgram w = .ok ⟨w.heap.size, 0, none⟩ { w with heap := w.heap.push (.cells cells el) } ∧
 Step φ s w (φ.upd s.next K ⟨w.heap.size, 0, 0, l.length, top⟩) (s.add (.cells l K K false)) { w with heap := w.heap.push (.cells cells el) } := by
 refine ⟨by simp [newRow], step_addK hs hf _ K _ _ rfl (by intro _ _ _ e; cases e) (by intro _ _ _ _ e; cases e; exact Nat.le_refl _) (fun t h => ⟨by simp [World.shape?, hK t h, ht], rfl⟩) ?_⟩
 refine ⟨Nat.le_refl _, fun k h1 h2 => ?_⟩
 have : k = K := by omega
 subst this
 refine ⟨_, Phi.upd_same _ _ _ _, cells, el, (0, 0), by simp, ht, fun _ o _ => by simp, by simp, by simp, fun _ => rfl, by simp; omega, fun j v _ _ hj => ?_⟩
 obtain ⟨c, hc, hvv⟩ := hv j v hj
 exact ⟨c, by simpa using hc, hvv.mono (Phi.upd_le (free_phi hs hf _))⟩

theorem newRow_ok (hs : RelSt φ s w) (hf : s.heap.get s.next = none) {l : List AV} {cells : Array Value} {el : TypeId} {top : Nat} (hl : l.length ≤ cells.size) (ht : cells.size = top)
 (hv : ∀ (j : Nat) (v : AV), l[j]? = some v → ∃ c, cells[j]? = some c ∧ VRel φ v c) :
 (newRow el cells).run P.toProgram w = .ok ⟨w.heap.size, 0, none⟩ { w with heap := w.heap.push (.cells cells el) } ∧
 Step φ s w (φ.upd s.next 0 ⟨w.heap.size, 0, 0, l.length, top⟩) (s.add (.cells l 0 0 false)) { w with heap := w.heap.push (.cells cells el) } :=
 newRowK_ok (K := 0) hs hf (fun _ h => (ty_zero h).elim) hl ht hv

theorem box_ok (hs : RelSt φ s w) (hf : s.heap.get s.next = none) {l : List AV} {el : TypeId} {v : Value} (hv : VRels φ l v.cells.toList) :
 ∃ φ' w', (Instr.box el v).run P.toProgram w = .ok (.pointer (some ⟨w.heap.size, 0, none⟩)) w' ∧ Step φ s w φ' (boxV s l).2 w' ∧ VRel φ' (boxV s l).1 (.pointer (some ⟨w.heap.size, 0, none⟩)) := by
 have hlen : l.length = v.cells.size := by have := hv.length; simpa using this
 obtain ⟨h1, h2⟩ := newRow_ok (P := P) (el := el) (top := v.cells.size) hs hf (l := l) (cells := v.cells) (by omega) rfl (fun j u hj => by
  obtain ⟨c, hc, h⟩ := hv.get hj
  exact ⟨c, by simpa using hc, h⟩)
 refine ⟨_, _, by simp only [Instr.box, newVar, Sem.run_bind, h1, Result.andThen_ok, Sem.run_pure], h2, ?_⟩
 have := VRel.ptr (φ := φ.upd s.next 0 ⟨w.heap.size, 0, 0, l.length, v.cells.size⟩) (a := ⟨s.next, 0, 0, l.length⟩) (Phi.upd_same _ _ _ _) (Nat.le_refl _) (Nat.le_refl _)
 simpa [boxV] using this

theorem box_okK {K : Nat} {el : TypeId} (hK : ∀ t, K / tyBase = t + 1 → t = el) (hs : RelSt φ s w) (hf : s.heap.get s.next = none) {l : List AV} {v : Value} (hv : VRels φ l v.cells.toList) :
 ∃ φ' w', (Instr.box el v).run P.toProgram w = .ok (.pointer (some ⟨w.heap.size, 0, none⟩)) w' ∧ Step φ s w φ' (s.add (.cells l K K false)) w' ∧ VRel φ' (.ptr ⟨s.next, 0, K, l.length⟩) (.pointer (some ⟨w.heap.size, 0, none⟩)) := by
 have hlen : l.length = v.cells.size := by have := hv.length; simpa using this
 obtain ⟨h1, h2⟩ := newRowK_ok (P := P) (el := el) (top := v.cells.size) (K := K) hs hf hK (l := l) (cells := v.cells) (by omega) rfl (fun j u hj => by
  obtain ⟨c, hc, h⟩ := hv.get hj
  exact ⟨c, by simpa using hc, h⟩)
 refine ⟨_, _, by simp only [Instr.box, newVar, Sem.run_bind, h1, Result.andThen_ok, Sem.run_pure], h2, ?_⟩
 have := VRel.ptr (φ := φ.upd s.next K ⟨w.heap.size, 0, 0, l.length, v.cells.size⟩) (a := ⟨s.next, 0, K, l.length⟩) (Phi.upd_same _ _ _ _) (Nat.le_refl _) (Nat.le_refl _)
 simpa [boxV] using this

theorem mkMap_ok (hs : RelSt φ s w) (hf : s.heap.get s.next = none) {t : TypeId} :
 ∃ φ' w' c, (Instr.makeMap t none).run P.toProgram w = .ok c w' ∧ Step φ s w φ' (s.add (.map [] 0)) w' ∧ VRel φ' (.map s.next) c := by
 have h2 : Step φ s w (φ.upd s.next 0 ⟨w.heap.size, 0, 0, 0, 0⟩) (s.add (.map [] 0)) { w with heap := w.heap.push (.map #[] 0) } :=
  step_add hs hf _ _ _ rfl (by intro _ _ _ e; cases e) ⟨_, #[], Phi.upd_same _ _ _ _, by simp, .nil⟩
 refine ⟨_, _, .map (some w.heap.size), by simp [Instr.makeMap], h2, ?_⟩
 exact VRel.map (x := ⟨w.heap.size, 0, 0, 0, 0⟩) (Phi.upd_same _ _ _ _)
end
end Go.V
