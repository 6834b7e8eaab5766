/- SOUNDNESS, OPERATION BY OPERATION. -/
import Derived.Test.YtoaakfgdebkkaaaGreatDoorV4
import Derived.Laws.StructEq
set_option linter.unusedVariables false
set_option linter.unusedSimpArgs false
set_option linter.unusedSectionVars false
/- SOUNDNESS, OPERATION BY OPERATION. -/
namespace Go.V
open Go

section
variable {P : Prog} {φ : Phi} {s : St} {w : World}

/- constants and operands -/
mutual
theorem constAV_rel : ∀ (n : Nat) {v : Value} {c : AV}, constAV n v = some c → VRel φ c v
 | 0, _, _, h => by simp [constAV] at h
 | n + 1, v, c, h => by
  unfold constAV at h
  split at h
  all_goals first
   | (simp at h; done)
   | (cases h; constructor; done)
   | skip
  · split at h
    · rename_i a b c' d; cases h
      exact .func (l' := _) (m' := _) (constAVs_rel n c') (constAVs_rel n d)
    · cases h
  · split at h
    · rename_i a; cases h; exact .iface (constAV_rel n a)
    · cases h
  · split at h
    · rename_i a; cases h; exact .agg (l' := _) (constAVs_rel n a)
    · cases h
  · split at h
    · rename_i a; cases h; exact .tuple (l' := _) (constAVs_rel n a)
    · cases h
theorem constAVs_rel : ∀ (n : Nat) {l : List Value} {m : List AV}, constAVs n l = some m → VRels φ m l
 | n, [], m, h => by simp [constAVs] at h; subst h; exact .nil
 | n, v :: l, m, h => by
  unfold constAVs at h
  split at h
  · rename_i a b; cases h; exact .cons (constAV_rel n a) (constAVs_rel n b)
  · cases h
end

def GlobOk (P : Prog) (φ : Phi) : Prop := ∀ g, g ∈ P.G → ∃ x, φ g 0 = some x ∧ x.blk = g ∧ x.base = 0 ∧ x.sh = 0 ∧ (∀ gl n, P.globals[g]? = some gl → szOf P gl.type = some n → n ≤ x.n) ∧ x.top = x.n

theorem GlobOk.mono {φ' : Phi} (h : GlobOk P φ) (hle : PhiLe φ φ') : GlobOk P φ' := by
 intro g hg
 obtain ⟨x, hx, r⟩ := h g hg
 exact ⟨x, hle _ _ _ hx, r⟩

structure RelEnv (nt : Nat) (ds : List Deferred) (φ : Phi) (e : Env) (a : Act) : Prop where
 size : a.tmps.size = nt
 val : ∀ i, VRel φ (opd e (.t i)) (a.tmps.getD i undef)
 defs : a.defers = ds

theorem RelEnv.mono {nt : Nat} {ds : List Deferred} {φ' : Phi} {e : Env} {a : Act} (h : RelEnv nt ds φ e a) (hle : PhiLe φ φ') : RelEnv nt ds φ' e a :=
 ⟨h.size, fun i => (h.val i).mono hle, h.defs⟩

theorem opd_rel {nt : Nat} {ds : List Deferred} {e : Env} {a : Act} (hg : GlobOk P φ) (he : RelEnv nt ds φ e a) {x : Operand} {y : Opd} (h : ofOpd P x = some y) : VRel φ (opd e y) (a.eval x) := by
 cases x with
 | tmp t => simp [ofOpd] at h; subst h; exact he.val t
 | const v =>
  simp [ofOpd] at h
  obtain ⟨c, hc, rfl⟩ := h
  exact constAV_rel 8 hc
 | global g =>
  simp only [ofOpd] at h
  split at h
  · rename_i hG
    split at h
    · rename_i gl hgl
      split at h
      · rename_i n hn
        cases h
        obtain ⟨x, hx, h1, h2, h3, h4⟩ := hg g (by simpa using hG)
        have := VRel.ptr (φ := φ) (a := ⟨g, 0, 0, n⟩) (x := x) hx (by omega) (h4.1 gl n hgl hn)
        simpa [opd, Act.eval, h1, h2, h3] using this
      · cases h
    · cases h
  · cases h
 | func f => simp [ofOpd] at h; subst h; exact .func (l' := []) (m' := []) .nil .nil

theorem opds_rel {nt : Nat} {ds : List Deferred} {e : Env} {a : Act} (hg : GlobOk P φ) (he : RelEnv nt ds φ e a) : ∀ {l : List Operand} {m : List Opd}, ofOpds P l = some m → VRels φ (opds e m) (l.map a.eval)
 | [], m, h => by simp [ofOpds] at h; subst h; exact .nil
 | x :: l, m, h => by
  unfold ofOpds at h
  split at h
  · rename_i p q; cases h; exact .cons (opd_rel hg he p) (opds_rel hg he q)
  · cases h

/- values -/
theorem VRel.cells {v : AV} {c : Value} (h : VRel φ v c) : VRels φ v.cells c.cells.toList := by
 cases h
 case agg l l' h => exact h
 all_goals (simp only [AV.cells, Value.cells]; exact .cons (by constructor <;> assumption) .nil)

theorem VRel.isCell {v : AV} {c : Value} (h : VRel φ v c) (hc : v.isCell = true) : c.oneCell' = true := by
 cases h <;> simp_all [AV.isCell, Value.oneCell']

theorem VRels.allCells : ∀ {l : List AV} {l' : List Value}, VRels φ l l' → l.all AV.isCell = true → ∀ v ∈ l', v.oneCell' = true
 | _, _, .nil, _, v, hv => by simp at hv
 | _, _, .cons a b, h, v, hv => by
  simp at h
  rcases List.mem_cons.1 hv with rfl | hv
  · exact a.isCell h.1
  · exact VRels.allCells b (by simpa using h.2) v hv

/- types -/
theorem run_underlying_some {t : TypeId} {d : TypeDesc} (h : P.underlying t = some d) : (underlying t).run P.toProgram w = .ok d w := by
 simp [underlying, h]
theorem szOf_some {t : TypeId} {n : Nat} (h : szOf P t = some n) : ∃ d i, P.underlying t = some d ∧ P.info? t = some i ∧ i.size = n := by
 unfold szOf at h
 split at h
 · rename_i d hd
   cases hi : P.info? t with
   | none => simp [hi] at h
   | some i => simp [hi] at h; exact ⟨d, i, hd, rfl, h⟩
 · cases h
theorem run_typeInfo {t : TypeId} {i : TypeInfo} (h : P.info? t = some i) : (typeInfo t).run P.toProgram w = .ok i w := by
 simp [typeInfo, h]
theorem run_sizeOf {t : TypeId} {n : Nat} (h : szOf P t = some n) : (sizeOf t).run P.toProgram w = .ok n w := by
 obtain ⟨d, i, _, hi, rfl⟩ := szOf_some h
 simp [sizeOf, run_typeInfo hi]
theorem run_isAgg {t : TypeId} {n : Nat} (h : szOf P t = some n) : (isAgg t).run P.toProgram w = .ok (aggT P t) w := by
 obtain ⟨d, i, hd, hi, rfl⟩ := szOf_some h
 simp only [isAgg, Sem.run_bind, run_underlying_some hd, Result.andThen_ok, aggT, hd]
 cases d <;> simp
theorem run_zeroValue {t : TypeId} {i : TypeInfo} {z : Value} (h : P.info? t = some i) (hz : i.zero = some z) : (zeroValue t).run P.toProgram w = .ok z w := by
 simp [zeroValue, run_typeInfo h, hz]
theorem zeroCells_rel {t : TypeId} {l : List AV} (h : zeroCellsV P t = some l) : ∃ z, (∀ w, (zeroValue t).run P.toProgram w = .ok z w) ∧ ∀ φ, VRels φ l z.cells.toList := by
 unfold zeroCellsV at h
 split at h
 · rename_i z hz
   cases hi : P.info? t with
   | none => simp [hi] at hz
   | some i =>
    simp [hi] at hz
    exact ⟨z, fun w => run_zeroValue hi hz, fun φ => constAVs_rel 8 h⟩
 · cases h
theorem zeroAV_rel {t : TypeId} {v : AV} (h : zeroAV P t = some v) : ∃ z, (∀ w, (zeroValue t).run P.toProgram w = .ok z w) ∧ ∀ φ, VRel φ v z := by
 unfold zeroAV at h
 split at h
 · rename_i z hz
   cases hi : P.info? t with
   | none => simp [hi] at hz
   | some i =>
    simp [hi] at hz
    exact ⟨z, fun w => run_zeroValue hi hz, fun φ => constAV_rel 8 h⟩
 · cases h

/- reading -/
theorem cell?_of_heap {b o : Nat} {cc : Array Value} {el : TypeId} {fz : Nat × Nat} (h : w.heap[b]? = some (.cells cc el fz)) : w.cell? ⟨b, o, none⟩ = cc[o]? := by
 simp [World.cell?, h]

theorem addr_add (b o n : Nat) : (⟨b, o, none⟩ : Addr).add n = ⟨b, o + n, none⟩ := by
 unfold Addr.add
 split
 · rename_i h; subst h; rfl
 · rfl

theorem cells_inv (hs : RelSt φ s w) {id k : Nat} {x : Inc} {cs : List AV} {lo inc : Nat} {ro : Bool} (ho : s.heap.get id = some (.cells cs lo inc ro)) (hx : φ id k = some x) (h1 : lo ≤ k) (h2 : k ≤ inc) :
 CellsRel φ w cs ro (k == inc) x := by
 obtain ⟨_, h⟩ := hs.obj id _ ho
 obtain ⟨y, hy, hc⟩ := h k h1 h2
 rw [hx] at hy; cases hy; exact hc

theorem read_ok (hs : RelSt φ s w) {a : AAddr} {ca : Addr} {size : Nat} {l : List AV} (hr : s.readAt a size = some l) (hx : VRel φ (.ptr a) (.pointer (some ca))) :
 ∃ cl : List Value, cl.length = size ∧ l.length = size ∧ VRels φ l cl ∧ ∀ j v, cl[j]? = some v → w.cell? (ca.add j) = some v := by
 unfold St.readAt at hr
 split at hr
 · rename_i cs lo inc ro ho
   split at hr
   · rename_i hc
     cases hr
     cases hx
     rename_i x h1 h2 h3
     obtain ⟨cc, el, fz, hh, e1, e2, e3, e4, e5, e6, e7⟩ := cells_inv hs ho h1 hc.1 hc.2.1
     have hlen : ((cs.drop a.off).take size).length = size := by simp; omega
     have key : ∀ j, j < size → ∃ v c, ((cs.drop a.off).take size)[j]? = some v ∧ cc[x.base + (a.off - x.sh) + j]? = some c ∧ VRel φ v c := by
      intro j hj
      have hlt : a.off + j < cs.length := by omega
      obtain ⟨c, hc', hv⟩ := e7 (a.off + j) cs[a.off + j] (by omega) (by omega) (by simp [hlt])
      refine ⟨cs[a.off + j], c, by simp [hj, hlt], ?_, hv⟩
      rw [← hc']; congr 1; omega
     refine ⟨(List.range size).map fun j => cc.getD (x.base + (a.off - x.sh) + j) undef, by simp, hlen, ?_, ?_⟩
     · refine VRels.of_get (by simp [hlen]) fun i v c hv hc' => ?_
       have hi : i < size := by
        have := (List.getElem?_eq_some_iff.1 hv).1; omega
       obtain ⟨v', c', h1', h2', h3'⟩ := key i hi
       rw [h1'] at hv; cases hv
       simp [hi] at hc'
       subst hc'
       simp [h2', h3']
     · intro j v hv
       have hj : j < size := by
        have := (List.getElem?_eq_some_iff.1 hv).1; simpa using this
       obtain ⟨v', c', h1', h2', h3'⟩ := key j hj
       simp [hj] at hv
       rw [addr_add, cell?_of_heap hh, h2', ← hv]
       simp [h2']
   · cases hr
 · cases hr

theorem load_ok (hs : RelSt φ s w) {t : TypeId} {n : Nat} {x v : AV} {cx : Value} (hx : VRel φ x cx) (hsz : szOf P t = some n) (h : loadV s (aggT P t) n x = some v) :
 ∃ c, (Instr.loadAt t cx).run P.toProgram w = .ok c w ∧ VRel φ v c := by
 unfold loadV at h
 split at h
 · rename_i a
   cases hx
   rename_i x h1 h2 h3
   have hp := VRel.ptr (φ := φ) h1 h2 h3
   cases hag : aggT P t with
   | true =>
    rw [hag] at h
    simp only [] at h
    split at h
    · rename_i l hl
      cases h
      obtain ⟨cl, hc1, hc2, hc3, hc4⟩ := read_ok hs hl hp
      refine ⟨.agg cl.toArray, ?_, .agg (l' := cl) hc3⟩
      have := run_loadCells_list (P := P.toProgram) w _ cl hc4
      rw [hc1] at this
      simp [Instr.loadAt, Instr.sureAddr, loadVar, run_isAgg hsz, hag, run_sizeOf hsz, this]
    · cases h
   | false =>
    rw [hag] at h
    simp only [] at h
    split at h
    · rename_i l hl
      obtain ⟨cl, hc1, hc2, hc3, hc4⟩ := read_ok hs hl hp
      obtain ⟨c, hc, hv⟩ := hc3.get h
      refine ⟨c, ?_, hv⟩
      have := hc4 0 c hc
      rw [addr_add, Nat.add_zero] at this
      simp [Instr.loadAt, Instr.sureAddr, loadVar, run_isAgg hsz, hag, this]
    · cases h
 · cases h

/- writing -/
theorem Below.heap_setCell' (w : World) (b o : Nat) (v : Value) (k : Nat) (h : k ≠ b) : (w.setCell ⟨b, o, none⟩ v).heap[k]? = w.heap[k]? := by
 simp only [World.setCell, Array.getElem?_modify]
 rw [if_neg (by omega)]
structure SameBut (b : Nat) (w w' : World) : Prop where
 size : w'.heap.size = w.heap.size
 other : ∀ k, k ≠ b → w'.heap[k]? = w.heap[k]?
 os : w'.os = w.os
 tape : w'.tape = w.tape
 output : w'.output = w.output

theorem run_storeCells {b o : Nat} : ∀ (vs : List Value) (i : Nat) (w : World) (cc : Array Value) (el : TypeId) (fz : Nat × Nat), w.heap[b]? = some (.cells cc el fz) → o + i + vs.length ≤ cc.size →
 (∀ j, j < cc.size → (fz.1 ≤ j && j < fz.2) = false) → (∀ v ∈ vs, v.oneCell' = true) →
 ∃ w' cc', (storeCells ⟨b, o, none⟩ vs i).run P.toProgram w = .ok () w' ∧ w'.heap[b]? = some (.cells cc' el fz) ∧ cc'.size = cc.size ∧ SameBut b w w' ∧
  ∀ j, cc'[j]? = if o + i ≤ j ∧ j < o + i + vs.length then vs[j - (o + i)]? else cc[j]?
 | [], i, w, cc, el, fz, h, _, _, _ => by
  refine ⟨w, cc, by simp [storeCells], h, rfl, ⟨rfl, fun _ _ => rfl, rfl, rfl, rfl⟩, fun j => ?_⟩
  rw [if_neg (by simp <;> omega)]
 | v :: vs, i, w, cc, el, fz, h, hl, hf, hc => by
  simp only [List.length_cons] at hl
  have hcell : w.cell? ⟨b, o + i, none⟩ = some cc[o + i] := by rw [cell?_of_heap h]; simp <;> omega
  have hfr : w.frozen? ⟨b, o + i, none⟩ = false := by
   simp only [World.frozen?, h]; exact hf (o + i) (by omega)
  have hw1 : (w.setCell ⟨b, o + i, none⟩ v).heap[b]? = some (.cells (cc.setIfInBounds (o + i) v) el fz) := by
   simp [World.setCell, Array.getElem?_modify, h]
  obtain ⟨w', cc', r, h1, h2, h3, h4⟩ := run_storeCells (b := b) (o := o) vs (i + 1) (w.setCell ⟨b, o + i, none⟩ v) (cc.setIfInBounds (o + i) v) el fz hw1 (by rw [Array.size_setIfInBounds]; omega) (by simpa using hf) (fun u hu => hc u (List.mem_cons_of_mem _ hu))
  refine ⟨w', cc', ?_, h1, by simpa using h2, ⟨by simpa using h3.size, fun k hk => ?_, h3.os, h3.tape, h3.output⟩, fun j => ?_⟩
  · simp only [storeCells, Sem.run_bind, addr_add, run_store P.toProgram w _ v .plain (hc v (List.mem_cons_self ..)), hcell, hfr]
    simpa using r
  · rw [h3.other k hk]
    exact Below.heap_setCell' w b (o + i) v k hk
  · rw [h4 j]
    by_cases hj : j = o + i
    · subst hj
      have n1 : ¬ (o + (i + 1) ≤ o + i ∧ o + i < o + (i + 1) + vs.length) := by omega
      have n2 : o + i ≤ o + i ∧ o + i < o + i + (v :: vs).length := by simp
      have n3 : o + i < cc.size := by omega
      rw [if_neg n1, if_pos n2]
      simp [n3]
    · by_cases hj2 : o + (i + 1) ≤ j ∧ j < o + (i + 1) + vs.length
      · rw [if_pos hj2, if_pos (by simp; omega)]
        rw [show j - (o + i) = (j - (o + (i + 1))) + 1 by omega]
        simp
      · rw [if_neg hj2, if_neg (by simp; omega)]
        simp [Ne.symm hj]
end
end Go.V
