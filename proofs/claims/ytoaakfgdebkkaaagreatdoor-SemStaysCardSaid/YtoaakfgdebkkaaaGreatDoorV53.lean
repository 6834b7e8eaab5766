/- ARGUMENTS WITH DEPTH, their data known: which cells lie where. -/
import Derived.Test.YtoaakfgdebkkaaaGreatDoorV52
set_option linter.unusedVariables false
set_option linter.unusedSimpArgs false
set_option linter.unusedSectionVars false
/- ARGUMENTS WITH DEPTH, their data known: which cells lie where. -/
namespace Go.V
open Go Go.RowKit Go.ChangeShapes Go.WideShapes Go.ChangeAt

def layMany {D : Type} (f : D → St → Option (List AV × St)) : List D → St → Option (List (List AV) × St)
 | [], s => some ([], s)
 | d :: ds, s => match f d s with
  | some (l, s1) => match layMany f ds s1 with
   | some (ls, s2) => some (l :: ls, s2)
   | none => none
  | none => none
mutual
/-- The cells of a datum, by the make; what it points to is laid behind. -/
def layD {H : Type} : Ty → DataW H → St → Option (List AV × St)
 | .bool, d, s => match d with
  | .lit (.bool b) => some ([.bool b], s)
  | _ => none
 | .int k, d, s => match d with
  | .lit (.int _ n) => some ([.int k n], s)
  | _ => none
 | .str, d, s => match d with
  | .lit (.string l) => some ([.str l], s)
  | _ => none
 | .slice t, d, s => match d with
  | .nil => some ([.nilSlice], s)
  | .slice es sp => match es with
   | [] => some ([.empty], s)
   | _ :: _ => match layMany (layD t) es s with
    | some (cs, s1) => some ([.slice ⟨s1.next, 0, 0, es.length * tySize t⟩ es.length (es.length + sp.length) true (tySize t)], s1.add (.cells cs.flatten 0 0 true))
    | none => none
  | _ => none
 | .struct ts, d, s => match d with
  | .agg ds => layAll ts ds s
  | _ => none
 | .arr _ t, d, s => match d with
  | .agg ds => match layMany (layD t) ds s with
   | some (cs, s1) => some (cs.flatten, s1)
   | none => none
  | _ => none
def layAll {H : Type} : List Ty → List (DataW H) → St → Option (List AV × St)
 | [], ds, s => match ds with
  | [] => some ([], s)
  | _ => none
 | t :: ts, ds, s => match ds with
  | [] => none
  | d :: ds => match layD t d s with
   | some (l, s1) => match layAll ts ds s1 with
    | some (m, s2) => some (l ++ m, s2)
    | none => none
   | none => none
end

section
variable {H : Type} {enc : TypeId × Value → H} {P : Program} {W : World} {held : Bool}

/-- What one type's reading gives. -/
def LayAt (enc : TypeId × Value → H) (P : Program) (W : World) (held : Bool) (t : TypeId) (ty : Ty) : Prop :=
 ∀ m cs x, DataW.trod enc P W 0 (fun _ => true) held m t cs = some x → ∀ φ s, RelSt φ s W → AllRo s → WFS s → ∃ φ' s' l, Imp W φ s φ' s' ∧ VRels φ' l cs ∧ layD ty x.1 s = some (l, s') ∧ l.length = tySize ty

/-- Pieces, one behind the other. -/
theorem lay_many {t : TypeId} {u : Ty} (hu : LayAt enc P W held t u) : ∀ (qs : List (List Value × DataW H)), (∀ q ∈ qs, ∃ m pl, DataW.trod enc P W 0 (fun _ => true) held m t q.1 = some (q.2, pl)) → ∀ φ s, RelSt φ s W → AllRo s → WFS s →
 ∃ (φ' : Phi) (s' : St) (cs : List (List AV)), Imp W φ s φ' s' ∧ VRels φ' cs.flatten (qs.map (·.1)).flatten ∧ cs.length = qs.length ∧ (∀ c ∈ cs, c.length = tySize u) ∧ layMany (layD u) (qs.map (·.2)) s = some (cs, s')
 | [], _, φ, s, h1, h2, h3 => ⟨φ, s, [], .refl h1 h2 h3, .nil, rfl, by simp, rfl⟩
 | q :: qs, hp, φ, s, h1, h2, h3 => by
  obtain ⟨m, pl, hx⟩ := hp q (by simp)
  obtain ⟨φ1, s1, l, i1, v1, e1, n1⟩ := hu m q.1 _ hx φ s h1 h2 h3
  obtain ⟨φ2, s2, cs, i2, v2, l2, n2, e2⟩ := lay_many hu qs (fun q hq => hp q (by simp [hq])) φ1 s1 i1.rel i1.ro i1.wfs
  refine ⟨φ2, s2, l :: cs, i1.trans i2, ?_, by simp [l2], fun c hc => ?_, ?_⟩
  · rw [List.map_cons, List.flatten_cons, List.flatten_cons]
    exact (v1.mono i2.le).append v2
  · rcases List.mem_cons.1 hc with rfl | hc
    · exact n1
    · exact n2 c hc
  · simp only [List.map_cons, layMany, e1, e2]

theorem lay_go {n : Nat} (ih : ∀ t ty, tyOf P n t = some ty → LayAt enc P W held t ty) {m : Nat} {cs : List Value} : ∀ (fs : List Field) (o : Nat) (us : List Ty), tyOf.go P n fs o = some us → cs.length = o + tySizes us →
 ∀ xs, (fs.mapM fun f => DataW.trod enc P W 0 (fun _ => true) held m f.type ((cs.drop f.offset).take (P.cellsOf f.type))) = some xs → ∀ φ s, RelSt φ s W → AllRo s → WFS s → ∃ φ' s' l, Imp W φ s φ' s' ∧ VRels φ' l (cs.drop o) ∧ layAll us (xs.map (·.1)) s = some (l, s') ∧ l.length = tySizes us
 | [], o, us, hg, hl, xs, hx, φ, s, h1, h2, h3 => by
  simp only [tyOf.go, Option.some.injEq] at hg
  subst hg
  have hx0 : xs = [] := by simpa using hx.symm
  subst hx0
  refine ⟨φ, s, [], .refl h1 h2 h3, ?_, rfl, rfl⟩
  rw [List.drop_eq_nil_of_le (by simp only [tySizes] at hl; omega)]
  exact .nil
 | f :: fs, o, us, hg, hl, xs, hx, φ, s, h1, h2, h3 => by
  simp only [tyOf.go] at hg
  split at hg
  · rename_i u hu
    split at hg
    · rename_i hc
      split at hg
      · rename_i us' hus
        cases hg
        rw [List.mapM_cons] at hx
        cases ha : DataW.trod enc P W 0 (fun _ => true) held m f.type ((cs.drop f.offset).take (P.cellsOf f.type)) with
        | none => rw [ha] at hx; simp at hx
        | some y =>
         rw [ha] at hx
         cases hr : (fs.mapM fun f => DataW.trod enc P W 0 (fun _ => true) held m f.type ((cs.drop f.offset).take (P.cellsOf f.type))) with
         | none => rw [hr] at hx; simp at hx
         | some ys =>
          rw [hc.1, hc.2] at ha
          obtain ⟨φ1, s1, l1, i1, v1, e1, n1⟩ := ih _ _ hu m _ y ha φ s h1 h2 h3
          obtain ⟨φ2, s2, l2, i2, v2, e2, n2⟩ := lay_go ih fs (o + tySize u) us' hus (by simp only [tySizes] at hl; omega) ys hr φ1 s1 i1.rel i1.ro i1.wfs
          have hxs : xs = y :: ys := by rw [hr] at hx; simpa using hx.symm
          subst hxs
          refine ⟨φ2, s2, l1 ++ l2, i1.trans i2, ?_, by simp only [List.map_cons, layAll, e1, e2], by rw [List.length_append, n1, n2]; rfl⟩
          have : cs.drop o = (cs.drop o).take (tySize u) ++ cs.drop (o + tySize u) := by
           rw [← List.drop_drop, List.take_append_drop]
          rw [this]
          exact (v1.mono i2.le).append v2
      · cases hg
    · cases hg
  · cases hg

theorem inv_struct2 {m : Nat} {t : TypeId} {fs : Array Field} {cs : List Value} {x : DataW H × List MemPlace} (hu : P.underlying t = some (.struct fs)) (hx : DataW.trod enc P W 0 (fun _ => true) held (m + 1) t cs = some x) :
 cs.length = P.cellsOf t ∧ ∃ xs, (fs.toList.mapM fun f => DataW.trod enc P W 0 (fun _ => true) held m f.type ((cs.drop f.offset).take (P.cellsOf f.type))) = some xs ∧ x.1 = .agg (xs.map (·.1)) := by
 simp only [DataW.trod, hu] at hx
 split at hx
 · rename_i hc
   refine ⟨hc, ?_⟩
   cases hm : (fs.toList.mapM fun f => DataW.trod enc P W 0 (fun _ => true) held m f.type ((cs.drop f.offset).take (P.cellsOf f.type))) with
   | none => rw [hm] at hx; simp at hx
   | some xs => rw [hm] at hx; simp at hx; exact ⟨xs, rfl, by rw [← hx]⟩
 · cases hx
theorem inv_arr2 {m n : Nat} {t e : TypeId} {cs : List Value} {x : DataW H × List MemPlace} (hu : P.underlying t = some (.array n e)) (hx : DataW.trod enc P W 0 (fun _ => true) held (m + 1) t cs = some x) :
 cs.length = P.cellsOf t ∧ ∃ xs, ((List.range n).mapM fun i => DataW.trod enc P W 0 (fun _ => true) held m e ((cs.drop (i * P.cellsOf e)).take (P.cellsOf e))) = some xs ∧ x.1 = .agg (xs.map (·.1)) := by
 simp only [DataW.trod, hu] at hx
 split at hx
 · rename_i hc
   refine ⟨hc, ?_⟩
   cases hm : ((List.range n).mapM fun i => DataW.trod enc P W 0 (fun _ => true) held m e ((cs.drop (i * P.cellsOf e)).take (P.cellsOf e))) with
   | none => rw [hm] at hx; simp at hx
   | some xs => rw [hm] at hx; simp at hx; exact ⟨xs, rfl, by rw [← hx]⟩
 · cases hx

set_option maxHeartbeats 1000000 in
theorem lay_trod : ∀ n t ty, tyOf P n t = some ty → LayAt enc P W held t ty
 | 0, t, ty, h => by simp [tyOf] at h
 | n + 1, t, ty, h => by
  have ih := lay_trod n
  intro m cs x hx φ s h1 h2 h3
  cases m with
  | zero => simp [DataW.trod] at hx
  | succ m =>
  simp only [tyOf] at h
  split at h
  · -- bool
    rename_i hu
    cases h
    obtain ⟨b, rfl⟩ := inv_bool hu hx
    have hx1 : x = (.lit (.bool b), []) := by simpa [DataW.trod, hu] using hx.symm
    subst hx1
    exact ⟨φ, s, [.bool b], .refl h1 h2 h3, .cons (.bool b) .nil, rfl, rfl⟩
  · -- int
    rename_i k hu
    cases h
    obtain ⟨v, rfl, b1, b2⟩ := inv_int hu hx
    have hx1 : x = (.lit (.int k v), []) := by simp [DataW.trod, hu] at hx; exact hx.2.symm
    subst hx1
    exact ⟨φ, s, [.int k v], .refl h1 h2 h3, .cons (.int k v) .nil, rfl, rfl⟩
  · -- string
    rename_i hu
    cases h
    obtain ⟨b, rfl, hb⟩ := inv_str hu hx
    have hx1 : x = (.lit (.string b.data.toList), []) := by simp [DataW.trod, hu] at hx; exact hx.2.symm
    subst hx1
    exact ⟨φ, s, [.str b.data.toList], .refl h1 h2 h3, .cons (.str b) .nil, rfl, rfl⟩
  · -- slice
    rename_i e hu
    split at h
    · rename_i u hte
      split at h
      · rename_i hc
        cases h
        obtain ⟨hc1, hpos⟩ := hc
        rcases Go.Deep.open_slice hu hx with ⟨rfl, hxe⟩ | ⟨a, len, cap, mm, k, D, Pl, rfl, _, hlc, _, hmm, hxe, hel⟩
        · exact ⟨φ, s, [.nilSlice], .refl h1 h2 h3, .cons .nilSlice .nil, by rw [hxe]; rfl, rfl⟩
        · simp only [if_true] at hmm
          subst hmm
          by_cases hl0 : len = 0
          · subst hl0
            exact ⟨φ, s, [.empty], .refl h1 h2 h3, .cons (.empty a mm) .nil, by rw [hxe]; rfl, rfl⟩
          · rw [hc1] at hel
            -- the elements' cells
            have hpc : ∀ i, i < mm → ∃ p : List Value, W.cells? 0 (a.add (i * tySize u)) (tySize u) = some p ∧ p.length = tySize u ∧ (∃ m' pl, DataW.trod enc P W 0 (fun _ => true) held m' e p = some (D i, pl)) ∧ ∀ r v, p[r]? = some v → W.cell? ((a.add (i * tySize u)).add r) = some v := by
             intro i hi
             obtain ⟨p, q1, q2⟩ := hel i hi
             refine ⟨p, q1, ?_, ⟨_, _, q2⟩, ?_⟩
             · unfold World.cells? at q1
               rw [if_pos (Nat.zero_le _)] at q1
               have := (mapM_at q1).1
               simpa using this
             · intro r v hv
               unfold World.cells? at q1
               rw [if_pos (Nat.zero_le _)] at q1
               obtain ⟨z1, z2⟩ := mapM_at q1
               have hr : r < tySize u := by
                have := (List.getElem?_eq_some_iff.1 hv).1
                simp at z1; omega
               obtain ⟨y, y1, y2⟩ := z2 r r (by simp [hr])
               rw [hv] at y1
               cases y1
               exact y2
            let pc : Nat → List Value := fun i => if hi : i < mm then Classical.choose (hpc i hi) else []
            have hpc' : ∀ i, i < mm → (pc i).length = tySize u ∧ (∃ m' pl, DataW.trod enc P W 0 (fun _ => true) held m' e (pc i) = some (D i, pl)) ∧ ∀ r v, (pc i)[r]? = some v → W.cell? ((a.add (i * tySize u)).add r) = some v := by
             intro i hi
             have := Classical.choose_spec (hpc i hi)
             simp only [pc, dif_pos hi]
             exact this.2
            have hspot : a.spot = none := by
             obtain ⟨z1, _, z3⟩ := hpc' 0 (by omega)
             have hv : (pc 0)[0]? = some ((pc 0)[0]'(by omega)) := List.getElem?_eq_getElem _
             have := z3 0 _ hv
             unfold World.cell? at this
             have e1 : (a.add (0 * tySize u)).add 0 = a := by simp [Addr.add]
             rw [e1] at this
             split at this
             · split at this
               · cases this
               · rename_i hs; cases hsp : a.spot with
                 | none => rfl
                 | some q => rw [hsp] at hs; exact absurd rfl hs
             · cases this
            have hcell : ∀ i, i < mm → ∀ r v, (pc i)[r]? = some v → W.cell? ⟨a.block, a.off + (i * tySize u + r), none⟩ = some v := by
             intro i hi r v hv
             have := (hpc' i hi).2.2 r v hv
             obtain ⟨ab, ao, as⟩ := a
             simp only at hspot
             subst hspot
             rw [addr_add, addr_add] at this
             rw [← this]
             congr 2
             exact (Nat.add_assoc _ _ _).symm
            obtain ⟨φ1, s1, css, i1, v1, l1, n1, e1⟩ := lay_many (ih e u hte) ((List.range len).map fun i => (pc i, D i)) (fun p hp => by
             obtain ⟨i, hi, rfl⟩ := List.mem_map.1 hp
             exact (hpc' i (by have : i < len := by simpa using hi
                               omega)).2.1) φ s h1 h2 h3
            have hq1 : ((List.range len).map fun i => (pc i, D i)).map (·.1) = (List.range len).map pc := by rw [List.map_map]; rfl
            have hq2 : ((List.range len).map fun i => (pc i, D i)).map (·.2) = (List.range len).map D := by rw [List.map_map]; rfl
            rw [hq1] at v1
            rw [hq2] at e1
            have hcl : css.length = len := by rw [l1]; simp
            have hfl : css.flatten.length = len * tySize u := by rw [flatten_len n1, hcl]
            -- the block
            have hblk : ∃ cc el fz, W.heap[a.block]? = some (.cells cc el fz) ∧ ∀ j v, j < mm * tySize u → (W.cell? ⟨a.block, a.off + j, none⟩ = some v ↔ cc[a.off + j]? = some v) := by
             have hz := hpc' 0 (by omega)
             have hv : (pc 0)[0]? = some ((pc 0)[0]'(by omega)) := List.getElem?_eq_getElem _
             have := hcell 0 (by omega) 0 _ hv
             unfold World.cell? at this
             split at this
             · rename_i cc el fz hh
               refine ⟨cc, el, fz, hh, fun j v _ => ?_⟩
               unfold World.cell?
               simp only [hh, Option.isSome_none, Bool.false_eq_true, if_false]
             · cases this
            obtain ⟨cc, el, fz, hh, hcc⟩ := hblk
            have hsize : a.off + mm * tySize u ≤ cc.size := by
             have hz := hpc' (mm - 1) (by omega)
             have hv : (pc (mm - 1))[tySize u - 1]? = some ((pc (mm - 1))[tySize u - 1]'(by omega)) := List.getElem?_eq_getElem _
             have hm1 : (mm - 1) * tySize u + tySize u = mm * tySize u := by
              have : mm = (mm - 1) + 1 := by omega
              rw [this, Nat.add_sub_cancel, Nat.add_mul]; omega
             have := (hcc _ _ (by omega)).1 (hcell (mm - 1) (by omega) (tySize u - 1) _ hv)
             have := (Array.getElem?_eq_some_iff.1 this).1
             omega
            have hlt : a.block < W.heap.size := (Array.getElem?_eq_some_iff.1 hh).1
            let X : Inc := ⟨a.block, a.off, 0, len * tySize u, cc.size⟩
            have hlm : len * tySize u ≤ mm * tySize u := Nat.mul_le_mul_right _ hlc
            have hadd := imp_add i1.rel i1.ro i1.wfs css.flatten X hlt (fun φ' hle hX => by
             refine ⟨Nat.le_refl _, fun k hk hk' => ?_⟩
             obtain rfl : k = 0 := by omega
             refine ⟨X, hX, cc, el, fz, hh, rfl, (fun h => by cases h), Nat.zero_le _, by show len * tySize u ≤ _; omega, fun _ => hfl.symm, by show a.off + (len * tySize u - 0) ≤ cc.size; omega, fun j v _ hj hv => ?_⟩
             have hj : j < len * tySize u := hj
             obtain ⟨c, hc, hvr⟩ := v1.get hv
             refine ⟨c, ?_, hvr.mono hle⟩
             have hj' : j / tySize u < len := (Nat.div_lt_iff_lt_mul hpos).2 hj
             rw [flat_get hpos (fun p hp => by
              obtain ⟨i, hi, rfl⟩ := List.mem_map.1 hp
              exact (hpc' i (by have : i < len := by simpa using hi
                                omega)).1)] at hc
             have hget : ((List.range len).map pc)[j / tySize u]? = some (pc (j / tySize u)) := by simp [hj']
             rw [hget] at hc
             have hc2 : (pc (j / tySize u))[j % tySize u]? = some c := hc
             have := hcell (j / tySize u) (by omega) _ _ hc2
             rw [Nat.div_add_mod' ] at this
             have := (hcc j c (by omega)).1 this
             show cc[a.off + (j - 0)]? = some c
             rw [Nat.sub_zero]; exact this)
            refine ⟨_, _, [.slice ⟨s1.next, 0, 0, len * tySize u⟩ len mm true (tySize u)], i1.trans hadd, ?_, ?_⟩
            · have hval : Value.slice (some a) len mm = .slice (some ⟨X.blk, X.base + (0 - X.sh), none⟩) len mm := by
               obtain ⟨ab, ao, as⟩ := a
               simp only at hspot
               subst hspot
               rfl
              rw [hval]
              refine .cons (.slice (x := X) (Phi.upd_same _ _ _ _) (Nat.le_refl _) (Nat.le_refl _) (by simp) hlc (Nat.le_refl _) (fun _ => rfl) ?_) .nil
              show a.off + 0 + mm * tySize u ≤ cc.size
              omega
            · refine ⟨?_, rfl⟩
              rw [hxe]
              simp only [layD]
              cases hes : (List.range len).map D with
              | nil => have := congrArg List.length hes; simp at this; omega
              | cons y ys =>
               have hle : (y :: ys).length = len := by rw [← hes]; simp
               have hml : len + (mm - len) = mm := by omega
               simp only [hes] at e1
               simp only [e1, hle, List.length_map, List.length_range, hml]
      · cases h
    · cases h
  · -- struct
    rename_i fs hu
    split at h
    · rename_i us hgo
      split at h
      · rename_i hc
        cases h
        obtain ⟨hlen, xs, hxs, hxd⟩ := inv_struct2 hu hx
        obtain ⟨φ', s', l, i1, v1, e1, n1⟩ := lay_go ih fs.toList 0 us hgo (by rw [hlen, hc]; omega) xs hxs φ s h1 h2 h3
        exact ⟨φ', s', l, i1, by simpa using v1, by rw [hxd]; simp only [layD]; exact e1, n1⟩
      · cases h
    · cases h
  · -- array
    rename_i k e hu
    split at h
    · rename_i u hte
      split at h
      · rename_i hc
        cases h
        obtain ⟨hc1, hc2⟩ := hc
        obtain ⟨hlen, xs, hxs, hxd⟩ := inv_arr2 hu hx
        rw [hc1] at hxs
        obtain ⟨hxl, hxg⟩ := mapM_at hxs
        have hxl : xs.length = k := by simpa using hxl
        obtain ⟨φ', s', css, i1, v1, l1, n1, e1⟩ := lay_many (ih e u hte) ((List.range k).map fun i => ((cs.drop (i * tySize u)).take (tySize u), ((xs[i]?).map (·.1)).getD DataW.nil)) (fun p hp => by
         obtain ⟨i, hi, rfl⟩ := List.mem_map.1 hp
         obtain ⟨y, hy0, hy⟩ := hxg i i (by have : i < k := by simpa using hi
                                            simp [this])
         refine ⟨m, y.2, ?_⟩
         simp only [hy0, Option.map_some, Option.getD_some]
         exact hy) φ s h1 h2 h3
        have hq1 : ((List.range k).map fun i => ((cs.drop (i * tySize u)).take (tySize u), ((xs[i]?).map (·.1)).getD DataW.nil)).map (·.1) = (List.range k).map fun i => (cs.drop (i * tySize u)).take (tySize u) := by rw [List.map_map]; rfl
        have hq2 : ((List.range k).map fun i => ((cs.drop (i * tySize u)).take (tySize u), ((xs[i]?).map (·.1)).getD DataW.nil)).map (·.2) = xs.map (·.1) := by
         rw [List.map_map]
         apply List.ext_getElem?
         intro i
         by_cases hi : i < k
         · simp [hi, List.getElem?_eq_getElem (show i < xs.length by omega)]
         · rw [List.getElem?_eq_none (by simp; omega), List.getElem?_eq_none (by simp; omega)]
        rw [hq1] at v1
        rw [hq2] at e1
        refine ⟨φ', s', css.flatten, i1, ?_, by rw [hxd]; simp only [layD, e1], ?_⟩
        · rwa [range_pieces cs (tySize u) k (by rw [hlen, hc2])] at v1
        · rw [flatten_len n1, l1]; simp [tySize]
      · cases h
    · cases h
  · cases h
end
end Go.V
