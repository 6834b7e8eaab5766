/- SOUNDNESS: rows made at once, conversions, the library's bodyless functions. -/
import Derived.Test.YtoaakfgdebkkaaaGreatDoorV10
import Derived.Lib.UnsafeStr
import Derived.Lib.Builder
set_option linter.unusedVariables false
set_option linter.unusedSimpArgs false
set_option linter.unusedSectionVars false
/- SOUNDNESS: rows made at once, conversions, the library's bodyless functions. -/
/- SOUNDNESS: rows made at once, conversions, the library's bodyless functions. -/
namespace Go.V
open Go

section
variable {P : Prog} {φ : Phi} {s : St} {w : World}

theorem foldl_get : ∀ (l : List Value) (k off : Nat) (cs : Array Value), off + k + l.length ≤ cs.size →
 ((l.zipIdx k).foldl (fun cs (p : Value × Nat) => cs.setIfInBounds (off + p.2) p.1) cs).size = cs.size ∧
 ∀ j : Nat, ((l.zipIdx k).foldl (fun cs (p : Value × Nat) => cs.setIfInBounds (off + p.2) p.1) cs)[j]? = if off + k ≤ j ∧ j < off + k + l.length then l[j - (off + k)]? else cs[j]?
 | [], k, off, cs, _ => by
  refine ⟨rfl, fun j => ?_⟩
  have n1 : ¬ (off + k ≤ j ∧ j < off + k + ([] : List Value).length) := by simp
  rw [if_neg n1]; rfl
 | v :: l, k, off, cs, h => by
  simp only [List.length_cons] at h
  obtain ⟨h1, h2⟩ := foldl_get l (k + 1) off (cs.setIfInBounds (off + k) v) (by rw [Array.size_setIfInBounds]; omega)
  rw [List.zipIdx_cons, List.foldl_cons]
  refine ⟨by rw [h1]; simp, fun j => ?_⟩
  rw [h2]
  simp only [List.length_cons]
  by_cases hj : j = off + k
  · subst hj
    have n1 : ¬ (off + (k + 1) ≤ off + k ∧ off + k < off + (k + 1) + l.length) := by omega
    have n2 : off + k ≤ off + k ∧ off + k < off + k + (l.length + 1) := by omega
    have n3 : off + k < cs.size := by omega
    rw [if_neg n1, if_pos n2]
    simp [n3]
  · by_cases hj2 : off + (k + 1) ≤ j ∧ j < off + (k + 1) + l.length
    · have n2 : off + k ≤ j ∧ j < off + k + (l.length + 1) := by omega
      rw [if_pos hj2, if_pos n2, show j - (off + k) = (j - (off + (k + 1))) + 1 by omega]
      simp
    · have n2 : ¬ (off + k ≤ j ∧ j < off + k + (l.length + 1)) := by omega
      rw [if_neg hj2, if_neg n2]
      simp [Ne.symm hj]

theorem splice_rel {cs vs : List AV} {ccs : Array Value} {cvs : Array Value} {off : Nat} (hc : VRels φ cs ccs.toList) (hv : VRels φ vs cvs.toList) (h : off + vs.length ≤ cs.length) :
 VRels φ (spliceAt cs off vs) (cvs.zipIdx.foldl (fun cs (p : Value × Nat) => cs.setIfInBounds (off + p.2) p.1) ccs).toList := by
 have hl1 := hc.length
 have hl2 := hv.length
 have e1 : ccs.toList.length = ccs.size := rfl
 rw [← Array.foldl_toList, Array.toList_zipIdx]
 obtain ⟨h1, h2⟩ := foldl_get cvs.toList 0 off ccs (by omega)
 have e2 : ∀ a : Array Value, a.toList.length = a.size := fun _ => rfl
 refine VRels.of_get (by rw [splice_length cs off vs h, e2, h1]; omega) fun i v c hv1 hc1 => ?_
 rw [splice_get cs off vs h] at hv1
 rw [Array.getElem?_toList, h2] at hc1
 by_cases hi : off ≤ i ∧ i < off + vs.length
 · have n1 : off + 0 ≤ i ∧ i < off + 0 + cvs.toList.length := by omega
   rw [if_pos hi] at hv1
   rw [if_pos n1] at hc1
   obtain ⟨c', g1, g2⟩ := hv.get hv1
   simp only [Nat.add_zero] at hc1
   rw [g1] at hc1; cases hc1; exact g2
 · have n1 : ¬ (off + 0 ≤ i ∧ i < off + 0 + cvs.toList.length) := by omega
   rw [if_neg hi] at hv1
   rw [if_neg n1] at hc1
   obtain ⟨c', g1, g2⟩ := hc.get hv1
   have : ccs[i]? = some c' := by simpa using g1
   rw [this] at hc1; cases hc1; exact g2

theorem fill_ok {place : Nat → Option (Nat × Nat)} : ∀ (parts : List (Nat × Operand)) (ps : List (Nat × Nat × Opd)) {nt : Nat} {ds : List Deferred} {e : Env} {a : Act}, GlobOk P φ → RelEnv nt ds φ e a → partsIns P place parts = some ps →
 ∀ (cs : List AV) (ccs : Array Value) (r : List AV), VRels φ cs ccs.toList → fillV cs (partsOf e ps) = some r → ∃ cr, Instr.fill place ccs (parts.map fun p => (p.1, a.eval p.2)) = some cr ∧ VRels φ r cr.toList
 | [], ps, nt, ds, e, a, hg, he, h, cs, ccs, r, hc, hr => by
  simp [partsIns] at h; subst h
  simp [partsOf, fillV] at hr; subst hr
  exact ⟨ccs, rfl, hc⟩
 | (i, x) :: l, ps, nt, ds, e, a, hg, he, h, cs, ccs, r, hc, hr => by
  simp only [partsIns] at h
  split at h
  · rename_i o n y r' h1 h2 h3
    cases h
    simp only [partsOf, fillV] at hr
    split at hr
    · rename_i hcond
      have hv := opd_rel hg he h2
      have hvc := hv.cells
      have hl := hvc.length
      have hcl := hc.length
      have hsz : (a.eval x).cells.size = n := by have : (a.eval x).cells.toList.length = (a.eval x).cells.size := rfl; omega
      have hcc : ccs.toList.length = ccs.size := rfl
      have hcond1 : ¬ ((a.eval x).cells.size ≠ n || decide (o + (a.eval x).cells.size > ccs.size)) = true := by simp; omega
      have hrel := splice_rel (off := o) hc hvc (by omega)
      obtain ⟨cr, c1, c2⟩ := fill_ok l r' hg he h3 _ _ r hrel hr
      refine ⟨cr, ?_, c2⟩
      simp only [List.map_cons, Instr.fill, h1]
      rw [if_neg hcond1]
      exact c1
    · cases hr
  · cases h

theorem run_placesV (w : World) : ∀ (fs : List Field), (∀ f ∈ fs, ∃ n, szOf P f.type = some n) →
 ∃ places : List (Nat × Nat), (fs.mapM fun f => Prod.mk f.offset <$> sizeOf f.type).run P.toProgram w = .ok places w ∧ ∀ i : Nat, places[i]? = match fs[i]? with | some f => (match szOf P f.type with | some n => some (f.offset, n) | none => none) | none => none
 | [], _ => ⟨[], by simp, fun i => by simp⟩
 | f :: fs, h => by
  obtain ⟨n, hn⟩ := h f (List.mem_cons_self ..)
  obtain ⟨places, h1, h2⟩ := run_placesV w fs (fun g hg => h g (List.mem_cons_of_mem _ hg))
  refine ⟨(f.offset, n) :: places, by simp [List.mapM_cons, run_sizeOf hn, h1], fun i => ?_⟩
  cases i with
  | zero => simp [hn]
  | succ i => simpa using h2 i

theorem fill_place {p q : Nat → Option (Nat × Nat)} (h : ∀ i, p i = q i) : ∀ (l : List (Nat × Value)) (cs : Array Value), Instr.fill p cs l = Instr.fill q cs l
 | [], _ => rfl
 | (i, v) :: l, cs => by
  simp only [Instr.fill, h i]
  split
  · rfl
  · split
    · rfl
    · exact fill_place h l _

theorem build_struct_ok {t : TypeId} {fs : Array Field} (hu : P.underlying t = some (.struct fs)) {z : List AV} (hz : zeroCellsV P t = some z) {parts : Array (Nat × Operand)} {ps : List (Nat × Nat × Opd)} (hp : partsIns P (structPlace P fs) parts.toList = some ps)
 {nt : Nat} {ds : List Deferred} {e : Env} {a : Act} (hg : GlobOk P φ) (he : RelEnv nt ds φ e a) {r : List AV} (h : fillV z (partsOf e ps) = some r) (hall : ∀ f ∈ fs.toList, ∃ n, szOf P f.type = some n) (w : World) :
 ∃ c, (Instr.build t (parts.map fun p => (p.1, a.eval p.2))).run P.toProgram w = .ok c w ∧ VRel φ (.agg r) c := by
 obtain ⟨cz, z1, z2⟩ := zeroCells_rel hz
 obtain ⟨cr, c1, c2⟩ := fill_ok (P := P) parts.toList ps hg he hp z cz.cells r (z2 φ) h
 obtain ⟨places, p1, p2⟩ := run_placesV (P := P) w fs.toList hall
 refine ⟨.agg cr, ?_, .agg (l' := cr.toList) c2⟩
 have hpl : ∀ i, places[i]? = structPlace P fs i := by
  intro i
  rw [p2 i]
  simp only [structPlace]
  rw [Array.getElem?_toList]
  rfl
 have c1' : Instr.fill (places.toArray[·]?) cz.cells (parts.map fun p => (p.1, a.eval p.2)).toList = some cr := by
  rw [fill_place (q := structPlace P fs) (fun i => by simpa using hpl i), Array.toList_map]
  exact c1
 simp only [Instr.build, Sem.run_bind, z1, Result.andThen_ok, run_underlying_some hu]
 have hm : (fs.mapM fun f : Field => (do pure (f.offset, ← sizeOf f.type) : Sem (Nat × Nat))).run P.toProgram w = .ok places.toArray w := by
  have : (fun f : Field => (do pure (f.offset, ← sizeOf f.type) : Sem (Nat × Nat))) = fun f => Prod.mk f.offset <$> sizeOf f.type := by
   funext f; simp
  rw [this, Array.mapM_eq_mapM_toList]
  simp [p1]
 rw [hm]
 simp only [Result.andThen_ok]
 rw [c1']
 simp

theorem build_array_ok {t el : TypeId} {len n : Nat} (hu : P.underlying t = some (.array len el)) (hsz : szOf P el = some n) {z : List AV} (hz : zeroCellsV P t = some z) {parts : Array (Nat × Operand)} {ps : List (Nat × Nat × Opd)} (hp : partsIns P (fun i => some (i * n, n)) parts.toList = some ps)
 {nt : Nat} {ds : List Deferred} {e : Env} {a : Act} (hg : GlobOk P φ) (he : RelEnv nt ds φ e a) {r : List AV} (h : fillV z (partsOf e ps) = some r) (w : World) :
 ∃ c, (Instr.build t (parts.map fun p => (p.1, a.eval p.2))).run P.toProgram w = .ok c w ∧ VRel φ (.agg r) c := by
 obtain ⟨cz, z1, z2⟩ := zeroCells_rel hz
 obtain ⟨cr, c1, c2⟩ := fill_ok (P := P) parts.toList ps hg he hp z cz.cells r (z2 φ) h
 refine ⟨.agg cr, ?_, .agg (l' := cr.toList) c2⟩
 have c1' : Instr.fill (fun i => some (i * n, n)) cz.cells (parts.map fun p => (p.1, a.eval p.2)).toList = some cr := by
  rw [Array.toList_map]; exact c1
 simp only [Instr.build, Sem.run_bind, z1, Result.andThen_ok, run_underlying_some hu, run_sizeOf hsz]
 rw [c1']
 simp

theorem zeros_eq {z : List AV} {cz : Array Value} (h : VRels φ z cz.toList) (hz : 0 < z.length) (n m : Nat) (hm : m = n * z.length) : VRels φ (zerosV z n) ((Array.range m).map (cz[· % cz.size]!)).toList := by
 have hl : z.length = cz.size := by have := h.length; simpa using this
 have := zeros_rel h hz n
 simpa [Builtin.zeroCells, hm, hl] using this

theorem slice_new {l : List AV} {len cap' n esz b : Nat} {exact : Bool} {cap : Nat} {id : Nat} (hl : l.length = n * esz) (hlen : len ≤ cap) (hn : len ≤ n) (hcap : cap ≤ cap') (hex : exact = true → cap' = cap) :
 VRel (φ.upd id 0 ⟨b, 0, 0, l.length, cap' * esz⟩) (.slice ⟨id, 0, 0, l.length⟩ len cap exact esz) (.slice (some ⟨b, 0, none⟩) len cap') := by
 have hm : len * esz ≤ n * esz := Nat.mul_le_mul hn (Nat.le_refl _)
 have := VRel.slice (φ := φ.upd id 0 ⟨b, 0, 0, l.length, cap' * esz⟩) (a := ⟨id, 0, 0, l.length⟩) (len := len) (cap := cap) (exact := exact) (esz := esz) (cap' := cap')
  (Phi.upd_same _ _ _ _) (Nat.le_refl _) (Nat.le_refl _) (by show 0 + len * esz ≤ l.length; omega) hlen hcap hex (by show 0 + (0 - 0) + cap' * esz ≤ cap' * esz; omega)
 simpa using this

theorem buildSlice_ok (hs : RelSt φ s w) (hf : s.heap.get s.next = none) {t el : TypeId} {len n : Nat} (hu : P.underlying t = some (.slice el)) (hsz : szOf P el = some n) {z : List AV} (hz : zeroCellsV P el = some z) (hzl : z.length = n) (hn : 0 < n) (hlim : len * n ≤ 2 ^ 24)
 {parts : Array (Nat × Operand)} {ps : List (Nat × Nat × Opd)} (hp : partsIns P (fun i => some (i * n, n)) parts.toList = some ps) {nt : Nat} {ds : List Deferred} {e : Env} {a : Act} (hg : GlobOk P φ) (he : RelEnv nt ds φ e a) {r : List AV} (h : fillV (zerosV z len) (partsOf e ps) = some r) :
 ∃ c w' φ', (Instr.buildSlice t len (parts.map fun p => (p.1, a.eval p.2))).run P.toProgram w = .ok c w' ∧ Step φ s w φ' (s.add (.cells r 0 0 false)) w' ∧ VRel φ' (.slice ⟨s.next, 0, 0, r.length⟩ len len true n) c := by
 obtain ⟨cz, z1, z2⟩ := zeroCells_rel hz
 have hzs : cz.cells.size = n := by have := (z2 φ).length; simp at this; omega
 have hrel0 : VRels φ (zerosV z len) ((Array.range (len * n)).map (cz.cells[· % cz.cells.size]!)).toList := zeros_eq (z2 φ) (by omega) len (len * n) (by rw [hzl])
 obtain ⟨cr, c1, c2⟩ := fill_ok (P := P) parts.toList ps hg he hp _ _ r hrel0 h
 have hrl : r.length = cr.size := by have := c2.length; simpa using this
 have hfl : ∀ (l : List (Nat × Nat × AV)) (cs r : List AV), fillV cs l = some r → r.length = cs.length := by
  intro l
  induction l with
  | nil => intro cs r h; simp [fillV] at h; rw [h]
  | cons q l ih =>
   intro cs r h
   obtain ⟨o, k, v⟩ := q
   simp only [fillV] at h
   split at h
   · rename_i hc
     rw [ih _ _ h, splice_length _ _ _ (by omega)]
   · cases h
 have hr0 : r.length = len * n := by rw [hfl _ _ _ h, zerosV_length, hzl]
 obtain ⟨g1, g2⟩ := newRow_ok (P := P) (el := el) (top := len * n) hs hf (l := r) (cells := cr) (by omega) (by omega) (fun j v hj => by
  obtain ⟨c, hc, h⟩ := c2.get hj
  exact ⟨c, by simpa using hc, h⟩)
 refine ⟨.slice (some ⟨w.heap.size, 0, none⟩) len len, _, _, ?_, g2, slice_new (n := len) hr0 (Nat.le_refl _) (Nat.le_refl _) (Nat.le_refl _) (fun _ => rfl)⟩
 have c1' : Instr.fill (fun i => some (i * n, n)) ((Array.range (len * n)).map (cz.cells[· % cz.cells.size]!)) (parts.map fun p => (p.1, a.eval p.2)).toList = some cr := by
  rw [Array.toList_map]; exact c1
 have hbig : ¬ (len * n > 2 ^ 24) := by omega
 simp only [Instr.buildSlice, Sem.run_bind, run_underlying_some hu, Result.andThen_ok, run_sizeOf hsz, hbig, if_false]
 by_cases h0 : len * n = 0
 · have hc0 : Instr.fill (fun i => some (i * n, n)) ((Array.range (len * n)).map ((#[] : Array Value)[· % (#[] : Array Value).size]!)) (parts.map fun p => (p.1, a.eval p.2)).toList = some cr := by
    have : (Array.range (len * n)).map ((#[] : Array Value)[· % (#[] : Array Value).size]!) = (Array.range (len * n)).map (cz.cells[· % cz.cells.size]!) := by
     rw [h0]; simp
    rw [this]; exact c1'
   simp only [h0, if_true, Sem.run_pure, Sem.run_bind, Result.andThen_ok]
   rw [h0] at hc0
   rw [hc0]
   simp [g1]
 · simp only [h0, if_false, Sem.run_bind, z1, Result.andThen_ok, Sem.run_pure]
   rw [c1']
   simp [g1]

theorem mkSlice_ok (hs : RelSt φ s w) (hf : s.heap.get s.next = none) {t el : TypeId} {n l c : Nat} (hu : P.underlying t = some (.slice el)) (hsz : szOf P el = some n) {z : List AV} (hz : zeroCellsV P el = some z) (hzl : z.length = n) (hn : 0 < n)
 (hlc : l ≤ c) (hc : c * 65536 ≤ maxApp) (hb : bytesOfT P el ≤ 65536) {k k' : IntKind} :
 ∃ v w' φ', (Instr.makeSlice t (.int k (Int.ofNat l)) (.int k' (Int.ofNat c))).run P.toProgram w = .ok v w' ∧ Step φ s w φ' (s.add (.cells (zerosV z c) 0 0 false)) w' ∧ VRel φ' (.slice ⟨s.next, 0, 0, c * n⟩ l c true n) v := by
 obtain ⟨cz, z1, z2⟩ := zeroCells_rel hz
 have hzs : cz.cells.size = n := by have := (z2 φ).length; simp at this; omega
 obtain ⟨d, i, hd, hi, hsi⟩ := szOf_some hsz
 have hbi : i.bytes ≤ 65536 := by simpa [bytesOfT, hi] using hb
 have hc' : c * 65536 ≤ 1099511627776 := hc
 have hlen : (zerosV z c).length = c * n := by rw [zerosV_length, hzl]
 have hrel0 : VRels φ (zerosV z c) ((Array.range (c * n)).map (cz.cells[· % cz.cells.size]!)).toList := zeros_eq (z2 φ) (by omega) c (c * n) (by rw [hzl])
 obtain ⟨g1, g2⟩ := newRow_ok (P := P) (el := el) (top := c * n) hs hf (l := zerosV z c) (cells := (Array.range (c * n)).map (cz.cells[· % cz.cells.size]!)) (by simp; omega) (by simp) (fun j v hj => by
  obtain ⟨c, hc, h⟩ := hrel0.get hj
  exact ⟨c, by rwa [Array.getElem?_toList] at hc, h⟩)
 have hv := slice_new (φ := φ) (l := zerosV z c) (len := l) (cap := c) (cap' := c) (n := c) (esz := n) (b := w.heap.size) (id := s.next) (exact := true) hlen hlc hlc (Nat.le_refl _) (fun _ => rfl)
 rw [hlen] at hv
 refine ⟨.slice (some ⟨w.heap.size, 0, none⟩) l c, _, _, ?_, g2, by rw [hlen]; exact hv⟩
 have wr : ∀ m : Nat, m ≤ c → IntKind.i64.wrap (Int.ofNat m) = Int.ofNat m := by
  intro m hm
  unfold IntKind.wrap
  have p1 : (2 : Int) ^ IntKind.i64.bits = 18446744073709551616 := rfl
  have p2 : (2 : Int) ^ (IntKind.i64.bits - 1) = 9223372036854775808 := rfl
  rw [p1, p2]
  have : (Int.ofNat m) % 18446744073709551616 = Int.ofNat m := by
   rw [Int.emod_eq_of_lt] <;> simp <;> omega
  rw [this]
  simp only [ge_iff_le]
  rw [if_neg]
  simp [IntKind.signed]; omega
 have hlarge : (decide (Int.ofNat c < 0) || decide ((i.bytes : Int) * Int.ofNat c > 2 ^ 48)) = false := by
  have : i.bytes * c ≤ 65536 * c := Nat.mul_le_mul hbi (Nat.le_refl _)
  have p : (2 : Int) ^ 48 = 281474976710656 := rfl
  rw [p]
  have e : ((i.bytes : Int) * Int.ofNat c) = ((i.bytes * c : Nat) : Int) := by simp
  rw [e]
  simp
  omega
 have hl0 : decide (Int.ofNat l < 0) = false := by simp
 have hlc2 : decide (Int.ofNat l > Int.ofNat c) = false := by simp; omega
 simp only [Instr.makeSlice, Sem.run_bind, run_underlying_some hu, Result.andThen_ok, asInt_nat, run_typeInfo hi, wr l hlc, wr c (Nat.le_refl _), hlarge, hl0, hlc2, Bool.or_self, Bool.false_eq_true, if_false, run_askRoom, run_sizeOf hsz]
 have ht : (Int.ofNat c).toNat = c := rfl
 have htl : (Int.ofNat l).toNat = l := rfl
 simp only [ht, htl]
 by_cases h0 : c * n = 0
 · have hc0 : (Array.range (c * n)).map ((#[] : Array Value)[· % (#[] : Array Value).size]!) = (Array.range (c * n)).map (cz.cells[· % cz.cells.size]!) := by rw [h0]; simp
   simp only [h0, if_true, Sem.run_pure, Sem.run_bind, Result.andThen_ok]
   rw [h0] at g1 hc0
   rw [hc0, g1]
   simp
 · simp only [h0, if_false, Sem.run_bind, z1, Result.andThen_ok, Sem.run_pure, g1]

end
end Go.V
/- SOUNDNESS: bytes of a string and back, the library's bodyless functions, min and max, clear. -/
namespace Go.V
open Go

section
variable {P : Prog} {φ : Phi} {s : St} {w : World}

theorem freeze_push (w : World) (cells : Array Value) (el : TypeId) :
 (World.freeze { w with heap := w.heap.push (.cells cells el) } { block := w.heap.size, off := cells.size } 1) = { w with heap := w.heap.push (.cells cells el (cells.size, cells.size + 1)) } := by
 unfold World.freeze
 rw [if_neg (by omega)]
 congr 1
 apply Array.ext_getElem?
 intro i
 rw [Array.getElem?_modify, Array.getElem?_push, Array.getElem?_push]
 by_cases hi : i = w.heap.size
 · subst hi
   simp
 · have hi' : ¬ w.heap.size = i := fun h => hi h.symm
   simp only [hi, hi', if_false]

theorem strBytes_ok (hs : RelSt φ s w) (hf : s.heap.get s.next = none) {sT dT el : TypeId} (h1 : P.underlying sT = some .string) (h2 : P.underlying dT = some (.slice el)) (h3 : P.underlying el = some (.int .u8)) {l : List UInt8} {cx : Value} (hx : VRel φ (.str l) cx) :
 ∃ v w' φ', (convert sT dT cx).run P.toProgram w = .ok v w' ∧ Step φ s w φ' (s.add (.cells (l.map fun b => .int .u8 b.toNat) 0 0 false)) w' ∧ VRel φ' (.slice ⟨s.next, 0, 0, l.length⟩ l.length l.length false 1) v := by
 cases hx
 rename_i bs
 obtain ⟨cap, hcapd⟩ : ∃ cap, cap = (Question.appendCap bs.size 0 el).cut (w.tape w.drawn (Question.appendCap bs.size 0 el)) := ⟨_, rfl⟩
 have hcap : bs.size ≤ cap := by rw [hcapd]; exact cut_ge _ _ _ _
 obtain ⟨cells, hcells⟩ : ∃ cells : Array Value, cells = bs.data.map (fun b => Value.int .u8 b.toNat) ++ Array.replicate (cap - bs.size) (.int .u8 0) := ⟨_, rfl⟩
 have hbl : bs.data.toList.length = bs.size := rfl
 have hcs : cells.size = cap := by
  have : bs.data.size = bs.size := rfl
  rw [hcells, Array.size_append, Array.size_map, Array.size_replicate]; omega
 have st1 : Step φ s w φ s { w with drawn := w.drawn + 1 } := drewStep hs _
 have hst : Step φ s w (φ.upd s.next 0 ⟨w.heap.size, 0, 0, bs.data.toList.length, cap * 1⟩) (s.add (.cells (bs.data.toList.map fun b => .int .u8 b.toNat) 0 0 false))
  { w with drawn := w.drawn + 1, heap := w.heap.push (.cells cells el (cells.size, cells.size + 1)) } := by
  refine st1.trans (step_add st1.rel hf _ _ _ rfl (by intro _ _ _ e; cases e) ?_)
  refine ⟨Nat.le_refl _, fun k h1 h2 => ?_⟩
  have : k = 0 := by omega
  subst this
  refine ⟨_, Phi.upd_same _ _ _ _, cells, el, (cells.size, cells.size + 1), ?_, ?_, ?_, Nat.zero_le _, ?_, ?_, ?_, ?_⟩
  · show (w.heap.push _)[w.heap.size]? = _
    simp
  · show cells.size = cap * 1
    omega
  · intro _ o ho
    have ho' : o < cap * 1 := ho
    show (decide (cells.size ≤ o) && decide (o < cells.size + 1)) = false
    have : ¬ cells.size ≤ o := by omega
    simp [this]
  · show bs.data.toList.length ≤ _
    rw [List.length_map]; exact Nat.le_refl _
  · intro _
    show bs.data.toList.length = _
    rw [List.length_map]
  · show 0 + (bs.data.toList.length - 0) ≤ cap * 1
    omega
  · intro j v _ hj2 hj
    have hj' : j < bs.data.toList.length := hj2
    rw [List.getElem?_map] at hj
    cases hb : bs.data.toList[j]? with
    | none => rw [hb] at hj; cases hj
    | some b =>
     rw [hb, Option.map_some, Option.some.injEq] at hj
     subst hj
     refine ⟨.int .u8 b.toNat, ?_, .int _ _⟩
     show cells[0 + (j - 0)]? = _
     have hb' : bs.data[j]? = some b := by rw [← Array.getElem?_toList]; exact hb
     rw [hcells, show 0 + (j - 0) = j by omega, Array.getElem?_append_left (by rw [Array.size_map]; exact hj'), Array.getElem?_map, hb']
     rfl
 refine ⟨.slice (some ⟨w.heap.size, 0, none⟩) bs.size cap, _, _, ?_, hst, ?_⟩
 · simp only [convert, Sem.run_bind, run_underlying_some h1, run_underlying_some h2, run_underlying_some h3, Result.andThen_ok, Conv.stringToBytes, run_choose, Question.forced, Bool.false_eq_true, if_false, ← hcapd, ← hcells, newRow, run_newObj, Sem.run_pure, markStringish, run_shape]
   have e1 : World.shape? { w with drawn := w.drawn + 1, heap := w.heap.push (.cells cells el) } w.heap.size = some (el, cells.size) := by
    simp [World.shape?]
   simp only [e1, run_freeze]
   have := freeze_push { w with drawn := w.drawn + 1 } cells el
   simp only [] at this
   rw [this]
   rfl
 · have := slice_new (φ := φ) (l := bs.data.toList.map fun b => AV.int .u8 b.toNat) (len := bs.size) (cap := bs.size) (cap' := cap) (n := bs.size) (esz := 1) (b := w.heap.size) (id := s.next) (exact := false) (by rw [List.length_map]; omega) (Nat.le_refl _) (Nat.le_refl _) hcap (by simp)
   rw [List.length_map] at this
   exact this

theorem bytesAV_run : ∀ (l : List AV) (cl : List Value) (bs : List UInt8) (acc : ByteArray) (w : World), VRels φ l cl → bytesAV l = some bs →
 ∃ r : ByteArray, (forIn cl acc fun (c : Value) (s : ByteArray) => (match c with
  | .int .u8 n => pure (ForInStep.yield (s.push (UInt8.ofNat n.toNat)))
  | _ => do
   (stuck "bytesToString: byte expected" : Sem PUnit)
   pure (ForInStep.yield s))).run P.toProgram w = .ok r w ∧ r.data.toList = acc.data.toList ++ bs
 | [], cl, bs, acc, w, h, hb => by
  cases h
  simp [bytesAV] at hb; subst hb
  exact ⟨acc, by simp, by simp⟩
 | v :: l, cl, bs, acc, w, h, hb => by
  cases h
  rename_i c cl h1 h2
  unfold bytesAV at hb
  split at hb
  · rename_i n
    split at hb
    · rename_i r hr
      cases hb
      cases h1
      obtain ⟨q, q1, q2⟩ := bytesAV_run l cl r (acc.push (UInt8.ofNat n)) w h2 hr
      refine ⟨q, ?_, ?_⟩
      · simp only [List.forIn_cons, Sem.run_bind, Sem.run_pure, Result.andThen_ok]
        exact q1
      · rw [q2]; simp
    · cases hb
  · cases hb

theorem bytesStr_ok (hs : RelSt φ s w) {sT dT el : TypeId} (h1 : P.underlying sT = some (.slice el)) (h2 : P.underlying dT = some .string) (h3 : P.underlying el = some (.int .u8)) {a : AAddr} {len cap : Nat} {ex : Bool} {l : List AV} {bs : List UInt8} {cx : Value}
 (hx : VRel φ (.slice a len cap ex 1) cx) (hr : s.readAt a len = some l) (hb : bytesAV l = some bs) : ∃ v, (convert sT dT cx).run P.toProgram w = .ok v w ∧ VRel φ (.str bs) v := by
 obtain ⟨x, cap', rfl, p1, p2, p3, _⟩ := hx.slice_inv
 obtain ⟨cl, c1, c2, c3, c4⟩ := read_run (P := P) hs hr (.ptr p1 p2 p3)
 obtain ⟨r, r1, r2⟩ := bytesAV_run (P := P) l cl bs ByteArray.empty w c3 hb
 refine ⟨.string r, ?_, by have : bs = r.data.toList := by rw [r2]; simp
                           rw [this]; exact .str _⟩
 simp only [convert, Sem.run_bind, run_underlying_some h1, run_underlying_some h2, run_underlying_some h3, Result.andThen_ok, Conv.bytesToString, c4 w rfl]
 rw [List.forIn_toArray]
 exact congrArg (fun q => Result.andThen q fun a w' => (pure (Value.string a) : Sem Value).run P.toProgram w') r1

def mm (b : Bool) : Value → Value → Sem Value := match b with | true => Builtin.max2 | false => Builtin.min2

theorem min2_ok {b : Bool} {x y v : AV} {cx cy : Value} (hx : VRel φ x cx) (hy : VRel φ y cy) (h : minmax2 b x y = some v) :
 ∃ c, (∀ w : World, (mm b cx cy).run P.toProgram w = .ok c w) ∧ VRel φ v c := by
 unfold minmax2 at h
 split at h
 · cases hx; cases hy
   cases b <;> simp only [Option.some.injEq] at h <;> subst h
   · exact ⟨_, fun w => rfl, .int _ _⟩
   · exact ⟨_, fun w => rfl, .int _ _⟩
 · cases hx; cases hy
   cases b
   · exact pureAV_run h
   · exact pureAV_run h
 · cases h

theorem minmax_ok {b : Bool} : ∀ {l : List AV} {cl : List Value} {x v : AV} {cx : Value}, VRel φ x cx → VRels φ l cl → minmaxV b x l = some v →
 ∃ c, (∀ w : World, (cl.foldlM (mm b) cx).run P.toProgram w = .ok c w) ∧ VRel φ v c
 | [], cl, x, v, cx, hx, hl, h => by
  cases hl
  simp [minmaxV] at h; subst h
  exact ⟨cx, fun w => by simp, hx⟩
 | y :: l, cl, x, v, cx, hx, hl, h => by
  cases hl
  rename_i c cl h1 h2
  simp only [minmaxV] at h
  split at h
  · rename_i z hz
    obtain ⟨c1, g1, g2⟩ := min2_ok (P := P) hx h1 hz
    obtain ⟨c2, k1, k2⟩ := minmax_ok g2 h2 h
    exact ⟨c2, fun w => by simp only [List.foldlM_cons, Sem.run_bind, g1, Result.andThen_ok, k1], k2⟩
  · cases h

theorem assert_ok {xT t : TypeId} {d : TypeDesc} (hu : P.underlying t = some d) (hd : ∀ ms, d ≠ .interface ms) {z : AV} (hz : zeroAV P t = some z) {ok : Bool} {x v : AV} {cx : Value} (hx : VRel φ x cx) (h : assertV t z ok x = some v) (w : World) :
 ∃ c, (Instr.typeAssert cx xT t ok).run P.toProgram w = .ok c w ∧ VRel φ v c := by
 obtain ⟨cz, z1, z2⟩ := zeroAV_rel hz
 unfold assertV at h
 split at h
 · rename_i u y
   cases hx
   rename_i c hy
   split at h
   · rename_i he
     subst he
     cases ok <;> simp only [Option.some.injEq] at h <;> subst h
     · exact ⟨c, by cases d <;> first | exact absurd rfl (hd _) | simp [Instr.typeAssert, run_underlying_some hu], hy⟩
     · exact ⟨.tuple #[c, .bool true], by cases d <;> first | exact absurd rfl (hd _) | simp [Instr.typeAssert, run_underlying_some hu], .tuple (l' := [c, .bool true]) (.cons hy (.cons (.bool _) .nil))⟩
   · rename_i hne
     split at h
     · cases h
       exact ⟨.tuple #[cz, .bool false], by cases d <;> first | exact absurd rfl (hd _) | simp [Instr.typeAssert, run_underlying_some hu, hne, z1], .tuple (l' := [cz, .bool false]) (.cons (z2 φ) (.cons (.bool _) .nil))⟩
     · cases h
 · cases hx
   split at h
   · cases h
     exact ⟨.tuple #[cz, .bool false], by cases d <;> first | exact absurd rfl (hd _) | simp [Instr.typeAssert, run_underlying_some hu, z1], .tuple (l' := [cz, .bool false]) (.cons (z2 φ) (.cons (.bool _) .nil))⟩
   · cases h
 · cases h

theorem clear_ok (hs : RelSt φ s w) {argTypes : Array TypeId} {ty t el : TypeId} {esz : Nat} (h0 : argTypes[0]? = some t) (hu : P.underlying t = some (.slice el)) {z : List AV} (hz : zeroCellsV P el = some z) (hzl : z.length = esz)
 {a : AAddr} {len cap : Nat} {ex : Bool} {cx : Value} {s' : St} (hx : VRel φ (.slice a len cap ex esz) cx) (hlen : len ≠ 0) (hn : 0 < esz) (h : storeV s (len * esz) (.ptr a) (.agg (zerosV z len)) = some s') :
 ∃ w', (Builtin.clear_ argTypes ty #[cx]).run P.toProgram w = .ok (.tuple #[]) w' ∧ Step φ s w φ s' w' := by
 obtain ⟨cz, z1, z2⟩ := zeroCells_rel hz
 obtain ⟨x, cap', rfl, p1, p2, p3, p4, _⟩ := hx.slice_inv
 simp only [storeV] at h
 split at h
 · rename_i cs lo inc ho
   split at h
   · rename_i hc
     obtain ⟨c1, c2, c3, c4⟩ := hc
     cases h
     rw [c1] at p1
     have hv : VRels φ (zerosV z len) (Builtin.zeroCells cz.cells len).toList := zeros_rel (z2 φ) (by omega) len
     have hl : (zerosV z len).length = len * esz := by rw [zerosV_length, hzl]
     obtain ⟨w', hr, hst⟩ := write_ok (P := P) hs ho p1 p2 (vs := zerosV z len) (by omega) hv c4
     refine ⟨w', ?_, hst⟩
     obtain ⟨m, rfl⟩ : ∃ m, len = m + 1 := ⟨len - 1, by omega⟩
     simp only [Builtin.clear_, List.getElem?_toArray, List.getElem?_cons_zero, h0, Sem.run_bind, run_underlying_some hu, Result.andThen_ok, z1, hr, Sem.run_pure]
   · cases h
 · cases h
end
end Go.V
/- SOUNDNESS: one operation. -/
namespace Go.V
open Go

def Free (s : St) (n : Nat) : Prop := ∀ id, s.next ≤ id → id < n → s.heap.get id = none

def Res.nextId : Res → Nat
 | .val _ s => s.next
 | .panic _ s => s.next
 | .fail => 0

/-- What is to hold behind an operation's result. -/
def Cont (φ : Phi) (s : St) (w : World) (r : Res) (next pan : Value → World → Prop) : Prop := match r with
 | .val v s' => ∀ c w' φ', Step φ s w φ' s' w' → VRel φ' v c → next c w'
 | .panic v s' => ∀ c w' φ', Step φ s w φ' s' w' → VRel φ' v c → pan c w'
 | .fail => False

def CallOk (P : Prog) (φ : Phi) (s : St) (w : World) (f : FuncId) (cargs : Array Value) (r : Res) : Prop :=
 ∀ (o : Oper) (a : Act) (next : Act → World → Prop) (Q : Exit → Act → World → Prop),
  Cont φ s w r (fun c w' => next (a.put o.dst c) w') (fun c w' => Q (.panic [{ v := c, recovered := false }]) a w') →
  o.upon P.toProgram a next Q ((callFunc f cargs).run P.toProgram w)

def FuncsOk (P : Prog) (T : Tab) (rec : Rec) : Prop :=
 ∀ f args s r, callF T rec f args s = r → r ≠ .fail → ∀ φ w cargs, GlobOk P φ → RelSt φ s w → VRels φ args cargs → Free s r.nextId → CallOk P φ s w f cargs.toArray r

section
variable {P : Prog} {T : Tab} {rec : Rec} {φ : Phi} {s : St} {w : World} {o : Oper} {a : Act} {next : Act → World → Prop} {Q : Exit → Act → World → Prop}

theorem wp_val {c : Value} {w' : World} (hrun : (execOp a.eval o).run P.toProgram w = .ok (.value c) w') (h : next (a.put o.dst c) w') : o.wp P.toProgram a w next Q := by
 unfold Oper.wp; rw [hrun]; exact h

theorem wp_unit {w' : World} (hrun : (execOp a.eval o).run P.toProgram w = .ok .skip w') (h : next (a.put o.dst undef) w') : o.wp P.toProgram a w next Q := by
 unfold Oper.wp; rw [hrun]; exact h

theorem ofOpt_ne {r : Option AV} {q : Res} (h : ofOpt s r = q) (hn : q ≠ .fail) : ∃ v, r = some v ∧ q = .val v s := by
 cases r with
 | none => simp [ofOpt] at h; exact absurd h.symm hn
 | some v => exact ⟨v, rfl, h.symm⟩

theorem ofSt_ne {r : Option St} {q : Res} (h : ofSt r = q) (hn : q ≠ .fail) : ∃ s', r = some s' ∧ q = .val .undef s' := by
 cases r with
 | none => simp [ofSt] at h; exact absurd h.symm hn
 | some v => exact ⟨v, rfl, h.symm⟩

theorem ofBoth_ne {r : Option (AV × St)} {q : Res} (h : ofBoth r = q) (hn : q ≠ .fail) : ∃ v s', r = some (v, s') ∧ q = .val v s' := by
 cases r with
 | none => simp [ofBoth] at h; exact absurd h.symm hn
 | some v => exact ⟨v.1, v.2, rfl, h.symm⟩

theorem map1_ne {x : Operand} {f : Opd → Ins} {e : Env} {r : Res} (h : evalIns T rec e s (map1 P x f) = r) (hn : r ≠ .fail) : ∃ y, ofOpd P x = some y ∧ evalIns T rec e s (f y) = r := by
 unfold map1 at h
 split at h
 · exact ⟨_, by assumption, h⟩
 · simp [evalIns] at h; exact absurd h.symm hn

theorem map2_ne {x y : Operand} {f : Opd → Opd → Ins} {e : Env} {r : Res} (h : evalIns T rec e s (map2 P x y f) = r) (hn : r ≠ .fail) : ∃ x' y', ofOpd P x = some x' ∧ ofOpd P y = some y' ∧ evalIns T rec e s (f x' y') = r := by
 unfold map2 at h
 split at h
 · exact ⟨_, _, by assumption, by assumption, h⟩
 · simp [evalIns] at h; exact absurd h.symm hn

theorem bad_ne {e : Env} {r : Res} (h : evalIns T rec e s .bad = r) (hn : r ≠ .fail) : False := by
 simp [evalIns] at h; exact hn h.symm

/-- What is to be shown of each operation. -/
def OpOk (P : Prog) (T : Tab) (rec : Rec) (o : Oper) : Prop :=
 ∀ {φ : Phi} {s : St} {w : World} {a : Act} {nt : Nat} {ds : List Deferred} {e : Env} {r : Res} {next : Act → World → Prop} {Q : Exit → Act → World → Prop}, GlobOk P φ → RelEnv nt ds φ e a → RelSt φ s w → evalIns T rec e s (ofOp P o) = r → r ≠ .fail → Free s r.nextId →
  Cont φ s w r (fun c w' => next (a.put o.dst c) w') (fun c w' => Q (.panic [{ v := c, recovered := false }]) a w') → o.wp P.toProgram a w next Q

theorem op_move {dst : Option Tmp} {x : Operand} {ty : TypeId} {pos : String} {after : Array Edge} {g : Option (Nat × Bool)} : OpOk P T rec ⟨dst, .move x, ty, pos, after, g⟩ := by
 intro φ s w a nt ds e r next Q hg he hs hev hn hf hk
 obtain ⟨y, hy, h⟩ := map1_ne hev hn
 simp only [evalIns] at h; subst h
 exact wp_val (c := a.eval x) rfl (hk _ _ _ (.refl hs) (opd_rel hg he hy))

theorem op_assign {dst : Option Tmp} {x : Operand} {ty : TypeId} {pos : String} {after : Array Edge} {g : Option (Nat × Bool)} : OpOk P T rec ⟨dst, .assign x, ty, pos, after, g⟩ := by
 intro φ s w a nt ds e r next Q hg he hs hev hn hf hk
 obtain ⟨y, hy, h⟩ := map1_ne hev hn
 simp only [evalIns] at h; subst h
 exact wp_val (c := a.eval x) rfl (hk _ _ _ (.refl hs) (opd_rel hg he hy))

theorem op_pick {dst : Option Tmp} {c x y : Operand} {ty : TypeId} {pos : String} {after : Array Edge} {g : Option (Nat × Bool)} : OpOk P T rec ⟨dst, .pick c x y, ty, pos, after, g⟩ := by
 intro φ s w a nt ds e r next Q hg he hs hev hn hf hk
 simp only [ofOp] at hev
 split at hev
 · rename_i c' x' y' h1 h2 h3
   have r1 := opd_rel hg he h1
   simp only [evalIns] at hev
   split at hev
   · rename_i hc
     subst hev
     rw [hc] at r1
     cases hcc : a.eval c <;> rw [hcc] at r1 <;> cases r1
     exact wp_val (c := a.eval x) (by simp [execOp, hcc, asBool]) (hk _ _ _ (.refl hs) (opd_rel hg he h2))
   · rename_i hc
     subst hev
     rw [hc] at r1
     cases hcc : a.eval c <;> rw [hcc] at r1 <;> cases r1
     exact wp_val (c := a.eval y) (by simp [execOp, hcc, asBool]) (hk _ _ _ (.refl hs) (opd_rel hg he h3))
   · exact absurd hev.symm hn
 · exact (bad_ne hev hn).elim

theorem free_next {n : Nat} (h : Free s n) (hn : s.next < n) : s.heap.get s.next = none := h _ (Nat.le_refl _) hn

theorem op_alloc {dst : Option Tmp} {t ty : TypeId} {pos : String} {after : Array Edge} {g : Option (Nat × Bool)} : OpOk P T rec ⟨dst, .alloc t, ty, pos, after, g⟩ := by
 intro φ s w a nt ds e r next Q hg he hs hev hn hf hk
 simp only [ofOp] at hev
 split at hev
 · rename_i z hz
   obtain ⟨cz, z1, z2⟩ := zeroCells_rel hz
   split at hev
   · simp only [evalIns, bldV, ofBoth] at hev
     subst hev
     obtain ⟨φ', w', h1, h2, h3⟩ := box_okK (P := P) (el := t) (K := (t + 1) * tyBase) (fun u hu => by rw [Nat.mul_div_cancel _ (by decide)] at hu; omega) (v := cz) hs (free_next hf (by simp [Res.nextId, St.add])) (z2 φ)
     refine wp_val (c := .pointer (some ⟨w.heap.size, 0, none⟩)) (w' := w') ?_ (hk _ _ _ h2 h3)
     simp only [Instr.box, Sem.run_bind] at h1
     simp only [execOp, Instr.alloc, Sem.run_bind, z1, Result.andThen_ok]
     rw [h1]
     rfl
   simp only [evalIns, boxV] at hev
   subst hev
   obtain ⟨φ', w', h1, h2, h3⟩ := box_ok (P := P) (el := t) (v := cz) hs (free_next hf (by simp [Res.nextId, St.add])) (z2 φ)
   refine wp_val (c := .pointer (some ⟨w.heap.size, 0, none⟩)) (w' := w') ?_ (hk _ _ _ h2 h3)
   simp only [Instr.box, Sem.run_bind] at h1
   simp only [execOp, Instr.alloc, Sem.run_bind, z1, Result.andThen_ok]
   rw [h1]
   rfl
 · exact (bad_ne hev hn).elim

theorem op_box {dst : Option Tmp} {t ty : TypeId} {x : Operand} {pos : String} {after : Array Edge} {g : Option (Nat × Bool)} : OpOk P T rec ⟨dst, .box t x, ty, pos, after, g⟩ := by
 intro φ s w a nt ds e r next Q hg he hs hev hn hf hk
 obtain ⟨y, hy, h⟩ := map1_ne hev hn
 simp only [evalIns, boxV] at h
 subst h
 obtain ⟨φ', w', h1, h2, h3⟩ := box_ok (P := P) (el := t) (v := a.eval x) hs (free_next hf (by simp [Res.nextId, St.add])) (opd_rel hg he hy).cells
 refine wp_val (c := .pointer (some ⟨w.heap.size, 0, none⟩)) (w' := w') ?_ (hk _ _ _ h2 h3)
 simp only [execOp, Sem.run_bind, h1, Result.andThen_ok, Sem.run_pure]

theorem op_load {dst : Option Tmp} {t ty : TypeId} {x : Operand} {pos : String} {after : Array Edge} {g : Option (Nat × Bool)} : OpOk P T rec ⟨dst, .load t x, ty, pos, after, g⟩ := by
 intro φ s w a nt ds e r next Q hg he hs hev hn hf hk
 simp only [ofOp] at hev
 split at hev
 · rename_i n hsz
   obtain ⟨y, hy, h⟩ := map1_ne hev hn
   simp only [evalIns] at h
   obtain ⟨v, h1, rfl⟩ := ofOpt_ne h hn
   obtain ⟨c, c1, c2⟩ := load_ok (P := P) hs (opd_rel hg he hy) hsz h1
   exact wp_val (by simp only [execOp, Sem.run_bind, c1, Result.andThen_ok, Sem.run_pure]) (hk _ _ _ (.refl hs) c2)
 · exact (bad_ne hev hn).elim

theorem op_store {dst : Option Tmp} {t ty : TypeId} {x y : Operand} {pos : String} {after : Array Edge} {g : Option (Nat × Bool)} : OpOk P T rec ⟨dst, .store t x y, ty, pos, after, g⟩ := by
 intro φ s w a nt ds e r next Q hg he hs hev hn hf hk
 simp only [ofOp] at hev
 split at hev
 · rename_i n hsz
   obtain ⟨x', y', hx, hy, h⟩ := map2_ne hev hn
   simp only [evalIns] at h
   obtain ⟨s', h1, rfl⟩ := ofSt_ne h hn
   obtain ⟨w', c1, c2⟩ := store_ok (P := P) hs (opd_rel hg he hx) (opd_rel hg he hy) hsz h1
   exact wp_unit (by simp only [execOp, Sem.run_bind, c1, Result.andThen_ok, Sem.run_pure]) (hk _ _ _ c2 (.tuple (l' := []) .nil))
 · exact (bad_ne hev hn).elim

theorem op_nilCheck {dst : Option Tmp} {x : Operand} {ty : TypeId} {pos : String} {after : Array Edge} {g : Option (Nat × Bool)} : OpOk P T rec ⟨dst, .nilCheck x, ty, pos, after, g⟩ := by
 intro φ s w a nt ds e r next Q hg he hs hev hn hf hk
 obtain ⟨y, hy, h⟩ := map1_ne hev hn
 have hx := opd_rel hg he hy
 simp only [evalIns] at h
 split at h
 · rename_i ad hc
   subst h
   rw [hc] at hx
   cases hcx : a.eval x <;> rw [hcx] at hx <;> cases hx
   rename_i q1 q2 q3
   exact wp_val (c := a.eval x) (by simp only [execOp, hcx]; rfl) (hk _ _ _ (.refl hs) (by rw [hcx]; exact .ptr q1 q2 q3))
 · rename_i f l m hc
   subst h
   rw [hc] at hx
   cases hcx : a.eval x <;> rw [hcx] at hx <;> cases hx
   rename_i q1 q2
   exact wp_val (c := a.eval x) (by simp only [execOp, hcx]; rfl) (hk _ _ _ (.refl hs) (by rw [hcx]; exact .func q1 q2))
 · rename_i t v hc
   subst h
   rw [hc] at hx
   cases hcx : a.eval x <;> rw [hcx] at hx <;> cases hx
   rename_i q1
   exact wp_val (c := a.eval x) (by simp only [execOp, hcx]; rfl) (hk _ _ _ (.refl hs) (by rw [hcx]; exact .iface q1))
 · exact absurd h.symm hn

theorem binV_guard {op : BinOp} {t : TypeId} {xo yo : Operand} {x y v : AV} {cx cy : Value} (hx : VRel φ x cx) (h : binV op x y = some v) (w : World) : (eqGuard op t xo yo cx cy).run P.toProgram w = .ok () w := by
 unfold binV at h
 split at h
 · cases hx; unfold eqGuard; cases op <;> simp
 · cases hx; unfold eqGuard; cases op <;> simp
 · cases hx; unfold eqGuard; cases op <;> simp
 · cases hx; unfold eqGuard; cases op <;> simp
 · cases h

structure EqShape (P : Prog) (t : TypeId) (cx cy : Value) : Prop where
 eql : binOp .eql t cx cy = (do pure (.bool (← Op.equal t cx cy)))
 neq : binOp .neq t cx cy = (do pure (.bool (!(← Op.equal t cx cy))))
 guard : ∀ (op : BinOp) (xo yo : Operand) (w : World), (∀ a b, cx = .agg a → cy = .agg b → P.eqGuardType P.depth t = false) → (cx = .nilIface → cy = .nilIface → (isConstOpd xo || isConstOpd yo) = true) → (eqGuard op t xo yo cx cy).run P.toProgram w = .ok () w

theorem eqShape {eT : EqT} {x y : AV} {b : Bool} {cx cy : Value} {t : TypeId} (h : eqV eT x y = some b) (hni : eT ≠ .prim .int) (hns : eT ≠ .prim .str) (hnf : ∀ ts, eT ≠ .ifc ts) (hx : VRel φ x cx) (hy : VRel φ y cy) : EqShape P t cx cy := by
 cases eT with
 | prim k =>
  cases k
  · exact absurd rfl hni
  · cases x <;> cases y <;> simp [eqV, primEq] at h
    cases hx; cases hy
    exact ⟨rfl, rfl, fun op xo yo w _ _ => by unfold eqGuard; cases op <;> simp⟩
  · exact absurd rfl hns
 | nilable k =>
  cases k <;> cases x <;> cases y <;> simp [eqV, nilEq] at h <;> cases hx <;> cases hy
  all_goals
   refine ⟨rfl, rfl, fun op xo yo w _ hc => ?_⟩
   unfold eqGuard
   cases op <;> simp
  all_goals
   have := hc rfl rfl
   cases xo <;> cases yo <;> simp [isConstOpd] at this ⊢
 | ifc ts =>
  exact absurd rfl (hnf ts)
 | agg ps =>
  obtain ⟨_, _, rfl, rfl, _⟩ := eqV_agg h
  cases hx; cases hy
  exact ⟨rfl, rfl, fun op xo yo w hg _ => run_eqGuard_agg w op t xo yo _ _ (hg _ _ rfl rfl)⟩

theorem hasT_mem {t : Nat} : ∀ {l : List Nat}, hasT t l = true → t ∈ l
 | [], h => by cases h
 | u :: l, h => by
  simp only [hasT] at h
  split at h
  · rename_i hb
    have : u = t := by simpa using hb
    subst this
    exact List.mem_cons_self
  · exact List.mem_cons_of_mem _ (hasT_mem h)

theorem intTs_spec {t : Nat} (h : t ∈ intTs P) : ∃ i k, P.info? t = some i ∧ i.comparable = true ∧ P.underlying t = some (.int k) := by
 unfold intTs at h
 obtain ⟨_, h⟩ := List.mem_filter.1 h
 split at h
 · rename_i i hi
   simp only [Bool.and_eq_true] at h
   obtain ⟨h1, h2⟩ := h
   split at h2
   · rename_i k hk
     exact ⟨i, k, hi, h1, hk⟩
   · cases h2
 · cases h

theorem ifcEq_ok {D : Nat} {t : TypeId} {ms : Array (String × TypeId)} {x y : AV} {b : Bool} {cx cy : Value} (hu : P.underlying t = some (.interface ms)) (h : ifcEq (intTs P) x y = some b) (hx : VRel φ x cx) (hy : VRel φ y cy) (w : World) (hint : ∀ t1 k1 k n1 n2, P.underlying t1 = some (.int k) → (Op.equalIn D t1 (.int k1 n1) (.int k1 n2)).run P.toProgram w = .ok (n1 == n2) w) :
 (binOp .eql t cx cy = (do pure (.bool (← Op.equal t cx cy)))) ∧ (binOp .neq t cx cy = (do pure (.bool (!(← Op.equal t cx cy))))) ∧ (∀ (op : BinOp) (xo yo : Operand), (eqGuard op t xo yo cx cy).run P.toProgram w = .ok () w) ∧ (Op.equalIn (D + 1) t cx cy).run P.toProgram w = .ok b w := by
 cases x <;> cases y <;> simp only [ifcEq] at h <;> first | (cases h; done) | skip
 · rename_i t1 a u1 b1
   cases hx
   cases hy
   rename_i c1 r1 c2 r2
   refine ⟨rfl, rfl, fun op xo yo => by unfold eqGuard; cases op <;> simp, ?_⟩
   cases hb : Nat.beq t1 u1 with
   | false =>
    rw [hb] at h
    cases h
    have hne : t1 ≠ u1 := by intro e; subst e; rw [Nat.beq_refl] at hb; cases hb
    simp [Op.equalIn, run_underlying_some hu, hne]
   | true =>
    rw [hb] at h
    have he : t1 = u1 := by simpa using hb
    subst he
    simp only [] at h
    cases hm : hasT t1 (intTs P) with
    | false => rw [hm] at h; cases h
    | true =>
     rw [hm] at h
     obtain ⟨i, k, hi, hc, hk⟩ := intTs_spec (hasT_mem hm)
     cases a <;> cases b1 <;> simp only [primEq] at h <;> first | (cases h; done) | skip
     rename_i k1 n1 k2 n2
     split at h
     · rename_i hkk
       subst hkk
       cases h
       cases r1
       cases r2
       have e1 := hint t1 k1 k n1 n2 hk
       simp [Op.equalIn, run_underlying_some hu, run_typeInfo hi, hc, e1]
       rfl
     · cases h
 · cases h
   cases hx; cases hy
   refine ⟨rfl, rfl, fun op xo yo => by unfold eqGuard; cases op <;> simp, ?_⟩
   simp [Op.equalIn, run_underlying_some hu]
 · cases h
   cases hx; cases hy
   refine ⟨rfl, rfl, fun op xo yo => by unfold eqGuard; cases op <;> simp, ?_⟩
   simp [Op.equalIn, run_underlying_some hu]

theorem op_bin {dst : Option Tmp} {op : BinOp} {t yt : TypeId} {x y : Operand} {ty : TypeId} {pos : String} {after : Array Edge} {g : Option (Nat × Bool)} : OpOk P T rec ⟨dst, .binOp op t x y yt, ty, pos, after, g⟩ := by
 intro φ s w a nt ds e r next Q hg he hs hev hn hf hk
 have plain : evalIns T rec e s (map2 P x y (.bin op)) = r → Oper.wp P.toProgram ⟨dst, .binOp op t x y yt, ty, pos, after, g⟩ a w next Q := by
  intro hev
  obtain ⟨x', y', hx, hy, h⟩ := map2_ne hev hn
  simp only [evalIns] at h
  obtain ⟨v, h1, rfl⟩ := ofOpt_ne h hn
  have rx := opd_rel hg he hx
  have ry := opd_rel hg he hy
  obtain ⟨c, c1, c2⟩ := binV_ok (P := P) rx ry h1 t
  exact wp_val (by simp only [execOp, Sem.run_bind, binV_guard (P := P) rx h1, Result.andThen_ok, c1, Sem.run_pure]) (hk _ _ _ (.refl hs) c2)
 have equal : ∀ (neg : Bool) (d : TypeDesc) (eT : EqT), op = (if neg then .neq else .eql) → P.underlying t = some d → (∀ k, d ≠ .int k) → d ≠ .string → eqT P 6 t = some eT →
  eqGuardOk P t d x y = true →
  evalIns T rec e s (map2 P x y (.eq neg eT)) = r → Oper.wp P.toProgram ⟨dst, .binOp op t x y yt, ty, pos, after, g⟩ a w next Q := by
  intro neg d eT hop hu n1 n2 heT hgd hev
  obtain ⟨x', y', hx, hy, h⟩ := map2_ne hev hn
  simp only [evalIns] at h
  split at h
  · rename_i b hb
    subst h
    have rx := opd_rel hg he hx
    have ry := opd_rel hg he hy
    have heq := eq_ok 6 10000 t eT heT (by omega) rx ry hb w
    have hne1 : eT ≠ .prim .int := by
     rintro rfl
     simp only [eqT, hu] at heT
     cases d <;> simp at heT n1 <;> (repeat' split at heT) <;> simp at heT
    have hne2 : eT ≠ .prim .str := by
     rintro rfl
     simp only [eqT, hu] at heT
     cases d <;> simp at heT n2 <;> (repeat' split at heT) <;> simp at heT
    have hne3 : ∀ ts, eT ≠ .ifc ts := by
     rintro ts rfl
     simp only [eqT, hu] at heT
     cases d <;> simp at heT <;> (repeat' split at heT) <;> simp at heT
    have sh := eqShape (P := P) (t := t) hb hne1 hne2 hne3 rx ry
    have hguard : (eqGuard op t x y (a.eval x) (a.eval y)).run P.toProgram w = .ok () w := by
     refine sh.guard op x y w ?_ ?_
     · intro p q hp hq
       cases d <;> simp [eqGuardOk] at hgd <;> first | exact hgd | skip
       all_goals
        exfalso
        rw [hp] at rx
        cases hox : opd e x' <;> rw [hox] at rx hb <;> cases rx
        simp only [eqT, hu] at heT
        (repeat' split at heT) <;> simp at heT <;> subst heT <;> simp [eqV, primEq] at hb <;> (cases hoy : opd e y' <;> rw [hoy] at hb <;> simp [nilEq] at hb)
     · intro hp hq
       cases d <;> simp [eqGuardOk] at hgd <;> first | (simp; exact hgd) | skip
       all_goals
        exfalso
        rw [hp] at rx
        cases hox : opd e x' <;> rw [hox] at rx hb <;> cases rx
        simp only [eqT, hu] at heT
        (repeat' split at heT) <;> simp at heT <;> subst heT <;> simp [eqV, primEq] at hb <;> (cases hoy : opd e y' <;> rw [hoy] at hb <;> simp [nilEq] at hb)
    cases neg with
    | false =>
     simp only [Bool.false_eq_true, if_false] at hop
     subst hop
     exact wp_val (c := .bool b) (by simp only [execOp, Sem.run_bind, hguard, Result.andThen_ok, sh.eql, Op.equal, Op.maxDepth, heq, Sem.run_pure]) (hk _ _ _ (.refl hs) (.bool _))
    | true =>
     simp only [if_true] at hop
     subst hop
     exact wp_val (c := .bool (!b)) (by simp only [execOp, Sem.run_bind, hguard, Result.andThen_ok, sh.neq, Op.equal, Op.maxDepth, heq, Sem.run_pure]) (hk _ _ _ (.refl hs) (.bool _))
  · exact absurd h.symm hn
 have ifc : ∀ (neg : Bool) (ms : Array (String × TypeId)), op = (if neg then .neq else .eql) → P.underlying t = some (.interface ms) →
  evalIns T rec e s (map2 P x y (.eq neg (.ifc (intTs P)))) = r → Oper.wp P.toProgram ⟨dst, .binOp op t x y yt, ty, pos, after, g⟩ a w next Q := by
  intro neg ms hop hu hev
  obtain ⟨x', y', hx, hy, h⟩ := map2_ne hev hn
  simp only [evalIns] at h
  split at h
  · rename_i b hb
    subst h
    simp only [eqV] at hb
    obtain ⟨s1, s2, s3, s4⟩ := ifcEq_ok (D := 9999) hu hb (opd_rel hg he hx) (opd_rel hg he hy) w (fun t1 k1 k n1 n2 hk => run_equalIn_int w 9998 t1 k1 k n1 n2 hk)
    cases neg with
    | false =>
     simp only [Bool.false_eq_true, if_false] at hop
     subst hop
     exact wp_val (c := .bool b) (by simp only [execOp, Sem.run_bind, s3, Result.andThen_ok, s1, Op.equal, Op.maxDepth, s4, Sem.run_pure]) (hk _ _ _ (.refl hs) (.bool _))
    | true =>
     simp only [if_true] at hop
     subst hop
     exact wp_val (c := .bool (!b)) (by simp only [execOp, Sem.run_bind, s3, Result.andThen_ok, s2, Op.equal, Op.maxDepth, s4, Sem.run_pure]) (hk _ _ _ (.refl hs) (.bool _))
  · exact absurd h.symm hn
 simp only [ofOp] at hev
 cases op
 case eql =>
  simp only [] at hev
  split at hev
  · exact plain hev
  · exact plain hev
  · exact plain hev
  · exact plain hev
  · rename_i d d1 d2 d3 d4 hu
    split at hev
    · rename_i eT heT
      split at hev
      · rename_i hgd
        exact equal false d eT rfl hu d1 d2 heT hgd hev
      · split at hev
        · exact ifc false _ rfl hu hev
        · exact (bad_ne hev hn).elim
    · exact (bad_ne hev hn).elim
  · exact (bad_ne hev hn).elim
 case neq =>
  simp only [] at hev
  split at hev
  · exact plain hev
  · exact plain hev
  · exact plain hev
  · exact plain hev
  · rename_i d d1 d2 d3 d4 hu
    split at hev
    · rename_i eT heT
      split at hev
      · rename_i hgd
        exact equal true d eT rfl hu d1 d2 heT hgd hev
      · split at hev
        · exact ifc true _ rfl hu hev
        · exact (bad_ne hev hn).elim
    · exact (bad_ne hev hn).elim
  · exact (bad_ne hev hn).elim
 all_goals exact plain hev
end
end Go.V
/- SOUNDNESS: one operation, the rest. -/
namespace Go.V
open Go

section
variable {P : Prog} {T : Tab} {rec : Rec}

theorem op_un {dst : Option Tmp} {op : UnOp} {t : TypeId} {x : Operand} {ty : TypeId} {pos : String} {after : Array Edge} {g : Option (Nat × Bool)} : OpOk P T rec ⟨dst, .unOp op t x, ty, pos, after, g⟩ := by
 intro φ s w a nt ds e r next Q hg he hs hev hn hf hk
 obtain ⟨y, hy, h⟩ := map1_ne hev hn
 simp only [evalIns] at h
 obtain ⟨v, h1, rfl⟩ := ofOpt_ne h hn
 obtain ⟨c, c1, c2⟩ := unV_ok (P := P) (opd_rel hg he hy) h1
 exact wp_val (by simp only [execOp, Sem.run_bind, c1, Result.andThen_ok, Sem.run_pure]) (hk _ _ _ (.refl hs) c2)

theorem op_mkIface {dst : Option Tmp} {t : TypeId} {x : Operand} {ty : TypeId} {pos : String} {after : Array Edge} {g : Option (Nat × Bool)} : OpOk P T rec ⟨dst, .makeInterface t x, ty, pos, after, g⟩ := by
 intro φ s w a nt ds e r next Q hg he hs hev hn hf hk
 simp only [ofOp] at hev
 split at hev
 · exact (bad_ne hev hn).elim
 · rename_i d hd hu
   obtain ⟨y, hy, h⟩ := map1_ne hev hn
   simp only [evalIns] at h
   subst h
   have : (Instr.makeInterface t (a.eval x)).run P.toProgram w = .ok (.iface t (a.eval x)) w := by
    cases d <;> simp [Instr.makeInterface, run_underlying_some hu]
    exact absurd rfl (hd _)
   exact wp_val (c := .iface t (a.eval x)) (by simp only [execOp, Sem.run_bind, this, Result.andThen_ok, Sem.run_pure]) (hk _ _ _ (.refl hs) (.iface (opd_rel hg he hy)))
 · exact (bad_ne hev hn).elim

theorem op_mkFunc {dst : Option Tmp} {fn : Fn} {l m : Array Operand} {ty : TypeId} {pos : String} {after : Array Edge} {g : Option (Nat × Bool)} : OpOk P T rec ⟨dst, .makeFunc fn l m, ty, pos, after, g⟩ := by
 intro φ s w a nt ds e r next Q hg he hs hev hn hf hk
 cases fn with
 | func f =>
  simp only [ofOp] at hev
  split at hev
  · rename_i l' m' h1 h2
    simp only [evalIns] at hev
    subst hev
    have r1 := opds_rel hg he h1
    have r2 := opds_rel hg he h2
    refine wp_val (c := .func (.func f) (l.map a.eval) (m.map a.eval)) rfl (hk _ _ _ (.refl hs) ?_)
    have e1 : l.map a.eval = ⟨l.toList.map a.eval⟩ := by apply Array.ext'; simp
    have e2 : m.map a.eval = ⟨m.toList.map a.eval⟩ := by apply Array.ext'; simp
    rw [e1, e2]
    exact VRel.func (f := f) r1 r2
  · exact (bad_ne hev hn).elim
 | _ => exact (bad_ne hev hn).elim

theorem op_mkMap {dst : Option Tmp} {t : TypeId} {m : Option Operand} {ty : TypeId} {pos : String} {after : Array Edge} {g : Option (Nat × Bool)} : OpOk P T rec ⟨dst, .makeMap t m, ty, pos, after, g⟩ := by
 intro φ s w a nt ds e r next Q hg he hs hev hn hf hk
 cases m with
 | none =>
  simp only [ofOp, evalIns] at hev
  subst hev
  obtain ⟨φ', w', c, h1, h2, h3⟩ := mkMap_ok (P := P) (t := t) hs (free_next hf (by simp [Res.nextId, St.add]))
  exact wp_val (by simp only [execOp, Option.map_none, Sem.run_bind, h1, Result.andThen_ok, Sem.run_pure]) (hk _ _ _ h2 h3)
 | some m => exact (bad_ne hev hn).elim

theorem op_mkSlice {dst : Option Tmp} {t : TypeId} {x y : Operand} {ty : TypeId} {pos : String} {after : Array Edge} {g : Option (Nat × Bool)} : OpOk P T rec ⟨dst, .makeSlice t x y, ty, pos, after, g⟩ := by
 intro φ s w a nt ds e r next Q hg he hs hev hn hf hk
 simp only [ofOp] at hev
 split at hev
 · rename_i el hu
   split at hev
   · rename_i n z hsz hz
     split at hev
     · rename_i hzl
       obtain ⟨x', y', hx, hy, h⟩ := map2_ne hev hn
       simp only [evalIns] at h
       split at h
       · rename_i l c hl hc
         split at h
         · rename_i hcond
           obtain ⟨c1, c2, c3, c4⟩ := hcond
           subst h
           have rx := opd_rel hg he hx
           have ry := opd_rel hg he hy
           obtain ⟨k, hk1⟩ : ∃ k, a.eval x = .int k (Int.ofNat l) := by
            unfold bitsNonneg at hl
            split at hl
            · rename_i hq; cases hl; rw [hq] at rx; cases hxx : a.eval x <;> rw [hxx] at rx <;> cases rx; exact ⟨_, rfl⟩
            · cases hl
           obtain ⟨k', hk2⟩ : ∃ k, a.eval y = .int k (Int.ofNat c) := by
            unfold bitsNonneg at hc
            split at hc
            · rename_i hq; cases hc; rw [hq] at ry; cases hyy : a.eval y <;> rw [hyy] at ry <;> cases ry; exact ⟨_, rfl⟩
            · cases hc
           obtain ⟨v, w', φ', g1, g2, g3⟩ := mkSlice_ok (P := P) (t := t) (k := k) (k' := k') hs (free_next hf (by simp [Res.nextId, St.add])) hu hsz hz hzl c4 c1 c2 c3
           exact wp_val (by simp only [execOp, hk1, hk2, Sem.run_bind, g1, Result.andThen_ok, Sem.run_pure]) (hk _ _ _ g2 g3)
         · exact absurd h.symm hn
       · exact absurd h.symm hn
     · exact (bad_ne hev hn).elim
   · exact (bad_ne hev hn).elim
 · exact (bad_ne hev hn).elim

theorem op_slice {dst : Option Tmp} {t : TypeId} {x : Operand} {lo hi mx : Option Operand} {ty : TypeId} {pos : String} {after : Array Edge} {g : Option (Nat × Bool)} : OpOk P T rec ⟨dst, .slice t x lo hi mx, ty, pos, after, g⟩ := by
 intro φ s w a nt ds e r next Q hg he hs hev hn hf hk
 simp only [ofOp] at hev
 split at hev
 · rename_i x' lo' hi' mx' h1 h2 h3 h4
   have rx := opd_rel hg he h1
   have rlo := oopd_rel hg he h2
   have rhi := oopd_rel hg he h3
   have rmx := oopd_rel hg he h4
   split at hev
   · rename_i hu
     split at hev
     · exact (bad_ne hev hn).elim
     · rename_i hm
       simp only [evalIns] at hev
       obtain ⟨v, e1, rfl⟩ := ofOpt_ne hev hn
       have hm0 : mx = none := by
        cases mx with
        | none => rfl
        | some q =>
         simp [ofOOpd] at h4
         obtain ⟨z, _, rfl⟩ := h4
         simp at hm
       subst hm0
       obtain ⟨c, c1, c2⟩ := sliceStr_ok (P := P) hu rx rlo rhi e1 w
       exact wp_val (by simp only [execOp, Option.map_none, Sem.run_bind, c1, Result.andThen_ok, Sem.run_pure]) (hk _ _ _ (.refl hs) c2)
   · rename_i el hu
     split at hev
     · rename_i n hsz
       simp only [evalIns] at hev
       obtain ⟨v, e1, rfl⟩ := ofOpt_ne hev hn
       obtain ⟨c, c1, c2⟩ := sliceSl_ok (P := P) hu hsz rx rlo rhi rmx e1 w
       exact wp_val (by simp only [execOp, Sem.run_bind, c1, Result.andThen_ok, Sem.run_pure]) (hk _ _ _ (.refl hs) c2)
     · exact (bad_ne hev hn).elim
   · rename_i k el hu
     split at hev
     · rename_i n hsz
       simp only [evalIns] at hev
       obtain ⟨v, e1, rfl⟩ := ofOpt_ne hev hn
       obtain ⟨c, c1, c2⟩ := sliceArr_ok (P := P) hs hu hsz rx rlo rhi rmx e1
       exact wp_val (by simp only [execOp, Sem.run_bind, c1, Result.andThen_ok, Sem.run_pure]) (hk _ _ _ (.refl hs) c2)
     · exact (bad_ne hev hn).elim
   · exact (bad_ne hev hn).elim
 · exact (bad_ne hev hn).elim

theorem op_fieldAddr {dst : Option Tmp} {t : TypeId} {x : Operand} {i : Nat} {ty : TypeId} {pos : String} {after : Array Edge} {g : Option (Nat × Bool)} : OpOk P T rec ⟨dst, .fieldAddr t x i, ty, pos, after, g⟩ := by
 intro φ s w a nt ds e r next Q hg he hs hev hn hf hk
 simp only [ofOp] at hev
 split at hev
 · rename_i fs hu
   split at hev
   · rename_i f hfi
     split at hev
     · rename_i n hsz
       split at hev
       · exact (bad_ne hev hn).elim
       · rename_i hn0
         obtain ⟨y, hy, h⟩ := map1_ne hev hn
         simp only [evalIns] at h
         split at h
         · rename_i ad hc
           subst h
           have rx := opd_rel hg he hy
           rw [hc] at rx
           obtain ⟨c, c1, c2⟩ := fieldAt_ok (P := P) hu hfi hsz hn0 rx w
           exact wp_val (by simp only [execOp, Sem.run_bind, c1, Result.andThen_ok, Sem.run_pure]) (hk _ _ _ (.refl hs) c2)
         · exact absurd h.symm hn
     · exact (bad_ne hev hn).elim
   · exact (bad_ne hev hn).elim
 · exact (bad_ne hev hn).elim

theorem op_field {dst : Option Tmp} {t : TypeId} {x : Operand} {i : Nat} {ty : TypeId} {pos : String} {after : Array Edge} {g : Option (Nat × Bool)} : OpOk P T rec ⟨dst, .field t x i, ty, pos, after, g⟩ := by
 intro φ s w a nt ds e r next Q hg he hs hev hn hf hk
 simp only [ofOp] at hev
 split at hev
 · rename_i fs hu
   split at hev
   · rename_i f hfi
     split at hev
     · rename_i n hsz
       obtain ⟨y, hy, h⟩ := map1_ne hev hn
       simp only [evalIns] at h
       split at h
       · rename_i cs hc
         obtain ⟨v, e1, rfl⟩ := ofOpt_ne h hn
         have rx := opd_rel hg he hy
         rw [hc] at rx
         obtain ⟨c, c1, c2⟩ := field_ok (P := P) hu hfi hsz rx e1 w
         exact wp_val (by simp only [execOp, Sem.run_bind, c1, Result.andThen_ok, Sem.run_pure]) (hk _ _ _ (.refl hs) c2)
       · exact absurd h.symm hn
     · exact (bad_ne hev hn).elim
   · exact (bad_ne hev hn).elim
 · exact (bad_ne hev hn).elim

theorem op_indexAddr {dst : Option Tmp} {t : TypeId} {x i : Operand} {ty : TypeId} {pos : String} {after : Array Edge} {g : Option (Nat × Bool)} : OpOk P T rec ⟨dst, .indexAddr t x i, ty, pos, after, g⟩ := by
 intro φ s w a nt ds e r next Q hg he hs hev hn hf hk
 simp only [ofOp] at hev
 split at hev
 · rename_i n el hu
   split at hev
   · rename_i k hsz
     obtain ⟨x', i', hx, hi, h⟩ := map2_ne hev hn
     simp only [evalIns] at h
     split at h
     · rename_i ad hc
       obtain ⟨v, e1, rfl⟩ := ofOpt_ne h hn
       have rx := opd_rel hg he hx
       rw [hc] at rx
       obtain ⟨c, c1, c2⟩ := idxArr_ok (P := P) hu hsz rx (opd_rel hg he hi) e1 w
       exact wp_val (by simp only [execOp, Sem.run_bind, c1, Result.andThen_ok, Sem.run_pure]) (hk _ _ _ (.refl hs) c2)
     · exact absurd h.symm hn
   · exact (bad_ne hev hn).elim
 · rename_i el hu
   split at hev
   · rename_i k hsz
     obtain ⟨x', i', hx, hi, h⟩ := map2_ne hev hn
     simp only [evalIns] at h
     split at h
     · rename_i ad len cap ex es hc
       split at h
       · rename_i hes
         subst hes
         obtain ⟨v, e1, rfl⟩ := ofOpt_ne h hn
         have rx := opd_rel hg he hx
         rw [hc] at rx
         obtain ⟨c, c1, c2⟩ := idxSl_ok (P := P) hu hsz rx (opd_rel hg he hi) e1 w
         exact wp_val (by simp only [execOp, Sem.run_bind, c1, Result.andThen_ok, Sem.run_pure]) (hk _ _ _ (.refl hs) c2)
       · exact absurd h.symm hn
     · exact absurd h.symm hn
   · exact (bad_ne hev hn).elim
 · exact (bad_ne hev hn).elim

theorem int_inv {φ : Phi} {k : IntKind} {n : Int} {c : Value} (h : VRel φ (.int k n) c) : c = .int k n := by cases h; rfl

theorem op_index {dst : Option Tmp} {t : TypeId} {x i : Operand} {ty : TypeId} {pos : String} {after : Array Edge} {g : Option (Nat × Bool)} : OpOk P T rec ⟨dst, .index t x i, ty, pos, after, g⟩ := by
 intro φ s w a nt ds e r next Q hg he hs hev hn hf hk
 simp only [ofOp] at hev
 split at hev
 · rename_i hu
   obtain ⟨x', i', hx, hi, h⟩ := map2_ne hev hn
   simp only [evalIns] at h
   split at h
   · rename_i l kk k hc1 hc2
     split at h
     · rename_i b hb
       subst h
       have rx := opd_rel hg he hx
       have ri := opd_rel hg he hi
       rw [hc1] at rx
       rw [hc2] at ri
       have hii := int_inv ri
       have := idxStr_ok (P := P) (k := kk) hu rx hb w
       exact wp_val (c := .int .u8 b.toNat) (by simp only [execOp, Sem.run_bind, hii, this, Result.andThen_ok, Sem.run_pure]) (hk _ _ _ (.refl hs) (by rw [mkInt_eq]; exact .int _ _))
     · exact absurd h.symm hn
   · exact absurd h.symm hn
 · rename_i n el hu
   split at hev
   · rename_i k hsz
     obtain ⟨x', i', hx, hi, h⟩ := map2_ne hev hn
     simp only [evalIns] at h
     split at h
     · rename_i cs kk m hc1 hc2
       split at h
       · rename_i hm
         obtain ⟨v, e1, rfl⟩ := ofOpt_ne h hn
         have rx := opd_rel hg he hx
         have ri := opd_rel hg he hi
         rw [hc1] at rx
         rw [hc2] at ri
         have hii := int_inv ri
         obtain ⟨c, c1, c2⟩ := idxAgg_ok (P := P) (k := kk) hu hsz rx hm e1 w
         exact wp_val (by simp only [execOp, Sem.run_bind, hii, c1, Result.andThen_ok, Sem.run_pure]) (hk _ _ _ (.refl hs) c2)
       · exact absurd h.symm hn
     · exact absurd h.symm hn
   · exact (bad_ne hev hn).elim
 · exact (bad_ne hev hn).elim

theorem op_lookup {dst : Option Tmp} {t : TypeId} {x i : Operand} {ok : Bool} {ty : TypeId} {pos : String} {after : Array Edge} {g : Option (Nat × Bool)} : OpOk P T rec ⟨dst, .lookup t x i ok, ty, pos, after, g⟩ := by
 intro φ s w a nt ds e r next Q hg he hs hev hn hf hk
 simp only [ofOp] at hev
 split at hev
 · rename_i kt el hu
   split at hev
   · rename_i kk z hkk hz
     obtain ⟨x', i', hx, hi, h⟩ := map2_ne hev hn
     simp only [evalIns] at h
     obtain ⟨v, e1, rfl⟩ := ofOpt_ne h hn
     obtain ⟨c, c1, c2⟩ := lookup_ok (P := P) hs hu hkk hz (opd_rel hg he hx) (opd_rel hg he hi) e1
     exact wp_val (by simp only [execOp, Sem.run_bind, c1, Result.andThen_ok, Sem.run_pure]) (hk _ _ _ (.refl hs) c2)
   · exact (bad_ne hev hn).elim
 · exact (bad_ne hev hn).elim

theorem op_mapUpdate {dst : Option Tmp} {t : TypeId} {m k v : Operand} {ty : TypeId} {pos : String} {after : Array Edge} {g : Option (Nat × Bool)} : OpOk P T rec ⟨dst, .mapUpdate t m k v, ty, pos, after, g⟩ := by
 intro φ s w a nt ds e r next Q hg he hs hev hn hf hk
 simp only [ofOp] at hev
 split at hev
 · rename_i kt el hu
   split at hev
   · rename_i kk m' k' v' hkk h1 h2 h3
     simp only [evalIns] at hev
     obtain ⟨s', e1, rfl⟩ := ofSt_ne hev hn
     obtain ⟨w', c1, c2⟩ := mapSet_ok (P := P) hs hu hkk (opd_rel hg he h1) (opd_rel hg he h2) (opd_rel hg he h3) e1
     exact wp_unit (by simp only [execOp, Sem.run_bind, c1, Result.andThen_ok, Sem.run_pure]) (hk _ _ _ c2 (.tuple (l' := []) .nil))
   · exact (bad_ne hev hn).elim
 · exact (bad_ne hev hn).elim

theorem op_insert {dst : Option Tmp} {t : TypeId} {m k v : Operand} {ty : TypeId} {pos : String} {after : Array Edge} {g : Option (Nat × Bool)} : OpOk P T rec ⟨dst, .insert t m k v, ty, pos, after, g⟩ := by
 intro φ s w a nt ds e r next Q hg he hs hev hn hf hk
 simp only [ofOp] at hev
 split at hev
 · rename_i kt el hu
   split at hev
   · rename_i kk m' k' v' hkk h1 h2 h3
     simp only [evalIns] at hev
     obtain ⟨s', e1, rfl⟩ := ofSt_ne hev hn
     obtain ⟨w', c1, c2⟩ := mapSet_ok (P := P) hs hu hkk (opd_rel hg he h1) (opd_rel hg he h2) (opd_rel hg he h3) e1
     exact wp_unit (by simp only [execOp, Sem.run_bind, c1, Result.andThen_ok, Sem.run_pure]) (hk _ _ _ c2 (.tuple (l' := []) .nil))
   · exact (bad_ne hev hn).elim
 · exact (bad_ne hev hn).elim

theorem op_extract {dst : Option Tmp} {x : Operand} {i : Nat} {ty : TypeId} {pos : String} {after : Array Edge} {g : Option (Nat × Bool)} : OpOk P T rec ⟨dst, .extract x i, ty, pos, after, g⟩ := by
 intro φ s w a nt ds e r next Q hg he hs hev hn hf hk
 obtain ⟨y, hy, h⟩ := map1_ne hev hn
 have hx := opd_rel hg he hy
 simp only [evalIns] at h
 split at h
 · rename_i l hc
   obtain ⟨v, e1, rfl⟩ := ofOpt_ne h hn
   rw [hc] at hx
   cases hcx : a.eval x <;> rw [hcx] at hx <;> cases hx
   rename_i l' hl
   obtain ⟨c, c1, c2⟩ := hl.get e1
   exact wp_val (c := c) (by simp [execOp, hcx, Instr.extract, c1]) (hk _ _ _ (.refl hs) c2)
 · exact absurd h.symm hn

theorem op_panic {dst : Option Tmp} {x : Operand} {ty : TypeId} {pos : String} {after : Array Edge} {g : Option (Nat × Bool)} : OpOk P T rec ⟨dst, .panic x, ty, pos, after, g⟩ := by
 intro φ s w a nt ds e r next Q hg he hs hev hn hf hk
 obtain ⟨y, hy, h⟩ := map1_ne hev hn
 have hx := opd_rel hg he hy
 simp only [evalIns] at h
 split at h
 · rename_i t v hc
   subst h
   rw [hc] at hx
   cases hcx : a.eval x <;> rw [hcx] at hx <;> cases hx
   rename_i c hv
   unfold Oper.wp
   have : (execOp a.eval ⟨dst, .panic x, ty, pos, after, g⟩).run P.toProgram w = .halt (.panic (.iface t c)) w := by
    simp [execOp, hcx, Instr.panic]
   rw [this]
   exact hk _ _ _ (.refl hs) (.iface hv)
 · exact absurd h.symm hn

theorem op_assert {dst : Option Tmp} {x : Operand} {xt t : TypeId} {ok : Bool} {ty : TypeId} {pos : String} {after : Array Edge} {g : Option (Nat × Bool)} : OpOk P T rec ⟨dst, .typeAssert x xt t ok, ty, pos, after, g⟩ := by
 intro φ s w a nt ds e r next Q hg he hs hev hn hf hk
 simp only [ofOp] at hev
 split at hev
 · exact (bad_ne hev hn).elim
 · rename_i d hd hu
   split at hev
   · rename_i z hz
     obtain ⟨y, hy, h⟩ := map1_ne hev hn
     simp only [evalIns] at h
     obtain ⟨v, e1, rfl⟩ := ofOpt_ne h hn
     obtain ⟨c, c1, c2⟩ := assert_ok (P := P) (xT := xt) hu (fun ms hms => hd ms (by rw [hms])) hz (opd_rel hg he hy) e1 w
     exact wp_val (by simp only [execOp, Sem.run_bind, c1, Result.andThen_ok, Sem.run_pure]) (hk _ _ _ (.refl hs) c2)
   · exact (bad_ne hev hn).elim
 · exact (bad_ne hev hn).elim

theorem op_build {dst : Option Tmp} {t : TypeId} {ps : Array (Nat × Operand)} {ty : TypeId} {pos : String} {after : Array Edge} {g : Option (Nat × Bool)} : OpOk P T rec ⟨dst, .build t ps, ty, pos, after, g⟩ := by
 intro φ s w a nt ds e r next Q hg he hs hev hn hf hk
 simp only [ofOp] at hev
 split at hev
 · exact (bad_ne hev hn).elim
 · rename_i z hz
   split at hev
   · rename_i fs hu
     split at hev
     · exact (bad_ne hev hn).elim
     · rename_i hall
       have hall' : ∀ f ∈ fs.toList, ∃ n, szOf P f.type = some n := by
        intro f hfm
        have := Bool.not_eq_false _ ▸ hall
        rw [Bool.not_eq_false, List.all_eq_true] at hall
        exact Option.isSome_iff_exists.1 (hall f hfm)
       split at hev
       · rename_i l hl
         simp only [evalIns] at hev
         split at hev
         · rename_i rr hr
           subst hev
           obtain ⟨c, c1, c2⟩ := build_struct_ok (P := P) hu hz hl hg he hr hall' w
           exact wp_val (c := c) (by simp only [execOp, Sem.run_bind, c1, Result.andThen_ok, Sem.run_pure]) (hk _ _ _ (.refl hs) c2)
         · exact absurd hev.symm hn
       · exact (bad_ne hev hn).elim
   · rename_i k el hu
     split at hev
     · rename_i n hsz
       split at hev
       · rename_i l hl
         simp only [evalIns] at hev
         split at hev
         · rename_i rr hr
           subst hev
           obtain ⟨c, c1, c2⟩ := build_array_ok (P := P) hu hsz hz hl hg he hr w
           exact wp_val (c := c) (by simp only [execOp, Sem.run_bind, c1, Result.andThen_ok, Sem.run_pure]) (hk _ _ _ (.refl hs) c2)
         · exact absurd hev.symm hn
       · exact (bad_ne hev hn).elim
     · exact (bad_ne hev hn).elim
   · exact (bad_ne hev hn).elim

theorem op_buildSlice {dst : Option Tmp} {t : TypeId} {len : Nat} {ps : Array (Nat × Operand)} {ty : TypeId} {pos : String} {after : Array Edge} {g : Option (Nat × Bool)} : OpOk P T rec ⟨dst, .buildSlice t len ps, ty, pos, after, g⟩ := by
 intro φ s w a nt ds e r next Q hg he hs hev hn hf hk
 simp only [ofOp] at hev
 split at hev
 · rename_i el hu
   split at hev
   · rename_i n z hsz hz
     split at hev
     · rename_i hcond
       split at hev
       · rename_i l hl
         simp only [evalIns] at hev
         split at hev
         · rename_i rr hr
           subst hev
           obtain ⟨c, w', φ', c1, c2, c3⟩ := buildSlice_ok (P := P) hs (free_next hf (by simp [Res.nextId, St.add])) hu hsz hz hcond.2.2 hcond.2.1 hcond.1 hl hg he hr
           exact wp_val (c := c) (w' := w') (by simp only [execOp, Sem.run_bind, c1, Result.andThen_ok, Sem.run_pure]) (hk _ _ _ c2 c3)
         · exact absurd hev.symm hn
       · exact (bad_ne hev hn).elim
     · exact (bad_ne hev hn).elim
   · exact (bad_ne hev hn).elim
 · exact (bad_ne hev hn).elim

theorem convV_ok {φ : Phi} {k : CK} {x v : AV} {cx : Value} {sT dT : TypeId} {sd dd : TypeDesc} (h1 : P.underlying sT = some sd) (h2 : P.underlying dT = some dd)
 (hk : match k with | .intInt k => (∃ k0, sd = .int k0) ∧ dd = .int k | .intFloat k => (∃ k0, sd = .int k0) ∧ dd = .float k | .floatInt k => (∃ k0, sd = .float k0) ∧ dd = .int k | .strStr => sd = .string ∧ dd = .string | _ => False)
 (hx : VRel φ x cx) (h : convV k x = some v) (w : World) : ∃ c, (convert sT dT cx).run P.toProgram w = .ok c w ∧ VRel φ v c := by
 unfold convV at h
 split at h
 · obtain ⟨⟨k0, rfl⟩, rfl⟩ := hk
   cases hx; cases h
   rw [mkInt_eq, wrapF_eq]
   exact ⟨_, by simp only [convert, Sem.run_bind, run_underlying_some h1, run_underlying_some h2, Result.andThen_ok, Conv.intToInt, Sem.run_pure], .int _ _⟩
 · obtain ⟨⟨k0, rfl⟩, rfl⟩ := hk
   cases hx
   obtain ⟨c, c1, c2⟩ := pureAV_run (P := P) (φ := φ) h
   exact ⟨c, by simp only [convert, Sem.run_bind, run_underlying_some h1, run_underlying_some h2, Result.andThen_ok, c1], c2⟩
 · obtain ⟨⟨k0, rfl⟩, rfl⟩ := hk
   cases hx
   obtain ⟨c, c1, c2⟩ := pureAV_run (P := P) (φ := φ) h
   exact ⟨c, by simp only [convert, Sem.run_bind, run_underlying_some h1, run_underlying_some h2, Result.andThen_ok, c1], c2⟩
 · obtain ⟨rfl, rfl⟩ := hk
   cases hx; cases h
   exact ⟨_, by simp only [convert, Sem.run_bind, run_underlying_some h1, run_underlying_some h2, Result.andThen_ok, Sem.run_pure], .str _⟩
 · cases h

/- WHAT A BUILDER OF STRINGS ASKS -/
theorem liesAt_self {P : Program} {t : TypeId} (hc : P.cellsOf t ≠ 0) (count : Nat) (hn : 1 ≤ count) : liesAt P P.depth t count 0 t 1 = true := by
 have hd : P.depth = (2 * (P.types.size + Made.depth) + 1) + 1 := rfl
 rw [hd]
 simp only [liesAt, Bool.or_eq_true]
 left
 rw [hd]
 simp [rowAt, hc, hn, sameLayout]

theorem typed_spec {a : AAddr} {t : Nat} (h : typed a t = true) : a.inc / tyBase = t + 1 := by simpa [typed] using h

section
variable {φ : Phi} {s : St} {w : World}
theorem readAt_top (hs : RelSt φ s w) {a : AAddr} {x : Inc} {n : Nat} {l : List AV} (h : s.readAt a n = some l) (h1 : φ a.id a.inc = some x) (h2 : x.sh ≤ a.off) (h3 : a.lim ≤ x.n) :
 ∃ e, w.shape? x.blk = some (e, x.top) ∧ x.base + (a.off - x.sh) + n ≤ x.top := by
 unfold St.readAt at h
 split at h
 · rename_i cs lo inc ro ho
   split at h
   · rename_i hc
     obtain ⟨cc, el, fz, hh, e1, e2, e3, e4, e5, e6, e7⟩ := cells_inv hs ho h1 hc.1 hc.2.1
     exact ⟨el, by simp only [World.shape?, hh, e1], by omega⟩
   · cases h
 · cases h

theorem cellsOf_sz {t : TypeId} {n : Nat} (h : szOf P t = some n) : P.toProgram.cellsOf t = n := by
 obtain ⟨d, i, _, hi, hsi⟩ := szOf_some h
 simp [Program.cellsOf, hi, hsi]

theorem toU_ok (hs : RelSt φ s w) {x y v : AV} {cx : Value} {s' : St} {sT dT t : TypeId} {n : Nat} (h1 : P.underlying sT = some (.pointer t)) (h2 : P.underlying dT = some .unsafePointer) (h3 : szOf P t = some (n + 1))
 (hx : VRel φ x cx) (hb : bldV .toU x y s = some (v, s')) : s' = s ∧ v = x ∧ (convert sT dT cx).run P.toProgram w = .ok cx w := by
 obtain ⟨d, i, hd, hi, hsi⟩ := szOf_some h3
 simp only [bldV] at hb
 split at hb
 · rename_i a
   split at hb
   · rename_i l hl
     cases hb
     cases hx
     rename_i x g1 g2 g3
     obtain ⟨e, q1, q2⟩ := readAt_top hs hl g1 g2 g3
     exact ⟨rfl, rfl, Lib.run_to_unsafe w _ h1 h2 hi (by omega) q1 (by show x.base + (a.off - x.sh) < x.top; omega)⟩
   · cases hb
 · cases hb
   cases hx
   exact ⟨rfl, rfl, by simp [convert, run_underlying_some h1, run_underlying_some h2, Conv.unsafePointer]⟩
 · cases hb

theorem ofU_ok (hs : RelSt φ s w) {x y v : AV} {cx : Value} {s' : St} {sT dT t : TypeId} {n : Nat} (h1 : P.underlying sT = some .unsafePointer) (h2 : P.underlying dT = some (.pointer t)) (h3 : szOf P t = some (n + 1))
 (hx : VRel φ x cx) (hb : bldV (.ofU t (n + 1)) x y s = some (v, s')) : s' = s ∧ v = x ∧ (convert sT dT cx).run P.toProgram w = .ok cx w := by
 obtain ⟨d, i, hd, hi, hsi⟩ := szOf_some h3
 simp only [bldV] at hb
 split at hb
 · rename_i a
   split at hb
   · rename_i hc
     split at hb
     · rename_i l hl
       cases hb
       cases hx
       rename_i x g1 g2 g3
       obtain ⟨e, q1, q2⟩ := readAt_top hs hl g1 g2 g3
       obtain ⟨q3, q4⟩ := hs.typ _ _ _ _ g1 (typed_spec hc.1)
       have hz : x.base + (a.off - x.sh) = 0 := by have := hc.2; omega
       refine ⟨rfl, rfl, ?_⟩
       rw [hz] at q2 ⊢
       exact Lib.run_from_unsafe w _ h1 h2 hi q3 (liesAt_self (by rw [cellsOf_sz h3]; omega) _ (by rw [cellsOf_sz h3]; exact (Nat.le_div_iff_mul_le (by omega)).2 (by omega)))
     · cases hb
   · cases hb
 · cases hb
   cases hx
   exact ⟨rfl, rfl, by simp [convert, run_underlying_some h1, run_underlying_some h2, Conv.unsafePointer]⟩
 · cases hb

end

theorem op_convert {dst : Option Tmp} {sT dT : TypeId} {x : Operand} {ty : TypeId} {pos : String} {after : Array Edge} {g : Option (Nat × Bool)} : OpOk P T rec ⟨dst, .convert sT dT x, ty, pos, after, g⟩ := by
 intro φ s w a nt ds e r next Q hg he hs hev hn hf hk
 obtain ⟨y, hy, h⟩ := map1_ne hev hn
 have hx := opd_rel hg he hy
 have plain : ∀ (k : CK) (sd dd : TypeDesc), P.underlying sT = some sd → P.underlying dT = some dd →
  (match k with | .intInt k => (∃ k0, sd = .int k0) ∧ dd = .int k | .intFloat k => (∃ k0, sd = .int k0) ∧ dd = .float k | .floatInt k => (∃ k0, sd = .float k0) ∧ dd = .int k | .strStr => sd = .string ∧ dd = .string | _ => False) →
  evalIns T rec e s (.conv k y) = r → Oper.wp P.toProgram ⟨dst, .convert sT dT x, ty, pos, after, g⟩ a w next Q := by
  intro k sd dd h1 h2 hkk h
  have h' : ofOpt s (convV k (opd e y)) = r := by
   cases k <;> simp at hkk <;> simpa [evalIns] using h
  obtain ⟨v, e1, rfl⟩ := ofOpt_ne h' hn
  obtain ⟨c, c1, c2⟩ := convV_ok (P := P) h1 h2 hkk hx e1 w
  exact wp_val (by simp only [execOp, Sem.run_bind, c1, Result.andThen_ok, Sem.run_pure]) (hk _ _ _ (.refl hs) c2)
 unfold convIns at h
 split at h
 · rename_i k0 k h1 h2; exact plain (.intInt k) _ _ h1 h2 ⟨⟨k0, rfl⟩, rfl⟩ h
 · rename_i k0 k h1 h2; exact plain (.intFloat k) _ _ h1 h2 ⟨⟨k0, rfl⟩, rfl⟩ h
 · rename_i k0 k h1 h2; exact plain (.floatInt k) _ _ h1 h2 ⟨⟨k0, rfl⟩, rfl⟩ h
 · rename_i h1 h2; exact plain .strStr _ _ h1 h2 ⟨rfl, rfl⟩ h
 · rename_i el h1 h2
   split at h
   · rename_i h3
     split at h
     · rename_i h4
       simp only [evalIns] at h
       split at h
       · rename_i l hl
         split at h
         · subst h
           rw [hl] at hx
           obtain ⟨v, w', φ', c1, c2, c3⟩ := strBytes_ok (P := P) hs (free_next hf (by simp [Res.nextId, St.add])) h1 h2 h3 hx
           exact wp_val (by simp only [execOp, Sem.run_bind, c1, Result.andThen_ok, Sem.run_pure]) (hk _ _ _ c2 c3)
         · exact absurd h.symm hn
       · simp_all
       · simp_all
       · simp_all
       · rename_i q1 q2 q3 q4
         have : convV .strBytes (opd e y) = none := by simp [convV]
         rw [this] at h
         exact absurd h.symm hn
     · exact (bad_ne h hn).elim
   · exact (bad_ne h hn).elim
 · rename_i el h1 h2
   split at h
   · rename_i h3
     simp only [evalIns] at h
     split at h
     · simp_all
     · rename_i hc
       subst h
       rw [hc] at hx
       cases hcx : a.eval x <;> rw [hcx] at hx <;> cases hx
       exact wp_val (c := .string ByteArray.empty) (by simp only [execOp, hcx, convert, Sem.run_bind, run_underlying_some h1, run_underlying_some h2, run_underlying_some h3, Result.andThen_ok]; rfl) (hk _ _ _ (.refl hs) (.str ByteArray.empty))
     · rename_i hc
       subst h
       rw [hc] at hx
       cases hcx : a.eval x <;> rw [hcx] at hx <;> cases hx
       exact wp_val (c := .string ByteArray.empty) (by simp only [execOp, hcx, convert, Sem.run_bind, run_underlying_some h1, run_underlying_some h2, run_underlying_some h3, Result.andThen_ok, Conv.bytesToString, Sem.run_pure]; rfl) (hk _ _ _ (.refl hs) (.str ByteArray.empty))
     · rename_i hc
       rw [hc] at hx
       split at h
       · rename_i l hl
         split at h
         · rename_i bs hbs
           subst h
           obtain ⟨v, c1, c2⟩ := bytesStr_ok (P := P) hs h1 h2 h3 hx hl hbs
           exact wp_val (by simp only [execOp, Sem.run_bind, c1, Result.andThen_ok, Sem.run_pure]) (hk _ _ _ (.refl hs) c2)
         · exact absurd h.symm hn
       · exact absurd h.symm hn
     · rename_i q1 q2 q3 q4
       have : convV .bytesStr (opd e y) = none := by simp [convV]
       rw [this] at h
       exact absurd h.symm hn
   · exact (bad_ne h hn).elim
 · rename_i t h1 h2
   split at h
   · rename_i n h3
     simp only [evalIns] at h
     obtain ⟨v, s', e1, rfl⟩ := ofBoth_ne h hn
     obtain ⟨rfl, rfl, c1⟩ := toU_ok (P := P) hs h1 h2 h3 hx e1
     exact wp_val (by simp only [execOp, Sem.run_bind, c1, Result.andThen_ok, Sem.run_pure]) (hk _ _ _ (.refl hs) hx)
   · exact (bad_ne h hn).elim
 · rename_i t h1 h2
   split at h
   · rename_i n h3
     split at h
     · simp only [evalIns] at h
       obtain ⟨v, s', e1, rfl⟩ := ofBoth_ne h hn
       obtain ⟨rfl, rfl, c1⟩ := ofU_ok (P := P) hs h1 h2 h3 hx e1
       exact wp_val (by simp only [execOp, Sem.run_bind, c1, Result.andThen_ok, Sem.run_pure]) (hk _ _ _ (.refl hs) hx)
     · exact (bad_ne h hn).elim
   · exact (bad_ne h hn).elim
 · exact (bad_ne h hn).elim
end
end Go.V
/- SOUNDNESS: calls. -/
namespace Go.V
open Go

section
variable {P : Prog} {T : Tab} {rec : Rec}

theorem ofOpds0 {al : List Operand} (h : ofOpds P al = some []) : al = [] := by
 cases al with
 | nil => rfl
 | cons a l => unfold ofOpds at h; split at h <;> cases h

theorem ofOpdsC {al : List Operand} {x : Opd} {xs : List Opd} (h : ofOpds P al = some (x :: xs)) : ∃ X l, al = X :: l ∧ ofOpd P X = some x ∧ ofOpds P l = some xs := by
 cases al with
 | nil => simp [ofOpds] at h
 | cons a l =>
  unfold ofOpds at h
  split at h
  · cases h; exact ⟨a, l, rfl, by assumption, by assumption⟩
  · cases h

theorem ofOpds1 {al : List Operand} {x : Opd} (h : ofOpds P al = some [x]) : ∃ X, al = [X] ∧ ofOpd P X = some x := by
 obtain ⟨X, l, rfl, h1, h2⟩ := ofOpdsC h
 cases ofOpds0 h2
 exact ⟨X, rfl, h1⟩

theorem ofOpds2 {al : List Operand} {x y : Opd} (h : ofOpds P al = some [x, y]) : ∃ X Y, al = [X, Y] ∧ ofOpd P X = some x ∧ ofOpd P Y = some y := by
 obtain ⟨X, l, rfl, h1, h2⟩ := ofOpdsC h
 obtain ⟨Y, rfl, h3⟩ := ofOpds1 h2
 exact ⟨X, Y, rfl, h1, h3⟩

theorem builtin_run {a : Act} {w : World} {dst : Option Tmp} {b : Builtin} {al : List Operand} {tl : List TypeId} {ty : TypeId} {pos : String} {after : Array Edge} {g : Option (Nat × Bool)} :
 ∃ cs, (execOp a.eval ⟨dst, .call ⟨.builtin b, al.toArray, tl.toArray⟩, ty, pos, after, g⟩).run P.toProgram w = (builtin b tl.toArray ty cs (al.map a.eval).toArray).run P.toProgram w := by
 refine ⟨al.toArray.map (fun | .const _ => true | _ => false), ?_⟩
 simp only [execOp, resolve, Sem.run_bind, Sem.run_pure, Result.andThen_ok, invoke]
 rw [show al.toArray.map a.eval = (al.map a.eval).toArray by simp]
 rfl

theorem appendV_lim {φ : Phi} {s : St} {ty esz k : Nat} {x : AV} {more : List AV} {r : AV × St} {base : Option Addr} {sLen sCap : Nat} (h : appendG ty s esz x k more = some r) (hx : VRel φ x (.slice base sLen sCap)) : (sLen + k) * 65536 ≤ maxApp := by
 unfold appendG at h
 split at h
 · split at h
   · rename_i hk
     subst hk
     split at h
     · cases hx; decide
     · cases hx; decide
     · cases hx
       split at h
       · rename_i hc; simpa using hc.2
       · cases h
     · cases h
   · split at h
     · split at h
       · cases hx; rename_i hc; simpa using hc
       · cases h
     · cases hx
       split at h
       · rename_i hc; exact hc.2
       · cases h
     · cases h
 · cases h

theorem appendV_sl {φ : Phi} {s : St} {ty esz k : Nat} {x : AV} {more : List AV} {r : AV × St} {cx : Value} (h : appendG ty s esz x k more = some r) (hx : VRel φ x cx) : ∃ base sLen sCap, cx = .slice base sLen sCap := by
 unfold appendG at h
 split at h
 · split at h
   · split at h
     · cases hx; exact ⟨_, _, _, rfl⟩
     · cases hx; exact ⟨_, _, _, rfl⟩
     · cases hx; exact ⟨_, _, _, rfl⟩
     · cases h
   · split at h
     · cases hx; exact ⟨_, _, _, rfl⟩
     · cases hx; exact ⟨_, _, _, rfl⟩
     · cases h
 · cases h

theorem op_appendG {φ : Phi} {s : St} {w : World} {a : Act} {nt : Nat} {ds : List Deferred} {e : Env} {next : Act → World → Prop} {Q : Exit → Act → World → Prop}
 {dst : Option Tmp} {t u el : TypeId} {X Y : Operand} {x y : Opd} {n tyn : Nat} {l : List AV} {v : AV} {s' : St} {z : List AV} {du : TypeDesc} {ty : TypeId} {pos : String} {after : Array Edge} {g : Option (Nat × Bool)}
 (hg : GlobOk P φ) (he : RelEnv nt ds φ e a) (hs : RelSt φ s w) (hu : P.underlying t = some (.slice el)) (hsz : szOf P el = some n) (hz : zeroCellsV P el = some z) (hzl : z.length = n)
 (hxu : P.underlying u = some du) (hdu : ∀ k, du ≠ .int k) (hX : ofOpd P X = some x) (hY : ofOpd P Y = some y)
 (hl : moreV s n (opd e y) = some l) (hb : bytesOfT P el ≤ 65536) (h1 : appendG tyn s n (opd e x) (l.length / n) l = some (v, s')) (hty : ∀ t, tyn = t + 1 → t = el) (hf : Free s s'.next)
 (hk : Cont φ s w (.val v s') (fun c w' => next (a.put dst c) w') (fun c w' => Q (.panic [{ v := c, recovered := false }]) a w')) :
 Oper.wp P.toProgram ⟨dst, .call ⟨.builtin .append, [X, Y].toArray, [t, u].toArray⟩, ty, pos, after, g⟩ a w next Q := by
 have rx := opd_rel hg he hX
 have ry := opd_rel hg he hY
 obtain ⟨k, k1, k2, k3⟩ := more_ok (P := P) hs ry hl
 obtain ⟨base, sLen, sCap, hcx⟩ := appendV_sl h1 rx
 rw [hcx] at rx
 obtain ⟨d, i, hd, hi, hsi⟩ := szOf_some hsz
 have hbi : i.bytes ≤ 65536 := by simpa [bytesOfT, hi] using hb
 obtain ⟨cz, z1, z2⟩ := zeroCells_rel hz
 have hcz : ∃ zv, i.zero = some zv ∧ zv.cells.size = n := by
  simp only [zeroCellsV, hi, Option.bind_some] at hz
  cases hzz : i.zero with
  | none => rw [hzz] at hz; simp at hz
  | some zv =>
   rw [hzz] at hz
   refine ⟨zv, rfl, ?_⟩
   have := (constAVs_rel (φ := φ) 8 hz).length
   simp at this
   omega
 obtain ⟨zv, hzv, hzs⟩ := hcz
 have hkk : l.length / n = k := by
  have hn0 : 0 < n := by
   unfold appendG at h1
   split at h1
   · rename_i hc; exact hc.2.2
   · cases h1
  rw [k1]; exact Nat.mul_div_cancel _ hn0
 rw [hkk] at h1
 have hlim := appendV_lim h1 rx
 obtain ⟨c, w', φ', c1, c2, c3⟩ := appendRest_ok (P := P) (el := el) (zv := zv) hs rx hzs k3 hty h1 hf
 obtain ⟨cs, hrun⟩ := builtin_run (P := P) (a := a) (w := w) (dst := dst) (b := .append) (al := [X, Y]) (tl := [t, u]) (ty := ty) (pos := pos) (after := after) (g := g)
 refine wp_val (c := c) (w' := w') ?_ (hk _ _ _ c2 c3)
 rw [hrun]
 simp only [builtin, Sem.run_bind, List.map_cons, List.map_nil, hcx]
 have := append_core (P := P) (w := w) (argTypes := [t, u].toArray) (ty := ty) (sT := t) (xT := u) (el := el) (esz := n) (n := k) (base := base) (sLen := sLen) (sCap := sCap) (cx := a.eval Y) (zv := zv) (ei := i)
  rfl rfl hu hi hsi hbi hzv hxu hdu k2 hlim
 rw [show [Value.slice base sLen sCap, a.eval Y].toArray = #[Value.slice base sLen sCap, a.eval Y] from rfl, this, c1]
 rfl

theorem op_append {φ : Phi} {s : St} {w : World} {a : Act} {nt : Nat} {ds : List Deferred} {e : Env} {r : Res} {next : Act → World → Prop} {Q : Exit → Act → World → Prop}
 {dst : Option Tmp} {t u el : TypeId} {X Y : Operand} {x y : Opd} {n : Nat} {z : List AV} {du : TypeDesc} {ty : TypeId} {pos : String} {after : Array Edge} {g : Option (Nat × Bool)}
 (hg : GlobOk P φ) (he : RelEnv nt ds φ e a) (hs : RelSt φ s w) (hu : P.underlying t = some (.slice el)) (hsz : szOf P el = some n) (hz : zeroCellsV P el = some z) (hzl : z.length = n)
 (hxu : P.underlying u = some du) (hdu : ∀ k, du ≠ .int k) (hX : ofOpd P X = some x) (hY : ofOpd P Y = some y)
 (hev : evalIns T rec e s (.append n (bytesOfT P el) x y) = r) (hn : r ≠ .fail) (hf : Free s r.nextId)
 (hk : Cont φ s w r (fun c w' => next (a.put dst c) w') (fun c w' => Q (.panic [{ v := c, recovered := false }]) a w')) :
 Oper.wp P.toProgram ⟨dst, .call ⟨.builtin .append, [X, Y].toArray, [t, u].toArray⟩, ty, pos, after, g⟩ a w next Q := by
 simp only [evalIns] at hev
 split at hev
 · rename_i l hl
   split at hev
   · rename_i hb
     obtain ⟨v, s', h1, rfl⟩ := ofBoth_ne hev hn
     exact op_appendG hg he hs hu hsz hz hzl hxu hdu hX hY hl hb h1 (fun t h => by omega) hf hk
   · exact absurd hev.symm hn
 · exact absurd hev.symm hn

theorem op_appIns {φ : Phi} {s : St} {w : World} {a : Act} {nt : Nat} {ds : List Deferred} {e : Env} {r : Res} {next : Act → World → Prop} {Q : Exit → Act → World → Prop}
 {dst : Option Tmp} {t u el : TypeId} {X Y : Operand} {x y : Opd} {n : Nat} {z : List AV} {du : TypeDesc} {ty : TypeId} {pos : String} {after : Array Edge} {g : Option (Nat × Bool)}
 (hg : GlobOk P φ) (he : RelEnv nt ds φ e a) (hs : RelSt φ s w) (hu : P.underlying t = some (.slice el)) (hsz : szOf P el = some n) (hz : zeroCellsV P el = some z) (hzl : z.length = n)
 (hxu : P.underlying u = some du) (hdu : ∀ k, du ≠ .int k) (hX : ofOpd P X = some x) (hY : ofOpd P Y = some y)
 (hev : evalIns T rec e s (appIns P el n x y) = r) (hn : r ≠ .fail) (hf : Free s r.nextId)
 (hk : Cont φ s w r (fun c w' => next (a.put dst c) w') (fun c w' => Q (.panic [{ v := c, recovered := false }]) a w')) :
 Oper.wp P.toProgram ⟨dst, .call ⟨.builtin .append, [X, Y].toArray, [t, u].toArray⟩, ty, pos, after, g⟩ a w next Q := by
 unfold appIns at hev
 split at hev
 · rename_i hc
   obtain ⟨c1, c2, c3⟩ := hc
   simp only [evalIns] at hev
   obtain ⟨v, s', h1, rfl⟩ := ofBoth_ne hev hn
   simp only [bldV] at h1
   split at h1
   · rename_i l hl
     subst c2
     exact op_appendG hg he hs hu hsz hz hzl hxu hdu hX hY hl c3 (by rw [Nat.div_one]; exact h1) (fun t h => by omega) hf hk
   · cases h1
 · exact op_append hg he hs hu hsz hz hzl hxu hdu hX hY hev hn hf hk

theorem op_appendZ {φ : Phi} {s : St} {w : World} {a : Act} {nt : Nat} {ds : List Deferred} {e : Env} {r : Res} {next : Act → World → Prop} {Q : Exit → Act → World → Prop}
 {dst : Option Tmp} {t u el : TypeId} {X Y : Operand} {x y : Opd} {n : Nat} {z : List AV} {k' : IntKind} {ty : TypeId} {pos : String} {after : Array Edge} {g : Option (Nat × Bool)}
 (hg : GlobOk P φ) (he : RelEnv nt ds φ e a) (hs : RelSt φ s w) (hu : P.underlying t = some (.slice el)) (hsz : szOf P el = some n) (hz : zeroCellsV P el = some z) (hzl : z.length = n)
 (hxu : P.underlying u = some (.int k')) (hX : ofOpd P X = some x) (hY : ofOpd P Y = some y)
 (hev : evalIns T rec e s (.appendZ n (bytesOfT P el) z x y) = r) (hn : r ≠ .fail) (hf : Free s r.nextId)
 (hk : Cont φ s w r (fun c w' => next (a.put dst c) w') (fun c w' => Q (.panic [{ v := c, recovered := false }]) a w')) :
 Oper.wp P.toProgram ⟨dst, .call ⟨.builtin .append, [X, Y].toArray, [t, u].toArray⟩, ty, pos, after, g⟩ a w next Q := by
 simp only [evalIns] at hev
 split at hev
 · rename_i k hkn
   split at hev
   · rename_i hb
     obtain ⟨hb, _⟩ := hb
     obtain ⟨v, s', h1, rfl⟩ := ofBoth_ne hev hn
     have rx := opd_rel hg he hX
     have ry := opd_rel hg he hY
     obtain ⟨kk, hcy⟩ : ∃ kk, a.eval Y = .int kk (Int.ofNat k) := by
      unfold bitsNonneg at hkn
      split at hkn
      · rename_i hq; cases hkn; rw [hq] at ry; cases hyy : a.eval Y <;> rw [hyy] at ry <;> cases ry; exact ⟨_, rfl⟩
      · cases hkn
     obtain ⟨base, sLen, sCap, hcx⟩ := appendV_sl h1 rx
     rw [hcx] at rx
     obtain ⟨d, i, hd, hi, hsi⟩ := szOf_some hsz
     have hbi : i.bytes ≤ 65536 := by simpa [bytesOfT, hi] using hb
     have hn0 : 0 < n := by
      unfold appendV appendG at h1
      split at h1
      · rename_i hc; exact hc.2.2
      · cases h1
     have hcz : ∃ zv, i.zero = some zv ∧ VRels φ z zv.cells.toList := by
      simp only [zeroCellsV, hi, Option.bind_some] at hz
      cases hzz : i.zero with
      | none => rw [hzz] at hz; simp at hz
      | some zv =>
       rw [hzz] at hz
       exact ⟨zv, rfl, constAVs_rel (φ := φ) 8 hz⟩
     obtain ⟨zv, hzv, hzr⟩ := hcz
     have hzs : zv.cells.size = n := by have := hzr.length; simp at this; omega
     have hzv' : ∀ w1 : World, (zeroValue el).run P.toProgram w1 = .ok zv w1 := fun w1 => run_zeroValue hi hzv
     have hgives : Gives P w φ (if k * n = 0 then pure #[] else do pure (Builtin.zeroCells (← zeroValue el).cells k)) (zerosV z k) := by
      have hzz := zeros_rel hzr (by omega) k
      refine ⟨_, hzz, fun w1 _ => ?_⟩
      split
      · rename_i h0
        have : k = 0 := by
         rcases Nat.mul_eq_zero.1 h0 with h | h <;> omega
        subst this
        simp [Builtin.zeroCells]
      · simp only [Sem.run_bind, hzv', Result.andThen_ok, Sem.run_pure]
     have hlim := appendV_lim h1 rx
     obtain ⟨c, w', φ', c1, c2, c3⟩ := appendRest_ok (P := P) (ty := 0) (el := el) (zv := zv) hs rx hzs hgives (fun t h => by omega) h1 hf
     obtain ⟨cs, hrun⟩ := builtin_run (P := P) (a := a) (w := w) (dst := dst) (b := .append) (al := [X, Y]) (tl := [t, u]) (ty := ty) (pos := pos) (after := after) (g := g)
     refine wp_val (c := c) (w' := w') ?_ (hk _ _ _ c2 c3)
     rw [hrun]
     simp only [builtin, Sem.run_bind, List.map_cons, List.map_nil, hcx, hcy]
     have := append_coreZ (P := P) (w := w) (argTypes := [t, u].toArray) (ty := ty) (sT := t) (xT := u) (el := el) (esz := n) (n := k) (base := base) (sLen := sLen) (sCap := sCap) (k := kk) (zv := zv) (ei := i)
      rfl rfl hu hi hsi hbi hzv hxu hlim
     rw [show [Value.slice base sLen sCap, Value.int kk (Int.ofNat k)].toArray = #[Value.slice base sLen sCap, Value.int kk (Int.ofNat k)] from rfl, this, c1]
     rfl
   · exact absurd hev.symm hn
 · exact absurd hev.symm hn

theorem methOf_mem {t f : Nat} : ∀ {tbl : List (Nat × Nat)}, methOf t tbl = some f → (t, f) ∈ tbl
 | [], h => by cases h
 | (u, g) :: r, h => by
  simp only [methOf] at h
  cases hb : Nat.beq u t with
  | true => rw [hb] at h; cases h; have := Nat.eq_of_beq_eq_true hb; subst this; simp
  | false => rw [hb] at h; exact List.mem_cons_of_mem _ (methOf_mem h)
theorem methT_run {P : Prog} {name : String} {t f : Nat} (h : (t, f) ∈ methT P name) (n : Nat) (v : Value) (w : World) : (method (n + 1) t v name).run P.toProgram w = .ok (f, v) w := by
 unfold methT at h
 obtain ⟨t', _, h⟩ := List.mem_filterMap.1 h
 split at h
 · rename_i i hi
   split at h
   · rename_i m hm
     split at h
     · rename_i f' pr hmf hmp
       have hti : (typeInfo t').run P.toProgram w = .ok i w := by simp [typeInfo, hi]
       split at h
       · rename_i el hu
         cases h
         simp only [method, Sem.run_bind, hti, Result.andThen_ok, hm, hmp, follow, Sem.run_pure, hmf, receiverAt, run_underlying_some hu, Place.get]
       · cases h
       · rename_i d hnp hu
         cases h
         simp only [method, Sem.run_bind, hti, Result.andThen_ok, hm, hmp, follow, Sem.run_pure, hmf, receiverAt, run_underlying_some hu, Place.get]
       · cases h
     · cases h
   · cases h
 · cases h
theorem freeze_heap (w : World) (b n k : Nat) : (w.freeze ⟨b, 0, none⟩ n).heap[k]? = w.heap[k]? ∨ (k = b ∧ ∃ cc el fz fz', w.heap[k]? = some (.cells cc el fz) ∧ (w.freeze ⟨b, 0, none⟩ n).heap[k]? = some (.cells cc el fz')) := by
 unfold World.freeze
 split
 · exact .inl rfl
 · by_cases hk : b = k
   · subst hk
     simp only [Array.getElem?_modify, if_true]
     cases h : w.heap[b]? with
     | none => simp
     | some o =>
      cases o with
      | cells cc el fz => exact .inr ⟨trivial, cc, el, fz, _, rfl, rfl⟩
      | _ => exact .inl (by simp)
   · left
     simp only [Array.getElem?_modify, if_neg hk]

theorem freeze_step {φ : Phi} {s : St} {w : World} (hs : RelSt φ s w) {id : Nat} {cs : List AV} {lo inc n : Nat} {x : Inc} (ho : s.heap.get id = some (.cells cs lo inc false)) (hx : φ id inc = some x) :
 Step φ s w φ (s.put id (.cells cs lo inc true)) (w.freeze ⟨x.blk, 0, none⟩ n) := by
 have hsz : (w.freeze ⟨x.blk, 0, none⟩ n).heap.size = w.heap.size := by unfold World.freeze; split <;> simp
 have hob := hs.obj _ _ ho
 refine step_put hs ho hx (by intro _ _ _ e; cases e) (by intro _ _ _ _ e k y hy; cases e; exact hs.incs _ _ _ _ _ _ _ hy ho) hsz (fun b hb => ?_) ?_ ?_ ?_ ?_ ⟨hob.1, fun k h1 h2 => ?_⟩
 · rcases freeze_heap w x.blk n b with h | ⟨h, _⟩
   · exact h
   · exact absurd h hb
 · rcases freeze_heap w x.blk n x.blk with h | ⟨_, cc, el, fz, fz', h1, h2⟩
   · exact shape_of_same h
   · simp only [World.shape?, h1, h2]
 · unfold World.freeze; split <;> rfl
 · unfold World.freeze; split <;> rfl
 · unfold World.freeze; split <;> rfl
 · obtain ⟨y, hy, cc, el, fz, hh, e1, e2, e3, e4, e5, e6, e7⟩ := hob.2 k h1 h2
   rcases freeze_heap w x.blk n y.blk with h | ⟨_, cc', el', fz0, fz', q1, q2⟩
   · exact ⟨y, hy, cc, el, fz, by rw [h]; exact hh, e1, by simp, e3, e4, e5, e6, e7⟩
   · rw [hh] at q1
     cases q1
     exact ⟨y, hy, cc, el, fz', q2, e1, by simp, e3, e4, e5, e6, e7⟩

theorem loadBytes_run {φ : Phi} {w : World} {b : Nat} : ∀ (l : List AV) (cl : List Value) (bs : List UInt8) (acc : ByteArray) (o : Nat), VRels φ l cl → bytesAV l = some bs → (∀ j v, cl[j]? = some v → w.cell? ⟨b, o + j, none⟩ = some v) →
 ∃ r : ByteArray, (loadBytes ⟨b, o, none⟩ acc l.length).run P.toProgram w = .ok r w ∧ r.data.toList = acc.data.toList ++ bs
 | [], cl, bs, acc, o, h, hb, _ => by
  cases h
  simp [bytesAV] at hb; subst hb
  exact ⟨acc, by simp [loadBytes], by simp⟩
 | v :: l, cl, bs, acc, o, h, hb, hc => by
  cases h
  rename_i c cl h1 h2
  unfold bytesAV at hb
  split at hb
  · rename_i n
    split at hb
    · rename_i r hr
      cases hb
      cases h1
      have h0 : w.cell? ⟨b, o, none⟩ = some (.int .u8 (.ofNat n)) := by simpa using hc 0 _ rfl
      obtain ⟨q, q1, q2⟩ := loadBytes_run l cl r (acc.push (UInt8.ofNat n)) (o + 1) h2 hr (fun j v hj => by rw [show o + 1 + j = o + (j + 1) by omega]; exact hc (j + 1) v (by simpa using hj))
      refine ⟨q, ?_, ?_⟩
      · simp only [List.length_cons, loadBytes, Sem.run_bind, run_load, h0, Nat.add_zero, Result.andThen]
        rw [show (⟨b, o, none⟩ : Addr).add 1 = ⟨b, o + 1, none⟩ by simp [Addr.add]]
        exact q1
      · rw [q2]; simp
    · cases hb
  · cases hb

theorem bstr_ok {φ : Phi} {s : St} {w : World} (hs : RelSt φ s w) {pt el ty : TypeId} {tl : List TypeId} {x y v : AV} {cx cy : Value} {s' : St} (hp : P.underlying pt = some (.pointer el)) (hc : szOf P el = some 1)
 (hx : VRel φ x cx) (hy : VRel φ y cy) (hb : bldV (.str el) x y s = some (v, s')) :
 ∃ c w' φ', (Builtin.unsafeString_ (pt :: tl).toArray ty #[cx, cy]).run P.toProgram w = .ok c w' ∧ Step φ s w φ' s' w' ∧ VRel φ' v c := by
 have hmax : IntKind.i64.max = 9223372036854775807 := rfl
 simp only [bldV] at hb
 split at hb
 · cases hb
   cases hx
   cases hy
   refine ⟨.string .empty, w, φ, ?_, .refl hs, .str ByteArray.empty⟩
   rename_i k
   have hdef : Builtin.unsafeString_ (pt :: tl).toArray ty #[.pointer none, .int k (.ofNat 0)] =
    (do
     let n ← asInt (.int k (.ofNat 0))
     if n < 0 then runtimePanic (.error "unsafe.String: len out of range")
     if n > IntKind.i64.max then unsupported (.unsafePointer "String: a length above the largest int")
     if n = 0 then pure (.string .empty)
     else runtimePanic (.error "unsafe.String: ptr is nil and len is not zero")) := rfl
   rw [hdef]
   simp [asInt, asIntOf, hmax]
 · rename_i a k n
   split at hb
   · rename_i cs lo inc ho
     split at hb
     · rename_i hcc
       obtain ⟨c1, c2, c3, c4, c5, c6, c7⟩ := hcc
       split at hb
       · rename_i bs hbs
         cases hb
         cases hx
         cases hy
         rename_i x g1 g2 g3
         obtain ⟨t1, t2⟩ := hs.typ _ _ _ _ g1 (typed_spec c1)
         rw [c2] at g1
         obtain ⟨cc, el0, fz, hh, e1, e2, e3, e4, e5, e6, e7⟩ := cells_inv hs ho g1 c3 (Nat.le_refl _)
         have hz : x.base + (a.off - x.sh) = 0 := by omega
         have hsh : x.sh = 0 := by omega
         rw [hz]
         have hrd : s.readAt a n = some (cs.take n) := by
          unfold St.readAt
          simp only [ho, c5]
          rw [if_pos ⟨by omega, by omega, by omega⟩]
          simp
         have g1' : φ a.id a.inc = some x := by rw [c2]; exact g1
         obtain ⟨cl, d1, d2, d3, d4⟩ := read_ok hs hrd (.ptr g1' g2 g3)
         rw [hz] at d4
         obtain ⟨r, r1, r2⟩ := loadBytes_run (P := P) (b := x.blk) (cs.take n) cl bs ByteArray.empty 0 d3 hbs (fun j v hj => by
          have := d4 j v hj
          rwa [show (⟨x.blk, 0, none⟩ : Addr).add j = ⟨x.blk, 0 + j, none⟩ by simp [Addr.add]; intro h; omega] at this)
         rw [d2] at r1
         have hr : bs = r.data.toList := by rw [r2]; simp
         refine ⟨.string r, w.freeze ⟨x.blk, 0, none⟩ n, φ, ?_, freeze_step hs ho g1, by rw [hr]; exact .str _⟩
         have hdef : Builtin.unsafeString_ (pt :: tl).toArray ty #[.pointer (some ⟨x.blk, 0, none⟩), .int k (.ofNat n)] =
          (do
           let n ← asInt (.int k (.ofNat n))
           if n < 0 then runtimePanic (.error "unsafe.String: len out of range")
           if n > IntKind.i64.max then unsupported (.unsafePointer "String: a length above the largest int")
           if n = 0 then pure (.string .empty)
           else if ← variablesAt ⟨x.blk, 0, none⟩ (← elemOf pt) n.toNat then do
            let s ← loadBytes ⟨x.blk, 0, none⟩ .empty n.toNat
            freeze ⟨x.blk, 0, none⟩ n.toNat
            pure (.string s)
           else unsupported (.unsafePointer "String: not so many bytes at ptr")) := rfl
         rw [hdef]
         have hlies := Lib.liesAt_bytes (P := P.toProgram) (cellsOf_sz hc) (x.top / P.toProgram.cellsOf el) n (by rw [cellsOf_sz hc, Nat.div_one]; omega)
         have hn0 : n ≠ 0 := by omega
         have h63 : ¬ (9223372036854775807 : Int) < (n : Int) := by unfold maxApp at c7; omega
         have hneg : ¬ (n : Int) < 0 := by omega
         simp [asInt, asIntOf, hmax, h63, hneg, hn0, variablesAt, t1, elemOf, run_underlying_some hp, hlies, r1]
       · cases hb
     · cases hb
   · cases hb
 · cases hb

theorem op_call (hF : FuncsOk P T rec) {dst : Option Tmp} {c : Call} {ty : TypeId} {pos : String} {after : Array Edge} {g : Option (Nat × Bool)} : OpOk P T rec ⟨dst, .call c, ty, pos, after, g⟩ := by
 obtain ⟨callee, ⟨al⟩, ⟨tl⟩⟩ := c
 intro φ s w a nt ds e r next Q hg he hs hev hn hf hk
 simp only [ofOp, callIns] at hev
 split at hev
 · exact (bad_ne hev hn).elim
 · rename_i args hargs
   have rargs := opds_rel hg he hargs
   split at hev
   · -- a function
     rename_i f
     simp only [evalIns] at hev
     have := hF f (opds e args) s r hev hn φ w _ hg hs rargs hf ⟨dst, .call ⟨.value (.func f), ⟨al⟩, ⟨tl⟩⟩, ty, pos, after, g⟩ a next Q hk
     unfold Oper.wp
     simp only [execOp, resolve, Sem.run_bind, Act.eval, Deferred.ofValue, Sem.run_pure, Result.andThen_ok, invoke]
     simpa using this
   · -- a function's value
     rename_i x hx
     obtain ⟨y, hy, h⟩ := map1_ne hev hn
     have rx := opd_rel hg he hy
     simp only [evalIns] at h
     split at h
     · rename_i f l m hc
       rw [hc] at rx
       obtain ⟨cl, cm, hcx, rl, rm⟩ : ∃ cl cm, a.eval x = .func (.func f) cl.toArray cm.toArray ∧ VRels φ l cl ∧ VRels φ m cm := by
        cases hcx : a.eval x <;> rw [hcx] at rx <;> cases rx
        exact ⟨_, _, rfl, by assumption, by assumption⟩
       have := hF f (l ++ opds e args ++ m) s r h hn φ w _ hg hs ((rl.append rargs).append rm) hf ⟨dst, .call ⟨.value x, ⟨al⟩, ⟨tl⟩⟩, ty, pos, after, g⟩ a next Q hk
       unfold Oper.wp
       simp only [execOp, resolve, Sem.run_bind, hcx, Deferred.ofValue, Sem.run_pure, Result.andThen_ok, invoke]
       simpa using this
     · exact absurd h.symm hn
   · -- a method of what an interface holds
     rename_i x name
     obtain ⟨y, hy, h⟩ := map1_ne hev hn
     have rx := opd_rel hg he hy
     simp only [evalIns] at h
     split at h
     · rename_i t v hc
       rw [hc] at rx
       split at h
       · rename_i f hmf
         obtain ⟨cv, hcx, rv⟩ : ∃ cv, a.eval x = .iface t cv ∧ VRel φ v cv := by
          cases hcx : a.eval x <;> rw [hcx] at rx <;> cases rx
          exact ⟨_, rfl, by assumption⟩
         have hm := methT_run (methOf_mem hmf) (P.types.size + 99) cv w
         have := hF f (v :: opds e args) s r h hn φ w _ hg hs (.cons rv rargs) hf ⟨dst, .call ⟨.invoke x name, ⟨al⟩, ⟨tl⟩⟩, ty, pos, after, g⟩ a next Q hk
         have he2 : (execOp a.eval ⟨dst, .call ⟨.invoke x name, ⟨al⟩, ⟨tl⟩⟩, ty, pos, after, g⟩).run P.toProgram w = (callFunc f (#[cv] ++ (al.map a.eval).toArray)).run P.toProgram w := by
          simp only [execOp, resolve, Sem.run_bind, hcx, Sem.run_pure, Result.andThen_ok, invoke]
          have e1 : (#[Value.iface t cv] ++ Array.map a.eval { toList := al })[0]? = some (.iface t cv) := by simp
          have e2 : (#[Value.iface t cv] ++ Array.map a.eval { toList := al }).extract 1 (#[Value.iface t cv] ++ Array.map a.eval { toList := al }).size = (al.map a.eval).toArray := by
           apply Array.ext'
           simp
           exact List.take_of_length_le (by simp)
          simp only [e1, e2, callMethod, Sem.run_bind]
          have hm' : (method (P.types.size + Made.depth) t cv name).run P.toProgram w = .ok (f, cv) w := hm
          simp only [run_program, Result.andThen_ok, hm']
         unfold Oper.wp
         rw [he2]
         simpa using this
       · exact absurd h.symm hn
     · exact absurd h.symm hn
   · -- a builtin
     rename_i b
     obtain ⟨cs, hrun⟩ := builtin_run (P := P) (a := a) (w := w) (dst := dst) (b := b) (al := al) (tl := tl) (ty := ty) (pos := pos) (after := after) (g := g)
     have done : ∀ (c : Value) (w' : World), (builtin b tl.toArray ty cs (al.map a.eval).toArray).run P.toProgram w = .ok (.value c) w' → next (a.put dst c) w' → Oper.wp P.toProgram ⟨dst, .call ⟨.builtin b, al.toArray, tl.toArray⟩, ty, pos, after, g⟩ a w next Q := by
      intro c w' h1 h2
      exact wp_val (c := c) (w' := w') (by rw [hrun]; exact h1) h2
     split at hev
     · -- len
       rename_i x t
       obtain ⟨X, rfl, hX⟩ := ofOpds1 hargs
       have rx := opd_rel hg he hX
       split at hev
       · rename_i hu
         simp only [evalIns] at hev
         split at hev
         · rename_i l hc
           subst hev
           rw [hc] at rx
           cases hcx : a.eval X <;> rw [hcx] at rx <;> cases rx
           rename_i str
           refine done (.int .i64 str.size) w ?_ (hk _ _ _ (.refl hs) (by rw [mkInt_eq]; exact .int _ _))
           simp [builtin, Builtin.len_, hcx, run_underlying_some hu, goInt]
         · exact absurd hev.symm hn
       · rename_i el hu
         simp only [evalIns] at hev
         split at hev
         · rename_i ad len cap ex es hc
           subst hev
           rw [hc] at rx
           cases hcx : a.eval X <;> rw [hcx] at rx <;> cases rx
           refine done (.int .i64 len) w ?_ (hk _ _ _ (.refl hs) (by rw [mkInt_eq]; exact .int _ _))
           simp [builtin, Builtin.len_, hcx, run_underlying_some hu, goInt]
         · rename_i hc
           subst hev
           rw [hc] at rx
           cases hcx : a.eval X <;> rw [hcx] at rx <;> cases rx
           refine done (.int .i64 0) w ?_ (hk _ _ _ (.refl hs) (.int _ _))
           simp [builtin, Builtin.len_, hcx, run_underlying_some hu, goInt]
         · rename_i hc
           subst hev
           rw [hc] at rx
           cases hcx : a.eval X <;> rw [hcx] at rx <;> cases rx
           refine done (.int .i64 0) w ?_ (hk _ _ _ (.refl hs) (.int _ _))
           simp [builtin, Builtin.len_, hcx, run_underlying_some hu, goInt]
         · exact absurd hev.symm hn
       · rename_i n el hu
         simp only [evalIns] at hev
         subst hev
         refine done (.int .i64 n) w ?_ (hk _ _ _ (.refl hs) (.int _ _))
         simp [builtin, Builtin.len_, run_underlying_some hu, goInt]
       · rename_i el hu
         split at hev
         · rename_i n el' hu'
           simp only [evalIns] at hev
           subst hev
           refine done (.int .i64 n) w ?_ (hk _ _ _ (.refl hs) (.int _ _))
           simp [builtin, Builtin.len_, run_underlying_some hu, run_underlying_some hu', goInt]
         · exact (bad_ne hev hn).elim
       · rename_i kt el hu
         simp only [evalIns] at hev
         split at hev
         · rename_i hc
           subst hev
           rw [hc] at rx
           cases hcx : a.eval X <;> rw [hcx] at rx <;> cases rx
           refine done (.int .i64 0) w ?_ (hk _ _ _ (.refl hs) (.int _ _))
           simp [builtin, Builtin.len_, hcx, run_underlying_some hu, goInt]
         · rename_i rr hc
           split at hev
           · rename_i es cl ho
             subst hev
             rw [hc] at rx
             cases hcx : a.eval X <;> rw [hcx] at rx <;> cases rx
             rename_i q hq
             obtain ⟨ces, q1, q2⟩ := map_inv hs ho hq
             refine done (.int .i64 es.length) w ?_ (hk _ _ _ (.refl hs) (by rw [mkInt_eq]; exact .int _ _))
             have hl : ces.size = es.length := by have := q2.length; simpa using this.symm
             simp [builtin, Builtin.len_, hcx, run_underlying_some hu, goInt, run_getObj q1, hl]
           · exact absurd hev.symm hn
         · exact absurd hev.symm hn
       · exact (bad_ne hev hn).elim
     · -- cap
       rename_i x t
       obtain ⟨X, rfl, hX⟩ := ofOpds1 hargs
       have rx := opd_rel hg he hX
       split at hev
       · rename_i el hu
         simp only [evalIns] at hev
         split at hev
         · rename_i ad len cap es hc
           subst hev
           rw [hc] at rx
           obtain ⟨q, cap', hcx, _, _, _, _, _, _, hex, _⟩ := rx.slice_inv
           have := hex rfl
           subst this
           refine done (.int .i64 cap') w ?_ (hk _ _ _ (.refl hs) (by rw [mkInt_eq]; exact .int _ _))
           simp [builtin, Builtin.cap_, hcx, run_underlying_some hu, goInt]
         · rename_i hc
           subst hev
           rw [hc] at rx
           cases hcx : a.eval X <;> rw [hcx] at rx <;> cases rx
           refine done (.int .i64 0) w ?_ (hk _ _ _ (.refl hs) (.int _ _))
           simp [builtin, Builtin.cap_, hcx, run_underlying_some hu, goInt]
         · exact absurd hev.symm hn
       · exact (bad_ne hev hn).elim
     · -- append
       rename_i x y t u
       obtain ⟨X, Y, rfl, hX, hY⟩ := ofOpds2 hargs
       split at hev
       · rename_i el hu
         split at hev
         · rename_i n z hsz hz
           split at hev
           · exact (bad_ne hev hn).elim
           · rename_i hzl
             have hzl' : z.length = n := by simpa using hzl
             split at hev
             · rename_i k hxu
               exact op_appendZ hg he hs hu hsz hz hzl' hxu hX hY hev hn hf hk
             · rename_i el' hxu
               exact op_appIns hg he hs hu hsz hz hzl' hxu (by intro k; simp) hX hY hev hn hf hk
             · rename_i hxu
               exact op_appIns hg he hs hu hsz hz hzl' hxu (by intro k; simp) hX hY hev hn hf hk
             · exact (bad_ne hev hn).elim
         · exact (bad_ne hev hn).elim
       · exact (bad_ne hev hn).elim
     · -- unsafe.SliceData
       rename_i x _
       obtain ⟨X, rfl, hX⟩ := ofOpds1 hargs
       have rx := opd_rel hg he hX
       split at hev
       · exact (bad_ne hev hn).elim
       simp only [evalIns] at hev
       obtain ⟨v, s', h1, rfl⟩ := ofBoth_ne hev hn
       simp only [bldV] at h1
       split at h1
       · rename_i ad len cap ex es hc
         split at h1
         · cases h1
           rw [hc] at rx
           obtain ⟨cx, hcx⟩ : ∃ cx, a.eval X = cx := ⟨_, rfl⟩
           rw [hcx] at rx
           cases rx
           rename_i x cap' g1 g2 g3 g4 g5 g6 g7 g8
           refine done (.pointer (some ⟨x.blk, x.base + (ad.off - x.sh), none⟩)) w ?_ (hk _ _ _ (.refl hs) (.ptr g1 g2 g3))
           simp only [builtin, Sem.run_bind, List.map_cons, List.map_nil, hcx]
           have := Lib.run_unsafeSliceData_row (P := P.toProgram) w tl.toArray ty ⟨x.blk, x.base + (ad.off - x.sh), none⟩ len cap' (by omega)
           rw [show [Value.slice (some ⟨x.blk, x.base + (ad.off - x.sh), none⟩) len cap'].toArray = #[Value.slice (some ⟨x.blk, x.base + (ad.off - x.sh), none⟩) len cap'] from rfl, this]
           rfl
         · cases h1
       · rename_i hc
         cases h1
         rw [hc] at rx
         cases hcx : a.eval X <;> rw [hcx] at rx <;> cases rx
         refine done (.pointer none) w ?_ (hk _ _ _ (.refl hs) .nilPtr)
         simp only [builtin, Sem.run_bind, List.map_cons, List.map_nil, hcx]
         rfl
       · cases h1
     · -- unsafe.String
       rename_i x y pt tl'
       obtain ⟨X, Y, rfl, hX, hY⟩ := ofOpds2 hargs
       have rx := opd_rel hg he hX
       have ry := opd_rel hg he hY
       split at hev
       · rename_i el hu
         split at hev
         · rename_i hb
           simp only [evalIns] at hev
           obtain ⟨v, s', h1, rfl⟩ := ofBoth_ne hev hn
           obtain ⟨c, w', φ', c1, c2, c3⟩ := bstr_ok (P := P) hs hu hb.2 rx ry h1 (pt := pt) (tl := tl') (ty := ty)
           refine done c w' ?_ (hk _ _ _ c2 c3)
           simp only [builtin, Sem.run_bind, List.map_cons, List.map_nil]
           rw [show [a.eval X, a.eval Y].toArray = #[a.eval X, a.eval Y] from rfl, c1]
           rfl
         · exact (bad_ne hev hn).elim
       · exact (bad_ne hev hn).elim
     · -- min
       simp only [evalIns] at hev
       split at hev
       · rename_i x l hc
         obtain ⟨v, h1, rfl⟩ := ofOpt_ne hev hn
         rw [hc] at rargs
         generalize hcl : al.map a.eval = cl at *
         cases rargs
         rename_i cx cl r1 r2
         obtain ⟨c, c1, c2⟩ := minmax_ok (P := P) r1 r2 h1
         refine done c w ?_ (hk _ _ _ (.refl hs) c2)
         have c1' := c1 w
         simp only [builtin, Builtin.min_, Sem.run_bind]
         rw [show Builtin.min2 = mm false from rfl, c1']
         rfl
       · exact absurd hev.symm hn
     · -- max
       simp only [evalIns] at hev
       split at hev
       · rename_i x l hc
         obtain ⟨v, h1, rfl⟩ := ofOpt_ne hev hn
         rw [hc] at rargs
         generalize hcl : al.map a.eval = cl at *
         cases rargs
         rename_i cx cl r1 r2
         obtain ⟨c, c1, c2⟩ := minmax_ok (P := P) r1 r2 h1
         refine done c w ?_ (hk _ _ _ (.refl hs) c2)
         have c1' := c1 w
         simp only [builtin, Builtin.max_, Sem.run_bind]
         rw [show Builtin.max2 = mm true from rfl, c1']
         rfl
       · exact absurd hev.symm hn
     · -- real
       rename_i x
       obtain ⟨X, rfl, hX⟩ := ofOpds1 hargs
       have rx := opd_rel hg he hX
       simp only [evalIns] at hev
       split at hev
       · rename_i k p q hc
         subst hev
         rw [hc] at rx
         cases hcx : a.eval X <;> rw [hcx] at rx <;> cases rx
         refine done (.float k p) w ?_ (hk _ _ _ (.refl hs) (.float _ _))
         simp only [builtin, Sem.run_bind, List.map_cons, List.map_nil, hcx]
         rfl
       · exact absurd hev.symm hn
     · -- imag
       rename_i x
       obtain ⟨X, rfl, hX⟩ := ofOpds1 hargs
       have rx := opd_rel hg he hX
       simp only [evalIns] at hev
       split at hev
       · rename_i k p q hc
         subst hev
         rw [hc] at rx
         cases hcx : a.eval X <;> rw [hcx] at rx <;> cases rx
         refine done (.float k q) w ?_ (hk _ _ _ (.refl hs) (.float _ _))
         simp only [builtin, Sem.run_bind, List.map_cons, List.map_nil, hcx]
         rfl
       · exact absurd hev.symm hn
     · -- complex
       rename_i x y
       obtain ⟨X, Y, rfl, hX, hY⟩ := ofOpds2 hargs
       have rx := opd_rel hg he hX
       have ry := opd_rel hg he hY
       simp only [evalIns] at hev
       split at hev
       · rename_i k p k' q hc1 hc2
         split at hev
         · rename_i hkk
           subst hkk
           subst hev
           rw [hc1] at rx
           rw [hc2] at ry
           cases hcx : a.eval X <;> rw [hcx] at rx <;> cases rx
           cases hcy : a.eval Y <;> rw [hcy] at ry <;> cases ry
           refine done (.complex k p q) w ?_ (hk _ _ _ (.refl hs) (.complex _ _ _))
           simp only [builtin, Sem.run_bind, List.map_cons, List.map_nil, hcx, hcy]
           cases k <;> rfl
         · exact absurd hev.symm hn
       · exact absurd hev.symm hn
     · -- clear
       rename_i x t
       obtain ⟨X, rfl, hX⟩ := ofOpds1 hargs
       have rx := opd_rel hg he hX
       split at hev
       · rename_i el hu
         split at hev
         · rename_i n z hsz hz
           split at hev
           · rename_i hzl
             simp only [evalIns] at hev
             split at hev
             · rename_i hc
               subst hev
               rw [hc] at rx
               cases hcx : a.eval X <;> rw [hcx] at rx <;> cases rx
               refine done (.tuple #[]) w ?_ (hk _ _ _ (.refl hs) (.tuple (l' := []) .nil))
               simp [builtin, Builtin.clear_, hcx, run_underlying_some hu]
             · rename_i hc
               subst hev
               rw [hc] at rx
               cases hcx : a.eval X <;> rw [hcx] at rx <;> cases rx
               refine done (.tuple #[]) w ?_ (hk _ _ _ (.refl hs) (.tuple (l' := []) .nil))
               simp [builtin, Builtin.clear_, hcx, run_underlying_some hu]
             · rename_i ad len cap ex es hc
               rw [hc] at rx
               split at hev
               · rename_i hlen
                 subst hlen
                 subst hev
                 cases hcx : a.eval X <;> rw [hcx] at rx <;> cases rx
                 refine done (.tuple #[]) w ?_ (hk _ _ _ (.refl hs) (.tuple (l' := []) .nil))
                 simp [builtin, Builtin.clear_, hcx, run_underlying_some hu]
               · rename_i hlen
                 split at hev
                 · rename_i hes
                   subst hes
                   split at hev
                   · rename_i s' hst
                     subst hev
                     obtain ⟨w', c1, c2⟩ := clear_ok (P := P) (argTypes := [t].toArray) (ty := ty) hs rfl hu hz hzl.1 rx hlen hzl.2 hst
                     refine done (.tuple #[]) w' ?_ (hk _ _ _ c2 (.tuple (l' := []) .nil))
                     simp only [builtin, Sem.run_bind, List.map_cons, List.map_nil]
                     rw [show [a.eval X].toArray = #[a.eval X] from rfl, c1]
                     rfl
                   · exact absurd hev.symm hn
                 · exact absurd hev.symm hn
             · exact absurd hev.symm hn
           · exact (bad_ne hev hn).elim
         · exact (bad_ne hev hn).elim
       · exact (bad_ne hev hn).elim
     · -- delete
       rename_i m k t u
       obtain ⟨M, K, rfl, hM, hK⟩ := ofOpds2 hargs
       have rm := opd_rel hg he hM
       have rk := opd_rel hg he hK
       split at hev
       · rename_i kt et hu
         split at hev
         · rename_i kk hkk
           simp only [evalIns] at hev
           split at hev
           · rename_i s' hst
             subst hev
             obtain ⟨w', c1, c2⟩ := delete_ok (P := P) (argTypes := [t, u].toArray) (ty := ty) hs rfl hu hkk rm rk hst
             refine done (.tuple #[]) w' ?_ (hk _ _ _ c2 (.tuple (l' := []) .nil))
             simp only [builtin, Sem.run_bind, List.map_cons, List.map_nil]
             rw [show [a.eval M, a.eval K].toArray = #[a.eval M, a.eval K] from rfl, c1]
             rfl
           · exact absurd hev.symm hn
         · exact (bad_ne hev hn).elim
       · exact (bad_ne hev hn).elim
     · split at hev <;> exact (bad_ne hev hn).elim
end
end Go.V
/- SOUNDNESS: every operation; what an instruction looks at. -/
namespace Go.V
open Go

section
variable {P : Prog} {T : Tab} {rec : Rec}

theorem op_bad {o : Oper} (h : ofOp P o = .bad) : OpOk P T rec o := by
 intro φ s w a nt ds e r next Q hg he hs hev hn hf hk
 rw [h] at hev
 exact (bad_ne hev hn).elim

theorem op_ok (hF : FuncsOk P T rec) : ∀ o, OpOk P T rec o := by
 rintro ⟨dst, op, ty, pos, after, g⟩
 cases op
 case move => exact op_move
 case assign => exact op_assign
 case pick => exact op_pick
 case alloc => exact op_alloc
 case box => exact op_box
 case build => exact op_build
 case buildSlice => exact op_buildSlice
 case load => exact op_load
 case store => exact op_store
 case nilCheck => exact op_nilCheck
 case binOp => exact op_bin
 case unOp => exact op_un
 case convert => exact op_convert
 case makeInterface => exact op_mkIface
 case makeFunc => exact op_mkFunc
 case makeMap => exact op_mkMap
 case makeSlice => exact op_mkSlice
 case slice => exact op_slice
 case fieldAddr => exact op_fieldAddr
 case field => exact op_field
 case indexAddr => exact op_indexAddr
 case index => exact op_index
 case lookup => exact op_lookup
 case mapUpdate => exact op_mapUpdate
 case insert => exact op_insert
 case extract => exact op_extract
 case call => exact op_call hF
 case panic => exact op_panic
 case typeAssert => exact op_assert
 all_goals exact op_bad (by simp only [ofOp])

theorem opds_congr {e e' : Env} : ∀ {l : List Opd}, (∀ x ∈ l, opd e x = opd e' x) → opds e l = opds e' l
 | [], _ => rfl
 | x :: l, h => by
  simp only [opds]
  rw [h x (by simp), opds_congr fun y hy => h y (by simp [hy])]

theorem partsOf_congr {e e' : Env} : ∀ {l : List (Nat × Nat × Opd)}, (∀ x ∈ l.map (·.2.2), opd e x = opd e' x) → partsOf e l = partsOf e' l
 | [], _ => rfl
 | (o, n, x) :: l, h => by
  simp only [partsOf]
  rw [h x (by simp), partsOf_congr fun y hy => h y (by rw [List.map_cons]; exact List.mem_cons_of_mem _ hy)]

theorem oopd_congr {e e' : Env} {x : Option Opd} (h : ∀ y ∈ x.toList, opd e y = opd e' y) : oopd e x = oopd e' x := by
 cases x with
 | none => rfl
 | some y => simp only [oopd]; rw [h y (by simp)]

theorem evalIns_congr {e e' : Env} {s : St} : ∀ {i : Ins}, (∀ x ∈ insOpds i, opd e x = opd e' x) → evalIns T rec e s i = evalIns T rec e' s i := by
 intro i h
 cases i <;> simp only [insOpds, List.mem_cons, List.mem_append, List.not_mem_nil, or_false, forall_eq_or_imp, forall_eq, Option.mem_toList] at h
 case move => simp only [evalIns, h]
 case pick => obtain ⟨h1, h2, h3⟩ := h; simp only [evalIns, h1, h2, h3]
 case box => simp only [evalIns, h]
 case alloc => rfl
 case build => simp only [evalIns, partsOf_congr h]
 case buildSlice => simp only [evalIns, partsOf_congr h]
 case load => simp only [evalIns, h]
 case store => obtain ⟨h1, h2⟩ := h; simp only [evalIns, h1, h2]
 case nilCheck => simp only [evalIns, h]
 case bin => obtain ⟨h1, h2⟩ := h; simp only [evalIns, h1, h2]
 case eq => obtain ⟨h1, h2⟩ := h; simp only [evalIns, h1, h2]
 case un => simp only [evalIns, h]
 case conv => simp only [evalIns, h]
 case mkIface => simp only [evalIns, h]
 case mkFunc => simp only [evalIns, opds_congr fun x hx => h x (.inl hx), opds_congr fun x hx => h x (.inr hx)]
 case mkMap => rfl
 case mkSlice => obtain ⟨h1, h2⟩ := h; simp only [evalIns, h1, h2]
 case sliceStr => obtain ⟨h1, h2⟩ := h; simp only [evalIns, h1, oopd_congr fun y hy => h2 y (.inl (by simpa using hy)), oopd_congr fun y hy => h2 y (.inr (by simpa using hy))]
 case sliceSl => obtain ⟨h1, h2⟩ := h; simp only [evalIns, h1, oopd_congr fun y hy => h2 y (.inl (by simpa using hy)), oopd_congr fun y hy => h2 y (.inr (.inl (by simpa using hy))), oopd_congr fun y hy => h2 y (.inr (.inr (by simpa using hy)))]
 case sliceArr => obtain ⟨h1, h2⟩ := h; simp only [evalIns, h1, oopd_congr fun y hy => h2 y (.inl (by simpa using hy)), oopd_congr fun y hy => h2 y (.inr (.inl (by simpa using hy))), oopd_congr fun y hy => h2 y (.inr (.inr (by simpa using hy)))]
 case fieldAddr => simp only [evalIns, h]
 case field => simp only [evalIns, h]
 case idxArr => obtain ⟨h1, h2⟩ := h; simp only [evalIns, h1, h2]
 case idxSl => obtain ⟨h1, h2⟩ := h; simp only [evalIns, h1, h2]
 case idxStr => obtain ⟨h1, h2⟩ := h; simp only [evalIns, h1, h2]
 case idxAgg => obtain ⟨h1, h2⟩ := h; simp only [evalIns, h1, h2]
 case lookup => obtain ⟨h1, h2⟩ := h; simp only [evalIns, h1, h2]
 case mapSet => obtain ⟨h1, h2, h3⟩ := h; simp only [evalIns, h1, h2, h3]
 case extract => simp only [evalIns, h]
 case call => simp only [evalIns, opds_congr h]
 case callVal => obtain ⟨h1, h2⟩ := h; simp only [evalIns, h1, opds_congr h2]
 case invoke => obtain ⟨h1, h2⟩ := h; simp only [evalIns, h1, opds_congr h2]
 case lenStr => simp only [evalIns, h]
 case lenSl => simp only [evalIns, h]
 case lenArr => rfl
 case lenMap => simp only [evalIns, h]
 case cap => simp only [evalIns, h]
 case append => obtain ⟨h1, h2⟩ := h; simp only [evalIns, h1, h2]
 case appendZ => obtain ⟨h1, h2⟩ := h; simp only [evalIns, h1, h2]
 case minmax => simp only [evalIns, opds_congr h]
 case realP => simp only [evalIns, h]
 case imagP => simp only [evalIns, h]
 case cplx => obtain ⟨h1, h2⟩ := h; simp only [evalIns, h1, h2]
 case delete => obtain ⟨h1, h2⟩ := h; simp only [evalIns, h1, h2]
 case panic => simp only [evalIns, h]
 case assertT => simp only [evalIns, h]
 case clearSl => simp only [evalIns, h]
 case bld => obtain ⟨h1, h2⟩ := h; simp only [evalIns, h1, h2]
 case bad => rfl

theorem opd_of_tmp {e e' : Env} {l : List Opd} (h : ∀ t ∈ tmpsOf l, opd e (.t t) = opd e' (.t t)) : ∀ x ∈ l, opd e x = opd e' x := by
 induction l with
 | nil => intro x hx; cases hx
 | cons y l ih =>
  intro x hx
  cases y with
  | t i =>
   simp only [tmpsOf, List.mem_cons, forall_eq_or_imp] at h
   rcases List.mem_cons.1 hx with rfl | hx
   · exact h.1
   · exact ih h.2 x hx
  | c v =>
   simp only [tmpsOf] at h
   rcases List.mem_cons.1 hx with rfl | hx
   · rfl
   · exact ih h x hx
end
end Go.V
set_option linter.unusedSimpArgs false
/- WHAT AN EVALUATION DOES TO THE STATE, AND THAT MORE OBJECTS DO NOT MATTER. -/
namespace Go.V
open Go

theorem set_leaf {α : Type} (i : Nat) (a : α) : Tree.set (.leaf) i a = Tree.set (.node none .leaf .leaf) i a := by
 have key : ∀ (i f g : Nat), i ≤ f → i ≤ g → Tree.single a f i = Tree.single a g i := by
  intro i
  induction i using Nat.strongRecOn with
  | _ i ih =>
   intro f g hf hg
   cases i with
   | zero => cases f <;> cases g <;> rfl
   | succ j =>
    cases f with
    | zero => omega
    | succ f =>
     cases g with
     | zero => omega
     | succ g =>
      simp only [Tree.single]
      have := ih (j / 2) (by omega) f g (by omega) (by omega)
      rw [this]
 cases i with
 | zero => rfl
 | succ j =>
  simp only [Tree.set, Tree.single]
  rw [key (j / 2) j (j / 2) (by omega) (Nat.le_refl _)]

theorem set_comm {α : Type} {a b : α} : ∀ (i j : Nat) (t : Tree α), i ≠ j → (t.set i a).set j b = (t.set j b).set i a := by
 intro i
 induction i using Nat.strongRecOn with
 | _ i ih =>
  have node : ∀ (j : Nat) (v : Option α) (l r : Tree α), i ≠ j → ((Tree.node v l r).set i a).set j b = ((Tree.node v l r).set j b).set i a := by
   intro j v l r hne
   cases i with
   | zero =>
    cases j with
    | zero => exact absurd rfl hne
    | succ j => simp only [Tree.set]; cases Nat.beq (j % 2) 0 <;> simp only [Tree.set]
   | succ i =>
    cases j with
    | zero => simp only [Tree.set]; cases Nat.beq (i % 2) 0 <;> simp only [Tree.set]
    | succ j =>
     simp only [Tree.set]
     cases hi : Nat.beq (i % 2) 0 <;> cases hj : Nat.beq (j % 2) 0 <;> simp only [Tree.set, hi, hj]
     · rw [Tree.par] at hi hj
       simp at hi hj
       rw [ih (i / 2) (by omega) (j / 2) r (by omega)]
     · rw [Tree.par] at hi hj
       simp at hi hj
       rw [ih (i / 2) (by omega) (j / 2) l (by omega)]
  intro j t hne
  cases t with
  | node v l r => exact node j v l r hne
  | leaf =>
   have h1 := set_leaf (α := α) i a
   have h2 := set_leaf (α := α) j b
   rw [h1, h2, node j none .leaf .leaf hne]

structure Good (s s' : St) : Prop where
 next : s.next ≤ s'.next
 dom : ∀ id, (s.heap.get id).isSome = true → (s'.heap.get id).isSome = true
 new : ∀ id, (s'.heap.get id).isSome = true → (s.heap.get id).isSome = true ∨ (s.next ≤ id ∧ id < s'.next)

structure Over (s t : St) : Prop where
 next : t.next = s.next
 get : ∀ id o, s.heap.get id = some o → t.heap.get id = some o

def FreeIn (t : St) (n m : Nat) : Prop := ∀ id, n ≤ id → id < m → t.heap.get id = none

theorem Good.refl (s : St) : Good s s := ⟨Nat.le_refl _, fun _ h => h, fun _ h => .inl h⟩
theorem Good.trans {a b c : St} (h : Good a b) (k : Good b c) : Good a c := by
 refine ⟨Nat.le_trans h.next k.next, fun id x => k.dom id (h.dom id x), fun id x => ?_⟩
 have := h.next
 have := k.next
 rcases k.new id x with y | y
 · rcases h.new id y with z | z
   · exact .inl z
   · exact .inr ⟨z.1, by omega⟩
 · exact .inr ⟨by omega, y.2⟩

/-- What one instruction that is no call does to the state. -/
inductive Eff (s : St) : (St → St) → Prop
 | id : Eff s id
 | put (i : Nat) (o : AObj) : (s.heap.get i).isSome = true → Eff s (·.put i o)
 | add (o : AObj) : Eff s (·.add o)

theorem Eff.good {s : St} {F : St → St} (h : Eff s F) : Good s (F s) := by
 cases h with
 | id => exact .refl s
 | put i o hi =>
  refine ⟨Nat.le_refl _, fun id x => ?_, fun id x => ?_⟩
  · simp only [St.put, Tree.get_set]; split <;> simp_all
  · simp only [St.put, Tree.get_set] at x; split at x
    · rename_i e; subst e; exact .inl hi
    · exact .inl x
 | add o =>
  refine ⟨Nat.le_succ _, fun id x => ?_, fun id x => ?_⟩
  · simp only [St.add, Tree.get_set]; split <;> simp_all
  · simp only [St.add, Tree.get_set] at x; split at x
    · rename_i e; subst e; exact .inr ⟨Nat.le_refl _, Nat.lt_succ_self _⟩
    · exact .inl x

theorem over_put {s : St} {b : Nat} {o : AObj} (h : s.heap.get b = none) : Over s (s.put b o) := by
 refine ⟨rfl, fun id o' x => ?_⟩
 simp only [St.put, Tree.get_set]
 split
 · rename_i e; subst e; rw [h] at x; cases x
 · exact x

theorem Eff.beside {s : St} {F : St → St} (h : Eff s F) {b : Nat} {o : AObj} (hb : s.heap.get b = none) (hn : ¬ (s.next ≤ b ∧ b < (F s).next)) : F (s.put b o) = (F s).put b o := by
 cases h with
 | id => rfl
 | put i o' hi =>
  have : b ≠ i := by rintro rfl; rw [hb] at hi; cases hi
  simp only [St.put]
  rw [set_comm _ _ _ this]
 | add o' =>
  have : b ≠ s.next := by
   rintro rfl
   exact hn ⟨Nat.le_refl _, by simp [St.add]⟩
  simp only [St.put, St.add]
  rw [set_comm _ _ _ this]

def Res.st (s : St) : Res → St
 | .val _ s => s
 | .panic _ s => s
 | .fail => s
def Res.to (r : Res) (t : St) : Res := match r with
 | .val v _ => .val v t
 | .panic v _ => .panic v t
 | .fail => .fail

/-- That an instruction's result comes of an effect. -/
def Effs (s : St) (f : St → Res) : Prop := f s ≠ .fail → ∃ F, Eff s F ∧ (f s).st s = F s ∧ ∀ t, Over s t → f t = (f s).to (F t)

theorem Over.readAt {s t : St} (h : Over s t) {a : AAddr} {n : Nat} {l : List AV} (e : s.readAt a n = some l) : t.readAt a n = some l := by
 unfold St.readAt at e ⊢
 split at e
 · rename_i cs lo inc ro ho
   rw [h.get _ _ ho]
   exact e
 · cases e

theorem effs_pure {s : St} (r : Option AV) : Effs s (fun s => ofOpt s r) := by
 intro h
 cases r with
 | none => exact absurd rfl h
 | some v => exact ⟨_, .id, rfl, fun t _ => rfl⟩

theorem effs_read {s : St} {g : St → Option AV} (h : ∀ v t, Over s t → g s = some v → g t = some v) : Effs s (fun s => ofOpt s (g s)) := by
 intro hn
 cases hg : g s with
 | none => simp [ofOpt, hg] at hn
 | some v => exact ⟨_, .id, by simp [ofOpt, hg, Res.st], fun t ht => by simp [ofOpt, hg, h v t ht hg, Res.to]⟩

theorem effs_put {s : St} {g : St → Option St} (h : ∀ s', g s = some s' → ∃ F, Eff s F ∧ s' = F s ∧ ∀ t, Over s t → g t = some (F t)) : Effs s (fun s => ofSt (g s)) := by
 intro hn
 cases hg : g s with
 | none => simp [ofSt, hg] at hn
 | some s' =>
  obtain ⟨F, h1, h2, h3⟩ := h s' hg
  exact ⟨F, h1, by simp [ofSt, hg, Res.st, h2], fun t ht => by simp [ofSt, hg, h3 t ht, Res.to]⟩

theorem effs_both {s : St} {g : St → Option (AV × St)} (h : ∀ v s', g s = some (v, s') → ∃ F, Eff s F ∧ s' = F s ∧ ∀ t, Over s t → g t = some (v, F t)) : Effs s (fun s => ofBoth (g s)) := by
 intro hn
 cases hg : g s with
 | none => simp [ofBoth, hg] at hn
 | some q =>
  obtain ⟨v, s'⟩ := q
  obtain ⟨F, h1, h2, h3⟩ := h v s' hg
  exact ⟨F, h1, by simp [ofBoth, hg, Res.st, h2], fun t ht => by simp [ofBoth, hg, h3 t ht, Res.to]⟩

theorem load_over {s t : St} (ht : Over s t) {agg : Bool} {n : Nat} {x v : AV} (h : loadV s agg n x = some v) : loadV t agg n x = some v := by
 unfold loadV at h ⊢
 split at h
 · split at h
   · rename_i l hl
     simp only [ht.readAt hl]
     exact h
   · cases h
 · cases h

theorem store_eff {s s' : St} {n : Nat} {x v : AV} (h : storeV s n x v = some s') : ∃ F, Eff s F ∧ s' = F s ∧ ∀ t, Over s t → storeV t n x v = some (F t) := by
 unfold storeV at h
 split at h
 · split at h
   · rename_i ho
     split at h
     · rename_i hc
       cases h
       exact ⟨_, .put _ _ (by rw [ho]; rfl), rfl, fun t ht => by simp only [storeV, ht.get _ _ ho]; rw [if_pos hc]⟩
     · cases h
   · cases h
 · cases h

theorem lookup_over {s t : St} (ht : Over s t) {k : KK} {z : AV} {ok : Bool} {m key v : AV} (h : lookupV s k z ok m key = some v) : lookupV t k z ok m key = some v := by
 unfold lookupV at h ⊢
 split at h
 · exact h
 · split at h
   · rename_i ho
     simp only [ht.get _ _ ho]
     exact h
   · cases h
 · cases h

theorem mapSet_eff {s s' : St} {k : KK} {m key v : AV} (h : mapSetV s k m key v = some s') : ∃ F, Eff s F ∧ s' = F s ∧ ∀ t, Over s t → mapSetV t k m key v = some (F t) := by
 unfold mapSetV at h
 split at h
 · split at h
   · rename_i ho
     split at h
     · rename_i hf
       cases h
       exact ⟨_, .put _ _ (by rw [ho]; rfl), rfl, fun t ht => by simp only [mapSetV, ht.get _ _ ho, hf]⟩
     · rename_i hf
       cases h
       exact ⟨_, .put _ _ (by rw [ho]; rfl), rfl, fun t ht => by simp only [mapSetV, ht.get _ _ ho, hf]⟩
     · cases h
   · cases h
 · cases h

theorem delete_eff {s s' : St} {k : KK} {m key : AV} (h : deleteV s k m key = some s') : ∃ F, Eff s F ∧ s' = F s ∧ ∀ t, Over s t → deleteV t k m key = some (F t) := by
 unfold deleteV at h
 split at h
 · cases h; exact ⟨_, .id, rfl, fun t _ => rfl⟩
 · split at h
   · rename_i ho
     split at h
     · rename_i hf
       cases h
       exact ⟨_, .put _ _ (by rw [ho]; rfl), rfl, fun t ht => by simp only [deleteV, ht.get _ _ ho, hf]⟩
     · rename_i hf
       cases h
       exact ⟨_, .put _ _ (by rw [ho]; rfl), rfl, fun t ht => by simp only [deleteV, ht.get _ _ ho, hf]⟩
     · cases h
   · cases h
 · cases h

theorem more_over {s t : St} (ht : Over s t) {esz : Nat} {x : AV} {l : List AV} (h : moreV s esz x = some l) : moreV t esz x = some l := by
 unfold moreV at h ⊢
 split at h
 · exact h
 · exact h
 · split at h
   · rename_i hc; rw [if_pos hc]; exact ht.readAt h
   · cases h
 · exact h
 · cases h

theorem append_eff {s s' : St} {ty esz k : Nat} {x v : AV} {more : List AV} (h : appendG ty s esz x k more = some (v, s')) : ∃ F, Eff s F ∧ s' = F s ∧ ∀ t, Over s t → appendG ty t esz x k more = some (v, F t) := by
 unfold appendG at h
 split at h
 · rename_i hc
   split at h
   · rename_i hk
     split at h
     · cases h; exact ⟨_, .id, rfl, fun t _ => by unfold appendG; rw [if_pos hc, if_pos hk]; rfl⟩
     · cases h; exact ⟨_, .id, rfl, fun t _ => by unfold appendG; rw [if_pos hc, if_pos hk]; rfl⟩
     · split at h
       · rename_i hl; cases h; exact ⟨_, .id, rfl, fun t _ => by unfold appendG; rw [if_pos hc, if_pos hk]; dsimp only; rw [if_pos hl]; rfl⟩
       · cases h
     · cases h
   · rename_i hk
     split at h
     · split at h
       · rename_i hl; cases h; exact ⟨_, .add _, rfl, fun t ht => by unfold appendG; rw [if_pos hc, if_neg hk, if_pos hl, ht.next]⟩
       · cases h
     · rename_i a len cap exact' es
       split at h
       · rename_i hl
         split at h
         · rename_i cs lo inc ro ho
           simp only [] at h
           split at h
           · rename_i h1
             split at h
             · rename_i h2
               cases h
               exact ⟨_, .put _ _ (by rw [ho]; rfl), rfl, fun t ht => by unfold appendG; rw [if_pos hc, if_neg hk]; dsimp only; rw [if_pos hl, ht.get _ _ ho]; dsimp only; rw [if_pos h1, if_pos h2]⟩
             · cases h
           · rename_i h1
             split at h
             · rename_i h2
               split at h
               · rename_i old hold
                 cases h
                 exact ⟨_, .add _, rfl, fun t ht => by unfold appendG; rw [if_pos hc, if_neg hk]; dsimp only; rw [if_pos hl, ht.get _ _ ho]; dsimp only; rw [if_neg h1, if_pos h2, ht.readAt hold, ht.next]⟩
               · cases h
             · rename_i h2
               split at h
               · rename_i h3
                 cases h
                 exact ⟨_, .put _ _ (by rw [ho]; rfl), rfl, fun t ht => by unfold appendG; rw [if_pos hc, if_neg hk]; dsimp only; rw [if_pos hl, ht.get _ _ ho]; dsimp only; rw [if_neg h1, if_neg h2, if_pos h3]⟩
               · cases h
         · cases h
       · cases h
     · cases h
 · cases h

theorem bld_eff {s s' : St} {k : BK} {x y v : AV} (h : bldV k x y s = some (v, s')) : ∃ F, Eff s F ∧ s' = F s ∧ ∀ t, Over s t → bldV k x y t = some (v, F t) := by
 unfold bldV at h
 split at h
 · cases h; exact ⟨_, .add _, rfl, fun t ht => by simp only [bldV, ht.next]⟩
 · split at h
   · rename_i l hl
     obtain ⟨F, h1, h2, h3⟩ := append_eff h
     exact ⟨F, h1, h2, fun t ht => by simp only [bldV, more_over ht hl]; exact h3 t ht⟩
   · cases h
 · split at h
   · split at h
     · rename_i l hl; cases h; exact ⟨_, .id, rfl, fun t ht => by simp only [bldV, ht.readAt hl]; rfl⟩
     · cases h
   · cases h; exact ⟨_, .id, rfl, fun t ht => rfl⟩
   · cases h
 · split at h
   · split at h
     · rename_i hc
       split at h
       · rename_i l hl; cases h; exact ⟨_, .id, rfl, fun t ht => by simp only [bldV, if_pos hc, ht.readAt hl]; rfl⟩
       · cases h
     · cases h
   · cases h; exact ⟨_, .id, rfl, fun t ht => rfl⟩
   · cases h
 · split at h
   · split at h
     · rename_i hc; cases h; exact ⟨_, .id, rfl, fun t ht => by simp only [bldV, if_pos hc]; rfl⟩
     · cases h
   · cases h; exact ⟨_, .id, rfl, fun t ht => rfl⟩
   · cases h
 · split at h
   · cases h; exact ⟨_, .id, rfl, fun t ht => rfl⟩
   · split at h
     · rename_i ho
       split at h
       · rename_i hc
         split at h
         · rename_i bs hbs
           cases h
           exact ⟨_, .put _ _ (by rw [ho]; rfl), rfl, fun t ht => by simp only [bldV, ht.get _ _ ho, if_pos hc, hbs]⟩
         · cases h
       · cases h
     · cases h
   · cases h

theorem ext_eff {s : St} {k : ExtK} {args : List AV} : Effs s (fun s => extV k args s) := by
 intro hn
 unfold extV at hn
 split at hn
 case h_1 => exact effs_pure _ hn
 case h_2 => exact effs_pure _ hn
 case h_3 => exact effs_pure _ hn
 case h_4 => exact effs_pure _ hn
 case h_5 => exact ⟨_, .id, rfl, fun t _ => rfl⟩
 case h_6 => exact ⟨_, .id, rfl, fun t _ => rfl⟩
 case h_7 =>
  simp only [] at hn
  split at hn
  · rename_i ho
    refine ⟨_, .add _, by simp only [extV, ho, Res.st]; rfl, fun t ht => by simp only [extV, ho, ht.get _ _ ho, Res.to, ht.next]⟩
  · exact absurd rfl hn
 case h_8 => exact ⟨_, .id, rfl, fun t _ => rfl⟩
 case h_9 => exact effs_pure _ hn
 case h_10 => exact absurd rfl hn

def isCall : Ins → Bool
 | .call .. | .callVal .. | .invoke .. => true
 | _ => false

section
variable {T : Tab} {rec : Rec}
theorem ins_eff {e : Env} {s : St} {i : Ins} (hc : isCall i = false) : Effs s (fun s => evalIns T rec e s i) := by
 intro hn
 cases i
 case call => cases hc
 case callVal => cases hc
 case invoke => cases hc
 case bad => exact absurd rfl hn
 case move => exact ⟨_, .id, rfl, fun t _ => rfl⟩
 case mkIface => exact ⟨_, .id, rfl, fun t _ => rfl⟩
 case mkFunc => exact ⟨_, .id, rfl, fun t _ => rfl⟩
 case lenArr => exact ⟨_, .id, rfl, fun t _ => rfl⟩
 case bin => exact effs_pure _ hn
 case un => exact effs_pure _ hn
 case sliceStr => exact effs_pure _ hn
 case sliceSl => exact effs_pure _ hn
 case assertT => exact effs_pure _ hn
 case load => exact effs_read (g := fun s => loadV s _ _ _) (fun v t ht h => load_over ht h) hn
 case lookup => exact effs_read (g := fun s => lookupV s _ _ _ _ _) (fun v t ht h => lookup_over ht h) hn
 case store => exact effs_put (g := fun s => storeV s _ _ _) (fun s' h => store_eff h) hn
 case mapSet => exact effs_put (g := fun s => mapSetV s _ _ _ _) (fun s' h => mapSet_eff h) hn
 case box => exact ⟨_, .add _, rfl, fun t ht => by simp only [evalIns, boxV, Res.to, ht.next]⟩
 case alloc => exact ⟨_, .add _, rfl, fun t ht => by simp only [evalIns, boxV, Res.to, ht.next]⟩
 case mkMap => exact ⟨_, .add _, rfl, fun t ht => by simp only [evalIns, Res.to, ht.next]⟩
 case sliceArr =>
  refine effs_read (g := fun s => sliceArrV s _ _ _ _ _ _) (fun v t ht h => ?_) hn
  unfold sliceArrV at h ⊢
  split at h
  · split at h
    · rename_i hl; simp only [ht.readAt hl]; exact h
    · cases h
  · cases h
 case delete =>
  simp only [evalIns] at hn ⊢
  split at hn
  · rename_i s' hs
    obtain ⟨F, h1, h2, h3⟩ := delete_eff hs
    exact ⟨F, h1, by simp only [hs, Res.st, h2], fun t ht => by simp only [hs, h3 t ht, Res.to]⟩
  · exact absurd rfl hn
 case append =>
  simp only [evalIns] at hn ⊢
  split at hn
  · rename_i l hl
    split at hn
    · rename_i hb
      have := effs_both (s := s) (g := fun s => appendV s _ _ _ l) (fun v s' h => append_eff h) hn
      obtain ⟨F, h1, h2, h3⟩ := this
      refine ⟨F, h1, by simp only [hl, if_pos hb]; exact h2, fun t ht => ?_⟩
      simp only [hl, more_over ht hl, if_pos hb]
      exact h3 t ht
    · exact absurd rfl hn
  · exact absurd rfl hn
 case appendZ =>
  simp only [evalIns] at hn ⊢
  split at hn
  · rename_i n hl
    split at hn
    · rename_i hb
      have := effs_both (s := s) (g := fun s => appendV s _ _ n _) (fun v s' h => append_eff h) hn
      obtain ⟨F, h1, h2, h3⟩ := this
      refine ⟨F, h1, by simp only [hl, if_pos hb]; exact h2, fun t ht => ?_⟩
      simp only [hl, if_pos hb]
      exact h3 t ht
    · exact absurd rfl hn
  · exact absurd rfl hn
 case bld => exact effs_both (g := fun s => bldV _ _ _ s) (fun v s' h => bld_eff h) hn
 case clearSl =>
  simp only [evalIns] at hn ⊢
  split at hn
  · rename_i h; exact ⟨_, .id, rfl, fun t _ => rfl⟩
  · rename_i h; exact ⟨_, .id, rfl, fun t _ => rfl⟩
  · rename_i h
    split at hn
    · rename_i h1; exact ⟨_, .id, by simp only [h, if_pos h1]; rfl, fun t _ => by simp only [h, if_pos h1]; rfl⟩
    · rename_i h1
      split at hn
      · rename_i h2
        split at hn
        · rename_i s' hs
          obtain ⟨F, g1, g2, g3⟩ := store_eff hs
          exact ⟨F, g1, by simp only [h, if_neg h1, if_pos h2, hs, Res.st, g2], fun t ht => by simp only [h, if_neg h1, if_pos h2, hs, g3 t ht, Res.to]⟩
        · exact absurd rfl hn
      · exact absurd rfl hn
  · exact absurd rfl hn
 case conv =>
  simp only [evalIns] at hn ⊢
  split at hn
  · rename_i h
    split at hn
    · rename_i h1; simp only [if_pos h1]; exact ⟨_, .add _, rfl, fun t ht => by simp only [Res.to, ht.next]⟩
    · exact absurd rfl hn
  · rename_i h; exact ⟨_, .id, rfl, fun t _ => rfl⟩
  · rename_i h; exact ⟨_, .id, rfl, fun t _ => rfl⟩
  · rename_i h
    split at hn
    · rename_i l hl
      split at hn
      · rename_i bs hb; exact ⟨_, .id, rfl, fun t ht => by simp only [ht.readAt hl, hb]; rfl⟩
      · exact absurd rfl hn
    · exact absurd rfl hn
  · rename_i h1 h2 h3 h4
    exact effs_pure _ hn
 case lenMap =>
  simp only [evalIns] at hn ⊢
  split at hn
  · rename_i h; exact ⟨_, .id, rfl, fun t _ => rfl⟩
  · rename_i h
    split at hn
    · rename_i ho; exact ⟨_, .id, rfl, fun t ht => by simp only [ht.get _ _ ho]; rfl⟩
    · exact absurd rfl hn
  · exact absurd rfl hn
 all_goals
  simp only [evalIns] at hn ⊢
  repeat' split at hn
  all_goals first
   | exact absurd rfl hn
   | exact effs_pure _ hn
   | exact ⟨_, .id, rfl, fun t _ => rfl⟩
   | exact ⟨_, .add _, rfl, fun t ht => by simp only [Res.to, ht.next]⟩
   | (rename_i h1; simp only [if_pos h1]; first | exact effs_pure _ hn | exact ⟨_, .id, rfl, fun t _ => rfl⟩ | exact ⟨_, .add _, rfl, fun t ht => by simp only [Res.to, ht.next]⟩)


/-- What may be said of a part's evaluation. -/
def Tame (s : St) (f : St → Res) : Prop := f s ≠ .fail → Good s ((f s).st s) ∧ ∀ b o, s.heap.get b = none → ¬ (s.next ≤ b ∧ b < ((f s).st s).next) → f (s.put b o) = (f s).to (((f s).st s).put b o)

theorem Effs.tame {s : St} {f : St → Res} (h : Effs s f) : Tame s f := by
 intro hn
 obtain ⟨F, h1, h2, h3⟩ := h hn
 rw [h2]
 exact ⟨h1.good, fun b o hb hn => by rw [h3 _ (over_put hb), h1.beside hb hn]⟩

def TameO (s : St) (f : St → Out) : Prop := ∀ x e s', f s = .ok x e s' → Good s s' ∧ ∀ b o, s.heap.get b = none → ¬ (s.next ≤ b ∧ b < s'.next) → f (s.put b o) = .ok x e (s'.put b o)

def TameRec (rec : Rec) : Prop := ∀ c e s, TameO s (fun s => rec c e s)

def TameHooks (T : Tab) : Prop := ∀ f h, T f = some (.hook h) → ∀ args s, Tame s (fun s => ofBoth (h args s))

theorem Good.none {s s' : St} (h : Good s s') {b : Nat} (hb : s.heap.get b = none) (hn : ¬ (s.next ≤ b ∧ b < s'.next)) : s'.heap.get b = none := by
 cases e : s'.heap.get b with
 | none => rfl
 | some o =>
  rcases h.new b (by rw [e]; rfl) with x | x
  · rw [hb] at x; cases x
  · exact absurd x hn

theorem result_over {s t : St} (ht : Over s t) {e : Env} {r : RVar} {v : AV} (h : resultV e s r = some v) : resultV e t r = some v := by
 cases r with
 | tmp i => exact h
 | cell i agg n => exact load_over ht h

theorem results_over {s t : St} (ht : Over s t) {e : Env} : ∀ {l : List RVar} {vs : List AV}, resultsV e s l = some vs → resultsV e t l = some vs
 | [], _, h => h
 | r :: l, vs, h => by
  simp only [resultsV] at h ⊢
  split at h
  · rename_i v hv
    split at h
    · rename_i vs' hvs
      simp only [result_over ht hv, results_over ht hvs]
      exact h
    · cases h
  · cases h

theorem runFn_tame (hr : TameRec rec) {fn : IFunc} {args : List AV} {s : St} : Tame s (runFn rec fn args) := by
 intro hn
 unfold runFn at hn ⊢
 split at hn
 · rename_i hle
   simp only [if_pos hle]
   cases he : rec fn.code (bind args 0 .leaf) s with
   | fail => rw [he] at hn; exact absurd rfl hn
   | ok x e s' =>
    rw [he] at hn
    obtain ⟨hg, hk⟩ := hr _ _ _ _ _ _ he
    dsimp only at hk
    cases x with
    | normal =>
     simp only [] at hn ⊢
     cases hl : resultsV e s' fn.results with
     | none => rw [hl] at hn; exact absurd rfl hn
     | some l =>
      simp only [hl, Res.st]
      exact ⟨hg, fun b o hb hnb => by rw [hk b o hb hnb]; simp only [results_over (over_put (hg.none hb hnb)) hl, Res.to]⟩
    | ret =>
     simp only [] at hn ⊢
     cases hl : resultsV e s' fn.results with
     | none => rw [hl] at hn; exact absurd rfl hn
     | some l =>
      simp only [hl, Res.st]
      exact ⟨hg, fun b o hb hnb => by rw [hk b o hb hnb]; simp only [results_over (over_put (hg.none hb hnb)) hl, Res.to]⟩
    | panic v =>
     simp only [Res.st]
     exact ⟨hg, fun b o hb hnb => by rw [hk b o hb hnb]; rfl⟩
    | panicW v =>
     simp only [Res.st]
     exact ⟨hg, fun b o hb hnb => by rw [hk b o hb hnb]; rfl⟩
    | exit k => exact absurd rfl hn
    | goto k => exact absurd rfl hn
 · exact absurd rfl hn

theorem callF_tame (hT : TameHooks T) (hr : TameRec rec) {f : FuncId} {args : List AV} {s : St} : Tame s (fun s => callF T rec f args s) := by
 intro hn
 unfold callF at hn ⊢
 cases hf : T f with
 | none => simp [hf] at hn
 | some imp =>
  cases imp with
  | code fn => simp only [hf] at hn ⊢; exact runFn_tame hr hn
  | ext k => simp only [hf] at hn ⊢; exact ext_eff.tame hn
  | hook h => simp only [hf] at hn ⊢; exact hT f h hf args s hn

theorem ins_tame (hT : TameHooks T) (hr : TameRec rec) {e : Env} {s : St} {i : Ins} : Tame s (fun s => evalIns T rec e s i) := by
 by_cases hc : isCall i = false
 · exact (ins_eff hc).tame
 · cases i <;> simp [isCall] at hc
   · exact callF_tame hT hr
   · rename_i x args
     intro hn
     simp only [evalIns] at hn ⊢
     split at hn
     · exact callF_tame hT hr hn
     · exact absurd rfl hn
   · rename_i tbl x args
     intro hn
     simp only [evalIns] at hn ⊢
     split at hn
     · split at hn
       · exact callF_tame hT hr hn
       · exact absurd rfl hn
     · exact absurd rfl hn
end
end Go.V
/- THE WHOLE EVALUATOR IS TAME. -/
namespace Go.V
open Go

theorem watch_over {s t s' t' : St} (h : Over s t) (h' : Over s' t') {e : Env} : ∀ {l : List Opd}, watchOk e s s' l = true → watchOk e t t' l = true
 | [], _ => rfl
 | x :: l, hw => by
  simp only [watchOk, Bool.and_eq_true] at hw ⊢
  refine ⟨?_, watch_over h h' hw.2⟩
  have h1 := hw.1
  cases hf : footId (opd e x) with
  | none => rfl
  | some id =>
   rw [hf] at h1
   simp only [] at h1 ⊢
   cases a : s.heap.get id with
   | none => rw [a] at h1; cases s'.heap.get id <;> simp [sameObj] at h1
   | some o =>
    cases b : s'.heap.get id with
    | none => rw [a, b] at h1; simp [sameObj] at h1
    | some o' => rw [h.get _ _ a, h'.get _ _ b]; rw [a, b] at h1; exact h1

section
variable {T : Tab} {rec : Rec}

theorem ops_tame (hT : TameHooks T) (hr : TameRec rec) {draw : Bool} : ∀ {l : List IOp} {e : Env} {s : St}, TameO s (fun s => evalOps T rec draw l e s)
 | [], e, s => by
  intro x e' s' h
  simp only [evalOps] at h
  cases h
  exact ⟨.refl _, fun b o _ _ => rfl⟩
 | q :: l, e, s => by
  intro x e' s' h
  simp only [evalOps] at h
  cases hw : wantedV e q.guard with
  | false =>
   rw [hw] at h
   simp only [] at h
   obtain ⟨g, k⟩ := ops_tame hT hr x e' s' h
   exact ⟨g, fun b o hb hn => by simp only [evalOps, hw]; exact k b o hb hn⟩
  | true =>
   rw [hw] at h
   simp only [] at h
   have tm := ins_tame hT hr (e := e) (s := s) (i := q.ins)
   cases hi : evalIns T rec e s q.ins with
   | fail => rw [hi] at h; cases h
   | panic v s1 =>
    rw [hi] at h
    simp only [] at h
    unfold Tame at tm
    simp only [hi, Res.st, Res.to] at tm
    cases draw with
    | true => cases h
    | false =>
     cases h
     obtain ⟨g, k⟩ := tm (by simp)
     exact ⟨g, fun b o hb hn => by simp only [evalOps, hw, k b o hb hn]⟩
   | val v s1 =>
    rw [hi] at h
    simp only [] at h
    unfold Tame at tm
    simp only [hi, Res.st, Res.to] at tm
    cases hwt : watchOk e s s1 q.watch with
    | false => rw [hwt] at h; cases h
    | true =>
     rw [hwt] at h
     simp only [] at h
     obtain ⟨g, k⟩ := tm (by simp)
     obtain ⟨g', k'⟩ := ops_tame hT hr x e' s' h
     refine ⟨g.trans g', fun b o hb hn => ?_⟩
     have h1 := g.next
     have h2 := g'.next
     have n1 : ¬ (s.next ≤ b ∧ b < s1.next) := by omega
     have n2 : ¬ (s1.next ≤ b ∧ b < s'.next) := by omega
     have hb1 := g.none hb n1
     simp only [evalOps, hw, k b o hb n1, watch_over (over_put hb) (over_put hb1) hwt]
     exact k' b o hb1 n2

/-- One part behind another. -/
theorem TameO.seq {s s1 s2 : St} {x : Ex} {e1 e2 : Env} {y : Ex} {f g : St → Out} (hf : TameO s f) (h1 : f s = .ok x e1 s1) (hg : TameO s1 g) (h2 : g s1 = .ok y e2 s2) :
 Good s s2 ∧ ∀ b o, s.heap.get b = none → ¬ (s.next ≤ b ∧ b < s2.next) → f (s.put b o) = .ok x e1 (s1.put b o) ∧ g (s1.put b o) = .ok y e2 (s2.put b o) := by
 obtain ⟨a, b⟩ := hf _ _ _ h1
 obtain ⟨c, d⟩ := hg _ _ _ h2
 refine ⟨a.trans c, fun i o hb hn => ?_⟩
 have := a.next
 have := c.next
 have n1 : ¬ (s.next ≤ i ∧ i < s1.next) := by omega
 exact ⟨b i o hb n1, d i o (a.none hb n1) (by omega)⟩

theorem TameO.one {s : St} {f g : St → Out} (hf : TameO s f) {x : Ex} {e : Env} {s' : St} (h : f s = .ok x e s') {y : Ex} {e' : Env} (hg : ∀ t t', f t = .ok x e t' → g t = .ok y e' t') :
 Good s s' ∧ ∀ b o, s.heap.get b = none → ¬ (s.next ≤ b ∧ b < s'.next) → g (s.put b o) = .ok y e' (s'.put b o) := by
 obtain ⟨a, b⟩ := hf _ _ _ h
 exact ⟨a, fun i o hb hn => hg _ _ (b i o hb hn)⟩

theorem evalC_tame (hT : TameHooks T) (hr : TameRec rec) : TameRec (evalC T rec) := by
 intro c e s x e' s' h
 have triv : ∀ {x : Ex} {e e' : Env} {s s' : St} {f : St → Out}, Out.ok x e s = .ok x e' s' → (∀ t, f t = .ok x e t) → Good s s' ∧ ∀ b o, s.heap.get b = none → ¬ (s.next ≤ b ∧ b < s'.next) → f (s.put b o) = .ok x e' (s'.put b o) := by
  intro x e e' s s' f h hf
  cases h
  exact ⟨.refl _, fun b o _ _ => hf _⟩
 cases c with
 | skip => simp only [evalC] at h ⊢; cases h; exact triv rfl fun t => rfl
 | label => simp only [evalC] at h ⊢; cases h; exact triv rfl fun t => rfl
 | exit id => simp only [evalC] at h ⊢; cases h; exact triv rfl fun t => rfl
 | goto l => simp only [evalC] at h ⊢; cases h; exact triv rfl fun t => rfl
 | ret => simp only [evalC] at h ⊢; cases h; exact triv rfl fun t => rfl
 | bad => simp only [evalC] at h; cases h
 | region ops draw => simp only [evalC] at h ⊢; exact ops_tame hT hr _ _ _ h
 | regionP ops =>
  simp only [evalC] at h ⊢
  cases hb : evalOps T rec false ops e s with
  | fail => rw [hb] at h; cases h
  | ok xb eb sb =>
   rw [hb] at h
   have : ∃ k : Out → Out, (∀ o, k o = match o with | .ok (.panic v) e s => .ok (.panicW v) e s | o => o) ∧ e' = eb ∧ s' = sb ∧ ∀ t, k (.ok xb eb t) = .ok x e' t := by
    refine ⟨_, fun o => rfl, ?_⟩
    cases xb with
    | panic v => simp only [] at h ⊢; cases h; exact ⟨rfl, rfl, fun t => rfl⟩
    | _ => simp only [] at h ⊢; cases h; exact ⟨rfl, rfl, fun t => rfl⟩
   obtain ⟨k, k1, rfl, rfl, k2⟩ := this
   refine TameO.one (ops_tame hT hr) hb (g := fun s => match evalOps T rec false ops e s with | .ok (.panic v) e s => .ok (.panicW v) e s | o => o) fun t t' q => ?_
   simp only [q]
   rw [← k2 t', k1]
 | seq a b =>
  simp only [evalC] at h ⊢
  cases ha : rec a e s with
  | fail => rw [ha] at h; cases h
  | ok xa ea sa =>
   rw [ha] at h
   have hb : (xa = .normal ∧ rec b ea sa = .ok x e' s') ∨ (xa ≠ .normal ∧ Out.ok xa ea sa = .ok x e' s') := by
    cases xa with
    | normal => exact .inl ⟨rfl, h⟩
    | _ => exact .inr ⟨by simp, h⟩
   rcases hb with ⟨rfl, hb⟩ | ⟨hne, hb⟩
   · obtain ⟨g, k⟩ := TameO.seq (hr a e s) ha (hr b ea sa) hb
     refine ⟨g, fun i o hi hn => ?_⟩
     obtain ⟨q1, q2⟩ := k i o hi hn
     rw [q1]; exact q2
   · cases hb
     refine TameO.one (hr a e s) ha (g := fun s => match rec a e s with | .ok .normal e s => rec b e s | o => o) fun t t' q => ?_
     simp only [q]
     cases x with
     | normal => exact absurd rfl hne
     | _ => rfl
 | cond c a b =>
  simp only [evalC] at h ⊢
  split at h
  · exact hr a e s _ _ _ h
  · exact hr b e s _ _ _ h
  · cases h
 | block id b =>
  simp only [evalC] at h ⊢
  cases hb : rec b e s with
  | fail => rw [hb] at h; cases h
  | ok xb eb sb =>
   rw [hb] at h
   have : ∃ k : Out → Out, (∀ o, k o = match o with | .ok (.exit k) e s => (match Nat.beq k id with | true => .ok .normal e s | false => .ok (.exit k) e s) | o => o) ∧ e' = eb ∧ s' = sb ∧ ∀ t, k (.ok xb eb t) = .ok x e' t := by
    refine ⟨_, fun o => rfl, ?_⟩
    cases xb with
    | exit k =>
     simp only [] at h ⊢
     cases hk : Nat.beq k id <;> rw [hk] at h <;> simp only [] at h ⊢ <;> cases h <;> exact ⟨rfl, rfl, fun t => rfl⟩
    | _ => simp only [] at h ⊢; cases h; exact ⟨rfl, rfl, fun t => rfl⟩
   obtain ⟨k, k1, rfl, rfl, k2⟩ := this
   refine TameO.one (hr b e s) hb (g := fun s => match rec b e s with | .ok (.exit k) e s => (match Nat.beq k id with | true => .ok .normal e s | false => .ok (.exit k) e s) | o => o) fun t t' q => ?_
   simp only [q]
   rw [← k2 t', k1]
 | loop b =>
  simp only [evalC] at h ⊢
  cases hb : rec b e s with
  | fail => rw [hb] at h; cases h
  | ok xb eb sb =>
   rw [hb] at h
   have hc : (xb = .normal ∧ rec (.loop b) eb sb = .ok x e' s') ∨ (xb ≠ .normal ∧ Out.ok xb eb sb = .ok x e' s') := by
    cases xb with
    | normal => exact .inl ⟨rfl, h⟩
    | _ => exact .inr ⟨by simp, h⟩
   rcases hc with ⟨rfl, hc⟩ | ⟨hne, hc⟩
   · obtain ⟨g, k⟩ := TameO.seq (hr b e s) hb (hr (.loop b) eb sb) hc
     refine ⟨g, fun i o hi hn => ?_⟩
     obtain ⟨q1, q2⟩ := k i o hi hn
     rw [q1]; exact q2
   · cases hc
     refine TameO.one (hr b e s) hb (g := fun s => match rec b e s with | .ok .normal e s => rec (.loop b) e s | o => o) fun t t' q => ?_
     simp only [q]
     cases x with
     | normal => exact absurd rfl hne
     | _ => rfl
 | scope cur ls =>
  simp only [evalC] at h ⊢
  cases hb : rec cur e s with
  | fail => rw [hb] at h; cases h
  | ok xb eb sb =>
   rw [hb] at h
   cases xb with
   | goto l =>
    simp only [] at h
    cases hl : labelOf l ls with
    | none => rw [hl] at h; cases h
    | some c =>
     rw [hl] at h
     simp only [] at h
     obtain ⟨g, k⟩ := TameO.seq (hr cur e s) hb (hr (.scope c ls) eb sb) h
     refine ⟨g, fun i o hi hn => ?_⟩
     obtain ⟨q1, q2⟩ := k i o hi hn
     rw [q1]; simp only [hl]; exact q2
   | _ =>
    simp only [] at h
    cases h
    refine TameO.one (hr cur e s) hb (g := fun s => match rec cur e s with | .ok (.goto l) e s => (match labelOf l ls with | some c => rec (.scope c ls) e s | none => .fail) | o => o) fun t t' q => ?_
    simp only [q]

theorem evalN_tame (hT : TameHooks T) : ∀ n, TameRec (evalN T n)
 | 0 => fun c e s x e' s' h => by simp [evalN] at h
 | n + 1 => evalC_tame hT (evalN_tame hT n)
end
end Go.V
