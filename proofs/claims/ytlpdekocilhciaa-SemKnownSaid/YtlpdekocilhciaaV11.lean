/- SOUNDNESS: rows made at once, conversions, the library's bodyless functions. -/
import Derived.Test.YtlpdekocilhciaaV10
/- SOUNDNESS: rows made at once, conversions, the library's bodyless functions. -/
namespace Go.V
open Go

section
variable {P : Prog} {φ : Phi} {s : St} {w : World}

theorem foldl_get : ∀ (l : List Value) (k off : Nat) (cs : Array Value), off + k + l.length ≤ cs.size →
    ((l.zipIdx k).foldl (fun cs (p : Value × Nat) => cs.setIfInBounds (off + p.2) p.1) cs).size = cs.size ∧
    ∀ j : Nat, ((l.zipIdx k).foldl (fun cs (p : Value × Nat) => cs.setIfInBounds (off + p.2) p.1) cs)[j]? = if off + k ≤ j ∧ j < off + k + l.length then l[j - (off + k)]? else cs[j]?
  | [], k, off, cs, _ => by
    refine ⟨rfl, fun j => ?_⟩
    have n1 : ¬ (off + k ≤ j ∧ j < off + k + ([] : List Value).length) := by simp
    rw [if_neg n1]; rfl
  | v :: l, k, off, cs, h => by
    simp only [List.length_cons] at h
    obtain ⟨h1, h2⟩ := foldl_get l (k + 1) off (cs.setIfInBounds (off + k) v) (by rw [Array.size_setIfInBounds]; omega)
    rw [List.zipIdx_cons, List.foldl_cons]
    refine ⟨by rw [h1]; simp, fun j => ?_⟩
    rw [h2]
    simp only [List.length_cons]
    by_cases hj : j = off + k
    · subst hj
      have n1 : ¬ (off + (k + 1) ≤ off + k ∧ off + k < off + (k + 1) + l.length) := by omega
      have n2 : off + k ≤ off + k ∧ off + k < off + k + (l.length + 1) := by omega
      have n3 : off + k < cs.size := by omega
      rw [if_neg n1, if_pos n2]
      simp [n3]
    · by_cases hj2 : off + (k + 1) ≤ j ∧ j < off + (k + 1) + l.length
      · have n2 : off + k ≤ j ∧ j < off + k + (l.length + 1) := by omega
        rw [if_pos hj2, if_pos n2, show j - (off + k) = (j - (off + (k + 1))) + 1 by omega]
        simp
      · have n2 : ¬ (off + k ≤ j ∧ j < off + k + (l.length + 1)) := by omega
        rw [if_neg hj2, if_neg n2]
        simp [Ne.symm hj]

theorem splice_rel {cs vs : List AV} {ccs : Array Value} {cvs : Array Value} {off : Nat} (hc : VRels φ cs ccs.toList) (hv : VRels φ vs cvs.toList) (h : off + vs.length ≤ cs.length) :
    VRels φ (spliceAt cs off vs) (cvs.zipIdx.foldl (fun cs (p : Value × Nat) => cs.setIfInBounds (off + p.2) p.1) ccs).toList := by
  have hl1 := hc.length
  have hl2 := hv.length
  have e1 : ccs.toList.length = ccs.size := rfl
  rw [← Array.foldl_toList, Array.toList_zipIdx]
  obtain ⟨h1, h2⟩ := foldl_get cvs.toList 0 off ccs (by omega)
  have e2 : ∀ a : Array Value, a.toList.length = a.size := fun _ => rfl
  refine VRels.of_get (by rw [splice_length cs off vs h, e2, h1]; omega) fun i v c hv1 hc1 => ?_
  rw [splice_get cs off vs h] at hv1
  rw [Array.getElem?_toList, h2] at hc1
  by_cases hi : off ≤ i ∧ i < off + vs.length
  · have n1 : off + 0 ≤ i ∧ i < off + 0 + cvs.toList.length := by omega
    rw [if_pos hi] at hv1
    rw [if_pos n1] at hc1
    obtain ⟨c', g1, g2⟩ := hv.get hv1
    simp only [Nat.add_zero] at hc1
    rw [g1] at hc1; cases hc1; exact g2
  · have n1 : ¬ (off + 0 ≤ i ∧ i < off + 0 + cvs.toList.length) := by omega
    rw [if_neg hi] at hv1
    rw [if_neg n1] at hc1
    obtain ⟨c', g1, g2⟩ := hc.get hv1
    have : ccs[i]? = some c' := by simpa using g1
    rw [this] at hc1; cases hc1; exact g2

theorem fill_ok {place : Nat → Option (Nat × Nat)} : ∀ (parts : List (Nat × Operand)) (ps : List (Nat × Nat × Opd)) {nt : Nat} {e : Env} {a : Act}, GlobOk P φ → RelEnv nt φ e a → partsIns P place parts = some ps →
    ∀ (cs : List AV) (ccs : Array Value) (r : List AV), VRels φ cs ccs.toList → fillV cs (partsOf e ps) = some r → ∃ cr, Instr.fill place ccs (parts.map fun p => (p.1, a.eval p.2)) = some cr ∧ VRels φ r cr.toList
  | [], ps, nt, e, a, hg, he, h, cs, ccs, r, hc, hr => by
    simp [partsIns] at h; subst h
    simp [partsOf, fillV] at hr; subst hr
    exact ⟨ccs, rfl, hc⟩
  | (i, x) :: l, ps, nt, e, a, hg, he, h, cs, ccs, r, hc, hr => by
    simp only [partsIns] at h
    split at h
    · rename_i o n y r' h1 h2 h3
      cases h
      simp only [partsOf, fillV] at hr
      split at hr
      · rename_i hcond
        have hv := opd_rel hg he h2
        have hvc := hv.cells
        have hl := hvc.length
        have hcl := hc.length
        have hsz : (a.eval x).cells.size = n := by have : (a.eval x).cells.toList.length = (a.eval x).cells.size := rfl; omega
        have hcc : ccs.toList.length = ccs.size := rfl
        have hcond1 : ¬ ((a.eval x).cells.size ≠ n || decide (o + (a.eval x).cells.size > ccs.size)) = true := by simp; omega
        have hrel := splice_rel (off := o) hc hvc (by omega)
        obtain ⟨cr, c1, c2⟩ := fill_ok l r' hg he h3 _ _ r hrel hr
        refine ⟨cr, ?_, c2⟩
        simp only [List.map_cons, Instr.fill, h1]
        rw [if_neg hcond1]
        exact c1
      · cases hr
    · cases h

theorem run_placesV (w : World) : ∀ (fs : List Field), (∀ f ∈ fs, ∃ n, szOf P f.type = some n) →
    ∃ places : List (Nat × Nat), (fs.mapM fun f => Prod.mk f.offset <$> sizeOf f.type).run P.toProgram w = .ok places w ∧ ∀ i : Nat, places[i]? = match fs[i]? with | some f => (match szOf P f.type with | some n => some (f.offset, n) | none => none) | none => none
  | [], _ => ⟨[], by simp, fun i => by simp⟩
  | f :: fs, h => by
    obtain ⟨n, hn⟩ := h f (List.mem_cons_self ..)
    obtain ⟨places, h1, h2⟩ := run_placesV w fs (fun g hg => h g (List.mem_cons_of_mem _ hg))
    refine ⟨(f.offset, n) :: places, by simp [List.mapM_cons, run_sizeOf hn, h1], fun i => ?_⟩
    cases i with
    | zero => simp [hn]
    | succ i => simpa using h2 i

theorem fill_place {p q : Nat → Option (Nat × Nat)} (h : ∀ i, p i = q i) : ∀ (l : List (Nat × Value)) (cs : Array Value), Instr.fill p cs l = Instr.fill q cs l
  | [], _ => rfl
  | (i, v) :: l, cs => by
    simp only [Instr.fill, h i]
    split
    · rfl
    · split
      · rfl
      · exact fill_place h l _

theorem build_struct_ok {t : TypeId} {fs : Array Field} (hu : P.underlying t = some (.struct fs)) {z : List AV} (hz : zeroCellsV P t = some z) {parts : Array (Nat × Operand)} {ps : List (Nat × Nat × Opd)} (hp : partsIns P (structPlace P fs) parts.toList = some ps)
    {nt : Nat} {e : Env} {a : Act} (hg : GlobOk P φ) (he : RelEnv nt φ e a) {r : List AV} (h : fillV z (partsOf e ps) = some r) (hall : ∀ f ∈ fs.toList, ∃ n, szOf P f.type = some n) (w : World) :
    ∃ c, (Instr.build t (parts.map fun p => (p.1, a.eval p.2))).run P.toProgram w = .ok c w ∧ VRel φ (.agg r) c := by
  obtain ⟨cz, z1, z2⟩ := zeroCells_rel hz
  obtain ⟨cr, c1, c2⟩ := fill_ok (P := P) parts.toList ps hg he hp z cz.cells r (z2 φ) h
  obtain ⟨places, p1, p2⟩ := run_placesV (P := P) w fs.toList hall
  refine ⟨.agg cr, ?_, .agg (l' := cr.toList) c2⟩
  have hpl : ∀ i, places[i]? = structPlace P fs i := by
    intro i
    rw [p2 i]
    simp only [structPlace]
    rw [Array.getElem?_toList]
    rfl
  have c1' : Instr.fill (places.toArray[·]?) cz.cells (parts.map fun p => (p.1, a.eval p.2)).toList = some cr := by
    rw [fill_place (q := structPlace P fs) (fun i => by simpa using hpl i), Array.toList_map]
    exact c1
  simp only [Instr.build, Sem.run_bind, z1, Result.andThen_ok, run_underlying_some hu]
  have hm : (fs.mapM fun f : Field => (do pure (f.offset, ← sizeOf f.type) : Sem (Nat × Nat))).run P.toProgram w = .ok places.toArray w := by
    have : (fun f : Field => (do pure (f.offset, ← sizeOf f.type) : Sem (Nat × Nat))) = fun f => Prod.mk f.offset <$> sizeOf f.type := by
      funext f; simp
    rw [this, Array.mapM_eq_mapM_toList]
    simp [p1]
  rw [hm]
  simp only [Result.andThen_ok]
  rw [c1']
  simp

theorem build_array_ok {t el : TypeId} {len n : Nat} (hu : P.underlying t = some (.array len el)) (hsz : szOf P el = some n) {z : List AV} (hz : zeroCellsV P t = some z) {parts : Array (Nat × Operand)} {ps : List (Nat × Nat × Opd)} (hp : partsIns P (fun i => some (i * n, n)) parts.toList = some ps)
    {nt : Nat} {e : Env} {a : Act} (hg : GlobOk P φ) (he : RelEnv nt φ e a) {r : List AV} (h : fillV z (partsOf e ps) = some r) (w : World) :
    ∃ c, (Instr.build t (parts.map fun p => (p.1, a.eval p.2))).run P.toProgram w = .ok c w ∧ VRel φ (.agg r) c := by
  obtain ⟨cz, z1, z2⟩ := zeroCells_rel hz
  obtain ⟨cr, c1, c2⟩ := fill_ok (P := P) parts.toList ps hg he hp z cz.cells r (z2 φ) h
  refine ⟨.agg cr, ?_, .agg (l' := cr.toList) c2⟩
  have c1' : Instr.fill (fun i => some (i * n, n)) cz.cells (parts.map fun p => (p.1, a.eval p.2)).toList = some cr := by
    rw [Array.toList_map]; exact c1
  simp only [Instr.build, Sem.run_bind, z1, Result.andThen_ok, run_underlying_some hu, run_sizeOf hsz]
  rw [c1']
  simp

theorem zeros_eq {z : List AV} {cz : Array Value} (h : VRels φ z cz.toList) (hz : 0 < z.length) (n m : Nat) (hm : m = n * z.length) : VRels φ (zerosV z n) ((Array.range m).map (cz[· % cz.size]!)).toList := by
  have hl : z.length = cz.size := by have := h.length; simpa using this
  have := zeros_rel h hz n
  simpa [Builtin.zeroCells, hm, hl] using this

theorem slice_new {l : List AV} {len cap' n esz b : Nat} {exact : Bool} {cap : Nat} {id : Nat} (hl : l.length = n * esz) (hlen : len ≤ cap) (hn : len ≤ n) (hcap : cap ≤ cap') (hex : exact = true → cap' = cap) :
    VRel (φ.upd id 0 ⟨b, 0, 0, l.length, cap' * esz⟩) (.slice ⟨id, 0, 0, l.length⟩ len cap exact esz) (.slice (some ⟨b, 0, none⟩) len cap') := by
  have hm : len * esz ≤ n * esz := Nat.mul_le_mul hn (Nat.le_refl _)
  have := VRel.slice (φ := φ.upd id 0 ⟨b, 0, 0, l.length, cap' * esz⟩) (a := ⟨id, 0, 0, l.length⟩) (len := len) (cap := cap) (exact := exact) (esz := esz) (cap' := cap')
    (Phi.upd_same _ _ _ _) (Nat.le_refl _) (Nat.le_refl _) (by show 0 + len * esz ≤ l.length; omega) hlen hcap hex (by show 0 + (0 - 0) + cap' * esz ≤ cap' * esz; omega)
  simpa using this

theorem buildSlice_ok (hs : RelSt φ s w) (hf : s.heap.get s.next = none) {t el : TypeId} {len n : Nat} (hu : P.underlying t = some (.slice el)) (hsz : szOf P el = some n) {z : List AV} (hz : zeroCellsV P el = some z) (hzl : z.length = n) (hn : 0 < n) (hlim : len * n ≤ 2 ^ 24)
    {parts : Array (Nat × Operand)} {ps : List (Nat × Nat × Opd)} (hp : partsIns P (fun i => some (i * n, n)) parts.toList = some ps) {nt : Nat} {e : Env} {a : Act} (hg : GlobOk P φ) (he : RelEnv nt φ e a) {r : List AV} (h : fillV (zerosV z len) (partsOf e ps) = some r) :
    ∃ c w' φ', (Instr.buildSlice t len (parts.map fun p => (p.1, a.eval p.2))).run P.toProgram w = .ok c w' ∧ Step φ s w φ' (s.add (.cells r 0 0 false)) w' ∧ VRel φ' (.slice ⟨s.next, 0, 0, r.length⟩ len len true n) c := by
  obtain ⟨cz, z1, z2⟩ := zeroCells_rel hz
  have hzs : cz.cells.size = n := by have := (z2 φ).length; simp at this; omega
  have hrel0 : VRels φ (zerosV z len) ((Array.range (len * n)).map (cz.cells[· % cz.cells.size]!)).toList := zeros_eq (z2 φ) (by omega) len (len * n) (by rw [hzl])
  obtain ⟨cr, c1, c2⟩ := fill_ok (P := P) parts.toList ps hg he hp _ _ r hrel0 h
  have hrl : r.length = cr.size := by have := c2.length; simpa using this
  have hfl : ∀ (l : List (Nat × Nat × AV)) (cs r : List AV), fillV cs l = some r → r.length = cs.length := by
    intro l
    induction l with
    | nil => intro cs r h; simp [fillV] at h; rw [h]
    | cons q l ih =>
      intro cs r h
      obtain ⟨o, k, v⟩ := q
      simp only [fillV] at h
      split at h
      · rename_i hc
        rw [ih _ _ h, splice_length _ _ _ (by omega)]
      · cases h
  have hr0 : r.length = len * n := by rw [hfl _ _ _ h, zerosV_length, hzl]
  obtain ⟨g1, g2⟩ := newRow_ok (P := P) (el := el) (top := len * n) hs hf (l := r) (cells := cr) (by omega) (by omega) (fun j v hj => by
    obtain ⟨c, hc, h⟩ := c2.get hj
    exact ⟨c, by simpa using hc, h⟩)
  refine ⟨.slice (some ⟨w.heap.size, 0, none⟩) len len, _, _, ?_, g2, slice_new (n := len) hr0 (Nat.le_refl _) (Nat.le_refl _) (Nat.le_refl _) (fun _ => rfl)⟩
  have c1' : Instr.fill (fun i => some (i * n, n)) ((Array.range (len * n)).map (cz.cells[· % cz.cells.size]!)) (parts.map fun p => (p.1, a.eval p.2)).toList = some cr := by
    rw [Array.toList_map]; exact c1
  have hbig : ¬ (len * n > 2 ^ 24) := by omega
  simp only [Instr.buildSlice, Sem.run_bind, run_underlying_some hu, Result.andThen_ok, run_sizeOf hsz, hbig, if_false]
  by_cases h0 : len * n = 0
  · have hc0 : Instr.fill (fun i => some (i * n, n)) ((Array.range (len * n)).map ((#[] : Array Value)[· % (#[] : Array Value).size]!)) (parts.map fun p => (p.1, a.eval p.2)).toList = some cr := by
      have : (Array.range (len * n)).map ((#[] : Array Value)[· % (#[] : Array Value).size]!) = (Array.range (len * n)).map (cz.cells[· % cz.cells.size]!) := by
        rw [h0]; simp
      rw [this]; exact c1'
    simp only [h0, if_true, Sem.run_pure, Sem.run_bind, Result.andThen_ok]
    rw [h0] at hc0
    rw [hc0]
    simp [g1]
  · simp only [h0, if_false, Sem.run_bind, z1, Result.andThen_ok, Sem.run_pure]
    rw [c1']
    simp [g1]

theorem mkSlice_ok (hs : RelSt φ s w) (hf : s.heap.get s.next = none) {t el : TypeId} {n l c : Nat} (hu : P.underlying t = some (.slice el)) (hsz : szOf P el = some n) {z : List AV} (hz : zeroCellsV P el = some z) (hzl : z.length = n) (hn : 0 < n)
    (hlc : l ≤ c) (hc : c * 65536 ≤ maxApp) (hb : bytesOfT P el ≤ 65536) {k k' : IntKind} :
    ∃ v w' φ', (Instr.makeSlice t (.int k (Int.ofNat l)) (.int k' (Int.ofNat c))).run P.toProgram w = .ok v w' ∧ Step φ s w φ' (s.add (.cells (zerosV z c) 0 0 false)) w' ∧ VRel φ' (.slice ⟨s.next, 0, 0, c * n⟩ l c true n) v := by
  obtain ⟨cz, z1, z2⟩ := zeroCells_rel hz
  have hzs : cz.cells.size = n := by have := (z2 φ).length; simp at this; omega
  obtain ⟨d, i, hd, hi, hsi⟩ := szOf_some hsz
  have hbi : i.bytes ≤ 65536 := by simpa [bytesOfT, hi] using hb
  have hc' : c * 65536 ≤ 1099511627776 := hc
  have hlen : (zerosV z c).length = c * n := by rw [zerosV_length, hzl]
  have hrel0 : VRels φ (zerosV z c) ((Array.range (c * n)).map (cz.cells[· % cz.cells.size]!)).toList := zeros_eq (z2 φ) (by omega) c (c * n) (by rw [hzl])
  obtain ⟨g1, g2⟩ := newRow_ok (P := P) (el := el) (top := c * n) hs hf (l := zerosV z c) (cells := (Array.range (c * n)).map (cz.cells[· % cz.cells.size]!)) (by simp; omega) (by simp) (fun j v hj => by
    obtain ⟨c, hc, h⟩ := hrel0.get hj
    exact ⟨c, by rwa [Array.getElem?_toList] at hc, h⟩)
  have hv := slice_new (φ := φ) (l := zerosV z c) (len := l) (cap := c) (cap' := c) (n := c) (esz := n) (b := w.heap.size) (id := s.next) (exact := true) hlen hlc hlc (Nat.le_refl _) (fun _ => rfl)
  rw [hlen] at hv
  refine ⟨.slice (some ⟨w.heap.size, 0, none⟩) l c, _, _, ?_, g2, by rw [hlen]; exact hv⟩
  have wr : ∀ m : Nat, m ≤ c → IntKind.i64.wrap (Int.ofNat m) = Int.ofNat m := by
    intro m hm
    unfold IntKind.wrap
    have p1 : (2 : Int) ^ IntKind.i64.bits = 18446744073709551616 := rfl
    have p2 : (2 : Int) ^ (IntKind.i64.bits - 1) = 9223372036854775808 := rfl
    rw [p1, p2]
    have : (Int.ofNat m) % 18446744073709551616 = Int.ofNat m := by
      rw [Int.emod_eq_of_lt] <;> simp <;> omega
    rw [this]
    simp only [ge_iff_le]
    rw [if_neg]
    simp [IntKind.signed]; omega
  have hlarge : (decide (Int.ofNat c < 0) || decide ((i.bytes : Int) * Int.ofNat c > 2 ^ 48)) = false := by
    have : i.bytes * c ≤ 65536 * c := Nat.mul_le_mul hbi (Nat.le_refl _)
    have p : (2 : Int) ^ 48 = 281474976710656 := rfl
    rw [p]
    have e : ((i.bytes : Int) * Int.ofNat c) = ((i.bytes * c : Nat) : Int) := by simp
    rw [e]
    simp
    omega
  have hl0 : decide (Int.ofNat l < 0) = false := by simp
  have hlc2 : decide (Int.ofNat l > Int.ofNat c) = false := by simp; omega
  simp only [Instr.makeSlice, Sem.run_bind, run_underlying_some hu, Result.andThen_ok, asInt_nat, run_typeInfo hi, wr l hlc, wr c (Nat.le_refl _), hlarge, hl0, hlc2, Bool.or_self, Bool.false_eq_true, if_false, run_askRoom, run_sizeOf hsz]
  have ht : (Int.ofNat c).toNat = c := rfl
  have htl : (Int.ofNat l).toNat = l := rfl
  simp only [ht, htl]
  by_cases h0 : c * n = 0
  · have hc0 : (Array.range (c * n)).map ((#[] : Array Value)[· % (#[] : Array Value).size]!) = (Array.range (c * n)).map (cz.cells[· % cz.cells.size]!) := by rw [h0]; simp
    simp only [h0, if_true, Sem.run_pure, Sem.run_bind, Result.andThen_ok]
    rw [h0] at g1 hc0
    rw [hc0, g1]
    simp
  · simp only [h0, if_false, Sem.run_bind, z1, Result.andThen_ok, Sem.run_pure, g1]

end
end Go.V
