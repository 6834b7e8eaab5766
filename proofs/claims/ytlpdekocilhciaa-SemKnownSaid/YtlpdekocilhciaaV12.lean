/- SOUNDNESS: bytes of a string and back, the library's bodyless functions, min and max, clear. -/
import Derived.Test.YtlpdekocilhciaaV11
/- SOUNDNESS: bytes of a string and back, the library's bodyless functions, min and max, clear. -/
namespace Go.V
open Go

section
variable {P : Prog} {φ : Phi} {s : St} {w : World}

theorem freeze_push (w : World) (cells : Array Value) (el : TypeId) :
    (World.freeze { w with heap := w.heap.push (.cells cells el) } { block := w.heap.size, off := cells.size } 1) = { w with heap := w.heap.push (.cells cells el (cells.size, cells.size + 1)) } := by
  unfold World.freeze
  rw [if_neg (by omega)]
  congr 1
  apply Array.ext_getElem?
  intro i
  rw [Array.getElem?_modify, Array.getElem?_push, Array.getElem?_push]
  by_cases hi : i = w.heap.size
  · subst hi
    simp
  · have hi' : ¬ w.heap.size = i := fun h => hi h.symm
    simp only [hi, hi', if_false]

theorem strBytes_ok (hs : RelSt φ s w) (hf : s.heap.get s.next = none) {sT dT el : TypeId} (h1 : P.underlying sT = some .string) (h2 : P.underlying dT = some (.slice el)) (h3 : P.underlying el = some (.int .u8)) {l : List UInt8} {cx : Value} (hx : VRel φ (.str l) cx) :
    ∃ v w' φ', (convert sT dT cx).run P.toProgram w = .ok v w' ∧ Step φ s w φ' (s.add (.cells (l.map fun b => .int .u8 b.toNat) 0 0 false)) w' ∧ VRel φ' (.slice ⟨s.next, 0, 0, l.length⟩ l.length l.length false 1) v := by
  cases hx
  rename_i bs
  obtain ⟨cap, hcapd⟩ : ∃ cap, cap = (Question.appendCap bs.size 0 el).cut (w.tape w.drawn (Question.appendCap bs.size 0 el)) := ⟨_, rfl⟩
  have hcap : bs.size ≤ cap := by rw [hcapd]; exact cut_ge _ _ _ _
  obtain ⟨cells, hcells⟩ : ∃ cells : Array Value, cells = bs.data.map (fun b => Value.int .u8 b.toNat) ++ Array.replicate (cap - bs.size) (.int .u8 0) := ⟨_, rfl⟩
  have hbl : bs.data.toList.length = bs.size := rfl
  have hcs : cells.size = cap := by
    have : bs.data.size = bs.size := rfl
    rw [hcells, Array.size_append, Array.size_map, Array.size_replicate]; omega
  have st1 : Step φ s w φ s { w with drawn := w.drawn + 1 } := drewStep hs _
  have hst : Step φ s w (φ.upd s.next 0 ⟨w.heap.size, 0, 0, bs.data.toList.length, cap * 1⟩) (s.add (.cells (bs.data.toList.map fun b => .int .u8 b.toNat) 0 0 false))
      { w with drawn := w.drawn + 1, heap := w.heap.push (.cells cells el (cells.size, cells.size + 1)) } := by
    refine st1.trans (step_add st1.rel hf _ _ _ rfl (by intro _ _ _ e; cases e) ?_)
    refine ⟨Nat.le_refl _, fun k h1 h2 => ?_⟩
    have : k = 0 := by omega
    subst this
    refine ⟨_, Phi.upd_same _ _ _ _, cells, el, (cells.size, cells.size + 1), ?_, ?_, ?_, Nat.zero_le _, ?_, ?_, ?_, ?_⟩
    · show (w.heap.push _)[w.heap.size]? = _
      simp
    · show cells.size = cap * 1
      omega
    · intro _ o ho
      have ho' : o < cap * 1 := ho
      show (decide (cells.size ≤ o) && decide (o < cells.size + 1)) = false
      have : ¬ cells.size ≤ o := by omega
      simp [this]
    · show bs.data.toList.length ≤ _
      rw [List.length_map]; exact Nat.le_refl _
    · intro _
      show bs.data.toList.length = _
      rw [List.length_map]
    · show 0 + (bs.data.toList.length - 0) ≤ cap * 1
      omega
    · intro j v _ hj2 hj
      have hj' : j < bs.data.toList.length := hj2
      rw [List.getElem?_map] at hj
      cases hb : bs.data.toList[j]? with
      | none => rw [hb] at hj; cases hj
      | some b =>
        rw [hb, Option.map_some, Option.some.injEq] at hj
        subst hj
        refine ⟨.int .u8 b.toNat, ?_, .int _ _⟩
        show cells[0 + (j - 0)]? = _
        have hb' : bs.data[j]? = some b := by rw [← Array.getElem?_toList]; exact hb
        rw [hcells, show 0 + (j - 0) = j by omega, Array.getElem?_append_left (by rw [Array.size_map]; exact hj'), Array.getElem?_map, hb']
        rfl
  refine ⟨.slice (some ⟨w.heap.size, 0, none⟩) bs.size cap, _, _, ?_, hst, ?_⟩
  · simp only [convert, Sem.run_bind, run_underlying_some h1, run_underlying_some h2, run_underlying_some h3, Result.andThen_ok, Conv.stringToBytes, run_choose, Question.forced, Bool.false_eq_true, if_false, ← hcapd, ← hcells, newRow, run_newObj, Sem.run_pure, markStringish, run_shape]
    have e1 : World.shape? { w with drawn := w.drawn + 1, heap := w.heap.push (.cells cells el) } w.heap.size = some (el, cells.size) := by
      simp [World.shape?]
    simp only [e1, run_freeze]
    have := freeze_push { w with drawn := w.drawn + 1 } cells el
    simp only [] at this
    rw [this]
    rfl
  · have := slice_new (φ := φ) (l := bs.data.toList.map fun b => AV.int .u8 b.toNat) (len := bs.size) (cap := bs.size) (cap' := cap) (n := bs.size) (esz := 1) (b := w.heap.size) (id := s.next) (exact := false) (by rw [List.length_map]; omega) (Nat.le_refl _) (Nat.le_refl _) hcap (by simp)
    rw [List.length_map] at this
    exact this

theorem bytesAV_run : ∀ (l : List AV) (cl : List Value) (bs : List UInt8) (acc : ByteArray) (w : World), VRels φ l cl → bytesAV l = some bs →
    ∃ r : ByteArray, (forIn cl acc fun (c : Value) (s : ByteArray) => (match c with
      | .int .u8 n => pure (ForInStep.yield (s.push (UInt8.ofNat n.toNat)))
      | _ => do
        (stuck "bytesToString: byte expected" : Sem PUnit)
        pure (ForInStep.yield s))).run P.toProgram w = .ok r w ∧ r.data.toList = acc.data.toList ++ bs
  | [], cl, bs, acc, w, h, hb => by
    cases h
    simp [bytesAV] at hb; subst hb
    exact ⟨acc, by simp, by simp⟩
  | v :: l, cl, bs, acc, w, h, hb => by
    cases h
    rename_i c cl h1 h2
    unfold bytesAV at hb
    split at hb
    · rename_i n
      split at hb
      · rename_i r hr
        cases hb
        cases h1
        obtain ⟨q, q1, q2⟩ := bytesAV_run l cl r (acc.push (UInt8.ofNat n)) w h2 hr
        refine ⟨q, ?_, ?_⟩
        · simp only [List.forIn_cons, Sem.run_bind, Sem.run_pure, Result.andThen_ok]
          exact q1
        · rw [q2]; simp
      · cases hb
    · cases hb

theorem bytesStr_ok (hs : RelSt φ s w) {sT dT el : TypeId} (h1 : P.underlying sT = some (.slice el)) (h2 : P.underlying dT = some .string) (h3 : P.underlying el = some (.int .u8)) {a : AAddr} {len cap : Nat} {ex : Bool} {l : List AV} {bs : List UInt8} {cx : Value}
    (hx : VRel φ (.slice a len cap ex 1) cx) (hr : s.readAt a len = some l) (hb : bytesAV l = some bs) : ∃ v, (convert sT dT cx).run P.toProgram w = .ok v w ∧ VRel φ (.str bs) v := by
  obtain ⟨x, cap', rfl, p1, p2, p3, _⟩ := hx.slice_inv
  obtain ⟨cl, c1, c2, c3, c4⟩ := read_run (P := P) hs hr (.ptr p1 p2 p3)
  obtain ⟨r, r1, r2⟩ := bytesAV_run (P := P) l cl bs ByteArray.empty w c3 hb
  refine ⟨.string r, ?_, by have : bs = r.data.toList := by rw [r2]; simp
                            rw [this]; exact .str _⟩
  simp only [convert, Sem.run_bind, run_underlying_some h1, run_underlying_some h2, run_underlying_some h3, Result.andThen_ok, Conv.bytesToString, c4 w rfl]
  rw [List.forIn_toArray]
  exact congrArg (fun q => Result.andThen q fun a w' => (pure (Value.string a) : Sem Value).run P.toProgram w') r1

def mm (b : Bool) : Value → Value → Sem Value := match b with | true => Builtin.max2 | false => Builtin.min2

theorem min2_ok {b : Bool} {x y v : AV} {cx cy : Value} (hx : VRel φ x cx) (hy : VRel φ y cy) (h : minmax2 b x y = some v) :
    ∃ c, (∀ w : World, (mm b cx cy).run P.toProgram w = .ok c w) ∧ VRel φ v c := by
  unfold minmax2 at h
  split at h
  · cases hx; cases hy
    cases b <;> simp only [Option.some.injEq] at h <;> subst h
    · exact ⟨_, fun w => rfl, .int _ _⟩
    · exact ⟨_, fun w => rfl, .int _ _⟩
  · cases hx; cases hy
    cases b
    · exact pureAV_run h
    · exact pureAV_run h
  · cases h

theorem minmax_ok {b : Bool} : ∀ {l : List AV} {cl : List Value} {x v : AV} {cx : Value}, VRel φ x cx → VRels φ l cl → minmaxV b x l = some v →
    ∃ c, (∀ w : World, (cl.foldlM (mm b) cx).run P.toProgram w = .ok c w) ∧ VRel φ v c
  | [], cl, x, v, cx, hx, hl, h => by
    cases hl
    simp [minmaxV] at h; subst h
    exact ⟨cx, fun w => by simp, hx⟩
  | y :: l, cl, x, v, cx, hx, hl, h => by
    cases hl
    rename_i c cl h1 h2
    simp only [minmaxV] at h
    split at h
    · rename_i z hz
      obtain ⟨c1, g1, g2⟩ := min2_ok (P := P) hx h1 hz
      obtain ⟨c2, k1, k2⟩ := minmax_ok g2 h2 h
      exact ⟨c2, fun w => by simp only [List.foldlM_cons, Sem.run_bind, g1, Result.andThen_ok, k1], k2⟩
    · cases h

theorem assert_ok {xT t : TypeId} {d : TypeDesc} (hu : P.underlying t = some d) (hd : ∀ ms, d ≠ .interface ms) {z : AV} (hz : zeroAV P t = some z) {ok : Bool} {x v : AV} {cx : Value} (hx : VRel φ x cx) (h : assertV t z ok x = some v) (w : World) :
    ∃ c, (Instr.typeAssert cx xT t ok).run P.toProgram w = .ok c w ∧ VRel φ v c := by
  obtain ⟨cz, z1, z2⟩ := zeroAV_rel hz
  unfold assertV at h
  split at h
  · rename_i u y
    cases hx
    rename_i c hy
    split at h
    · rename_i he
      subst he
      cases ok <;> simp only [Option.some.injEq] at h <;> subst h
      · exact ⟨c, by cases d <;> first | exact absurd rfl (hd _) | simp [Instr.typeAssert, run_underlying_some hu], hy⟩
      · exact ⟨.tuple #[c, .bool true], by cases d <;> first | exact absurd rfl (hd _) | simp [Instr.typeAssert, run_underlying_some hu], .tuple (l' := [c, .bool true]) (.cons hy (.cons (.bool _) .nil))⟩
    · rename_i hne
      split at h
      · cases h
        exact ⟨.tuple #[cz, .bool false], by cases d <;> first | exact absurd rfl (hd _) | simp [Instr.typeAssert, run_underlying_some hu, hne, z1], .tuple (l' := [cz, .bool false]) (.cons (z2 φ) (.cons (.bool _) .nil))⟩
      · cases h
  · cases hx
    split at h
    · cases h
      exact ⟨.tuple #[cz, .bool false], by cases d <;> first | exact absurd rfl (hd _) | simp [Instr.typeAssert, run_underlying_some hu, z1], .tuple (l' := [cz, .bool false]) (.cons (z2 φ) (.cons (.bool _) .nil))⟩
    · cases h
  · cases h

theorem clear_ok (hs : RelSt φ s w) {argTypes : Array TypeId} {ty t el : TypeId} {esz : Nat} (h0 : argTypes[0]? = some t) (hu : P.underlying t = some (.slice el)) {z : List AV} (hz : zeroCellsV P el = some z) (hzl : z.length = esz)
    {a : AAddr} {len cap : Nat} {ex : Bool} {cx : Value} {s' : St} (hx : VRel φ (.slice a len cap ex esz) cx) (hlen : len ≠ 0) (hn : 0 < esz) (h : storeV s (len * esz) (.ptr a) (.agg (zerosV z len)) = some s') :
    ∃ w', (Builtin.clear_ argTypes ty #[cx]).run P.toProgram w = .ok (.tuple #[]) w' ∧ Step φ s w φ s' w' := by
  obtain ⟨cz, z1, z2⟩ := zeroCells_rel hz
  obtain ⟨x, cap', rfl, p1, p2, p3, p4, _⟩ := hx.slice_inv
  simp only [storeV] at h
  split at h
  · rename_i cs lo inc ho
    split at h
    · rename_i hc
      obtain ⟨c1, c2, c3, c4⟩ := hc
      cases h
      rw [c1] at p1
      have hv : VRels φ (zerosV z len) (Builtin.zeroCells cz.cells len).toList := zeros_rel (z2 φ) (by omega) len
      have hl : (zerosV z len).length = len * esz := by rw [zerosV_length, hzl]
      obtain ⟨w', hr, hst⟩ := write_ok (P := P) hs ho p1 p2 (vs := zerosV z len) (by omega) hv c4
      refine ⟨w', ?_, hst⟩
      obtain ⟨m, rfl⟩ : ∃ m, len = m + 1 := ⟨len - 1, by omega⟩
      simp only [Builtin.clear_, List.getElem?_toArray, List.getElem?_cons_zero, h0, Sem.run_bind, run_underlying_some hu, Result.andThen_ok, z1, hr, Sem.run_pure]
    · cases h
  · cases h
end
end Go.V
