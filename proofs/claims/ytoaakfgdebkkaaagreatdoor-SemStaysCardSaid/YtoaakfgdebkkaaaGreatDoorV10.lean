/- SOUNDNESS: places, maps, rows made at once, the library's bodyless functions. -/
import Derived.Test.YtoaakfgdebkkaaaGreatDoorVA
import GoSem.Extern.Table
set_option linter.unusedVariables false
set_option linter.unusedSimpArgs false
set_option linter.unusedSectionVars false
/- SOUNDNESS: places, maps, rows made at once, the library's bodyless functions. -/
namespace Go.V
open Go

section
variable {P : Prog} {φ : Phi} {s : St} {w : World}

theorem asInt_nat {k : IntKind} {n : Nat} (w : World) : (asInt (.int k (Int.ofNat n))).run P.toProgram w = .ok (Int.ofNat n) w := by simp [asInt, asIntOf]

theorem idxV_inv {n esz : Nat} {a : AAddr} {i v : AV} (h : idxV n esz a i = some v) : ∃ k m, i = .int k (Int.ofNat m) ∧ m < n ∧ v = .ptr { a with off := a.off + m * esz } := by
 unfold idxV at h
 split at h
 · split at h
   · cases h; exact ⟨_, _, rfl, by assumption, rfl⟩
   · cases h
 · cases h

theorem idxArr_ok {t el : TypeId} {n esz : Nat} (hu : P.underlying t = some (.array n el)) (hsz : szOf P el = some esz) {a : AAddr} {i v : AV} {cx ci : Value} (hx : VRel φ (.ptr a) cx) (hi : VRel φ i ci)
 (h : idxV n esz a i = some v) (w : World) : ∃ c, (Instr.indexAt t cx ci).run P.toProgram w = .ok c w ∧ VRel φ v c := by
 obtain ⟨k, m, rfl, hm, rfl⟩ := idxV_inv h
 cases hi
 obtain ⟨x, rfl, p1, p2, p3⟩ := hx.ptr_inv
 have hb : (0 : Int) ≤ Int.ofNat m ∧ Int.ofNat m < (n : Int) := ⟨by simp, by simp; omega⟩
 refine ⟨.pointer (some ⟨x.blk, x.base + (a.off - x.sh) + m * esz, none⟩), ?_, ?_⟩
 · simp only [Instr.indexAt, asIntOf, Sem.run_bind, Sem.run_pure, Result.andThen_ok, run_underlying_some hu, Instr.sureAddr, hb, and_self, if_true, run_sizeOf hsz, addr_add]
   rfl
 · have := VRel.ptr (φ := φ) (a := { a with off := a.off + m * esz }) p1 (by show x.sh ≤ a.off + m * esz; omega) p3
   rw [show x.base + (a.off - x.sh) + m * esz = x.base + (a.off + m * esz - x.sh) by omega]
   exact this

theorem idxSl_ok {t el : TypeId} {esz : Nat} (hu : P.underlying t = some (.slice el)) (hsz : szOf P el = some esz) {a : AAddr} {len cap : Nat} {ex : Bool} {i v : AV} {cx ci : Value} (hx : VRel φ (.slice a len cap ex esz) cx) (hi : VRel φ i ci)
 (h : idxV len esz a i = some v) (w : World) : ∃ c, (Instr.indexAt t cx ci).run P.toProgram w = .ok c w ∧ VRel φ v c := by
 obtain ⟨k, m, rfl, hm, rfl⟩ := idxV_inv h
 cases hi
 obtain ⟨x, cap', rfl, p1, p2, p3, _⟩ := hx.slice_inv
 have hb : (0 : Int) ≤ Int.ofNat m ∧ Int.ofNat m < (len : Int) := ⟨by simp, by simp; omega⟩
 refine ⟨.pointer (some ⟨x.blk, x.base + (a.off - x.sh) + m * esz, none⟩), ?_, ?_⟩
 · simp only [Instr.indexAt, asIntOf, Sem.run_bind, Sem.run_pure, Result.andThen_ok, run_underlying_some hu, hb, and_self, if_true, run_sizeOf hsz, addr_add]
   rfl
 · have := VRel.ptr (φ := φ) (a := { a with off := a.off + m * esz }) p1 (by show x.sh ≤ a.off + m * esz; omega) p3
   rw [show x.base + (a.off - x.sh) + m * esz = x.base + (a.off + m * esz - x.sh) by omega]
   exact this

theorem idxStr_ok {t : TypeId} (hu : P.underlying t = some .string) {l : List UInt8} {k : IntKind} {m : Nat} {b : UInt8} {cx : Value} (hx : VRel φ (.str l) cx) (h : l[m]? = some b) (w : World) :
 (Instr.index t cx (.int k (Int.ofNat m))).run P.toProgram w = .ok (.int .u8 b.toNat) w := by
 cases hx
 rename_i bs
 have h0 : (0 : Int) ≤ Int.ofNat m := by simp
 have hb : bs[m]? = some b := by
  have : bs.data[m]? = some b := by simpa using h
  rw [← this]; rfl
 have ht : (Int.ofNat m).toNat = m := rfl
 simp only [Instr.index, asIntOf, Sem.run_bind, Sem.run_pure, Result.andThen_ok, run_underlying_some hu, h0, if_true, ht, hb]

theorem idxAgg_ok {t el : TypeId} {n esz : Nat} (hu : P.underlying t = some (.array n el)) (hsz : szOf P el = some esz) {cs : List AV} {k : IntKind} {m : Nat} {v : AV} {cx : Value} (hx : VRel φ (.agg cs) cx) (hm : m < n)
 (h : partAV (aggT P el) cs (m * esz) esz = some v) (w : World) : ∃ c, (Instr.index t cx (.int k (Int.ofNat m))).run P.toProgram w = .ok c w ∧ VRel φ v c := by
 cases hx
 rename_i l hl
 obtain ⟨c, h1, h2⟩ := part_ok (P := P) (cc := ⟨l⟩) hl hsz h
 have hb : (0 : Int) ≤ Int.ofNat m ∧ Int.ofNat m < (n : Int) := ⟨by simp, by simp; omega⟩
 have ht : (Int.ofNat m).toNat = m := rfl
 exact ⟨c, by simp only [Instr.index, asIntOf, Sem.run_bind, Sem.run_pure, Result.andThen_ok, run_underlying_some hu, hb, and_self, if_true, run_sizeOf hsz, ht, h1], h2⟩

theorem fieldAt_ok {t : TypeId} {fs : Array Field} {i : Nat} {f : Field} {n : Nat} (hu : P.underlying t = some (.struct fs)) (hf : fs[i]? = some f) (hsz : szOf P f.type = some n) (hn : n ≠ 0) {a : AAddr} {cx : Value} (hx : VRel φ (.ptr a) cx) (w : World) :
 ∃ c, (Instr.fieldAt t cx i).run P.toProgram w = .ok c w ∧ VRel φ (.ptr { a with off := a.off + f.offset }) c := by
 obtain ⟨x, rfl, p1, p2, p3⟩ := hx.ptr_inv
 refine ⟨.pointer (some ⟨x.blk, x.base + (a.off - x.sh) + f.offset, none⟩), ?_, ?_⟩
 · simp only [Instr.fieldAt, Sem.run_bind, run_underlying_some hu, Result.andThen_ok, hf, Instr.sureAddr, Sem.run_pure, fieldPlace, run_sizeOf hsz, hn, if_false, addr_add]
 · have := VRel.ptr (φ := φ) (a := { a with off := a.off + f.offset }) p1 (by show x.sh ≤ a.off + f.offset; omega) p3
   rw [show x.base + (a.off - x.sh) + f.offset = x.base + (a.off + f.offset - x.sh) by omega]
   exact this

theorem field_ok {t : TypeId} {fs : Array Field} {i : Nat} {f : Field} {n : Nat} (hu : P.underlying t = some (.struct fs)) (hf : fs[i]? = some f) (hsz : szOf P f.type = some n) {cs : List AV} {v : AV} {cx : Value} (hx : VRel φ (.agg cs) cx)
 (h : partAV (aggT P f.type) cs f.offset n = some v) (w : World) : ∃ c, (Instr.field t cx i).run P.toProgram w = .ok c w ∧ VRel φ v c := by
 cases hx
 rename_i l hl
 obtain ⟨c, h1, h2⟩ := part_ok (P := P) (cc := ⟨l⟩) hl hsz h
 exact ⟨c, by simp only [Instr.field, Sem.run_bind, run_underlying_some hu, Result.andThen_ok, hf, asAgg, Sem.run_pure, h1], h2⟩

/- maps -/
def kkDesc : KK → TypeDesc → Prop
 | .int k, d => d = .int k
 | .str, d => d = .string
 | .bool, d => d = .bool

theorem kkOf_some {t : TypeId} {k : KK} (h : kkOf P t = some k) : ∃ d, P.underlying t = some d ∧ kkDesc k d := by
 unfold kkOf at h
 split at h <;> first | (cases h; exact ⟨_, by assumption, rfl⟩) | cases h

theorem keyEq_ok {k : KK} {d : TypeDesc} (hd : kkDesc k d) {x y : AV} {cx cy : Value} {b : Bool} (hx : VRel φ x cx) (hy : VRel φ y cy) (h : keyEq k x y = some b) : Instr.sameNow d cx cy = some b := by
 cases k with
 | int k0 =>
  cases hd
  cases x <;> cases y <;> simp [keyEq] at h
  obtain ⟨rfl, rfl⟩ := h
  cases hx; cases hy
  simp [Instr.sameNow]
  rfl
 | str =>
  cases hd
  cases x <;> cases y <;> simp [keyEq] at h
  subst h
  cases hx; cases hy
  rw [bytesEq_eq]
  simp only [Instr.sameNow, beq_data]
 | bool =>
  cases hd
  cases x <;> cases y <;> simp [keyEq] at h
  subst h
  cases hx; cases hy
  simp [Instr.sameNow]

theorem find_ok {k : KK} {d : TypeDesc} (hd : kkDesc k d) {key : AV} {ck : Value} (hk : VRel φ key ck) : ∀ {es : List AEntry} {ces : List MapEntry} (i : Nat) {r : Option (Nat × AV)}, EntsRel φ es ces → findV k key es i = some r →
 ∃ cr, Instr.findNow d ck ces i = some cr ∧ ((r = none ∧ cr = none) ∨ ∃ j v c, r = some (j, v) ∧ cr = some (j, c) ∧ VRel φ v c ∧ i ≤ j ∧ ∃ en, es[j - i]? = some en ∧ en.val = v ∧ keyEq k key en.key = some true)
 | _, _, i, r, .nil, h => by
  simp [findV] at h; subst h
  exact ⟨none, rfl, .inl ⟨rfl, rfl⟩⟩
 | _, _, i, r, .cons (a := a) (b := b) (l := l) (l' := l') h1 h2 h3 h4, h => by
  simp only [findV] at h
  split at h
  · rename_i he
    cases h
    refine ⟨some (i, b.val), by simp [Instr.findNow, keyEq_ok hd hk h1 he], .inr ⟨i, a.val, b.val, rfl, rfl, h2, Nat.le_refl _, a, by simp, rfl, he⟩⟩
  · rename_i he
    obtain ⟨cr, c1, c2⟩ := find_ok hd hk (i + 1) h4 h
    refine ⟨cr, by simp [Instr.findNow, keyEq_ok hd hk h1 he, c1], ?_⟩
    rcases c2 with c2 | ⟨j, v, c, e1, e2, e3, e4, en, e5, e6⟩
    · exact .inl c2
    · refine .inr ⟨j, v, c, e1, e2, e3, by omega, en, ?_, e6⟩
      rw [show j - i = (j - (i + 1)) + 1 by omega]; simpa using e5
  · cases h

theorem run_findKey {kt : TypeId} {d : TypeDesc} (hu : P.underlying kt = some d) {ck : Value} {ces : List MapEntry} {cr : Option (Nat × Value)} (h : Instr.findNow d ck ces 0 = some cr) (w : World) :
 (Instr.findKey kt ck ces).run P.toProgram w = .ok cr w := by
 simp only [Instr.findKey, Sem.run_bind, run_underlying_some hu, Result.andThen_ok, h, Sem.run_pure]

theorem run_checkKey {k : KK} {kt : TypeId} {d : TypeDesc} (hu : P.underlying kt = some d) (hd : kkDesc k d) (e : Bool) (n : Nat) (ck : Value) (w : World) : (Instr.checkKey e (n + 1) kt ck).run P.toProgram w = .ok () w := by
 unfold Instr.checkKey
 simp only [Sem.run_bind, run_underlying_some hu, Result.andThen_ok]
 cases k <;> cases hd <;> simp

theorem run_getObj {b : Nat} {es : Array MapEntry} {cl : Nat} (h : w.heap[b]? = some (.map es cl)) : (getObj b).run P.toProgram w = .ok (.map es cl) w := by
 simp [getObj, Sem.run, h]
theorem run_setObj {b : Nat} {es : Array MapEntry} {cl : Nat} (o : Obj) (h : w.heap[b]? = some (.map es cl)) : (setObj b o).run P.toProgram w = .ok () { w with heap := w.heap.setIfInBounds b o } := by
 simp [setObj, Sem.run, h]

theorem map_inv (hs : RelSt φ s w) {r : Nat} {x : Inc} {es : List AEntry} {cl : Nat} (ho : s.heap.get r = some (.map es cl)) (hx : φ r 0 = some x) : ∃ ces, w.heap[x.blk]? = some (.map ces cl) ∧ EntsRel φ es ces.toList := by
 obtain ⟨y, ces, hy, h1, h2⟩ := hs.obj _ _ ho
 rw [hx] at hy; cases hy
 exact ⟨ces, h1, h2⟩

theorem lookIn_ok {k : KK} {d : TypeDesc} (hd : kkDesc k d) {z : AV} {ok : Bool} {key v : AV} {ck cz : Value} (hkey : VRel φ key ck) (hz : VRel φ z cz) {es : List AEntry} {ces : List MapEntry} (he : EntsRel φ es ces) (h : lookIn k z ok key es = some v) :
 ∃ cr c, Instr.findNow d ck ces 0 = some cr ∧ VRel φ v c ∧ ((cr = none ∧ c = (if ok then .tuple #[cz, .bool false] else cz)) ∨ ∃ j u, cr = some (j, u) ∧ c = (if ok then .tuple #[u, .bool true] else u)) := by
 unfold lookIn at h
 split at h
 · cases h
 · rename_i r hr
   obtain ⟨cr, c1, c2⟩ := find_ok hd hkey 0 he hr
   simp only [Option.some.injEq] at h
   subst h
   rcases c2 with ⟨rfl, rfl⟩ | ⟨j, vv, c, rfl, rfl, hv, _⟩
   · cases ok with
     | true => exact ⟨none, .tuple #[cz, .bool false], c1, .tuple (l' := [cz, .bool false]) (.cons hz (.cons (.bool _) .nil)), .inl ⟨rfl, by simp⟩⟩
     | false => exact ⟨none, cz, c1, hz, .inl ⟨rfl, by simp⟩⟩
   · cases ok with
     | true => exact ⟨some (j, c), .tuple #[c, .bool true], c1, .tuple (l' := [c, .bool true]) (.cons hv (.cons (.bool _) .nil)), .inr ⟨j, c, rfl, by simp⟩⟩
     | false => exact ⟨some (j, c), c, c1, hv, .inr ⟨j, c, rfl, by simp⟩⟩

theorem lookup_ok (hs : RelSt φ s w) {t kt et : TypeId} {k : KK} {z : AV} {ok : Bool} {m key v : AV} {cm ck : Value} (hu : P.underlying t = some (.map kt et)) (hk : kkOf P kt = some k) (hz : zeroAV P et = some z)
 (hm : VRel φ m cm) (hkey : VRel φ key ck) (h : lookupV s k z ok m key = some v) : ∃ c, (Instr.lookup t cm ck ok).run P.toProgram w = .ok c w ∧ VRel φ v c := by
 obtain ⟨d, hd1, hd2⟩ := kkOf_some hk
 obtain ⟨cz, z1, z2⟩ := zeroAV_rel hz
 cases m <;> simp only [lookupV, reduceCtorEq] at h
 · rename_i r
   cases hm
   rename_i x hx
   cases ho : s.heap.get r with
   | none => rw [ho] at h; cases h
   | some o =>
    rw [ho] at h
    cases o with
    | cells a b c d => cases h
    | map es cl =>
     obtain ⟨ces, h1, h2⟩ := map_inv hs ho hx
     obtain ⟨cr, c, c1, c2, c3⟩ := lookIn_ok hd2 hkey (z2 φ) h2 h
     refine ⟨c, ?_, c2⟩
     simp only [Instr.lookup, Sem.run_bind, run_underlying_some hu, Result.andThen_ok, run_getObj h1, Sem.run_pure, run_checkKey hd1 hd2, run_findKey hd1 c1]
     rcases c3 with ⟨rfl, rfl⟩ | ⟨j, u, rfl, rfl⟩ <;> simp [z1]
 · cases hm
   obtain ⟨cr, c, c1, c2, c3⟩ := lookIn_ok hd2 hkey (z2 φ) .nil h
   refine ⟨c, ?_, c2⟩
   have c1' : Instr.findNow d ck (#[] : Array MapEntry).toList 0 = some cr := c1
   simp only [Instr.lookup, Sem.run_bind, run_underlying_some hu, Result.andThen_ok, Sem.run_pure, run_checkKey hd1 hd2, run_findKey hd1 c1']
   rcases c3 with ⟨rfl, rfl⟩ | ⟨j, u, rfl, rfl⟩ <;> simp [z1]

/- a map's block turns -/
theorem EntsRel.get : ∀ {l : List AEntry} {l' : List MapEntry} {i : Nat} {a : AEntry}, EntsRel φ l l' → l[i]? = some a → ∃ b, l'[i]? = some b ∧ VRel φ a.key b.key ∧ VRel φ a.val b.val ∧ a.born = b.born
 | _, _, 0, _, .cons h1 h2 h3 _, h => by simp at h; subst h; exact ⟨_, by simp, h1, h2, h3⟩
 | _, _, i + 1, a, .cons _ _ _ h4, h => by simp at h ⊢; exact EntsRel.get h4 h

theorem EntsRel.length : ∀ {l : List AEntry} {l' : List MapEntry}, EntsRel φ l l' → l.length = l'.length
 | _, _, .nil => rfl
 | _, _, .cons _ _ _ h => by simp [h.length]

theorem EntsRel.append : ∀ {l : List AEntry} {l' : List MapEntry} {m : List AEntry} {m' : List MapEntry}, EntsRel φ l l' → EntsRel φ m m' → EntsRel φ (l ++ m) (l' ++ m')
 | _, _, _, _, .nil, h => h
 | _, _, _, _, .cons a b c d, h => .cons a b c (EntsRel.append d h)

theorem EntsRel.setEnt {key v : AV} {ck c : Value} (hk : VRel φ key ck) (hv : VRel φ v c) : ∀ {l : List AEntry} {l' : List MapEntry} (i : Nat), EntsRel φ l l' → EntsRel φ (setEnt key v l i) (l'.modify i fun e => { e with key := ck, val := c })
 | _, _, i, .nil => by cases i <;> simp [V.setEnt] <;> exact .nil
 | _, _, 0, .cons a b c' d => by simp [V.setEnt]; exact .cons hk hv c' d
 | _, _, i + 1, .cons a b c' d => by simp [V.setEnt]; exact .cons a b c' (EntsRel.setEnt hk hv i d)

theorem EntsRel.erase : ∀ {l : List AEntry} {l' : List MapEntry} (i : Nat), EntsRel φ l l' → EntsRel φ (l.eraseIdx i) (l'.eraseIdx i)
 | _, _, i, .nil => by simp; exact .nil
 | _, _, 0, .cons a b c d => by simpa using d
 | _, _, i + 1, .cons a b c d => by simp; exact .cons a b c (EntsRel.erase i d)

theorem mapStep (hs : RelSt φ s w) {r : Nat} {x : Inc} {es es' : List AEntry} {cl cl' : Nat} {ces ces' : Array MapEntry} (ho : s.heap.get r = some (.map es cl)) (hx : φ r 0 = some x) (hw : w.heap[x.blk]? = some (.map ces cl)) (he : EntsRel φ es' ces'.toList) :
 Step φ s w φ (s.put r (.map es' cl')) { w with heap := w.heap.setIfInBounds x.blk (.map ces' cl') } := by
 have hlt := (hs.dom _ _ _ hx).2
 refine step_put hs ho hx (by intro _ _ _ e; cases e) (by intro _ _ _ _ e; cases e) (by simp) (fun b hb => ?_) (by simp only [World.shape?, hw]; simp [hlt]) rfl rfl rfl ?_
 · show (w.heap.setIfInBounds x.blk _)[b]? = _
   rw [Array.getElem?_setIfInBounds_ne (Ne.symm hb)]
 · exact ⟨x, ces', hx, by show (w.heap.setIfInBounds x.blk _)[x.blk]? = _; simp [hlt], he⟩

theorem sameBits_key {k : KK} {x y : AV} {cx cy : Value} (hx : VRel φ x cx) (hy : VRel φ y cy) (h : keyEq k x y = some true) : Instr.sameBits 10000 cy cx = true := by
 cases k <;> cases x <;> cases y <;> simp [keyEq] at h
 · obtain ⟨rfl, rfl⟩ := h
   cases hx; cases hy
   simp [Instr.sameBits]
 · cases hx; cases hy
   rw [bytesEq_eq] at h
   rename_i a b
   have : a.data.toList = b.data.toList := by simpa using h
   simp only [Instr.sameBits, beq_data, this, beq_self_eq_true]
 · subst h
   cases hx; cases hy
   simp [Instr.sameBits]

theorem mapSet_ok (hs : RelSt φ s w) {t kt et : TypeId} {k : KK} {m key v : AV} {cm ck cv : Value} {s' : St} (hu : P.underlying t = some (.map kt et)) (hk : kkOf P kt = some k)
 (hm : VRel φ m cm) (hkey : VRel φ key ck) (hv : VRel φ v cv) (h : mapSetV s k m key v = some s') : ∃ w', (Instr.mapUpdate t cm ck cv).run P.toProgram w = .ok () w' ∧ Step φ s w φ s' w' := by
 obtain ⟨d, hd1, hd2⟩ := kkOf_some hk
 cases m <;> simp only [mapSetV, reduceCtorEq] at h
 rename_i r
 cases hm
 rename_i x hx
 cases ho : s.heap.get r with
 | none => rw [ho] at h; cases h
 | some o =>
  rw [ho] at h
  cases o with
  | cells a b c d => cases h
  | map es cl =>
   obtain ⟨ces, h1, h2⟩ := map_inv hs ho hx
   simp only [] at h
   split at h
   · rename_i i u hf
     cases h
     obtain ⟨cr, c1, c2⟩ := find_ok hd2 hkey 0 h2 hf
     rcases c2 with ⟨q, _⟩ | ⟨j, vv, c, e1, rfl, e3, _, en, e5, e6, e7⟩
     · cases q
     · cases e1
       simp only [Nat.sub_zero] at e5
       obtain ⟨b, hb1, hb2, _, _⟩ := h2.get e5
       have hb1' : ces[i]? = some b := by simpa using hb1
       have hsb : Instr.sameBits 10000 b.key ck = true := sameBits_key hkey hb2 e7
       refine ⟨_, ?_, mapStep hs ho hx h1 (cl' := cl) (ces' := ces.modify i fun e => { e with key := ck, val := cv }) (by
        have := EntsRel.setEnt hkey hv i h2
        simpa [Array.toList_modify] using this)⟩
       simp only [Instr.mapUpdate, Sem.run_bind, run_underlying_some hu, Result.andThen_ok, run_getObj h1, Sem.run_pure, run_checkKey hd1 hd2, run_findKey hd1 c1, hb1', Option.map_some, Option.getD_some, Instr.keyThatStays, hsb, if_true, run_setObj _ h1]
   · rename_i hf
     cases h
     obtain ⟨cr, c1, c2⟩ := find_ok hd2 hkey 0 h2 hf
     rcases c2 with ⟨_, rfl⟩ | ⟨j, vv, c, e1, _⟩
     · refine ⟨_, ?_, mapStep hs ho hx h1 (cl' := cl + 1) (ces' := ces.push { key := ck, val := cv, born := cl }) (by
        rw [Array.toList_push]; exact h2.append (.cons hkey hv rfl .nil))⟩
       simp only [Instr.mapUpdate, Sem.run_bind, run_underlying_some hu, Result.andThen_ok, run_getObj h1, Sem.run_pure, run_checkKey hd1 hd2, run_findKey hd1 c1, run_setObj _ h1]
     · cases e1
   · cases h

theorem delete_ok (hs : RelSt φ s w) {argTypes : Array TypeId} {ty t kt et : TypeId} {k : KK} {m key : AV} {cm ck : Value} {s' : St} (h0 : argTypes[0]? = some t) (hu : P.underlying t = some (.map kt et)) (hk : kkOf P kt = some k)
 (hm : VRel φ m cm) (hkey : VRel φ key ck) (h : deleteV s k m key = some s') : ∃ w', (Builtin.delete_ argTypes ty #[cm, ck]).run P.toProgram w = .ok (.tuple #[]) w' ∧ Step φ s w φ s' w' := by
 obtain ⟨d, hd1, hd2⟩ := kkOf_some hk
 cases m <;> simp only [deleteV, reduceCtorEq] at h
 · rename_i r
   cases hm
   rename_i x hx
   cases ho : s.heap.get r with
   | none => rw [ho] at h; cases h
   | some o =>
    rw [ho] at h
    cases o with
    | cells a b c d => cases h
    | map es cl =>
     obtain ⟨ces, h1, h2⟩ := map_inv hs ho hx
     simp only [] at h
     split at h
     · rename_i i u hf
       cases h
       obtain ⟨cr, c1, c2⟩ := find_ok hd2 hkey 0 h2 hf
       rcases c2 with ⟨q, _⟩ | ⟨j, vv, c, e1, rfl, e3, _⟩
       · cases q
       · cases e1
         refine ⟨_, ?_, mapStep hs ho hx h1 (cl' := cl) (ces' := ces.eraseIdxIfInBounds i) (by
          have := EntsRel.erase i h2
          simpa using this)⟩
         simp only [Builtin.delete_, List.getElem?_toArray, List.getElem?_cons_zero, List.getElem?_cons_succ, h0, Sem.run_bind, run_underlying_some hu, Result.andThen_ok, run_getObj h1, Sem.run_pure, run_checkKey hd1 hd2, run_findKey hd1 c1, run_setObj _ h1]
     · rename_i hf
       cases h
       obtain ⟨cr, c1, c2⟩ := find_ok hd2 hkey 0 h2 hf
       rcases c2 with ⟨_, rfl⟩ | ⟨j, vv, c, e1, _⟩
       · refine ⟨_, ?_, mapStep hs ho hx h1 (cl' := cl) (ces' := ces) h2⟩
         simp only [Builtin.delete_, List.getElem?_toArray, List.getElem?_cons_zero, List.getElem?_cons_succ, h0, Sem.run_bind, run_underlying_some hu, Result.andThen_ok, run_getObj h1, Sem.run_pure, run_checkKey hd1 hd2, run_findKey hd1 c1, run_setObj _ h1]
       · cases e1
     · cases h
 · cases h
   cases hm
   refine ⟨w, ?_, .refl hs⟩
   simp only [Builtin.delete_, List.getElem?_toArray, List.getElem?_cons_zero, List.getElem?_cons_succ, h0, Sem.run_bind, run_underlying_some hu, Result.andThen_ok, Sem.run_pure, run_checkKey hd1 hd2]
end
end Go.V
