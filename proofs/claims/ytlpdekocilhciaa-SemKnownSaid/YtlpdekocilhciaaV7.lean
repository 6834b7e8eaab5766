/- SOUNDNESS: append. -/
import Derived.Test.YtlpdekocilhciaaV6
import GoSem.Builtin.Append
/- SOUNDNESS: append. -/
namespace Go.V
open Go

section
variable {P : Prog} {φ : Phi} {s : St} {w : World}

theorem growBy_le (newLen : Nat) : ∀ (r c : Nat), c < newLen → Builtin.growBy newLen r c ≤ 2 * newLen + 192
  | 0, c, h => by simp [Builtin.growBy]; omega
  | r + 1, c, h => by
    simp only [Builtin.growBy]
    split
    · omega
    · by_cases h2 : c + (c + 768) / 4 < newLen
      · exact growBy_le newLen r _ h2
      · cases r with
        | zero => simp [Builtin.growBy]; omega
        | succ r =>
          simp only [Builtin.growBy]
          rw [if_pos (by omega)]
          omega

theorem nextcap_le {need cap : Nat} (h : cap < need) : Builtin.nextslicecap need cap ≤ 2 * need + 192 := by
  unfold Builtin.nextslicecap
  split
  · omega
  · split
    · omega
    · exact growBy_le need 4 cap h

/-- What append takes from its second argument, in whatever world of the same heap. -/
structure Gives (P : Prog) (w : World) (φ : Phi) (ap : Sem (Array Value)) (l : List AV) : Prop where
  ex : ∃ cvs : List Value, VRels φ l cvs ∧ ∀ w1 : World, w1.heap = w.heap → ap.run P.toProgram w1 = .ok cvs.toArray w1

theorem read_run (hs : RelSt φ s w) {a : AAddr} {ca : Addr} {size : Nat} {l : List AV} (hr : s.readAt a size = some l) (hx : VRel φ (.ptr a) (.pointer (some ca))) :
    ∃ cl : List Value, cl.length = size ∧ l.length = size ∧ VRels φ l cl ∧ ∀ w1 : World, w1.heap = w.heap → (loadCells ca size).run P.toProgram w1 = .ok cl.toArray w1 := by
  obtain ⟨cl, h1, h2, h3, h4⟩ := read_ok hs hr hx
  refine ⟨cl, h1, h2, h3, fun w1 hw => ?_⟩
  have := run_loadCells_list (P := P.toProgram) w1 ca cl (fun j v hv => by
    have := h4 j v hv
    simpa only [World.cell?, hw] using this)
  rw [h1] at this; exact this

theorem more_ok (hs : RelSt φ s w) {esz : Nat} {x : AV} {cx : Value} {l : List AV} (hx : VRel φ x cx) (h : moreV s esz x = some l) :
    ∃ n, l.length = n * esz ∧ (∀ w1 : World, (Builtin.lenOf cx).run P.toProgram w1 = .ok n w1) ∧ Gives P w φ (Builtin.firstCells esz n cx) l := by
  unfold moreV at h
  split at h
  · cases h; cases hx
    exact ⟨0, by simp, fun w1 => by simp [Builtin.lenOf], ⟨[], .nil, fun w1 _ => by simp [Builtin.firstCells]⟩⟩
  · cases h; cases hx
    exact ⟨0, by simp, fun w1 => by simp [Builtin.lenOf], ⟨[], .nil, fun w1 _ => by simp [Builtin.firstCells, loadCells, loadCellsFrom]⟩⟩
  · rename_i a len cap exact es
    split at h
    · rename_i he; subst he
      cases hx
      rename_i x cap' h1 h2 h3 h4 h5 h6 h7 h8
      obtain ⟨cl, c1, c2, c3, c4⟩ := read_run (P := P) hs h (.ptr h1 h2 h3)
      exact ⟨len, c2, fun w1 => by simp [Builtin.lenOf], ⟨cl, c3, fun w1 hw => by simpa [Builtin.firstCells] using c4 w1 hw⟩⟩
    · cases h
  · split at h
    · rename_i he; subst he
      cases h
      cases hx
      rename_i bs
      refine ⟨bs.size, by simp, fun w1 => by simp [Builtin.lenOf], ⟨bs.data.toList.map fun b => .int .u8 b.toNat, ?_, fun w1 _ => ?_⟩⟩
      · refine VRels.of_get (by simp) fun i v c h1 h2 => ?_
        simp only [List.getElem?_map] at h1 h2
        cases hb : bs.data.toList[i]? with
        | none => simp [hb] at h1
        | some b => simp only [hb, Option.map_some, Option.some.injEq] at h1 h2; subst h1; subst h2; exact .int _ _
      · have : bs.extract 0 bs.size = bs := by
          apply ByteArray.ext; simp
        simp only [Builtin.firstCells, this, Sem.run_pure]
        congr 1
        apply Array.ext'; simp
    · cases h
  · cases h

theorem zeroCells_list (z : Array Value) (n : Nat) : ∀ (j : Nat), j < n * z.size → (Builtin.zeroCells z n)[j]? = some (z[j % z.size]!) := by
  intro j hj
  simp [Builtin.zeroCells, hj]

theorem zerosV_length (z : List AV) : ∀ n, (zerosV z n).length = n * z.length
  | 0 => by simp [zerosV]
  | n + 1 => by simp [zerosV, zerosV_length z n, Nat.succ_mul, Nat.add_comm]

theorem zerosV_get (z : List AV) (hz : 0 < z.length) : ∀ (n j : Nat), j < n * z.length → (zerosV z n)[j]? = z[j % z.length]?
  | 0, j, h => by omega
  | n + 1, j, h => by
    simp only [zerosV]
    by_cases hj : j < z.length
    · rw [List.getElem?_append_left hj, Nat.mod_eq_of_lt hj]
    · have h' : j < n * z.length + 1 * z.length := by rw [← Nat.add_mul]; exact h
      rw [List.getElem?_append_right (by omega), zerosV_get z hz n (j - z.length) (by omega), ← Nat.mod_eq_sub_mod (by omega)]

theorem zeros_rel {z : List AV} {cz : Array Value} (h : VRels φ z cz.toList) (hz : 0 < z.length) (n : Nat) : VRels φ (zerosV z n) (Builtin.zeroCells cz n).toList := by
  have hl : z.length = cz.size := by have := h.length; simpa using this
  refine VRels.of_get (by simp [zerosV_length, Builtin.zeroCells, hl]) fun i v c h1 h2 => ?_
  have hi : i < n * z.length := by
    have := (List.getElem?_eq_some_iff.1 h1).1
    rwa [zerosV_length] at this
  rw [zerosV_get z hz n i hi] at h1
  have h3 := zeroCells_list cz n i (by rw [← hl]; exact hi)
  have h4 : (Builtin.zeroCells cz n)[i]? = some c := by simpa using h2
  rw [h3] at h4
  cases h4
  obtain ⟨c', hc1, hc2⟩ := h.get h1
  have : cz[i % cz.size]! = c' := by
    rw [hl] at hc1
    have : cz[i % cz.size]? = some c' := by simpa using hc1
    simp [getElem!_def, this]
  rw [this]; exact hc2

/-- The core of append: behind the looks at its arguments. -/
def appendRest (el : TypeId) (esz : Nat) (zv : Value) (base : Option Addr) (sLen sCap n : Nat) (ap : Sem (Array Value)) : Sem Value :=
  if sLen + n ≤ sCap then do
    let new ← ap
    if let some a := base then storeCells (a.add (sLen * esz)) new.toList
    pure (.slice base (sLen + n) sCap)
  else do
    let newCap ← choose (.appendCap (sLen + n) sCap el)
    let old ← Builtin.firstCells esz sLen (.slice base sLen sCap)
    let new ← ap
    let rest := Builtin.zeroCells zv.cells (newCap - (sLen + n))
    pure (.slice (some (← newRow el (old ++ new ++ rest))) (sLen + n) newCap)

theorem notInt {dx : TypeDesc} (h : ∀ k, dx ≠ .int k) : (match dx with | .int _ => true | _ => false) = false := by
  cases dx <;> simp at h ⊢
theorem append_core {argTypes : Array TypeId} {ty sT xT el : TypeId} {esz n : Nat} {base : Option Addr} {sLen sCap : Nat} {cx zv : Value} {ei : TypeInfo}
    (h0 : argTypes[0]? = some sT) (h1 : argTypes[1]? = some xT) (hu : P.underlying sT = some (.slice el)) (hi : P.info? el = some ei) (hsz : ei.size = esz) (hb : ei.bytes ≤ 65536) (hz : ei.zero = some zv)
    {dx : TypeDesc} (hxT : P.underlying xT = some dx) (hm : ∀ k, dx ≠ .int k) (hn : ∀ w1 : World, (Builtin.lenOf cx).run P.toProgram w1 = .ok n w1) (hlim : (sLen + n) * 65536 ≤ maxApp) :
    (Builtin.append_ argTypes ty #[.slice base sLen sCap, cx]).run P.toProgram w = (appendRest el esz zv base sLen sCap n (Builtin.firstCells esz n cx)).run P.toProgram w := by
  have hz' : ∀ w1 : World, (zeroValue el).run P.toProgram w1 = .ok zv w1 := fun w1 => run_zeroValue hi hz
  have hlim' : (sLen + n) * 65536 ≤ 1099511627776 := hlim
  have e1 : ∀ w1 : World, (underlying sT).run P.toProgram w1 = .ok (.slice el) w1 := fun w1 => run_underlying_some hu
  have e2 : ∀ w1 : World, (underlying xT).run P.toProgram w1 = .ok dx w1 := fun w1 => run_underlying_some hxT
  have e3 : ∀ w1 : World, (typeInfo el).run P.toProgram w1 = .ok ei w1 := fun w1 => run_typeInfo hi
  have e4 : ∀ w1 : World, (sizeOf el).run P.toProgram w1 = .ok esz w1 := fun w1 => by simp [sizeOf, e3, hsz]
  unfold Builtin.append_
  simp only [List.getElem?_toArray, List.getElem?_cons_zero, List.getElem?_cons_succ, h0, h1]
  simp only [Sem.run_bind, e1, e2, e4, Result.andThen_ok, Sem.run_pure, Bool.false_eq_true, if_false, hn, Bool.not_false, if_true, appendRest]
  by_cases hroom : sLen + n ≤ sCap
  · simp only [hroom, if_true, Sem.run_bind]
    rfl
  · have hcap := nextcap_le (need := sLen + n) (cap := sCap) (by omega)
    have hle : Builtin.nextslicecap (sLen + n) sCap * ei.bytes ≤ (2 * (sLen + n) + 192) * 65536 := Nat.mul_le_mul hcap hb
    have hbig : ¬ Builtin.nextslicecap (sLen + n) sCap * ei.bytes > 2 ^ 48 := by
      generalize Builtin.nextslicecap (sLen + n) sCap * ei.bytes = q at hle
      have e48 : (2 : Nat) ^ 48 = 281474976710656 := rfl
      rw [e48]
      clear hlim
      omega
    have hint : ¬ (((sLen + n : Nat) : Int) > IntKind.i64.max) := by
      have : IntKind.i64.max = 9223372036854775807 := rfl
      rw [this]; omega
    simp only [hroom, if_false, hint, false_and, hbig, Sem.run_bind, Sem.run_pure, e3, Result.andThen_ok, hz', run_askRoom]

theorem append_coreZ {argTypes : Array TypeId} {ty sT xT el : TypeId} {esz n : Nat} {base : Option Addr} {sLen sCap : Nat} {k : IntKind} {zv : Value} {ei : TypeInfo}
    (h0 : argTypes[0]? = some sT) (h1 : argTypes[1]? = some xT) (hu : P.underlying sT = some (.slice el)) (hi : P.info? el = some ei) (hsz : ei.size = esz) (hb : ei.bytes ≤ 65536) (hz : ei.zero = some zv)
    {k' : IntKind} (hxT : P.underlying xT = some (.int k')) (hlim : (sLen + n) * 65536 ≤ maxApp) :
    (Builtin.append_ argTypes ty #[.slice base sLen sCap, .int k (Int.ofNat n)]).run P.toProgram w =
      (appendRest el esz zv base sLen sCap n (if n * esz = 0 then pure #[] else do pure (Builtin.zeroCells (← zeroValue el).cells n))).run P.toProgram w := by
  have hz' : ∀ w1 : World, (zeroValue el).run P.toProgram w1 = .ok zv w1 := fun w1 => run_zeroValue hi hz
  have hlim' : (sLen + n) * 65536 ≤ 1099511627776 := hlim
  have e1 : ∀ w1 : World, (underlying sT).run P.toProgram w1 = .ok (.slice el) w1 := fun w1 => run_underlying_some hu
  have e2 : ∀ w1 : World, (underlying xT).run P.toProgram w1 = .ok (.int k') w1 := fun w1 => run_underlying_some hxT
  have e3 : ∀ w1 : World, (typeInfo el).run P.toProgram w1 = .ok ei w1 := fun w1 => run_typeInfo hi
  have e4 : ∀ w1 : World, (sizeOf el).run P.toProgram w1 = .ok esz w1 := fun w1 => by simp [sizeOf, e3, hsz]
  have hwr : IntKind.i64.wrap (Int.ofNat n) = Int.ofNat n := by
    unfold IntKind.wrap
    have p1 : (2 : Int) ^ IntKind.i64.bits = 18446744073709551616 := rfl
    have p2 : (2 : Int) ^ (IntKind.i64.bits - 1) = 9223372036854775808 := rfl
    rw [p1, p2]
    have : (Int.ofNat n) % 18446744073709551616 = Int.ofNat n := by
      rw [Int.emod_eq_of_lt] <;> simp <;> omega
    rw [this]
    simp only [ge_iff_le]
    rw [if_neg]
    simp [IntKind.signed]; omega
  unfold Builtin.append_
  simp only [List.getElem?_toArray, List.getElem?_cons_zero, List.getElem?_cons_succ, h0, h1]
  simp only [Sem.run_bind, e1, e2, e4, Result.andThen_ok, Sem.run_pure, if_true, asInt, asIntOf, hwr]
  have hneg : ¬ (Int.ofNat n < 0) := by simp
  have hbytes : ¬ (Int.ofNat n * (ei.bytes : Int) > 2 ^ 48) := by
    have : n * ei.bytes ≤ n * 65536 := Nat.mul_le_mul (Nat.le_refl _) hb
    have p : (2 : Int) ^ 48 = 281474976710656 := rfl
    rw [p]
    have : (Int.ofNat n * (ei.bytes : Int)) = ((n * ei.bytes : Nat) : Int) := by simp
    rw [this]; clear hlim; omega
  simp only [hneg, if_false, hbytes, Sem.run_bind, e3, Result.andThen_ok, Sem.run_pure, Bool.not_true, Bool.false_eq_true, appendRest]
  have ht : (Int.ofNat n).toNat = n := rfl
  simp only [ht]
  by_cases hroom : sLen + n ≤ sCap
  · simp only [hroom, if_true, Sem.run_bind]
    rfl
  · have hcap := nextcap_le (need := sLen + n) (cap := sCap) (by omega)
    have hle : Builtin.nextslicecap (sLen + n) sCap * ei.bytes ≤ (2 * (sLen + n) + 192) * 65536 := Nat.mul_le_mul hcap hb
    have hbig : ¬ Builtin.nextslicecap (sLen + n) sCap * ei.bytes > 2 ^ 48 := by
      generalize Builtin.nextslicecap (sLen + n) sCap * ei.bytes = q at hle
      have e48 : (2 : Nat) ^ 48 = 281474976710656 := rfl
      rw [e48]
      clear hlim
      omega
    have hint : ¬ (((sLen + n : Nat) : Int) > IntKind.i64.max) := by
      have : IntKind.i64.max = 9223372036854775807 := rfl
      rw [this]; clear hlim; omega
    simp only [hroom, if_false, hint, false_and, hbig, Sem.run_bind, Sem.run_pure, e3, Result.andThen_ok, hz', run_askRoom]

theorem drewStep (hs : RelSt φ s w) (n : Nat) : Step φ s w φ s { w with drawn := n } := .same hs rfl rfl rfl rfl

theorem take_get (l : List AV) (n j : Nat) : (l.take n)[j]? = if j < n then l[j]? else none := List.getElem?_take

theorem cut_ge (need old el t : Nat) : need ≤ (Question.appendCap need old el).cut t := by
  simp [Question.cut]

theorem grow_new (hs : RelSt φ s w) (hf : s.heap.get s.next = none) {el : TypeId} {esz : Nat} {zv : Value} {base : Option Addr} {sLen sCap k : Nat} {ap : Sem (Array Value)} {old more : List AV} {cold : List Value}
    (hold : VRels φ old cold) (hov : ∀ w1 : World, w1.heap = w.heap → (Builtin.firstCells esz sLen (.slice base sLen sCap)).run P.toProgram w1 = .ok cold.toArray w1)
    (hzs : zv.cells.size = esz) (hap : Gives P w φ ap more) (hnr : ¬ sLen + k ≤ sCap) (ho : old.length = sLen * esz) (hm : more.length = k * esz) :
    ∃ c w' φ', (appendRest el esz zv base sLen sCap k ap).run P.toProgram w = .ok c w' ∧ Step φ s w φ' (s.add (.cells (old ++ more) 0 0 false)) w' ∧
      VRel φ' (.slice ⟨s.next, 0, 0, old.length + more.length⟩ (sLen + k) (sLen + k) false esz) c := by
  obtain ⟨cvs, hcv, hrun⟩ := hap.ex
  have hcl := hcv.length
  have hol := hold.length
  let cap := (Question.appendCap (sLen + k) sCap el).cut (w.tape w.drawn (Question.appendCap (sLen + k) sCap el))
  have hcap : sLen + k ≤ cap := cut_ge _ _ _ _
  let w1 : World := { w with drawn := w.drawn + 1 }
  have st1 : Step φ s w φ s w1 := drewStep hs _
  let cells : Array Value := cold.toArray ++ cvs.toArray ++ Builtin.zeroCells zv.cells (cap - (sLen + k))
  have hsize : cells.size = cap * esz := by
    have : (sLen + k) * esz + (cap - (sLen + k)) * esz = cap * esz := by rw [← Nat.add_mul]; congr 1; omega
    have e2 : (sLen + k) * esz = sLen * esz + k * esz := Nat.add_mul ..
    simp [cells, Builtin.zeroCells, hzs]; omega
  obtain ⟨h1, h2⟩ := newRow_ok (P := P) (el := el) (top := cap * esz) st1.rel hf (l := old ++ more) (cells := cells)
    (by have : (sLen + k) * esz ≤ cap * esz := Nat.mul_le_mul hcap (Nat.le_refl _)
        have e2 : (sLen + k) * esz = sLen * esz + k * esz := Nat.add_mul ..
        simp; omega) hsize
    (fun j v hj => by
      obtain ⟨c, hc, hv⟩ := (hold.append hcv).get hj
      refine ⟨c, ?_, hv⟩
      have hj2 : j < (cold ++ cvs).length := (List.getElem?_eq_some_iff.1 hc).1
      simp only [cells, Array.append_assoc]
      rw [← Array.append_assoc, Array.getElem?_append_left (by simpa using hj2)]
      simpa using hc)
  refine ⟨.slice (some ⟨w1.heap.size, 0, none⟩) (sLen + k) cap, _, _, ?_, st1.trans h2, ?_⟩
  · simp only [appendRest, hnr, if_false, Sem.run_bind, run_choose, Question.forced, Bool.false_eq_true, Result.andThen_ok]
    rw [hov { w with drawn := w.drawn + 1 } rfl]
    simp only [Result.andThen_ok]
    rw [hrun { w with drawn := w.drawn + 1 } rfl]
    simp only [Result.andThen_ok]
    have h1' : (newRow el (cold.toArray ++ cvs.toArray ++ Builtin.zeroCells zv.cells (cap - (sLen + k)))).run P.toProgram { w with drawn := w.drawn + 1 } = _ := h1
    rw [h1']
    simp
    rfl
  · have := VRel.slice (φ := φ.upd s.next 0 ⟨w1.heap.size, 0, 0, (old ++ more).length, cap * esz⟩) (a := ⟨s.next, 0, 0, old.length + more.length⟩) (len := sLen + k) (cap := sLen + k) (exact := false) (esz := esz) (cap' := cap)
      (Phi.upd_same _ _ _ _) (Nat.le_refl _) (by simp) (by simp [ho, hm, Nat.add_mul]) (Nat.le_refl _) hcap (by simp) (by simp)
    simpa using this

theorem grow_old (hs : RelSt φ s w) {el : TypeId} {esz : Nat} {zv : Value} {sLen sCap k : Nat} {ap : Sem (Array Value)} {more : List AV} {a : AAddr} {x : Inc} {cs : List AV} {lo : Nat}
    (ho : s.heap.get a.id = some (.cells cs lo a.inc false)) (h1 : φ a.id a.inc = some x) (h2 : x.sh ≤ a.off) (h3 : a.lim ≤ x.n) (h4 : a.off + sLen * esz ≤ a.lim) (h8 : x.base + (a.off - x.sh) + sCap * esz ≤ x.top)
    (hzs : zv.cells.size = esz) (hap : Gives P w φ ap more) (hm : more.length = k * esz) (hcell : more.all AV.isCell = true) (hk : 0 < k) (hesz : 0 < esz) :
    ∃ c w' φ', (appendRest el esz zv (some ⟨x.blk, x.base + (a.off - x.sh), none⟩) sLen sCap k ap).run P.toProgram w = .ok c w' ∧
      Step φ s w φ' (s.put a.id (.cells (cs.take (a.off + sLen * esz) ++ more) (if a.off + sLen * esz = cs.length then lo else a.inc + 1) (a.inc + 1) false)) w' ∧
      VRel φ' (.slice ⟨a.id, a.off, a.inc + 1, a.off + sLen * esz + more.length⟩ (sLen + k) (sLen + k) false esz) c := by
  obtain ⟨cvs, hcv, hrun⟩ := hap.ex
  have hcl := hcv.length
  have hlo : lo ≤ a.inc := (hs.obj _ _ ho).1
  obtain ⟨cc, el0, fz, hh, e1, e2, e3, e4, e5, e6, e7⟩ := cells_inv hs ho h1 hlo (Nat.le_refl _)
  have hn : x.n = cs.length := e5 (by simp)
  have hp : a.off + sLen * esz ≤ cs.length := by omega
  have hkm : (sLen + k) * esz = sLen * esz + k * esz := Nat.add_mul ..
  have htk : (cs.take (a.off + sLen * esz)).length = a.off + sLen * esz := by simp; omega
  have hkpos : 0 < k * esz := Nat.mul_pos hk hesz
  -- what the cells of the grown object are
  have hget : ∀ j, (cs.take (a.off + sLen * esz) ++ more)[j]? = if j < a.off + sLen * esz then cs[j]? else more[j - (a.off + sLen * esz)]? := by
    intro j
    by_cases hj : j < a.off + sLen * esz
    · rw [if_pos hj, List.getElem?_append_left (by omega), take_get, if_pos hj]
    · rw [if_neg hj, List.getElem?_append_right (by omega), htk]
  have hnone : φ a.id (a.inc + 1) = none := by
    cases e : φ a.id (a.inc + 1) with
    | none => rfl
    | some y => have := hs.incs _ _ _ _ _ _ _ e ho; omega
  by_cases hroom : sLen + k ≤ sCap
  · -- in place
    have hcapk : (sLen + k) * esz ≤ sCap * esz := Nat.mul_le_mul hroom (Nat.le_refl _)
    obtain ⟨w', cc', hr, g1, g2, g3, g4⟩ := run_storeCells (P := P) (b := x.blk) (o := x.base + (a.off - x.sh) + sLen * esz) cvs 0 w cc el0 fz hh (by omega) (by rw [e1]; exact e2 rfl) (hcv.allCells hcell)
    let x' : Inc := ⟨x.blk, x.base, x.sh, a.off + sLen * esz + more.length, x.top⟩
    have hle : PhiLe φ (φ.upd a.id (a.inc + 1) x') := Phi.upd_le hnone
    have hst : Step φ s w (φ.upd a.id (a.inc + 1) x') (s.put a.id (.cells (cs.take (a.off + sLen * esz) ++ more) (if a.off + sLen * esz = cs.length then lo else a.inc + 1) (a.inc + 1) false)) w' := by
      refine step_regrow hs ho h1 (by rw [g3.size]; exact Nat.le_refl _) (fun b _ hb => g3.other b hb) g3.os g3.tape g3.output (.inl ⟨rfl, rfl, rfl, rfl⟩) (by rw [g3.size]; exact (hs.dom _ _ _ h1).2) ?_
      refine ⟨by split <;> omega, fun k' hk1 hk2 => ?_⟩
      by_cases hki : k' = a.inc + 1
      · subst hki
        refine ⟨x', Phi.upd_same _ _ _ _, cc', el0, fz, g1, (by show cc'.size = x.top; omega), e2, by show x.sh ≤ a.off + sLen * esz + more.length; omega, by show a.off + sLen * esz + more.length ≤ _; rw [List.length_append, htk]; exact Nat.le_refl _, fun _ => by show a.off + sLen * esz + more.length = _; rw [List.length_append, htk], by show x.base + (a.off + sLen * esz + more.length - x.sh) ≤ x.top; omega, fun j v hj1 hj2 hjv => ?_⟩
        rw [hget] at hjv
        rw [g4]
        by_cases hj : j < a.off + sLen * esz
        · rw [if_pos hj] at hjv
          obtain ⟨c, hc1, hc2⟩ := e7 j v hj1 (by omega) hjv
          have n1 : ¬ (x.base + (a.off - x.sh) + sLen * esz + 0 ≤ x'.base + (j - x'.sh) ∧ x'.base + (j - x'.sh) < x.base + (a.off - x.sh) + sLen * esz + 0 + cvs.length) := by
            show ¬ (_ ≤ x.base + (j - x.sh) ∧ _); intro ⟨q, _⟩; have : x.sh ≤ j := hj1; omega
          rw [if_neg n1]
          exact ⟨c, hc1, hc2.mono hle⟩
        · rw [if_neg hj] at hjv
          obtain ⟨c, hc1, hc2⟩ := hcv.get hjv
          have hjl : j - (a.off + sLen * esz) < more.length := (List.getElem?_eq_some_iff.1 hjv).1
          have n1 : x.base + (a.off - x.sh) + sLen * esz + 0 ≤ x'.base + (j - x'.sh) ∧ x'.base + (j - x'.sh) < x.base + (a.off - x.sh) + sLen * esz + 0 + cvs.length := by
            show _ ≤ x.base + (j - x.sh) ∧ x.base + (j - x.sh) < _; omega
          rw [if_pos n1]
          refine ⟨c, ?_, hc2.mono hle⟩
          rw [← hc1]; congr 1; show x.base + (j - x.sh) - _ = _; omega
      · have hpl : a.off + sLen * esz = cs.length := by
          by_cases hpl : a.off + sLen * esz = cs.length
          · exact hpl
          · rw [if_neg hpl] at hk1; omega
        rw [if_pos hpl] at hk1
        obtain ⟨y, hy, hyc⟩ := (hs.obj _ _ ho).2 k' hk1 (by omega)
        obtain ⟨dd, el2, fz2, dh, d1, d2, d3, d4, d5, d6, d7⟩ := hyc
        refine ⟨y, hle _ _ _ hy, ?_⟩
        by_cases hyb : y.blk = x.blk
        · rcases hs.inj _ _ _ _ _ _ hy h1 hyb with ⟨_, b1, b2, b3⟩ | ⟨_, b⟩
          · rw [hyb, hh] at dh
            cases dh
            refine ⟨cc', el0, fz, by rw [hyb]; exact g1, by omega, d2, d3, by rw [List.length_append, htk]; omega, fun q => by simp at q; omega, d6, fun j v hj1 hj2 hjv => ?_⟩
            rw [hget, if_pos (by omega)] at hjv
            obtain ⟨c, hc1, hc2⟩ := d7 j v hj1 hj2 hjv
            rw [g4]
            have n1 : ¬ (x.base + (a.off - x.sh) + sLen * esz + 0 ≤ y.base + (j - y.sh) ∧ y.base + (j - y.sh) < x.base + (a.off - x.sh) + sLen * esz + 0 + cvs.length) := by omega
            rw [if_neg n1]
            exact ⟨c, hc1, hc2.mono hle⟩
          · obtain ⟨_, _, _, q⟩ := b; rw [ho] at q; cases q
        · refine ⟨dd, el2, fz2, by rw [g3.other _ hyb]; exact dh, d1, d2, d3, by rw [List.length_append, htk]; omega, fun q => by simp at q; omega, d6, fun j v hj1 hj2 hjv => ?_⟩
          rw [hget, if_pos (by omega)] at hjv
          obtain ⟨c, hc1, hc2⟩ := d7 j v hj1 hj2 hjv
          exact ⟨c, hc1, hc2.mono hle⟩
    refine ⟨.slice (some ⟨x.blk, x.base + (a.off - x.sh), none⟩) (sLen + k) sCap, w', _, ?_, hst, ?_⟩
    · simp only [appendRest, hroom, if_true, Sem.run_bind, hrun w rfl, Result.andThen_ok, addr_add, hr]
      simp
    · exact .slice (x := x') (Phi.upd_same _ _ _ _) h2 (Nat.le_refl _) (by show a.off + (sLen + k) * esz ≤ a.off + sLen * esz + more.length; omega) (Nat.le_refl _) hroom (by simp) h8
  · -- in a new block
    let cap := (Question.appendCap (sLen + k) sCap el).cut (w.tape w.drawn (Question.appendCap (sLen + k) sCap el))
    have hcap : sLen + k ≤ cap := cut_ge _ _ _ _
    let w1 : World := { w with drawn := w.drawn + 1 }
    have hrd : s.readAt a (sLen * esz) = some ((cs.drop a.off).take (sLen * esz)) := by
      simp only [St.readAt, ho]
      rw [if_pos ⟨hlo, Nat.le_refl _, h4⟩]
    obtain ⟨cl, c1, c2, c3, c4⟩ := read_run (P := P) hs hrd (.ptr h1 h2 h3)
    let cells : Array Value := cl.toArray ++ cvs.toArray ++ Builtin.zeroCells zv.cells (cap - (sLen + k))
    have hsize : cells.size = cap * esz := by
      have : (sLen + k) * esz + (cap - (sLen + k)) * esz = cap * esz := by rw [← Nat.add_mul]; congr 1; omega
      simp [cells, Builtin.zeroCells, hzs]; omega
    let w2 : World := { w1 with heap := w.heap.push (.cells cells el) }
    let x' : Inc := ⟨w.heap.size, 0, a.off, a.off + sLen * esz + more.length, cap * esz⟩
    have hle : PhiLe φ (φ.upd a.id (a.inc + 1) x') := Phi.upd_le hnone
    have hold : ∀ b, b < w.heap.size → w2.heap[b]? = w.heap[b]? := by
      intro b hb
      show (w.heap.push _)[b]? = _
      rw [Array.getElem?_push, if_neg (by omega)]
    have hcapk : (sLen + k) * esz ≤ cap * esz := Nat.mul_le_mul hcap (Nat.le_refl _)
    have hst : Step φ s w (φ.upd a.id (a.inc + 1) x') (s.put a.id (.cells (cs.take (a.off + sLen * esz) ++ more) (if a.off + sLen * esz = cs.length then lo else a.inc + 1) (a.inc + 1) false)) w2 := by
      refine step_regrow hs ho h1 (by simp [w2]) (fun b hb _ => hold b hb) rfl rfl rfl (.inr rfl) (by show w.heap.size < (w.heap.push _).size; simp) ?_
      refine ⟨by split <;> omega, fun k' hk1 hk2 => ?_⟩
      by_cases hki : k' = a.inc + 1
      · subst hki
        refine ⟨x', Phi.upd_same _ _ _ _, cells, el, (0, 0), by show (w.heap.push _)[w.heap.size]? = _; simp, hsize, fun _ o _ => by simp, by show a.off ≤ a.off + sLen * esz + more.length; omega, by show a.off + sLen * esz + more.length ≤ _; rw [List.length_append, htk]; exact Nat.le_refl _, fun _ => by show a.off + sLen * esz + more.length = _; rw [List.length_append, htk], by show 0 + (a.off + sLen * esz + more.length - a.off) ≤ cap * esz; omega, fun j v hj1 hj2 hjv => ?_⟩
        have hj1' : a.off ≤ j := hj1
        have hj2' : j < a.off + sLen * esz + more.length := hj2
        have key : ((cs.drop a.off).take (sLen * esz) ++ more)[j - a.off]? = some v := by
          rw [hget] at hjv
          by_cases hj : j < a.off + sLen * esz
          · rw [if_pos hj] at hjv
            rw [List.getElem?_append_left (by omega), take_get, if_pos (by omega), List.getElem?_drop, ← hjv]
            congr 1; omega
          · rw [if_neg hj] at hjv
            rw [List.getElem?_append_right (by omega), c2, ← hjv]
            congr 1; omega
        obtain ⟨c, hc1, hc2⟩ := (c3.append hcv).get key
        refine ⟨c, ?_, hc2.mono hle⟩
        show cells[0 + (j - a.off)]? = some c
        have hj3 : j - a.off < (cl ++ cvs).length := (List.getElem?_eq_some_iff.1 hc1).1
        simp only [cells, Array.append_assoc]
        rw [Nat.zero_add, ← Array.append_assoc, Array.getElem?_append_left (by simpa using hj3)]
        simpa using hc1
      · have hpl : a.off + sLen * esz = cs.length := by
          by_cases hpl : a.off + sLen * esz = cs.length
          · exact hpl
          · rw [if_neg hpl] at hk1; omega
        rw [if_pos hpl] at hk1
        obtain ⟨y, hy, hyc⟩ := (hs.obj _ _ ho).2 k' hk1 (by omega)
        obtain ⟨dd, el2, fz2, dh, d1, d2, d3, d4, d5, d6, d7⟩ := hyc
        refine ⟨y, hle _ _ _ hy, dd, el2, fz2, by rw [hold _ (hs.dom _ _ _ hy).2]; exact dh, d1, d2, d3, by rw [List.length_append, htk]; omega, fun q => by simp at q; omega, d6, fun j v hj1 hj2 hjv => ?_⟩
        rw [hget, if_pos (by omega)] at hjv
        obtain ⟨c, hc1, hc2⟩ := d7 j v hj1 hj2 hjv
        exact ⟨c, hc1, hc2.mono hle⟩
    refine ⟨.slice (some ⟨w.heap.size, 0, none⟩) (sLen + k) cap, w2, _, ?_, hst, ?_⟩
    · simp only [appendRest, hroom, if_false, Sem.run_bind, run_choose, Question.forced, Bool.false_eq_true, Result.andThen_ok]
      have hf : (Builtin.firstCells esz sLen (.slice (some ⟨x.blk, x.base + (a.off - x.sh), none⟩) sLen sCap)).run P.toProgram w1 = .ok cl.toArray w1 := by
        simpa [Builtin.firstCells] using c4 w1 rfl
      have hf' : (Builtin.firstCells esz sLen (.slice (some ⟨x.blk, x.base + (a.off - x.sh), none⟩) sLen sCap)).run P.toProgram { w with drawn := w.drawn + 1 } = .ok cl.toArray { w with drawn := w.drawn + 1 } := hf
      rw [hf']
      simp only [Result.andThen_ok]
      rw [hrun { w with drawn := w.drawn + 1 } rfl]
      simp only [newRow, Sem.run_bind, run_newObj, Result.andThen_ok, Sem.run_pure]
      rfl
    · have := VRel.slice (φ := φ.upd a.id (a.inc + 1) x') (a := ⟨a.id, a.off, a.inc + 1, a.off + sLen * esz + more.length⟩) (x := x') (len := sLen + k) (cap := sLen + k) (exact := false) (esz := esz) (cap' := cap)
        (Phi.upd_same _ _ _ _) (Nat.le_refl _) (Nat.le_refl _) (by show a.off + (sLen + k) * esz ≤ a.off + sLen * esz + more.length; omega) (Nat.le_refl _) hcap (by simp) (by show 0 + (a.off - a.off) + cap * esz ≤ cap * esz; omega)
      have e0 : x'.base + (a.off - x'.sh) = 0 := by show 0 + (a.off - a.off) = 0; omega
      rw [show (⟨a.id, a.off, a.inc + 1, a.off + sLen * esz + more.length⟩ : AAddr).off = a.off from rfl, e0] at this
      exact this

theorem appendRest_ok (hs : RelSt φ s w) {el : TypeId} {esz : Nat} {zv : Value} {base : Option Addr} {sLen sCap k : Nat} {ap : Sem (Array Value)} {x v : AV} {more : List AV} {s' : St}
    (hx : VRel φ x (.slice base sLen sCap)) (hzs : zv.cells.size = esz) (hap : Gives P w φ ap more) (h : appendV s esz x k more = some (v, s'))
    (hfree : ∀ id, s.next ≤ id → id < s'.next → s.heap.get id = none) :
    ∃ c w' φ', (appendRest el esz zv base sLen sCap k ap).run P.toProgram w = .ok c w' ∧ Step φ s w φ' s' w' ∧ VRel φ' v c := by
  obtain ⟨cvs, hcv, hrun⟩ := hap.ex
  have hcl := hcv.length
  unfold appendV at h
  split at h
  · rename_i hc
    obtain ⟨hm1, hm2, hm3⟩ := hc
    split at h
    · -- nothing to add
      rename_i hk
      subst hk
      have hnil : cvs = [] := by
        cases cvs with
        | nil => rfl
        | cons a b => simp at hcl; omega
      subst hnil
      have hroom : ∀ c : Nat, sLen ≤ c → (appendRest el esz zv base sLen c 0 ap).run P.toProgram w = .ok (.slice base sLen c) w := by
        intro c hc
        simp only [appendRest, Nat.add_zero, hc, if_true, Sem.run_bind, hrun w rfl, Result.andThen_ok]
        cases base <;> simp [storeCells]
      split at h
      · cases h; cases hx
        exact ⟨_, w, φ, hroom 0 (Nat.le_refl _), .refl hs, .nilSlice⟩
      · cases h; cases hx
        exact ⟨_, w, φ, hroom _ (Nat.zero_le _), .refl hs, .empty _ _⟩
      · split at h
        · cases h
          have hx' := hx
          cases hx
          exact ⟨_, w, φ, hroom _ (by omega), .refl hs, hx'⟩
        · cases h
      · cases h
    · rename_i hk
      have hk0 : 0 < k := by omega
      split at h
      · -- nil
        split at h
        · rename_i hlim
          cases h
          cases hx
          have hf : s.heap.get s.next = none := hfree _ (Nat.le_refl _) (by simp [St.add])
          have := grow_new (P := P) hs hf (el := el) (zv := zv) (base := none) (sLen := 0) (sCap := 0) (k := k) (old := []) .nil (fun w1 _ => by simp [Builtin.firstCells]) hzs hap (by omega) (by simp) hm1
          simpa [hm1] using this
        · cases h
      · rename_i a len cap exact es
        split at h
        · rename_i hlim
          obtain ⟨he, hlim⟩ := hlim
          subst he
          split at h
          · rename_i cs lo inc ro ho
            simp only [] at h
            split at h
            · -- room for sure
              rename_i hle
              split at h
              · rename_i hc2
                obtain ⟨g1, g2, g3⟩ := hc2
                subst g2
                cases h
                have hx' := hx
                cases hx
                rename_i x h1 h2 h3 h4 h5 h6 h7 h8
                rw [g1] at h1
                obtain ⟨w', hr, hst⟩ := write_ok (P := P) hs ho h1 (off := a.off + sLen * es) (by omega) (by omega) hcv (by simpa using hm2)
                refine ⟨.slice (some ⟨x.blk, x.base + (a.off - x.sh), none⟩) (sLen + k) sCap, w', φ, ?_, hst, ?_⟩
                · have hroom : sLen + k ≤ sCap := by omega
                  simp only [appendRest, hroom, if_true, Sem.run_bind, hrun w rfl, Result.andThen_ok, addr_add]
                  rw [show x.base + (a.off - x.sh) + sLen * es = x.base + (a.off + sLen * es - x.sh) by omega, hr]
                  simp
                · have hmm : (sLen + k) * es = sLen * es + k * es := Nat.add_mul ..
                  exact .slice (by rw [g1]; exact h1) h2 h3 (by omega) hle h6 h7 h8
              · cases h
            · rename_i hnle
              split at h
              · -- none for sure
                split at h
                · rename_i old hold
                  cases h
                  have hf : s.heap.get s.next = none := hfree _ (Nat.le_refl _) (by simp [St.add])
                  cases hx
                  rename_i x h1 h2 h3 h4 h5 h6 h7 h8
                  have hcc : sCap = cap := h7 (by assumption)
                  obtain ⟨cl, c1, c2, c3, c4⟩ := read_run (P := P) hs hold (.ptr h1 h2 h3)
                  exact grow_new (P := P) hs hf (el := el) c3 (fun w1 hw => by simpa [Builtin.firstCells] using c4 w1 hw) hzs hap (by omega) c2 hm1
                · cases h
              · split at h
                · rename_i hc2
                  obtain ⟨g1, g2, g3, g4⟩ := hc2
                  subst g2
                  cases h
                  cases hx
                  rename_i x h1 h2 h3 h4 h5 h6 h7 h8
                  subst g1
                  exact grow_old (P := P) hs ho (by assumption) (by assumption) (by assumption) (by assumption) (by assumption) hzs hap hm1 (by simpa using hm2) hk0 hm3
                · cases h
          · cases h
        · cases h
      · cases h
  · cases h
end
end Go.V
