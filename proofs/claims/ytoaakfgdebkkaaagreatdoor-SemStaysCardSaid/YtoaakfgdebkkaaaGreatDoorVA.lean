/- SOUNDNESS: append. -/
import Derived.Test.YtoaakfgdebkkaaaGreatDoorV6
import GoSem.Builtin.Append
set_option linter.unusedVariables false
set_option linter.unusedSimpArgs false
set_option linter.unusedSectionVars false
/- SOUNDNESS: append. -/
/- SOUNDNESS: append. -/
namespace Go.V
open Go

section
variable {P : Prog} {φ : Phi} {s : St} {w : World}

theorem growBy_le (newLen : Nat) : ∀ (r c : Nat), c < newLen → Builtin.growBy newLen r c ≤ 2 * newLen + 192
 | 0, c, h => by simp [Builtin.growBy]; omega
 | r + 1, c, h => by
  simp only [Builtin.growBy]
  split
  · omega
  · by_cases h2 : c + (c + 768) / 4 < newLen
    · exact growBy_le newLen r _ h2
    · cases r with
      | zero => simp [Builtin.growBy]; omega
      | succ r =>
       simp only [Builtin.growBy]
       rw [if_pos (by omega)]
       omega

theorem nextcap_le {need cap : Nat} (h : cap < need) : Builtin.nextslicecap need cap ≤ 2 * need + 192 := by
 unfold Builtin.nextslicecap
 split
 · omega
 · split
   · omega
   · exact growBy_le need 4 cap h

/-- What append takes from its second argument, in whatever world of the same heap. -/
structure Gives (P : Prog) (w : World) (φ : Phi) (ap : Sem (Array Value)) (l : List AV) : Prop where
 ex : ∃ cvs : List Value, VRels φ l cvs ∧ ∀ w1 : World, w1.heap = w.heap → ap.run P.toProgram w1 = .ok cvs.toArray w1

theorem read_run (hs : RelSt φ s w) {a : AAddr} {ca : Addr} {size : Nat} {l : List AV} (hr : s.readAt a size = some l) (hx : VRel φ (.ptr a) (.pointer (some ca))) :
 ∃ cl : List Value, cl.length = size ∧ l.length = size ∧ VRels φ l cl ∧ ∀ w1 : World, w1.heap = w.heap → (loadCells ca size).run P.toProgram w1 = .ok cl.toArray w1 := by
 obtain ⟨cl, h1, h2, h3, h4⟩ := read_ok hs hr hx
 refine ⟨cl, h1, h2, h3, fun w1 hw => ?_⟩
 have := run_loadCells_list (P := P.toProgram) w1 ca cl (fun j v hv => by
  have := h4 j v hv
  simpa only [World.cell?, hw] using this)
 rw [h1] at this; exact this

theorem more_ok (hs : RelSt φ s w) {esz : Nat} {x : AV} {cx : Value} {l : List AV} (hx : VRel φ x cx) (h : moreV s esz x = some l) :
 ∃ n, l.length = n * esz ∧ (∀ w1 : World, (Builtin.lenOf cx).run P.toProgram w1 = .ok n w1) ∧ Gives P w φ (Builtin.firstCells esz n cx) l := by
 unfold moreV at h
 split at h
 · cases h; cases hx
   exact ⟨0, by simp, fun w1 => by simp [Builtin.lenOf], ⟨[], .nil, fun w1 _ => by simp [Builtin.firstCells]⟩⟩
 · cases h; cases hx
   exact ⟨0, by simp, fun w1 => by simp [Builtin.lenOf], ⟨[], .nil, fun w1 _ => by simp [Builtin.firstCells, loadCells, loadCellsFrom]⟩⟩
 · rename_i a len cap exact es
   split at h
   · rename_i he; subst he
     cases hx
     rename_i x cap' h1 h2 h3 h4 h5 h6 h7 h8
     obtain ⟨cl, c1, c2, c3, c4⟩ := read_run (P := P) hs h (.ptr h1 h2 h3)
     exact ⟨len, c2, fun w1 => by simp [Builtin.lenOf], ⟨cl, c3, fun w1 hw => by simpa [Builtin.firstCells] using c4 w1 hw⟩⟩
   · cases h
 · split at h
   · rename_i he; subst he
     cases h
     cases hx
     rename_i bs
     refine ⟨bs.size, by simp, fun w1 => by simp [Builtin.lenOf], ⟨bs.data.toList.map fun b => .int .u8 b.toNat, ?_, fun w1 _ => ?_⟩⟩
     · refine VRels.of_get (by simp) fun i v c h1 h2 => ?_
       simp only [List.getElem?_map] at h1 h2
       cases hb : bs.data.toList[i]? with
       | none => simp [hb] at h1
       | some b => simp only [hb, Option.map_some, Option.some.injEq] at h1 h2; subst h1; subst h2; exact .int _ _
     · have : bs.extract 0 bs.size = bs := by
        apply ByteArray.ext; simp
       simp only [Builtin.firstCells, this, Sem.run_pure]
       congr 1
       apply Array.ext'; simp
   · cases h
 · cases h

theorem zeroCells_list (z : Array Value) (n : Nat) : ∀ (j : Nat), j < n * z.size → (Builtin.zeroCells z n)[j]? = some (z[j % z.size]!) := by
 intro j hj
 simp [Builtin.zeroCells, hj]

theorem zerosV_length (z : List AV) : ∀ n, (zerosV z n).length = n * z.length
 | 0 => by simp [zerosV]
 | n + 1 => by simp [zerosV, zerosV_length z n, Nat.succ_mul, Nat.add_comm]

theorem zerosV_get (z : List AV) (hz : 0 < z.length) : ∀ (n j : Nat), j < n * z.length → (zerosV z n)[j]? = z[j % z.length]?
 | 0, j, h => by omega
 | n + 1, j, h => by
  simp only [zerosV]
  by_cases hj : j < z.length
  · rw [List.getElem?_append_left hj, Nat.mod_eq_of_lt hj]
  · have h' : j < n * z.length + 1 * z.length := by rw [← Nat.add_mul]; exact h
    rw [List.getElem?_append_right (by omega), zerosV_get z hz n (j - z.length) (by omega), ← Nat.mod_eq_sub_mod (by omega)]

theorem zeros_rel {z : List AV} {cz : Array Value} (h : VRels φ z cz.toList) (hz : 0 < z.length) (n : Nat) : VRels φ (zerosV z n) (Builtin.zeroCells cz n).toList := by
 have hl : z.length = cz.size := by have := h.length; simpa using this
 refine VRels.of_get (by simp [zerosV_length, Builtin.zeroCells, hl]) fun i v c h1 h2 => ?_
 have hi : i < n * z.length := by
  have := (List.getElem?_eq_some_iff.1 h1).1
  rwa [zerosV_length] at this
 rw [zerosV_get z hz n i hi] at h1
 have h3 := zeroCells_list cz n i (by rw [← hl]; exact hi)
 have h4 : (Builtin.zeroCells cz n)[i]? = some c := by simpa using h2
 rw [h3] at h4
 cases h4
 obtain ⟨c', hc1, hc2⟩ := h.get h1
 have : cz[i % cz.size]! = c' := by
  rw [hl] at hc1
  have : cz[i % cz.size]? = some c' := by simpa using hc1
  simp [getElem!_def, this]
 rw [this]; exact hc2

/-- The core of append: behind the looks at its arguments. -/
def appendRest (el : TypeId) (esz : Nat) (zv : Value) (base : Option Addr) (sLen sCap n : Nat) (ap : Sem (Array Value)) : Sem Value :=
 if sLen + n ≤ sCap then do
  let new ← ap
  if let some a := base then storeCells (a.add (sLen * esz)) new.toList
  pure (.slice base (sLen + n) sCap)
 else do
  let newCap ← choose (.appendCap (sLen + n) sCap el)
  let old ← Builtin.firstCells esz sLen (.slice base sLen sCap)
  let new ← ap
  let rest := Builtin.zeroCells zv.cells (newCap - (sLen + n))
  pure (.slice (some (← newRow el (old ++ new ++ rest))) (sLen + n) newCap)

theorem append_core {argTypes : Array TypeId} {ty sT xT el : TypeId} {esz n : Nat} {base : Option Addr} {sLen sCap : Nat} {cx zv : Value} {ei : TypeInfo}
 (h0 : argTypes[0]? = some sT) (h1 : argTypes[1]? = some xT) (hu : P.underlying sT = some (.slice el)) (hi : P.info? el = some ei) (hsz : ei.size = esz) (hb : ei.bytes ≤ 65536) (hz : ei.zero = some zv)
 {dx : TypeDesc} (hxT : P.underlying xT = some dx) (hm : ∀ k, dx ≠ .int k) (hn : ∀ w1 : World, (Builtin.lenOf cx).run P.toProgram w1 = .ok n w1) (hlim : (sLen + n) * 65536 ≤ maxApp) :
 (Builtin.append_ argTypes ty #[.slice base sLen sCap, cx]).run P.toProgram w = (appendRest el esz zv base sLen sCap n (Builtin.firstCells esz n cx)).run P.toProgram w := by
 have hz' : ∀ w1 : World, (zeroValue el).run P.toProgram w1 = .ok zv w1 := fun w1 => run_zeroValue hi hz
 have hlim' : (sLen + n) * 65536 ≤ 1099511627776 := hlim
 have e1 : ∀ w1 : World, (underlying sT).run P.toProgram w1 = .ok (.slice el) w1 := fun w1 => run_underlying_some hu
 have e2 : ∀ w1 : World, (underlying xT).run P.toProgram w1 = .ok dx w1 := fun w1 => run_underlying_some hxT
 have e3 : ∀ w1 : World, (typeInfo el).run P.toProgram w1 = .ok ei w1 := fun w1 => run_typeInfo hi
 have e4 : ∀ w1 : World, (sizeOf el).run P.toProgram w1 = .ok esz w1 := fun w1 => by simp [sizeOf, e3, hsz]
 unfold Builtin.append_
 simp only [List.getElem?_toArray, List.getElem?_cons_zero, List.getElem?_cons_succ, h0, h1]
 simp only [Sem.run_bind, e1, e2, e4, Result.andThen_ok, Sem.run_pure, Bool.false_eq_true, if_false, hn, Bool.not_false, if_true, appendRest]
 by_cases hroom : sLen + n ≤ sCap
 · simp only [hroom, if_true, Sem.run_bind]
   rfl
 · have hcap := nextcap_le (need := sLen + n) (cap := sCap) (by omega)
   have hle : Builtin.nextslicecap (sLen + n) sCap * ei.bytes ≤ (2 * (sLen + n) + 192) * 65536 := Nat.mul_le_mul hcap hb
   have hbig : ¬ Builtin.nextslicecap (sLen + n) sCap * ei.bytes > 2 ^ 48 := by
    generalize Builtin.nextslicecap (sLen + n) sCap * ei.bytes = q at hle
    have e48 : (2 : Nat) ^ 48 = 281474976710656 := rfl
    rw [e48]
    clear hlim
    omega
   have hint : ¬ (((sLen + n : Nat) : Int) > IntKind.i64.max) := by
    have : IntKind.i64.max = 9223372036854775807 := rfl
    rw [this]; omega
   simp only [hroom, if_false, hint, false_and, hbig, Sem.run_bind, Sem.run_pure, e3, Result.andThen_ok, hz', run_askRoom]

theorem append_coreZ {argTypes : Array TypeId} {ty sT xT el : TypeId} {esz n : Nat} {base : Option Addr} {sLen sCap : Nat} {k : IntKind} {zv : Value} {ei : TypeInfo}
 (h0 : argTypes[0]? = some sT) (h1 : argTypes[1]? = some xT) (hu : P.underlying sT = some (.slice el)) (hi : P.info? el = some ei) (hsz : ei.size = esz) (hb : ei.bytes ≤ 65536) (hz : ei.zero = some zv)
 {k' : IntKind} (hxT : P.underlying xT = some (.int k')) (hlim : (sLen + n) * 65536 ≤ maxApp) :
 (Builtin.append_ argTypes ty #[.slice base sLen sCap, .int k (Int.ofNat n)]).run P.toProgram w =
  (appendRest el esz zv base sLen sCap n (if n * esz = 0 then pure #[] else do pure (Builtin.zeroCells (← zeroValue el).cells n))).run P.toProgram w := by
 have hz' : ∀ w1 : World, (zeroValue el).run P.toProgram w1 = .ok zv w1 := fun w1 => run_zeroValue hi hz
 have hlim' : (sLen + n) * 65536 ≤ 1099511627776 := hlim
 have e1 : ∀ w1 : World, (underlying sT).run P.toProgram w1 = .ok (.slice el) w1 := fun w1 => run_underlying_some hu
 have e2 : ∀ w1 : World, (underlying xT).run P.toProgram w1 = .ok (.int k') w1 := fun w1 => run_underlying_some hxT
 have e3 : ∀ w1 : World, (typeInfo el).run P.toProgram w1 = .ok ei w1 := fun w1 => run_typeInfo hi
 have e4 : ∀ w1 : World, (sizeOf el).run P.toProgram w1 = .ok esz w1 := fun w1 => by simp [sizeOf, e3, hsz]
 have hwr : IntKind.i64.wrap (Int.ofNat n) = Int.ofNat n := by
  unfold IntKind.wrap
  have p1 : (2 : Int) ^ IntKind.i64.bits = 18446744073709551616 := rfl
  have p2 : (2 : Int) ^ (IntKind.i64.bits - 1) = 9223372036854775808 := rfl
  rw [p1, p2]
  have : (Int.ofNat n) % 18446744073709551616 = Int.ofNat n := by
   rw [Int.emod_eq_of_lt] <;> simp <;> omega
  rw [this]
  simp only [ge_iff_le]
  rw [if_neg]
  simp [IntKind.signed]; omega
 unfold Builtin.append_
 simp only [List.getElem?_toArray, List.getElem?_cons_zero, List.getElem?_cons_succ, h0, h1]
 simp only [Sem.run_bind, e1, e2, e4, Result.andThen_ok, Sem.run_pure, if_true, asInt, asIntOf, hwr]
 have hneg : ¬ (Int.ofNat n < 0) := by simp
 have hbytes : ¬ (Int.ofNat n * (ei.bytes : Int) > 2 ^ 48) := by
  have : n * ei.bytes ≤ n * 65536 := Nat.mul_le_mul (Nat.le_refl _) hb
  have p : (2 : Int) ^ 48 = 281474976710656 := rfl
  rw [p]
  have : (Int.ofNat n * (ei.bytes : Int)) = ((n * ei.bytes : Nat) : Int) := by simp
  rw [this]; clear hlim; omega
 simp only [hneg, if_false, hbytes, Sem.run_bind, e3, Result.andThen_ok, Sem.run_pure, Bool.not_true, Bool.false_eq_true, appendRest]
 have ht : (Int.ofNat n).toNat = n := rfl
 simp only [ht]
 by_cases hroom : sLen + n ≤ sCap
 · simp only [hroom, if_true, Sem.run_bind]
   rfl
 · have hcap := nextcap_le (need := sLen + n) (cap := sCap) (by omega)
   have hle : Builtin.nextslicecap (sLen + n) sCap * ei.bytes ≤ (2 * (sLen + n) + 192) * 65536 := Nat.mul_le_mul hcap hb
   have hbig : ¬ Builtin.nextslicecap (sLen + n) sCap * ei.bytes > 2 ^ 48 := by
    generalize Builtin.nextslicecap (sLen + n) sCap * ei.bytes = q at hle
    have e48 : (2 : Nat) ^ 48 = 281474976710656 := rfl
    rw [e48]
    clear hlim
    omega
   have hint : ¬ (((sLen + n : Nat) : Int) > IntKind.i64.max) := by
    have : IntKind.i64.max = 9223372036854775807 := rfl
    rw [this]; clear hlim; omega
   simp only [hroom, if_false, hint, false_and, hbig, Sem.run_bind, Sem.run_pure, e3, Result.andThen_ok, hz', run_askRoom]

theorem drewStep (hs : RelSt φ s w) (n : Nat) : Step φ s w φ s { w with drawn := n } := .same hs rfl rfl rfl rfl

theorem take_get (l : List AV) (n j : Nat) : (l.take n)[j]? = if j < n then l[j]? else none := List.getElem?_take

theorem cut_ge (need old el t : Nat) : need ≤ (Question.appendCap need old el).cut t := by
 simp [Question.cut]

theorem grow_newK {el : TypeId} {K : Nat} (hK : ∀ t, K / tyBase = t + 1 → t = el) (hs : RelSt φ s w) (hf : s.heap.get s.next = none) {esz : Nat} {zv : Value} {base : Option Addr} {sLen sCap k : Nat} {ap : Sem (Array Value)} {old more : List AV} {cold : List Value}
 (hold : VRels φ old cold) (hov : ∀ w1 : World, w1.heap = w.heap → (Builtin.firstCells esz sLen (.slice base sLen sCap)).run P.toProgram w1 = .ok cold.toArray w1)
 (hzs : zv.cells.size = esz) (hap : Gives P w φ ap more) (hnr : ¬ sLen + k ≤ sCap) (ho : old.length = sLen * esz) (hm : more.length = k * esz) :
 ∃ c w' φ', (appendRest el esz zv base sLen sCap k ap).run P.toProgram w = .ok c w' ∧ Step φ s w φ' (s.add (.cells (old ++ more) K K false)) w' ∧
  VRel φ' (.slice ⟨s.next, 0, K, old.length + more.length⟩ (sLen + k) (sLen + k) false esz) c := by
 obtain ⟨cvs, hcv, hrun⟩ := hap.ex
 have hcl := hcv.length
 have hol := hold.length
 let cap := (Question.appendCap (sLen + k) sCap el).cut (w.tape w.drawn (Question.appendCap (sLen + k) sCap el))
 have hcap : sLen + k ≤ cap := cut_ge _ _ _ _
 let w1 : World := { w with drawn := w.drawn + 1 }
 have st1 : Step φ s w φ s w1 := drewStep hs _
 let cells : Array Value := cold.toArray ++ cvs.toArray ++ Builtin.zeroCells zv.cells (cap - (sLen + k))
 have hsize : cells.size = cap * esz := by
  have : (sLen + k) * esz + (cap - (sLen + k)) * esz = cap * esz := by rw [← Nat.add_mul]; congr 1; omega
  have e2 : (sLen + k) * esz = sLen * esz + k * esz := Nat.add_mul ..
  simp [cells, Builtin.zeroCells, hzs]; omega
 obtain ⟨h1, h2⟩ := newRowK_ok (P := P) (K := K) (el := el) (top := cap * esz) st1.rel hf hK (l := old ++ more) (cells := cells)
  (by have : (sLen + k) * esz ≤ cap * esz := Nat.mul_le_mul hcap (Nat.le_refl _)
      have e2 : (sLen + k) * esz = sLen * esz + k * esz := Nat.add_mul ..
      simp; omega) hsize
  (fun j v hj => by
   obtain ⟨c, hc, hv⟩ := (hold.append hcv).get hj
   refine ⟨c, ?_, hv⟩
   have hj2 : j < (cold ++ cvs).length := (List.getElem?_eq_some_iff.1 hc).1
   simp only [cells, Array.append_assoc]
   rw [← Array.append_assoc, Array.getElem?_append_left (by simpa using hj2)]
   simpa using hc)
 refine ⟨.slice (some ⟨w1.heap.size, 0, none⟩) (sLen + k) cap, _, _, ?_, st1.trans h2, ?_⟩
 · simp only [appendRest, hnr, if_false, Sem.run_bind, run_choose, Question.forced, Bool.false_eq_true, Result.andThen_ok]
   rw [hov { w with drawn := w.drawn + 1 } rfl]
   simp only [Result.andThen_ok]
   rw [hrun { w with drawn := w.drawn + 1 } rfl]
   simp only [Result.andThen_ok]
   have h1' : (newRow el (cold.toArray ++ cvs.toArray ++ Builtin.zeroCells zv.cells (cap - (sLen + k)))).run P.toProgram { w with drawn := w.drawn + 1 } = _ := h1
   rw [h1']
   simp
   rfl
 · have := VRel.slice (φ := φ.upd s.next K ⟨w1.heap.size, 0, 0, (old ++ more).length, cap * esz⟩) (a := ⟨s.next, 0, K, old.length + more.length⟩) (len := sLen + k) (cap := sLen + k) (exact := false) (esz := esz) (cap' := cap)
    (Phi.upd_same _ _ _ _) (Nat.le_refl _) (by simp) (by simp [ho, hm, Nat.add_mul]) (Nat.le_refl _) hcap (by simp) (by simp)
   simpa using this

theorem grow_new (hs : RelSt φ s w) (hf : s.heap.get s.next = none) {el : TypeId} {esz : Nat} {zv : Value} {base : Option Addr} {sLen sCap k : Nat} {ap : Sem (Array Value)} {old more : List AV} {cold : List Value}
 (hold : VRels φ old cold) (hov : ∀ w1 : World, w1.heap = w.heap → (Builtin.firstCells esz sLen (.slice base sLen sCap)).run P.toProgram w1 = .ok cold.toArray w1)
 (hzs : zv.cells.size = esz) (hap : Gives P w φ ap more) (hnr : ¬ sLen + k ≤ sCap) (ho : old.length = sLen * esz) (hm : more.length = k * esz) :
 ∃ c w' φ', (appendRest el esz zv base sLen sCap k ap).run P.toProgram w = .ok c w' ∧ Step φ s w φ' (s.add (.cells (old ++ more) 0 0 false)) w' ∧
  VRel φ' (.slice ⟨s.next, 0, 0, old.length + more.length⟩ (sLen + k) (sLen + k) false esz) c :=
 grow_newK (K := 0) (fun _ h => (ty_zero h).elim) hs hf hold hov hzs hap hnr ho hm

theorem grow_old (hs : RelSt φ s w) {el : TypeId} {esz : Nat} {zv : Value} {sLen sCap k : Nat} {ap : Sem (Array Value)} {more : List AV} {a : AAddr} {x : Inc} {cs : List AV} {lo ty : Nat}
 (ho : s.heap.get a.id = some (.cells cs lo a.inc false)) (h1 : φ a.id a.inc = some x) (h2 : x.sh ≤ a.off) (h3 : a.lim ≤ x.n) (h4 : a.off + sLen * esz ≤ a.lim) (h8 : x.base + (a.off - x.sh) + sCap * esz ≤ x.top)
 (hzs : zv.cells.size = esz) (hap : Gives P w φ ap more) (hK : (a.inc + 1) / tyBase = 0 ∨ ((a.inc + 1) / tyBase = ty ∧ a.inc / tyBase = ty)) (hty : ∀ t, ty = t + 1 → t = el) (hm : more.length = k * esz) (hcell : more.all AV.isCell = true) (hk : 0 < k) (hesz : 0 < esz) :
 ∃ c w' φ', (appendRest el esz zv (some ⟨x.blk, x.base + (a.off - x.sh), none⟩) sLen sCap k ap).run P.toProgram w = .ok c w' ∧
  Step φ s w φ' (s.put a.id (.cells (cs.take (a.off + sLen * esz) ++ more) (if a.off + sLen * esz = cs.length then lo else a.inc + 1) (a.inc + 1) false)) w' ∧
  VRel φ' (.slice ⟨a.id, a.off, a.inc + 1, a.off + sLen * esz + more.length⟩ (sLen + k) (sLen + k) false esz) c := by
 obtain ⟨cvs, hcv, hrun⟩ := hap.ex
 have hcl := hcv.length
 have hlo : lo ≤ a.inc := (hs.obj _ _ ho).1
 obtain ⟨cc, el0, fz, hh, e1, e2, e3, e4, e5, e6, e7⟩ := cells_inv hs ho h1 hlo (Nat.le_refl _)
 have hn : x.n = cs.length := e5 (by simp)
 have hp : a.off + sLen * esz ≤ cs.length := by omega
 have hkm : (sLen + k) * esz = sLen * esz + k * esz := Nat.add_mul ..
 have htk : (cs.take (a.off + sLen * esz)).length = a.off + sLen * esz := by simp; omega
 have hkpos : 0 < k * esz := Nat.mul_pos hk hesz
 -- what the cells of the grown object are
 have hget : ∀ j, (cs.take (a.off + sLen * esz) ++ more)[j]? = if j < a.off + sLen * esz then cs[j]? else more[j - (a.off + sLen * esz)]? := by
  intro j
  by_cases hj : j < a.off + sLen * esz
  · rw [if_pos hj, List.getElem?_append_left (by omega), take_get, if_pos hj]
  · rw [if_neg hj, List.getElem?_append_right (by omega), htk]
 have hnone : φ a.id (a.inc + 1) = none := by
  cases e : φ a.id (a.inc + 1) with
  | none => rfl
  | some y => have := hs.incs _ _ _ _ _ _ _ e ho; omega
 by_cases hroom : sLen + k ≤ sCap
 · -- in place
   have hcapk : (sLen + k) * esz ≤ sCap * esz := Nat.mul_le_mul hroom (Nat.le_refl _)
   obtain ⟨w', cc', hr, g1, g2, g3, g4⟩ := run_storeCells (P := P) (b := x.blk) (o := x.base + (a.off - x.sh) + sLen * esz) cvs 0 w cc el0 fz hh (by omega) (by rw [e1]; exact e2 rfl) (hcv.allCells hcell)
   let x' : Inc := ⟨x.blk, x.base, x.sh, a.off + sLen * esz + more.length, x.top⟩
   have hle : PhiLe φ (φ.upd a.id (a.inc + 1) x') := Phi.upd_le hnone
   have hst : Step φ s w (φ.upd a.id (a.inc + 1) x') (s.put a.id (.cells (cs.take (a.off + sLen * esz) ++ more) (if a.off + sLen * esz = cs.length then lo else a.inc + 1) (a.inc + 1) false)) w' := by
    refine step_regrow hs ho h1 (by rw [g3.size]; exact Nat.le_refl _) (fun b _ hb => g3.other b hb) (by simp only [World.shape?, g1, hh, g2]) (fun t ht => by
     have hty1 : a.inc / tyBase = t + 1 := by rcases hK with h | ⟨h, h'⟩ <;> omega
     have q := hs.typ _ _ _ _ h1 hty1
     refine ⟨?_, q.2⟩
     have q1 := q.1
     simp only [World.shape?, hh] at q1
     show World.shape? w' x.blk = some (t, x.top)
     simp only [World.shape?, g1, g2]
     exact q1) g3.os g3.tape g3.output (.inl ⟨rfl, rfl, rfl, rfl⟩) (by rw [g3.size]; exact (hs.dom _ _ _ h1).2) ?_
    refine ⟨by split <;> omega, fun k' hk1 hk2 => ?_⟩
    by_cases hki : k' = a.inc + 1
    · subst hki
      refine ⟨x', Phi.upd_same _ _ _ _, cc', el0, fz, g1, (by show cc'.size = x.top; omega), e2, by show x.sh ≤ a.off + sLen * esz + more.length; omega, by show a.off + sLen * esz + more.length ≤ _; rw [List.length_append, htk]; exact Nat.le_refl _, fun _ => by show a.off + sLen * esz + more.length = _; rw [List.length_append, htk], by show x.base + (a.off + sLen * esz + more.length - x.sh) ≤ x.top; omega, fun j v hj1 hj2 hjv => ?_⟩
      rw [hget] at hjv
      rw [g4]
      by_cases hj : j < a.off + sLen * esz
      · rw [if_pos hj] at hjv
        obtain ⟨c, hc1, hc2⟩ := e7 j v hj1 (by omega) hjv
        have n1 : ¬ (x.base + (a.off - x.sh) + sLen * esz + 0 ≤ x'.base + (j - x'.sh) ∧ x'.base + (j - x'.sh) < x.base + (a.off - x.sh) + sLen * esz + 0 + cvs.length) := by
         show ¬ (_ ≤ x.base + (j - x.sh) ∧ _); intro ⟨q, _⟩; have : x.sh ≤ j := hj1; omega
        rw [if_neg n1]
        exact ⟨c, hc1, hc2.mono hle⟩
      · rw [if_neg hj] at hjv
        obtain ⟨c, hc1, hc2⟩ := hcv.get hjv
        have hjl : j - (a.off + sLen * esz) < more.length := (List.getElem?_eq_some_iff.1 hjv).1
        have n1 : x.base + (a.off - x.sh) + sLen * esz + 0 ≤ x'.base + (j - x'.sh) ∧ x'.base + (j - x'.sh) < x.base + (a.off - x.sh) + sLen * esz + 0 + cvs.length := by
         show _ ≤ x.base + (j - x.sh) ∧ x.base + (j - x.sh) < _; omega
        rw [if_pos n1]
        refine ⟨c, ?_, hc2.mono hle⟩
        rw [← hc1]; congr 1; show x.base + (j - x.sh) - _ = _; omega
    · have hpl : a.off + sLen * esz = cs.length := by
       by_cases hpl : a.off + sLen * esz = cs.length
       · exact hpl
       · rw [if_neg hpl] at hk1; omega
      rw [if_pos hpl] at hk1
      obtain ⟨y, hy, hyc⟩ := (hs.obj _ _ ho).2 k' hk1 (by omega)
      obtain ⟨dd, el2, fz2, dh, d1, d2, d3, d4, d5, d6, d7⟩ := hyc
      refine ⟨y, hle _ _ _ hy, ?_⟩
      by_cases hyb : y.blk = x.blk
      · rcases hs.inj _ _ _ _ _ _ hy h1 hyb with ⟨_, b1, b2, b3⟩ | ⟨_, b⟩
        · rw [hyb, hh] at dh
          cases dh
          refine ⟨cc', el0, fz, by rw [hyb]; exact g1, by omega, d2, d3, by rw [List.length_append, htk]; omega, fun q => by simp at q; omega, d6, fun j v hj1 hj2 hjv => ?_⟩
          rw [hget, if_pos (by omega)] at hjv
          obtain ⟨c, hc1, hc2⟩ := d7 j v hj1 hj2 hjv
          rw [g4]
          have n1 : ¬ (x.base + (a.off - x.sh) + sLen * esz + 0 ≤ y.base + (j - y.sh) ∧ y.base + (j - y.sh) < x.base + (a.off - x.sh) + sLen * esz + 0 + cvs.length) := by omega
          rw [if_neg n1]
          exact ⟨c, hc1, hc2.mono hle⟩
        · obtain ⟨_, _, _, q⟩ := b; rw [ho] at q; cases q
      · refine ⟨dd, el2, fz2, by rw [g3.other _ hyb]; exact dh, d1, d2, d3, by rw [List.length_append, htk]; omega, fun q => by simp at q; omega, d6, fun j v hj1 hj2 hjv => ?_⟩
        rw [hget, if_pos (by omega)] at hjv
        obtain ⟨c, hc1, hc2⟩ := d7 j v hj1 hj2 hjv
        exact ⟨c, hc1, hc2.mono hle⟩
   refine ⟨.slice (some ⟨x.blk, x.base + (a.off - x.sh), none⟩) (sLen + k) sCap, w', _, ?_, hst, ?_⟩
   · simp only [appendRest, hroom, if_true, Sem.run_bind, hrun w rfl, Result.andThen_ok, addr_add, hr]
     simp
   · exact .slice (x := x') (Phi.upd_same _ _ _ _) h2 (Nat.le_refl _) (by show a.off + (sLen + k) * esz ≤ a.off + sLen * esz + more.length; omega) (Nat.le_refl _) hroom (by simp) h8
 · -- in a new block
   let cap := (Question.appendCap (sLen + k) sCap el).cut (w.tape w.drawn (Question.appendCap (sLen + k) sCap el))
   have hcap : sLen + k ≤ cap := cut_ge _ _ _ _
   let w1 : World := { w with drawn := w.drawn + 1 }
   have hrd : s.readAt a (sLen * esz) = some ((cs.drop a.off).take (sLen * esz)) := by
    simp only [St.readAt, ho]
    rw [if_pos ⟨hlo, Nat.le_refl _, h4⟩]
   obtain ⟨cl, c1, c2, c3, c4⟩ := read_run (P := P) hs hrd (.ptr h1 h2 h3)
   let cells : Array Value := cl.toArray ++ cvs.toArray ++ Builtin.zeroCells zv.cells (cap - (sLen + k))
   have hsize : cells.size = cap * esz := by
    have : (sLen + k) * esz + (cap - (sLen + k)) * esz = cap * esz := by rw [← Nat.add_mul]; congr 1; omega
    simp [cells, Builtin.zeroCells, hzs]; omega
   let w2 : World := { w1 with heap := w.heap.push (.cells cells el) }
   let x' : Inc := ⟨w.heap.size, 0, a.off, a.off + sLen * esz + more.length, cap * esz⟩
   have hle : PhiLe φ (φ.upd a.id (a.inc + 1) x') := Phi.upd_le hnone
   have hold : ∀ b, b < w.heap.size → w2.heap[b]? = w.heap[b]? := by
    intro b hb
    show (w.heap.push _)[b]? = _
    rw [Array.getElem?_push, if_neg (by omega)]
   have hcapk : (sLen + k) * esz ≤ cap * esz := Nat.mul_le_mul hcap (Nat.le_refl _)
   have hst : Step φ s w (φ.upd a.id (a.inc + 1) x') (s.put a.id (.cells (cs.take (a.off + sLen * esz) ++ more) (if a.off + sLen * esz = cs.length then lo else a.inc + 1) (a.inc + 1) false)) w2 := by
    refine step_regrow hs ho h1 (by simp [w2]) (fun b hb _ => hold b hb) (shape_of_same (hold _ (hs.dom _ _ _ h1).2)) (fun t ht => by
     have : t = el := by rcases hK with h | ⟨h, h'⟩
                         · omega
                         · exact hty t (by omega)
     refine ⟨?_, rfl⟩
     show World.shape? w2 w.heap.size = some (t, cap * esz)
     simp [World.shape?, w2, hsize, this]) rfl rfl rfl (.inr rfl) (by show w.heap.size < (w.heap.push _).size; simp) ?_
    refine ⟨by split <;> omega, fun k' hk1 hk2 => ?_⟩
    by_cases hki : k' = a.inc + 1
    · subst hki
      refine ⟨x', Phi.upd_same _ _ _ _, cells, el, (0, 0), by show (w.heap.push _)[w.heap.size]? = _; simp, hsize, fun _ o _ => by simp, by show a.off ≤ a.off + sLen * esz + more.length; omega, by show a.off + sLen * esz + more.length ≤ _; rw [List.length_append, htk]; exact Nat.le_refl _, fun _ => by show a.off + sLen * esz + more.length = _; rw [List.length_append, htk], by show 0 + (a.off + sLen * esz + more.length - a.off) ≤ cap * esz; omega, fun j v hj1 hj2 hjv => ?_⟩
      have hj1' : a.off ≤ j := hj1
      have hj2' : j < a.off + sLen * esz + more.length := hj2
      have key : ((cs.drop a.off).take (sLen * esz) ++ more)[j - a.off]? = some v := by
       rw [hget] at hjv
       by_cases hj : j < a.off + sLen * esz
       · rw [if_pos hj] at hjv
         rw [List.getElem?_append_left (by omega), take_get, if_pos (by omega), List.getElem?_drop, ← hjv]
         congr 1; omega
       · rw [if_neg hj] at hjv
         rw [List.getElem?_append_right (by omega), c2, ← hjv]
         congr 1; omega
      obtain ⟨c, hc1, hc2⟩ := (c3.append hcv).get key
      refine ⟨c, ?_, hc2.mono hle⟩
      show cells[0 + (j - a.off)]? = some c
      have hj3 : j - a.off < (cl ++ cvs).length := (List.getElem?_eq_some_iff.1 hc1).1
      simp only [cells, Array.append_assoc]
      rw [Nat.zero_add, ← Array.append_assoc, Array.getElem?_append_left (by simpa using hj3)]
      simpa using hc1
    · have hpl : a.off + sLen * esz = cs.length := by
       by_cases hpl : a.off + sLen * esz = cs.length
       · exact hpl
       · rw [if_neg hpl] at hk1; omega
      rw [if_pos hpl] at hk1
      obtain ⟨y, hy, hyc⟩ := (hs.obj _ _ ho).2 k' hk1 (by omega)
      obtain ⟨dd, el2, fz2, dh, d1, d2, d3, d4, d5, d6, d7⟩ := hyc
      refine ⟨y, hle _ _ _ hy, dd, el2, fz2, by rw [hold _ (hs.dom _ _ _ hy).2]; exact dh, d1, d2, d3, by rw [List.length_append, htk]; omega, fun q => by simp at q; omega, d6, fun j v hj1 hj2 hjv => ?_⟩
      rw [hget, if_pos (by omega)] at hjv
      obtain ⟨c, hc1, hc2⟩ := d7 j v hj1 hj2 hjv
      exact ⟨c, hc1, hc2.mono hle⟩
   refine ⟨.slice (some ⟨w.heap.size, 0, none⟩) (sLen + k) cap, w2, _, ?_, hst, ?_⟩
   · simp only [appendRest, hroom, if_false, Sem.run_bind, run_choose, Question.forced, Bool.false_eq_true, Result.andThen_ok]
     have hf : (Builtin.firstCells esz sLen (.slice (some ⟨x.blk, x.base + (a.off - x.sh), none⟩) sLen sCap)).run P.toProgram w1 = .ok cl.toArray w1 := by
      simpa [Builtin.firstCells] using c4 w1 rfl
     have hf' : (Builtin.firstCells esz sLen (.slice (some ⟨x.blk, x.base + (a.off - x.sh), none⟩) sLen sCap)).run P.toProgram { w with drawn := w.drawn + 1 } = .ok cl.toArray { w with drawn := w.drawn + 1 } := hf
     rw [hf']
     simp only [Result.andThen_ok]
     rw [hrun { w with drawn := w.drawn + 1 } rfl]
     simp only [newRow, Sem.run_bind, run_newObj, Result.andThen_ok, Sem.run_pure]
     rfl
   · have := VRel.slice (φ := φ.upd a.id (a.inc + 1) x') (a := ⟨a.id, a.off, a.inc + 1, a.off + sLen * esz + more.length⟩) (x := x') (len := sLen + k) (cap := sLen + k) (exact := false) (esz := esz) (cap' := cap)
      (Phi.upd_same _ _ _ _) (Nat.le_refl _) (Nat.le_refl _) (by show a.off + (sLen + k) * esz ≤ a.off + sLen * esz + more.length; omega) (Nat.le_refl _) hcap (by simp) (by show 0 + (a.off - a.off) + cap * esz ≤ cap * esz; omega)
     have e0 : x'.base + (a.off - x'.sh) = 0 := by show 0 + (a.off - a.off) = 0; omega
     rw [show (⟨a.id, a.off, a.inc + 1, a.off + sLen * esz + more.length⟩ : AAddr).off = a.off from rfl, e0] at this
     exact this

theorem appendRest_ok (hs : RelSt φ s w) {el : TypeId} {esz ty : Nat} {zv : Value} {base : Option Addr} {sLen sCap k : Nat} {ap : Sem (Array Value)} {x v : AV} {more : List AV} {s' : St}
 (hx : VRel φ x (.slice base sLen sCap)) (hzs : zv.cells.size = esz) (hap : Gives P w φ ap more) (hty : ∀ t, ty = t + 1 → t = el) (h : appendG ty s esz x k more = some (v, s'))
 (hfree : ∀ id, s.next ≤ id → id < s'.next → s.heap.get id = none) :
 ∃ c w' φ', (appendRest el esz zv base sLen sCap k ap).run P.toProgram w = .ok c w' ∧ Step φ s w φ' s' w' ∧ VRel φ' v c := by
 obtain ⟨cvs, hcv, hrun⟩ := hap.ex
 have hcl := hcv.length
 unfold appendG at h
 split at h
 · rename_i hc
   obtain ⟨hm1, hm2, hm3⟩ := hc
   split at h
   · -- nothing to add
     rename_i hk
     subst hk
     have hnil : cvs = [] := by
      cases cvs with
      | nil => rfl
      | cons a b => simp at hcl; omega
     subst hnil
     have hroom : ∀ c : Nat, sLen ≤ c → (appendRest el esz zv base sLen c 0 ap).run P.toProgram w = .ok (.slice base sLen c) w := by
      intro c hc
      simp only [appendRest, Nat.add_zero, hc, if_true, Sem.run_bind, hrun w rfl, Result.andThen_ok]
      cases base <;> simp [storeCells]
     split at h
     · cases h; cases hx
       exact ⟨_, w, φ, hroom 0 (Nat.le_refl _), .refl hs, .nilSlice⟩
     · cases h; cases hx
       exact ⟨_, w, φ, hroom _ (Nat.zero_le _), .refl hs, .empty _ _⟩
     · split at h
       · cases h
         have hx' := hx
         cases hx
         exact ⟨_, w, φ, hroom _ (by omega), .refl hs, hx'⟩
       · cases h
     · cases h
   · rename_i hk
     have hk0 : 0 < k := by omega
     split at h
     · -- nil
       split at h
       · rename_i hlim
         cases h
         cases hx
         have hf : s.heap.get s.next = none := hfree _ (Nat.le_refl _) (by simp [St.add])
         have := grow_newK (P := P) (K := ty * tyBase) (fun t ht => hty t (by rw [Nat.mul_div_cancel _ (by decide)] at ht; exact ht)) hs hf (el := el) (zv := zv) (base := none) (sLen := 0) (sCap := 0) (k := k) (old := []) .nil (fun w1 _ => by simp [Builtin.firstCells]) hzs hap (by omega) (by simp) hm1
         simpa [hm1] using this
       · cases h
     · rename_i a len cap exact es
       split at h
       · rename_i hlim
         obtain ⟨he, hlim⟩ := hlim
         subst he
         split at h
         · rename_i cs lo inc ro ho
           simp only [] at h
           split at h
           · -- room for sure
             rename_i hle
             split at h
             · rename_i hc2
               obtain ⟨g1, g2, g3⟩ := hc2
               subst g2
               cases h
               have hx' := hx
               cases hx
               rename_i x h1 h2 h3 h4 h5 h6 h7 h8
               rw [g1] at h1
               obtain ⟨w', hr, hst⟩ := write_ok (P := P) hs ho h1 (off := a.off + sLen * es) (by omega) (by omega) hcv (by simpa using hm2)
               refine ⟨.slice (some ⟨x.blk, x.base + (a.off - x.sh), none⟩) (sLen + k) sCap, w', φ, ?_, hst, ?_⟩
               · have hroom : sLen + k ≤ sCap := by omega
                 simp only [appendRest, hroom, if_true, Sem.run_bind, hrun w rfl, Result.andThen_ok, addr_add]
                 rw [show x.base + (a.off - x.sh) + sLen * es = x.base + (a.off + sLen * es - x.sh) by omega, hr]
                 simp
               · have hmm : (sLen + k) * es = sLen * es + k * es := Nat.add_mul ..
                 exact .slice (by rw [g1]; exact h1) h2 h3 (by omega) hle h6 h7 h8
             · cases h
           · rename_i hnle
             split at h
             · -- none for sure
               split at h
               · rename_i old hold
                 cases h
                 have hf : s.heap.get s.next = none := hfree _ (Nat.le_refl _) (by simp [St.add])
                 cases hx
                 rename_i x h1 h2 h3 h4 h5 h6 h7 h8
                 have hcc : sCap = cap := h7 (by assumption)
                 obtain ⟨cl, c1, c2, c3, c4⟩ := read_run (P := P) hs hold (.ptr h1 h2 h3)
                 exact grow_new (P := P) hs hf (el := el) c3 (fun w1 hw => by simpa [Builtin.firstCells] using c4 w1 hw) hzs hap (by omega) c2 hm1
               · cases h
             · split at h
               · rename_i hc2
                 obtain ⟨g1, g2, g3, g4, g5⟩ := hc2
                 subst g2
                 cases h
                 cases hx
                 rename_i x h1 h2 h3 h4 h5 h6 h7 h8
                 subst g1
                 exact grow_old (P := P) hs ho (by assumption) (by assumption) (by assumption) (by assumption) (by assumption) hzs hap g5 hty hm1 (by simpa using hm2) hk0 hm3
               · cases h
         · cases h
       · cases h
     · cases h
 · cases h
end
end Go.V
/- SOUNDNESS: numbers, strings, comparisons, conversions. -/
namespace Go.V
open Go

theorem wrapBy_eq (half full : Nat) (sg : Bool) (n : Int) (h0 : 0 < half) (h : full = 2 * half) :
 wrapBy half full sg n = (if sg && decide (n % (full : Int) ≥ (half : Int)) then n % (full : Int) - (full : Int) else n % (full : Int)) := by
 cases n with
 | ofNat m =>
  have em : (Int.ofNat m) % (full : Int) = ((m % full : Nat) : Int) := by simp
  rw [em]
  simp only [wrapBy]
  cases sg with
  | true =>
   by_cases h1 : m < half
   · have h2 : m % full = m := Nat.mod_eq_of_lt (by omega)
     have h3 : Nat.blt m half = true := by rw [Nat.blt_eq]; exact h1
     have h4 : decide (((m : Nat) : Int) ≥ (half : Int)) = false := by simp; omega
     simp only [h3, h2, h4, Bool.and_false, Bool.false_eq_true, if_false]; rfl
   · have : Nat.blt m half = false := by rw [← Bool.not_eq_true, Nat.blt_eq]; exact h1
     simp only [this, Bool.true_and]
     by_cases h3 : half ≤ m % full
     · have : Nat.ble half (m % full) = true := by rw [Nat.ble_eq]; exact h3
       have h4 : decide (((m % full : Nat) : Int) ≥ (half : Int)) = true := by simp; omega
       simp only [this, h4, if_true]
       exact Int.subNatNat_eq_coe
     · have : Nat.ble half (m % full) = false := by rw [← Bool.not_eq_true, Nat.ble_eq]; exact h3
       have h4 : decide (((m % full : Nat) : Int) ≥ (half : Int)) = false := by simp; omega
       simp only [this, h4]
       simp
  | false =>
   by_cases h1 : m < full
   · have h2 : m % full = m := Nat.mod_eq_of_lt h1
     have h3 : Nat.blt m full = true := by rw [Nat.blt_eq]; exact h1
     simp [h3, h2]
   · have : Nat.blt m full = false := by rw [← Bool.not_eq_true, Nat.blt_eq]; exact h1
     simp [this]
 | negSucc m =>
  have em : (Int.negSucc m) % (full : Int) = ((full - 1 - m % full : Nat) : Int) := by
   have h5 : m % full < full := Nat.mod_lt _ (by omega)
   rw [Int.negSucc_emod _ (by omega)]
   have : ((m : Int) % (full : Int)) = ((m % full : Nat) : Int) := by simp
   rw [this]; omega
  rw [em]
  simp only [wrapBy]
  cases sg with
  | true =>
   by_cases h1 : m < half
   · have h2 : m % full = m := Nat.mod_eq_of_lt (by omega)
     have h3 : decide (((full - 1 - m % full : Nat) : Int) ≥ (half : Int)) = true := by simp; omega
     have h4 : Nat.blt m half = true := by rw [Nat.blt_eq]; exact h1
     simp only [h3, h4, Bool.true_and, if_true]
     rw [h2, Int.negSucc_eq]; omega
   · have : Nat.blt m half = false := by rw [← Bool.not_eq_true, Nat.blt_eq]; exact h1
     simp only [this, Bool.true_and]
     by_cases h3 : half ≤ full - 1 - m % full
     · have : Nat.ble half (full - 1 - m % full) = true := by rw [Nat.ble_eq]; exact h3
       have h4 : decide (((full - 1 - m % full : Nat) : Int) ≥ (half : Int)) = true := by simp; omega
       simp only [this, h4, if_true]
       exact Int.subNatNat_eq_coe
     · have : Nat.ble half (full - 1 - m % full) = false := by rw [← Bool.not_eq_true, Nat.ble_eq]; exact h3
       have h4 : decide (((full - 1 - m % full : Nat) : Int) ≥ (half : Int)) = false := by simp; omega
       simp only [this, h4]
       simp
  | false => simp

theorem wrapF_eq (k : IntKind) (n : Int) : wrapF k n = k.wrap n := by
 cases k <;> simp only [wrapF] <;> rw [wrapBy_eq _ _ _ _ (by omega) (by omega)] <;> rfl

theorem mkInt_eq (k : IntKind) (n : Int) : mkInt k n = .int k n := by simp [mkInt]

section
variable {P : Prog} {φ : Phi} {s : St} {w : World}

/-- A pure computation of a plain value. -/
theorem pureAV_ok {m : Sem Value} {v : AV} (h : pureAV m = some v) : ∃ c, m = .pure c ∧ VRel φ v c := by
 unfold pureAV at h
 split at h
 · cases h; rw [mkInt_eq]; exact ⟨_, rfl, .int _ _⟩
 · cases h; exact ⟨_, rfl, .bool _⟩
 · cases h; exact ⟨_, rfl, .float _ _⟩
 · cases h; exact ⟨_, rfl, .complex _ _ _⟩
 · cases h

theorem pureAV_run {m : Sem Value} {v : AV} (h : pureAV m = some v) : ∃ c, (∀ w, m.run P.toProgram w = .ok c w) ∧ VRel φ v c := by
 obtain ⟨c, rfl, hv⟩ := pureAV_ok (φ := φ) h
 exact ⟨c, fun _ => rfl, hv⟩

theorem binInt_ok {op : BinOp} {k k' : IntKind} {a b : Int} {v : AV} (h : binInt op k a k' b = some v) (t : TypeId) :
 ∃ c, (∀ w, (binOp op t (.int k a) (.int k' b)).run P.toProgram w = .ok c w) ∧ VRel φ v c := by
 unfold binInt at h
 split at h
 · -- shl
   split at h
   · rename_i m
     cases h
     rw [mkInt_eq, wrapF_eq]
     refine ⟨_, fun w => ?_, .int _ _⟩
     have : ¬ (Int.ofNat m < 0) := by simp
     simp only [binOp, Op.shift, this, if_false, Sem.run_pure]
     congr 3
   · cases h
 · split at h
   · rename_i m
     cases h
     rw [mkInt_eq]
     refine ⟨_, fun w => ?_, .int _ _⟩
     have : ¬ (Int.ofNat m < 0) := by simp
     simp only [binOp, Op.shift, this, if_false, Sem.run_pure]
     congr 3
   · cases h
 · rename_i n1 n2
   split at h
   · rename_i hk
     subst hk
     cases op <;> dsimp only at h
     case shl => exact absurd rfl n1
     case shr => exact absurd rfl n2
     case quo =>
      split at h
      · cases h
      · rename_i hb; cases h; rw [mkInt_eq, wrapF_eq]
        exact ⟨_, fun w => by simp only [binOp, ne_eq, not_true, if_false, Op.intDiv, hb, Sem.run_pure], .int _ _⟩
     case rem =>
      split at h
      · cases h
      · rename_i hb; cases h; rw [mkInt_eq]
        exact ⟨_, fun w => by simp only [binOp, ne_eq, not_true, if_false, Op.intDiv, hb, Sem.run_pure], .int _ _⟩
     case and => obtain ⟨c, hc, hv⟩ := pureAV_ok (φ := φ) h; exact ⟨c, fun w => by simp [binOp, hc], hv⟩
     case or => obtain ⟨c, hc, hv⟩ := pureAV_ok (φ := φ) h; exact ⟨c, fun w => by simp [binOp, hc], hv⟩
     case xor => obtain ⟨c, hc, hv⟩ := pureAV_ok (φ := φ) h; exact ⟨c, fun w => by simp [binOp, hc], hv⟩
     case andNot => obtain ⟨c, hc, hv⟩ := pureAV_ok (φ := φ) h; exact ⟨c, fun w => by simp [binOp, hc], hv⟩
     case add => cases h; rw [mkInt_eq, wrapF_eq]; exact ⟨_, fun w => by simp [binOp, Op.intArith], .int _ _⟩
     case sub => cases h; rw [mkInt_eq, wrapF_eq]; exact ⟨_, fun w => by simp [binOp, Op.intArith]; rfl, .int _ _⟩
     case mul => cases h; rw [mkInt_eq, wrapF_eq]; exact ⟨_, fun w => by simp [binOp, Op.intArith], .int _ _⟩
     case eql => cases h; exact ⟨.bool (decide (a = b)), fun w => by simp [binOp, Op.intCmp]; rfl, .bool _⟩
     case neq => cases h; exact ⟨.bool (!decide (a = b)), fun w => by simp [binOp, Op.intCmp]; rfl, .bool _⟩
     case lss => cases h; exact ⟨.bool (decide (a < b)), fun w => by simp [binOp, Op.intCmp], .bool _⟩
     case leq => cases h; exact ⟨.bool (decide (a ≤ b)), fun w => by simp [binOp, Op.intCmp], .bool _⟩
     case gtr => cases h; exact ⟨.bool (decide (b < a)), fun w => by simp [binOp, Op.intCmp], .bool _⟩
     case geq => cases h; exact ⟨.bool (decide (b ≤ a)), fun w => by simp [binOp, Op.intCmp], .bool _⟩
   · cases h

theorem bytesEq_eq : ∀ (a b : List UInt8), bytesEq a b = (a == b)
 | [], [] => rfl
 | [], _ :: _ => rfl
 | _ :: _, [] => rfl
 | a :: l, b :: m => by
  simp only [bytesEq]
  by_cases h : a = b
  · subst h
    have : Nat.beq a.toNat a.toNat = true := by rw [Nat.beq_eq]
    simp [bytesEq_eq l m]
  · have h2 : a.toNat ≠ b.toNat := fun e => h (UInt8.toNat_inj.1 e)
    have : Nat.beq a.toNat b.toNat = false := by rw [← Bool.not_eq_true, Nat.beq_eq]; exact h2
    simp [this, h]
theorem bytesLt_eq : ∀ (a b : List UInt8), bytesLt a b = Op.bytesLess a b
 | [], [] => rfl
 | [], _ :: _ => rfl
 | _ :: _, [] => rfl
 | a :: l, b :: m => by
  simp only [bytesLt, Op.bytesLess]
  have e1 : decide (a < b) = Nat.blt a.toNat b.toNat := by
   rw [Bool.eq_iff_iff, Nat.blt_eq]; simp [UInt8.lt_iff_toNat_lt]
  have e2 : (a == b) = Nat.beq a.toNat b.toNat := by
   rw [Bool.eq_iff_iff, Nat.beq_eq]; simp [UInt8.toNat_inj]
  rw [e1, e2, bytesLt_eq l m]
  cases Nat.blt a.toNat b.toNat <;> cases Nat.beq a.toNat b.toNat <;> simp

theorem binStr_ok {op : BinOp} {x y : ByteArray} {v : AV} (h : binStr op x.data.toList y.data.toList = some v) (t : TypeId) :
 ∃ c, (∀ w, (binOp op t (.string x) (.string y)).run P.toProgram w = .ok c w) ∧ VRel φ v c := by
 have hb : ∀ o, o ≠ .shl → o ≠ .shr → binOp o t (.string x) (.string y) = Op.stringOp o x y := by
  intro o h1 h2; cases o <;> simp_all [binOp]
 have hx := ByteArray.toList_eq x
 have hy := ByteArray.toList_eq y
 cases op <;> simp only [binStr] at h
 case add =>
  split at h
  · rename_i hl
    cases h
    have e : (x ++ y).data.toList = x.data.toList ++ y.data.toList := by simp
    refine ⟨.string (x ++ y), fun w => ?_, by rw [← e]; exact .str _⟩
    rw [hb _ (by simp) (by simp)]
    have hi : IntKind.i64.max = 9223372036854775807 := rfl
    have hl' : x.size + y.size ≤ 1099511627776 := hl
    have : ¬ (((x.size + y.size : Nat) : Int) > IntKind.i64.max) := by rw [hi]; omega
    simp only [Op.stringOp, this, if_false, Sem.run_pure]
  · cases h
 case eql => cases h; exact ⟨_, fun w => by rw [hb _ (by simp) (by simp)]; simp [Op.stringOp, hx, hy, bytesEq_eq], .bool _⟩
 case neq => cases h; exact ⟨_, fun w => by rw [hb _ (by simp) (by simp)]; simp [Op.stringOp, hx, hy, bytesEq_eq], .bool _⟩
 case lss => cases h; exact ⟨_, fun w => by rw [hb _ (by simp) (by simp)]; simp [Op.stringOp, hx, hy, bytesLt_eq], .bool _⟩
 case leq => cases h; exact ⟨_, fun w => by rw [hb _ (by simp) (by simp)]; simp [Op.stringOp, hx, hy, bytesLt_eq, bytesEq_eq], .bool _⟩
 case gtr => cases h; exact ⟨_, fun w => by rw [hb _ (by simp) (by simp)]; simp [Op.stringOp, hx, hy, bytesLt_eq, bytesEq_eq], .bool _⟩
 case geq => cases h; exact ⟨_, fun w => by rw [hb _ (by simp) (by simp)]; simp [Op.stringOp, hx, hy, bytesLt_eq], .bool _⟩
 all_goals cases h

theorem binV_ok {op : BinOp} {x y v : AV} {cx cy : Value} (hx : VRel φ x cx) (hy : VRel φ y cy) (h : binV op x y = some v) (t : TypeId) :
 ∃ c, (∀ w, (binOp op t cx cy).run P.toProgram w = .ok c w) ∧ VRel φ v c := by
 unfold binV at h
 split at h
 · cases hx; cases hy; exact binInt_ok h t
 · cases hx; cases hy; exact binStr_ok h t
 · cases hx; cases hy
   split at h
   · rename_i hk
     subst hk
     cases op <;> dsimp only at h <;> (obtain ⟨c, hc, hv⟩ := pureAV_ok (φ := φ) h) <;> exact ⟨c, fun w => by simp [binOp, hc], hv⟩
   · cases h
 · cases hx; cases hy
   split at h
   · rename_i hk
     subst hk
     obtain ⟨c, hc, hv⟩ := pureAV_ok (φ := φ) h
     exact ⟨c, fun w => by cases op <;> simp [binOp, hc], hv⟩
   · cases h
 · cases h

theorem unV_ok {op : UnOp} {x v : AV} {cx : Value} (hx : VRel φ x cx) (h : unV op x = some v) :
 ∃ c, (∀ w, (Op.unary op cx).run P.toProgram w = .ok c w) ∧ VRel φ v c := by
 unfold unV at h
 split at h
 · cases hx; cases h; exact ⟨_, fun w => rfl, .bool _⟩
 · cases hx; cases h; rw [mkInt_eq, wrapF_eq]; exact ⟨_, fun w => by simp [Op.unary, Op.intArith]; rfl, .int _ _⟩
 · cases hx; cases h; exact ⟨_, fun w => rfl, .float _ _⟩
 · cases hx; cases h; exact ⟨_, fun w => rfl, .complex _ _ _⟩
 · cases hx; obtain ⟨c, hc, hv⟩ := pureAV_ok (φ := φ) h; exact ⟨c, fun w => by simp [Op.unary, hc], hv⟩
 · cases h

theorem part_ok {t : TypeId} {n off : Nat} {cs : List AV} {cc : Array Value} {v : AV} (hc : VRels φ cs cc.toList) (hsz : szOf P t = some n) (h : partAV (aggT P t) cs off n = some v) :
 ∃ c, (∀ w, (part t cc off).run P.toProgram w = .ok c w) ∧ VRel φ v c := by
 unfold partAV at h
 split at h
 · rename_i hag
   cases h
   refine ⟨.agg (cc.extract off (off + n)), fun w => by simp [part, run_isAgg hsz, hag, run_sizeOf hsz], ?_⟩
   have := VRel.agg ((hc.drop off).take n)
   have e : cc.extract off (off + n) = ⟨(cc.toList.drop off).take n⟩ := by
    apply Array.ext'
    simp [Array.toList_extract, List.extract_eq_take_drop]
   rw [e]; exact this
 · rename_i hag
   obtain ⟨c, h1, h2⟩ := hc.get h
   refine ⟨c, fun w => ?_, h2⟩
   have h1' : cc[off]? = some c := by simpa using h1
   simp [part, run_isAgg hsz, hag, h1']

theorem fieldsOf_eq {t : TypeId} {fs : Array Field} (h : P.underlying t = some (.struct fs)) : P.fieldsOf t = fs := by
 simp [Program.fieldsOf, h]

theorem beq_data (a b : ByteArray) : (a == b) = (a.data.toList == b.data.toList) := by
 rw [beq_toListBytes, ByteArray.toList_eq, ByteArray.toList_eq]

theorem ptr_eq_ok {e : TypeId} {n : Nat} {a b : AAddr} {ca cb : Addr} (hsz : szOf P e = some n) (hn : n ≠ 0) (ha : VRel φ (.ptr a) (.pointer (some ca))) (hb : VRel φ (.ptr b) (.pointer (some cb)))
 (h1 : a.id = b.id) (h2 : a.inc = b.inc) {D : Nat} {t : TypeId} (hu : P.underlying t = some (.pointer e)) (w : World) :
 (Op.equalIn (D + 1) t (.pointer (some ca)) (.pointer (some cb))).run P.toProgram w = .ok (decide (a.off = b.off)) w := by
 cases ha
 rename_i x p1 p2 p3
 cases hb
 rename_i y q1 q2 q3
 rw [← h1, ← h2, p1] at q1
 cases q1
 have hs : (sizeOf e).run P.toProgram w = .ok n w := run_sizeOf hsz
 simp only [Op.equalIn, Sem.run_bind, run_underlying_some hu, Result.andThen_ok, hs, ne_eq, hn, not_false_eq_true, if_true, sameAddr, beq_self_eq_true, Sem.run_pure]
 congr 1
 rw [Bool.eq_iff_iff]
 simp
 constructor
 · intro h; omega
 · intro h; rw [h]

/-- The parts of a struct, as the model goes through them. -/
theorem eqFields_ok {D : Nat} {f : TypeId → Option EqT}
 (ih : ∀ (t : TypeId) (e : EqT), f t = some e → ∀ {x y : AV} {cx cy : Value} {b : Bool}, VRel φ x cx → VRel φ y cy → eqV e x y = some b → ∀ w : World, (Op.equalIn D t cx cy).run P.toProgram w = .ok b w)
 {xs ys : List AV} {cxs cys : Array Value} (hx : VRels φ xs cxs.toList) (hy : VRels φ ys cys.toList) :
 ∀ (fs : List Field) (ps : List (Nat × Nat × Bool × EqT)), eqTs f P ((fs.filter fun f => f.name ≠ "_").map fun f => (f.offset, f.type)) = some ps → ∀ (b : Bool), eqParts ps xs ys = some b →
  ∀ w : World, (Op.eqFields D cxs cys fs).run P.toProgram w = .ok b w
 | [], ps, h, b, hb, w => by
  simp [eqTs] at h; subst h
  simp [eqParts] at hb; subst hb
  simp [Op.eqFields]
 | fl :: fs, ps, h, b, hb, w => by
  simp only [Op.eqFields]
  by_cases hn : fl.name ≠ "_"
  · rw [if_pos hn]
    rw [List.filter_cons_of_pos (by simpa using hn)] at h
    simp only [List.map_cons, eqTs] at h
    split at h
    · rename_i n e r h1 h2 h3
      cases h
      simp only [eqParts] at hb
      split at hb
      · rename_i x y h4 h5
        obtain ⟨cx, c1, c2⟩ := part_ok (P := P) hx h1 h4
        obtain ⟨cy, d1, d2⟩ := part_ok (P := P) hy h1 h5
        simp only [Sem.run_bind, c1, d1, Result.andThen_ok]
        cases he : eqV e x y with
        | none => rw [he] at hb; cases hb
        | some q =>
         rw [he] at hb
         rw [ih _ _ h2 c2 d2 he w]
         cases q with
         | true =>
          simp only [Result.andThen_ok, Bool.not_true, Bool.false_eq_true, if_false]
          exact eqFields_ok ih hx hy fs r h3 b hb w
         | false =>
          cases hb
          simp
      · cases hb
    · cases h
  · rw [if_neg hn]
    rw [List.filter_cons_of_neg (by simpa using hn)] at h
    exact eqFields_ok ih hx hy fs ps h b hb w

/-- The elements of an array, as the model goes through them. -/
def eqElems (D : Nat) (elem : TypeId) (n : Nat) (xs ys : Array Value) : List Nat → Sem Bool
 | [] => pure true
 | i :: l => do
  let a ← part elem xs (i * n)
  let b ← part elem ys (i * n)
  let r ← Op.equalIn D elem a b
  if (!r) = true then pure false else eqElems D elem n xs ys l

theorem eqElems_ok {D : Nat} {f : TypeId → Option EqT} {elem : TypeId} {n : Nat} (hsz : szOf P elem = some n)
 (ih : ∀ (t : TypeId) (e : EqT), f t = some e → ∀ {x y : AV} {cx cy : Value} {b : Bool}, VRel φ x cx → VRel φ y cy → eqV e x y = some b → ∀ w : World, (Op.equalIn D t cx cy).run P.toProgram w = .ok b w)
 {xs ys : List AV} {cxs cys : Array Value} (hx : VRels φ xs cxs.toList) (hy : VRels φ ys cys.toList) :
 ∀ (l : List Nat) (ps : List (Nat × Nat × Bool × EqT)), eqTs f P (l.map fun i => (i * n, elem)) = some ps → ∀ (b : Bool), eqParts ps xs ys = some b →
  ∀ w : World, (eqElems D elem n cxs cys l).run P.toProgram w = .ok b w
 | [], ps, h, b, hb, w => by
  simp [eqTs] at h; subst h
  simp [eqParts] at hb; subst hb
  simp [eqElems]
 | i :: l, ps, h, b, hb, w => by
  simp only [eqElems]
  simp only [List.map_cons, eqTs] at h
  split at h
  · rename_i n' e r h1 h2 h3
    cases h
    rw [hsz] at h1; cases h1
    simp only [eqParts] at hb
    split at hb
    · rename_i x y h4 h5
      obtain ⟨cx, c1, c2⟩ := part_ok (P := P) hx hsz h4
      obtain ⟨cy, d1, d2⟩ := part_ok (P := P) hy hsz h5
      simp only [Sem.run_bind, c1, d1, Result.andThen_ok]
      cases he : eqV e x y with
      | none => rw [he] at hb; cases hb
      | some q =>
       rw [he] at hb
       rw [ih _ _ h2 c2 d2 he w]
       cases q with
       | true =>
        simp only [Result.andThen_ok, Bool.not_true, Bool.false_eq_true, if_false]
        exact eqElems_ok hsz ih hx hy l r h3 b hb w
       | false =>
        cases hb
        simp
    · cases hb
  · cases h

theorem run_equalIn_array (d : Nat) (t elem : TypeId) (len n : Nat) (xs ys : Array Value) (ht : P.underlying t = some (.array len elem)) (hsz : szOf P elem = some n) (w : World) :
 (Op.equalIn (d + 1) t (.agg xs) (.agg ys)).run P.toProgram w = (eqElems d elem n xs ys (List.range len)).run P.toProgram w := by
 have hs : (sizeOf elem).run P.toProgram w = .ok n w := run_sizeOf hsz
 simp only [Op.equalIn, Sem.run_bind, run_underlying_some ht, Result.andThen_ok, hs]
 rw [Std.Legacy.Range.forIn_eq_forIn_range']
 have er : List.range' (Std.Legacy.Range.start [:len]) (Std.Legacy.Range.size [:len]) (Std.Legacy.Range.step [:len]) = List.range len := by
  simp [Std.Legacy.Range.size, List.range_eq_range']
 rw [er]
 clear hs er
 generalize List.range len = l
 induction l generalizing w with
 | nil => simp [eqElems]
 | cons i l ih =>
  simp only [List.forIn_cons, eqElems, Sem.run_bind, Sem.run_ite]
  generalize (part elem xs (i * n)).run P.toProgram w = r1
  cases r1 with
  | ok a w1 =>
   simp only [Result.andThen_ok]
   generalize (part elem ys (i * n)).run P.toProgram w1 = r2
   cases r2 with
   | ok b w2 =>
    simp only [Result.andThen_ok]
    generalize (Op.equalIn d elem a b).run P.toProgram w2 = r3
    cases r3 with
    | ok r w3 =>
     cases r
     · simp only [Result.andThen_ok, Bool.not_false, if_true, Sem.run_pure]
     · simp only [Result.andThen_ok, Bool.not_true, Bool.false_eq_true, if_false, Sem.run_pure]
       exact ih w3
    | halt x w3 => simp [Result.andThen]
   | halt x w2 => simp [Result.andThen]
  | halt x w1 => simp [Result.andThen]

theorem eqV_agg {ps : List (Nat × Nat × Bool × EqT)} {x y : AV} {b : Bool} (h : eqV (.agg ps) x y = some b) : ∃ xs ys, x = .agg xs ∧ y = .agg ys ∧ eqParts ps xs ys = some b := by
 cases x
 case agg xs =>
  cases y
  case agg ys => exact ⟨xs, ys, rfl, rfl, by simpa only [eqV] using h⟩
  all_goals (simp [eqV] at h)
 all_goals (simp [eqV] at h)

set_option maxHeartbeats 800000 in
theorem eq_ok : ∀ (d : Nat) (D : Nat) (t : TypeId) (e : EqT), eqT P d t = some e → d ≤ D → ∀ {x y : AV} {cx cy : Value} {b : Bool}, VRel φ x cx → VRel φ y cy → eqV e x y = some b →
 ∀ w : World, (Op.equalIn D t cx cy).run P.toProgram w = .ok b w
 | 0, _, _, _, h, _, _, _, _, _, _, _, _, _, _ => by simp [eqT] at h
 | d + 1, 0, _, _, _, hD, _, _, _, _, _, _, _, _, _ => by omega
 | d + 1, D + 1, t, e, h, hD, x, y, cx, cy, b, hx, hy, hv, w => by
  unfold eqT at h
  split at h
  · rename_i hu
    cases h
    cases x <;> cases y <;> simp [eqV, primEq] at hv
    subst hv
    cases hx; cases hy
    exact run_equalIn_bool w D t _ _ hu
  · rename_i k hu
    cases h
    cases x <;> cases y <;> simp [eqV, primEq] at hv
    obtain ⟨rfl, rfl⟩ := hv
    cases hx; cases hy
    rw [run_equalIn_int w D t _ _ _ _ hu]
    congr 1
  · rename_i hu
    cases h
    cases x <;> cases y <;> simp [eqV, primEq] at hv
    subst hv
    cases hx; cases hy
    rw [run_equalIn_string w D t _ _ hu, bytesEq_eq, ByteArray.toList_eq, ByteArray.toList_eq]
  · rename_i e' hu
    split at h
    · rename_i n hsz
      split at h
      · cases h
      · rename_i hn
        cases h
        cases x <;> cases y <;> simp [eqV, nilEq] at hv
        · obtain ⟨⟨c1, c2⟩, rfl⟩ := hv
          cases hx
          rename_i a1 a2 a3
          cases hy
          rename_i b1 b2 b3
          exact ptr_eq_ok hsz hn (.ptr a1 a2 a3) (.ptr b1 b2 b3) c1 c2 hu w
        all_goals (subst hv; cases hx; cases hy; simp [Op.equalIn, run_underlying_some hu])
    · cases h
  · rename_i e' hu
    cases h
    cases x <;> cases y <;> simp [eqV, nilEq] at hv
    all_goals (subst hv; cases hx; cases hy; simp [Op.equalIn, run_underlying_some hu])
  · rename_i k' e' hu
    cases h
    cases x <;> cases y <;> simp [eqV, nilEq] at hv
    all_goals (subst hv; cases hx; cases hy; simp [Op.equalIn, run_underlying_some hu])
  · rename_i k' e' hu
    cases h
    cases x <;> cases y <;> simp [eqV, nilEq] at hv
    all_goals (subst hv; cases hx; cases hy; simp [Op.equalIn, run_underlying_some hu])
  · rename_i k' hu
    cases h
    cases x <;> cases y <;> simp [eqV, nilEq] at hv
    all_goals (subst hv; cases hx; cases hy; simp [Op.equalIn, run_underlying_some hu])
  · rename_i fs hu
    split at h
    · cases h
    · rename_i hst
      split at h
      · rename_i ps hps
        cases h
        obtain ⟨_, _, rfl, rfl, hv⟩ := eqV_agg hv
        cases hx; cases hy
        rename_i xs hxs ys hys
        have hf := fieldsOf_eq hu
        rw [run_equalIn_struct w D t _ _ (by rw [hf]; exact hu) (by simpa using hst), hf]
        exact eqFields_ok (f := eqT P d) (fun t e ht => eq_ok d D t e ht (by omega)) hxs hys fs.toList ps hps b hv w
      · cases h
  · rename_i n e' hu
    split at h
    · rename_i k hsz
      split at h
      · rename_i ps hps
        cases h
        obtain ⟨_, _, rfl, rfl, hv⟩ := eqV_agg hv
        cases hx; cases hy
        rename_i xs hxs ys hys
        rw [run_equalIn_array D t e' n k _ _ hu hsz w]
        exact eqElems_ok hsz (f := eqT P d) (fun t e ht => eq_ok d D t e ht (by omega)) hxs hys (List.range n) ps hps b hv w
      · cases h
    · cases h
  · cases h
end
end Go.V
/- SOUNDNESS: slices, places, maps, new rows. -/
namespace Go.V
open Go

section
variable {P : Prog} {φ : Phi} {s : St} {w : World}

inductive OptRel (φ : Phi) : Option AV → Option Value → Prop
 | none : OptRel φ none none
 | some {v : AV} {c : Value} : VRel φ v c → OptRel φ (some v) (some c)

theorem oopd_rel {nt : Nat} {ds : List Deferred} {e : Env} {a : Act} (hg : GlobOk P φ) (he : RelEnv nt ds φ e a) {x : Option Operand} {y : Option Opd} (h : ofOOpd P x = some y) : OptRel φ (oopd e y) (x.map a.eval) := by
 cases x with
 | none => simp [ofOOpd] at h; subst h; exact .none
 | some x =>
  simp [ofOOpd] at h
  obtain ⟨z, hz, rfl⟩ := h
  exact .some (opd_rel hg he hz)

theorem sliceBd_some {v : AV} {y d n : Nat} (h : sliceBd (some v) y d = some n) : ∃ k, v = .int k (Int.ofNat n) ∧ n ≤ y := by
 simp only [sliceBd] at h
 cases v with
 | int k m => cases m with
  | ofNat m =>
   simp only [] at h
   split at h
   · cases h; exact ⟨k, rfl, by assumption⟩
   · cases h
  | negSucc m => cases h
 | _ => simp at h

theorem run_sliceBound {k : IntKind} {n y : Nat} {code : BoundsCode} (h : n ≤ y) (w : World) : (Instr.sliceBound (.int k (Int.ofNat n)) y code).run P.toProgram w = .ok n w := by
 have : (0 : Int) ≤ Int.ofNat n ∧ Int.ofNat n ≤ (y : Int) := ⟨by simp, by simp; omega⟩
 simp only [Instr.sliceBound, Sem.run_bind, asIntOf, Sem.run_pure, Result.andThen_ok, this, and_self, if_true]
 rfl

theorem VRel.slice_inv {a : AAddr} {len cap : Nat} {exact : Bool} {esz : Nat} {c : Value} (h : VRel φ (.slice a len cap exact esz) c) :
 ∃ x cap', c = .slice (some ⟨x.blk, x.base + (a.off - x.sh), none⟩) len cap' ∧ φ a.id a.inc = some x ∧ x.sh ≤ a.off ∧ a.lim ≤ x.n ∧ a.off + len * esz ≤ a.lim ∧ len ≤ cap ∧ cap ≤ cap' ∧ (exact = true → cap' = cap) ∧
  x.base + (a.off - x.sh) + cap' * esz ≤ x.top := by
 cases h
 exact ⟨_, _, rfl, by assumption, by assumption, by assumption, by assumption, by assumption, by assumption, by assumption, by assumption⟩

theorem VRel.ptr_inv {a : AAddr} {c : Value} (h : VRel φ (.ptr a) c) : ∃ x, c = .pointer (some ⟨x.blk, x.base + (a.off - x.sh), none⟩) ∧ φ a.id a.inc = some x ∧ x.sh ≤ a.off ∧ a.lim ≤ x.n := by
 cases h
 exact ⟨_, rfl, by assumption, by assumption, by assumption⟩

/-- The three bounds, where the model's capacity is at least the evaluator's. -/
theorem sliceBounds_ok {isSlice : Bool} {len cap cap' m h l : Nat} {lo hi mx : Option AV} {clo chi cmx : Option Value} (rlo : OptRel φ lo clo) (rhi : OptRel φ hi chi) (rmx : OptRel φ mx cmx)
 (hcap : cap ≤ cap') (hm : sliceBd mx cap cap = some m) (hh : sliceBd hi m len = some h) (hl : sliceBd lo h 0 = some l) (hn : ¬ (mx.isSome = true ∧ hi.isSome = false)) (hlen : len ≤ m) (w : World) :
 ∃ m', (Instr.sliceBounds isSlice len cap' clo chi cmx).run P.toProgram w = .ok (l, h, m') w ∧ m ≤ m' ∧ m' ≤ cap' ∧ l ≤ h ∧ h ≤ m ∧ (mx.isSome = true → m' = m) ∧ (mx.isSome = false → m' = cap') := by
 obtain ⟨m', e1, hmm, hmc, hx1, hx2⟩ : ∃ m', (∀ w : World, (match cmx with | some v => Instr.sliceBound v cap' (if isSlice = true then .slice3Acap else .slice3Alen) | none => (pure cap' : Sem Nat)).run P.toProgram w = .ok m' w) ∧ m ≤ m' ∧ m' ≤ cap' ∧ (mx.isSome = true → m' = m) ∧ (mx.isSome = false → m' = cap') := by
  cases rmx with
  | none => simp [sliceBd] at hm; subst hm; exact ⟨cap', fun w => by simp, hcap, Nat.le_refl _, by simp, by simp⟩
  | some r =>
   obtain ⟨k, rfl, hle⟩ := sliceBd_some hm
   cases r
   exact ⟨m, fun w => by simpa using run_sliceBound (P := P) (Nat.le_trans hle hcap) w, Nat.le_refl _, by omega, fun _ => rfl, by simp⟩
 obtain ⟨e2, hhm⟩ : (∀ w : World, (match chi, cmx with | some v, some _ => Instr.sliceBound v m' .slice3B | some v, none => Instr.sliceBound v m' (if isSlice = true then .sliceAcap else .sliceAlen) | none, none => (pure len : Sem Nat) | none, some _ => stuck "Slice: max without high").run P.toProgram w = .ok h w) ∧ h ≤ m := by
  cases rhi with
  | none =>
   cases rmx with
   | none => simp [sliceBd] at hh; subst hh; exact ⟨fun w => by simp, hlen⟩
   | some r => simp at hn
  | some r =>
   obtain ⟨k, rfl, hle⟩ := sliceBd_some hh
   cases r
   refine ⟨fun w => ?_, hle⟩
   cases cmx <;> exact run_sliceBound (by omega) w
 obtain ⟨e3, hlh⟩ : (∀ w : World, (match clo with | some v => Instr.sliceBound v h (if cmx.isSome = true then .slice3C else .sliceB) | none => (pure 0 : Sem Nat)).run P.toProgram w = .ok l w) ∧ l ≤ h := by
  cases rlo with
  | none => simp [sliceBd] at hl; subst hl; exact ⟨fun w => by simp, Nat.zero_le _⟩
  | some r =>
   obtain ⟨k, rfl, hle⟩ := sliceBd_some hl
   cases r
   exact ⟨fun w => run_sliceBound hle w, hle⟩
 refine ⟨m', ?_, hmm, hmc, hlh, hhm, hx1, hx2⟩
 have f1 := e1 w
 have f2 := e2 w
 have f3 := e3 w
 clear e1 e2 e3 hx1 hx2
 cases rmx <;> cases rhi <;> cases rlo <;> simp only [Sem.run_pure, run_stuck, Result.ok.injEq, and_true, reduceCtorEq, Option.isSome_none, Option.isSome_some, Bool.false_eq_true, if_false, if_true] at f1 f2 f3 <;>
  (try subst f1) <;> (try subst f2) <;> (try subst f3) <;> simp [Instr.sliceBounds, *]

theorem sliceStr_ok {t : TypeId} (hu : P.underlying t = some .string) {x v : AV} {cx : Value} {lo hi : Option AV} {clo chi : Option Value} (hx : VRel φ x cx) (rlo : OptRel φ lo clo) (rhi : OptRel φ hi chi)
 (h : sliceStrV x lo hi = some v) (w : World) : ∃ c, (Instr.sliceAt t cx clo chi none).run P.toProgram w = .ok c w ∧ VRel φ v c := by
 unfold sliceStrV at h
 split at h
 · rename_i sl
   split at h
   · rename_i hh h1
     split at h
     · rename_i ll h2
       cases h
       cases hx
       rename_i bs
       have hlen : bs.data.toList.length = bs.size := rfl
       rw [hlen] at h1
       obtain ⟨m', e, _, _, hlh, hhm, _, hm2⟩ := sliceBounds_ok (P := P) (isSlice := false) (len := bs.size) (cap := bs.size) (cap' := bs.size) (m := bs.size) rlo rhi (.none (φ := φ)) (Nat.le_refl _) (by simp [sliceBd]) h1 h2 (by simp) (Nat.le_refl _) w
       refine ⟨.string (bs.extract ll hh), ?_, ?_⟩
       · simp [Instr.sliceAt, run_underlying_some hu, Instr.slice, e]
       · have : (bs.extract ll hh).data.toList = (bs.data.toList.take hh).drop ll := by
          rw [ByteArray.data_extract, Array.toList_extract, List.extract_eq_take_drop, List.drop_take]
         rw [← this]; exact .str _
     · cases h
   · cases h
 · cases h

theorem sliceCore {esz : Nat} {a : AAddr} {len cap : Nat} {exact : Bool} {es : Nat} {v : AV} {cx : Value} {lo hi mx : Option AV} {clo chi cmx : Option Value} (hx : VRel φ (.slice a len cap exact es) cx)
 (rlo : OptRel φ lo clo) (rhi : OptRel φ hi chi) (rmx : OptRel φ mx cmx) (h : sliceSlV esz (.slice a len cap exact es) lo hi mx = some v) (isSlice : Bool) (w : World) :
 ∃ ca cap' l hh m', es = esz ∧ cx = .slice (some ca) len cap' ∧ (Instr.sliceBounds isSlice len cap' clo chi cmx).run P.toProgram w = .ok (l, hh, m') w ∧ VRel φ v (.slice (some (if m' = l then ca else ca.add (l * esz))) (hh - l) (m' - l)) := by
 simp only [sliceSlV] at h
 split at h
 · rename_i he
   subst he
   split at h
   · cases h
   · rename_i hn
     split at h
     · cases h
     · rename_i m h1
       split at h
       · cases h
       · rename_i hh h2
         split at h
         · cases h
         · rename_i l h3
           split at h
           · rename_i hlim
             obtain ⟨x, cap', rfl, p1, p2, p3, p4, p5, p6, p7, p8⟩ := hx.slice_inv
             have hmle : m ≤ cap := by
              cases mx with
              | none => simp [sliceBd] at h1; omega
              | some q => obtain ⟨k, _, hle⟩ := sliceBd_some h1; exact hle
             have hlenm : hi = none → len ≤ m := by
              intro hi0
              cases mx with
              | none => simp [sliceBd] at h1; omega
              | some q => subst hi0; simp at hn
             -- the bounds, with a length that is at most m
             have hb : ∃ m', (Instr.sliceBounds isSlice len cap' clo chi cmx).run P.toProgram w = .ok (l, hh, m') w ∧ m ≤ m' ∧ m' ≤ cap' ∧ l ≤ hh ∧ hh ≤ m ∧ (mx.isSome = true → m' = m) ∧ (mx.isSome = false → m' = cap') := by
              cases hi with
              | none => exact sliceBounds_ok (P := P) rlo rhi rmx p6 h1 h2 h3 (by cases mx <;> simp at hn ⊢) (hlenm rfl) w
              | some q =>
               have h2' : sliceBd (some q) m 0 = some hh := by
                obtain ⟨k, rfl, hle⟩ := sliceBd_some h2
                simp [sliceBd, hle]
               obtain ⟨m', e, r⟩ := sliceBounds_ok (P := P) (isSlice := isSlice) (len := 0) rlo rhi rmx p6 h1 h2' h3 (by simp) (Nat.zero_le _) w
               refine ⟨m', ?_, r⟩
               cases rhi
               cases cmx <;> simpa [Instr.sliceBounds] using e
             obtain ⟨m', e, hmm, hmc, hlh, hhm, hm1, hm2⟩ := hb
             have hmul : l * es ≤ hh * es := Nat.mul_le_mul hlh (Nat.le_refl _)
             split at h
             · rename_i hlm
               cases h
               refine ⟨_, _, _, _, _, rfl, rfl, e, ?_⟩
               rw [addr_add]
               rw [if_neg (by omega)]
               have hsub : (hh - l) * es = hh * es - l * es := Nat.sub_mul ..
               have hsub2 : (m' - l) * es = m' * es - l * es := Nat.sub_mul ..
               have hm'c : m' * es ≤ cap' * es := Nat.mul_le_mul hmc (Nat.le_refl _)
               have hml : l * es ≤ m' * es := Nat.mul_le_mul (by omega) (Nat.le_refl _)
               have := VRel.slice (φ := φ) (a := { a with off := a.off + l * es }) (x := x) (len := hh - l) (cap := m - l) (exact := exact || mx.isSome) (esz := es) (cap' := m' - l)
                p1 (by show x.sh ≤ a.off + l * es; omega) p3 (by show a.off + l * es + (hh - l) * es ≤ a.lim; omega) (by omega) (by omega) (by
                 intro hex
                 cases hmx : mx.isSome with
                 | true => rw [hm1 hmx]
                 | false =>
                  rw [hmx] at hex
                  have := p7 (by simpa using hex)
                  have e2 := hm2 hmx
                  have : m = cap := by
                   cases mx with
                   | none => simp [sliceBd] at h1; omega
                   | some q => simp at hmx
                  omega) (by show x.base + (a.off + l * es - x.sh) + (m' - l) * es ≤ x.top; omega)
               rw [show x.base + (a.off - x.sh) + l * es = x.base + (a.off + l * es - x.sh) by omega]
               exact this
             · rename_i hlm
               have hlm' : l = m := by omega
               split at h
               · rename_i hex
                 cases h
                 have hm'm : m' = m := by
                  cases hmx : mx.isSome with
                  | true => exact hm1 hmx
                  | false =>
                   rw [hmx] at hex
                   have := p7 (by simpa using hex)
                   have e2 := hm2 hmx
                   have : m = cap := by
                    cases mx with
                    | none => simp [sliceBd] at h1; omega
                    | some q => simp at hmx
                   omega
                 refine ⟨_, _, _, _, _, rfl, rfl, e, ?_⟩
                 rw [addr_add]
                 rw [if_pos (by omega), show hh - l = 0 by omega, show m' - l = 0 by omega]
                 exact .slice p1 p2 p3 (by omega) (Nat.le_refl _) (Nat.le_refl _) (fun _ => rfl) (by omega)
               · cases h
                 refine ⟨_, _, _, _, _, rfl, rfl, e, ?_⟩
                 rw [addr_add]
                 rw [show hh - l = 0 by omega]
                 split <;> exact .empty _ _
           · cases h
 · cases h

theorem sliceSl_ok {t el : TypeId} {esz : Nat} (hu : P.underlying t = some (.slice el)) (hsz : szOf P el = some esz) {x v : AV} {cx : Value} {lo hi mx : Option AV} {clo chi cmx : Option Value} (hx : VRel φ x cx)
 (rlo : OptRel φ lo clo) (rhi : OptRel φ hi chi) (rmx : OptRel φ mx cmx) (h : sliceSlV esz x lo hi mx = some v) (w : World) :
 ∃ c, (Instr.sliceAt t cx clo chi cmx).run P.toProgram w = .ok c w ∧ VRel φ v c := by
 have hs : ∀ w, (sizeOf el).run P.toProgram w = .ok esz w := fun w => run_sizeOf hsz
 unfold sliceSlV at h
 split at h
 · -- nil
   cases hx
   split at h
   · rename_i m hh l h1 h2 h3
     split at h
     · cases h
     · rename_i hn
       cases h
       have hm : m = 0 := by
        cases mx with
        | none => simp [sliceBd] at h1; exact h1.symm
        | some q => obtain ⟨k, _, hle⟩ := sliceBd_some h1; omega
       subst hm
       obtain ⟨m', e, _, hmc, hlh, hhm, _, _⟩ := sliceBounds_ok (P := P) (isSlice := true) (len := 0) (cap := 0) (cap' := 0) rlo rhi rmx (Nat.le_refl _) h1 h2 (by
        have : hh = 0 := by
         cases hi with
         | none => simp [sliceBd] at h2; exact h2.symm
         | some q => obtain ⟨k, _, hle⟩ := sliceBd_some h2; omega
        rw [this]; exact h3) (by
         cases mx <;> cases hi <;> simp at hn ⊢) (Nat.le_refl _) w
       have : m' = 0 := by omega
       subst this
       have : l = 0 := by omega
       subst this
       have : hh = 0 := by omega
       subst this
       exact ⟨.slice none 0 0, by simp [Instr.sliceAt, run_underlying_some hu, Instr.slice, e, hs], .nilSlice⟩
   · cases h
 · -- empty
   cases hx
   rename_i a0 cap0
   split at h
   · rename_i hh l h1 h2
     cases h
     cases rmx
     have hh0 : hh = 0 := by
      cases hi with
      | none => simp [sliceBd] at h1; exact h1.symm
      | some q => obtain ⟨k, _, hle⟩ := sliceBd_some h1; omega
     have hl0 : l = 0 := by
      cases lo with
      | none => simp [sliceBd] at h2; exact h2.symm
      | some q => obtain ⟨k, _, hle⟩ := sliceBd_some h2; omega
     subst hh0 hl0
     obtain ⟨m', e, _, _, _, _, _, hm2⟩ := sliceBounds_ok (P := P) (isSlice := true) (len := 0) (cap := 0) (cap' := cap0) (m := 0) rlo rhi (.none (φ := φ)) (Nat.zero_le _) (by simp [sliceBd]) h1 h2 (by simp) (Nat.le_refl _) w
     have := hm2 rfl
     subst this
     refine ⟨.slice (if m' = 0 then some a0 else (some a0).map (·.add (0 * esz))) 0 m', by simp [Instr.sliceAt, run_underlying_some hu, Instr.slice, e, hs], ?_⟩
     split
     · exact .empty _ _
     · exact .empty _ _
   · cases h
 · -- a slice
   rename_i a len cap exact es
   obtain ⟨ca, cap', l, hh, m', rfl, rfl, e, hv⟩ := sliceCore (P := P) hx rlo rhi rmx (by simpa only [sliceSlV] using h) true w
   refine ⟨_, ?_, hv⟩
   simp only [Instr.sliceAt, run_underlying_some hu, Instr.slice, e, hs, Sem.run_bind, Result.andThen_ok, Sem.run_pure]
   split <;> simp
 · cases h

theorem sliceArr_ok (hs : RelSt φ s w) {t el : TypeId} {n esz : Nat} (hu : P.underlying t = some (.array n el)) (hsz : szOf P el = some esz) {x v : AV} {cx : Value} {lo hi mx : Option AV} {clo chi cmx : Option Value} (hx : VRel φ x cx)
 (rlo : OptRel φ lo clo) (rhi : OptRel φ hi chi) (rmx : OptRel φ mx cmx) (h : sliceArrV s n esz x lo hi mx = some v) :
 ∃ c, (Instr.sliceAt t cx clo chi cmx).run P.toProgram w = .ok c w ∧ VRel φ v c := by
 unfold sliceArrV at h
 split at h
 · rename_i a
   split at h
   · rename_i l0 hrd
     obtain ⟨x, rfl, p1, p2, p3⟩ := hx.ptr_inv
     unfold St.readAt at hrd
     split at hrd
     · rename_i cs lo0 inc ro ho
       split at hrd
       · rename_i hc
         obtain ⟨cc, el1, fz, hh1, e1, e2, e3, e4, e5, e6, e7⟩ := cells_inv hs ho p1 hc.1 hc.2.1
         have hsl : VRel φ (.slice a n n true esz) (.slice (some ⟨x.blk, x.base + (a.off - x.sh), none⟩) n n) :=
          .slice p1 p2 p3 hc.2.2 (Nat.le_refl _) (Nat.le_refl _) (fun _ => rfl) (by omega)
         obtain ⟨ca, cap', l, hh, m', _, hcx, e, hv⟩ := sliceCore (P := P) hsl rlo rhi rmx h false w
         cases hcx
         refine ⟨_, ?_, hv⟩
         simp only [Instr.sliceAt, run_underlying_some hu, Instr.sureAddr, e, run_sizeOf hsz, Sem.run_bind, Result.andThen_ok, Sem.run_pure]
       · cases hrd
     · cases hrd
   · cases h
 · cases h
end
end Go.V
