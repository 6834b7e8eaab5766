/- slices.Sorted(maps.Keys(m)) at keys of uint32, as a hook of the small language: a new slice that holds the keys, sorted. -/
import Derived.Test.YtlpdekocilhciaaKU2
import Derived.Test.YtlpdekocilhciaaV43
set_option linter.unusedVariables false
set_option linter.unusedSimpArgs false
set_option linter.unusedSectionVars false
namespace Go.V.KU
open Go Go.V Go.RowKit Go.Maps Go.Sort Go.Shelf Go.Proofs Go.WideAt

/-- A new object whose block the call has made, whatever else it has made. -/
theorem step_new {φ : Phi} {s : St} {w w' : World} (h : RelSt φ s w) (hf : s.heap.get s.next = none) (o : AObj) (x : Inc) (hb : Below w.heap.size w w') (hx : w.heap.size ≤ x.blk) (hx2 : x.blk < w'.heap.size)
    (ho : ObjRel (φ.upd s.next 0 x) w' s.next o) : Step φ s w (φ.upd s.next 0 x) (s.add o) w' := by
  have hnk := free_phi h hf
  have hle : PhiLe φ (φ.upd s.next 0 x) := Phi.upd_le (hnk 0)
  have hnr : ∀ id, isRo s id → id ≠ s.next := by
    rintro id ⟨cs, lo, inc, e⟩ rfl
    rw [hf] at e; cases e
  have hro' : ∀ id, isRo s id → isRo (s.add o) id := by
    intro id hr
    obtain ⟨cs, lo, inc, e⟩ := hr
    exact ⟨cs, lo, inc, by rw [add_get, if_neg (hnr id ⟨cs, lo, inc, e⟩)]; exact e⟩
  refine ⟨hle, ⟨?_, ?_, ?_, ?_⟩, hb.size, fun b hlt _ => hb.block b hlt, ?_, ?_, ?_, ?_, hb.os, hb.tape, hb.output⟩
  · intro id o' e
    rw [add_get] at e
    split at e
    · rename_i hid; cases e; rw [hid]; exact ho
    · exact (h.obj id o' e).mono hle fun k y hy => hb.block _ (h.dom id k y hy).2
  · intro id k y e
    rw [add_get]
    rcases Phi.upd_cases e with ⟨rfl, rfl, rfl⟩ | e'
    · simp [hx2]
    · have := h.dom id k y e'
      have hs := hb.size
      split
      · simp; omega
      · exact ⟨this.1, by omega⟩
  · intro id k y id' k' y' e e' hbb
    rcases Phi.upd_cases e with ⟨rfl, rfl, rfl⟩ | e1
    · rcases Phi.upd_cases e' with ⟨rfl, rfl, rfl⟩ | e2
      · exact .inl ⟨rfl, rfl, rfl, rfl⟩
      · have := (h.dom _ _ _ e2).2; omega
    · rcases Phi.upd_cases e' with ⟨rfl, rfl, rfl⟩ | e2
      · have := (h.dom _ _ _ e1).2; omega
      · rcases h.inj _ _ _ _ _ _ e1 e2 hbb with h1 | ⟨h1, h2⟩
        · exact .inl h1
        · exact .inr ⟨hro' _ h1, hro' _ h2⟩
  · intro id k y cs lo inc ro e e2
    rw [add_get] at e2
    rcases Phi.upd_cases e with ⟨rfl, rfl, rfl⟩ | e1
    · exact Nat.zero_le _
    · split at e2
      · rename_i hid; rw [hid, hnk] at e1; cases e1
      · exact h.incs _ _ _ _ _ _ _ e1 e2
  · intro id k y e _
    exact hb.block _ (h.dom _ _ _ e).2
  · intro id k y e
    rcases Phi.upd_cases e with ⟨rfl, rfl, rfl⟩ | e1
    · exact .inr hx
    · exact .inl ⟨id, k, y, e1, rfl⟩
  · intro id hr
    rw [add_get, if_neg (hnr id hr)]
  · intro id k y e hr
    rcases Phi.upd_cases e with ⟨rfl, rfl, rfl⟩ | e1
    · exact absurd rfl (hnr _ hr)
    · exact e1

/-- What lay there is as it was. -/
theorem step_below {φ : Phi} {s : St} {w w' : World} (h : RelSt φ s w) (hb : Below w.heap.size w w') : Step φ s w φ s w' := by
  have hs := hb.size
  exact ⟨.refl φ, ⟨fun id o e => (h.obj id o e).mono (.refl φ) fun k y hy => hb.block _ (h.dom id k y hy).2, fun id k x e => ⟨(h.dom id k x e).1, by have := (h.dom id k x e).2; omega⟩, h.inj, h.incs⟩, hs, fun b hlt _ => hb.block b hlt,
    fun id k x e _ => hb.block _ (h.dom id k x e).2, fun id k x e => .inl ⟨id, k, x, e, rfl⟩, fun _ _ => rfl, fun _ _ _ e _ => e, hb.os, hb.tape, hb.output⟩

/-- A row of plain cells, new. -/
theorem plain_cells {φ : Phi} {w : World} {x : Inc} {l : List AV} {l' : List Value} {cur : Array Value} {el : TypeId} (id : Nat) (hx : φ id 0 = some x) (hb : w.heap[x.blk]? = some (.cells cur el (0, 0))) (h0 : x.base = 0) (h1 : x.sh = 0) (h2 : x.n = l.length) (h3 : x.top = cur.size)
    (h4 : l.length ≤ cur.size) (h5 : cur.toList.take l.length = l') (hr : VRels φ l l') : ObjRel φ w id (.cells l 0 0 false) := by
  refine ⟨Nat.le_refl _, fun k hk hk' => ?_⟩
  obtain rfl : k = 0 := by omega
  refine ⟨x, hx, cur, el, (0, 0), hb, h3.symm, fun _ o _ => by simp, by omega, by omega, fun _ => h2, by omega, fun j v _ hj hv => ?_⟩
  obtain ⟨c, hc, hv'⟩ := hr.get hv
  refine ⟨c, ?_, hv'⟩
  rw [h0, h1]
  simp only [Nat.zero_add, Nat.sub_zero]
  rw [← h5, List.getElem?_take_of_lt (by omega)] at hc
  rw [← hc]
  simp

/-- What nothing reaches is left out: nothing new is kept. -/
theorem gc_none {φ φ2 : Phi} {s s2 : St} {w w' : World} (hs : RelSt φ s w) (hfree : ∀ id, s.next ≤ id → s.heap.get id = none) (st : Step φ s w φ2 s2 w') (hext : ∀ id, id < s.next → s2.heap.get id = s.heap.get id) : ∃ φ', Step φ s w φ' s w' := by
  have hK := selfK_get s.heap s.next
  have hlt : ∀ id, (s.heap.get id).isSome = true → id < s.next := by
    intro id hid
    rcases Nat.lt_or_ge id s.next with h1 | h1
    · exact h1
    · rw [hfree id h1] at hid; cases hid
  obtain ⟨φ', st', _⟩ := gc_step (s' := s) hs st (selfK s.heap s.next) (fun i => if i < s.next ∧ (s.heap.get i).isSome = true then some i else none)
    (fun i id e => by
      split at e
      · rename_i hc; cases e; rw [hK, if_pos hc]
      · cases e)
    (fun id i e => by
      rw [hK] at e
      split at e
      · rename_i hc; cases e; show (if _ then _ else _) = _; rw [if_pos hc]
      · cases e)
    (fun id hid => by rw [hK, if_pos ⟨hlt id hid, hid⟩])
    (fun i id e => by
      split at e
      · rename_i hc
        cases e
        cases ho : s.heap.get i with
        | none => rw [ho] at hc; cases hc.2
        | some o' =>
          have := hext i hc.1
          rw [ho] at this
          exact ⟨o', o', this, rfl, .inr ⟨rfl, rfl, rfl⟩⟩
      · cases e)
    (fun i o' ho => by
      refine ⟨i, ?_⟩
      show (if _ then _ else _) = _
      rw [if_pos ⟨hlt i (by rw [ho]; rfl), by rw [ho]; rfl⟩])
    (fun _ _ => rfl)
  exact ⟨φ', st'⟩

/-- One new object is kept, at the first free number of the state that the call began with. -/
theorem gc_one {φ φ2 : Phi} {s : St} {N : Nat} {s2 : St} {w w' : World} (hs : RelSt φ ⟨s.heap, N⟩ w) (hfree : ∀ id, N ≤ id → s.heap.get id = none) (hnx : s.heap.get s.next = none) (st : Step φ ⟨s.heap, N⟩ w φ2 s2 w') (l : List AV) (hpl : plains l = true)
    (hnew : s2.heap.get N = some (.cells l 0 0 false)) (hext : ∀ id, id < N → s2.heap.get id = s.heap.get id) : ∃ φ', Step φ ⟨s.heap, N⟩ w φ' (s.add (.cells l 0 0 false)) w' ∧ ∀ j x, φ2 N j = some x → φ' s.next j = some x := by
  have hsK := selfK_get s.heap N
  have hK : ∀ id, ((selfK s.heap N).set N s.next).get id = if id = N then some s.next else if id < N ∧ (s.heap.get id).isSome = true then some id else none := by
    intro id
    rw [Tree.get_set, hsK]
  have hlt : ∀ id, (s.heap.get id).isSome = true → id < N := by
    intro id hid
    rcases Nat.lt_or_ge id N with h1 | h1
    · exact h1
    · rw [hfree id h1] at hid; cases hid
  obtain ⟨φ', st', hr⟩ := gc_step (s' := s.add (.cells l 0 0 false)) hs st ((selfK s.heap N).set N s.next) (fun i => if i = s.next then some N else if i < N ∧ (s.heap.get i).isSome = true then some i else none)
    (fun i id e => by
      rw [hK]
      split at e
      · rename_i hc; cases e; rw [if_pos rfl, hc]
      · split at e
        · rename_i hc; cases e; rw [if_neg (by omega), if_pos hc]
        · cases e)
    (fun id i e => by
      rw [hK] at e
      show (if _ then _ else _) = _
      split at e
      · rename_i hc; cases e; rw [if_pos rfl, hc]
      · split at e
        · rename_i hc
          cases e
          rw [if_neg ?_, if_pos hc]
          intro e2
          rw [e2, hnx] at hc
          cases hc.2
        · cases e)
    (fun id hid => by
      have := hlt id hid
      rw [hK, if_neg (by omega), if_pos ⟨this, hid⟩])
    (fun i id e => by
      split at e
      · rename_i hc
        cases e
        refine ⟨_, _, hnew, by rw [add_get, if_pos hc], .inl ?_⟩
        simp only [AObj.ren, plains_ren hpl]
      · rename_i hne
        split at e
        · rename_i hc
          cases e
          cases ho : s.heap.get i with
          | none => rw [ho] at hc; cases hc.2
          | some o' =>
            have := hext i hc.1
            rw [ho] at this
            exact ⟨o', o', this, by rw [add_get, if_neg hne]; exact ho, .inr ⟨rfl, rfl, rfl⟩⟩
        · cases e)
    (fun i o' ho => by
      rw [add_get] at ho
      split at ho
      · rename_i hc; exact ⟨N, by rw [if_pos hc]⟩
      · rename_i hc; exact ⟨i, by rw [if_neg hc, if_pos ⟨hlt i (by rw [ho]; rfl), by rw [ho]; rfl⟩]⟩)
    (fun id ⟨cs, lo, inc, e⟩ => by
      have e : s.heap.get id = some (.cells cs lo inc true) := e
      rw [add_get, if_neg]
      intro e2
      rw [e2, hnx] at e
      cases e)
  refine ⟨φ', st', fun j x e => hr N s.next ?_ j x e⟩
  rw [hK, if_pos rfl]

abbrev aU : Int → AV := AV.int .u32
def keyI : AV → Option Int
  | .int .u32 (.ofNat n) => match Nat.blt n 4294967296 with
    | true => some (Int.ofNat n)
    | false => none
  | _ => none
def keysI : List AEntry → Option (List Int)
  | [] => some []
  | e :: l => match keyI e.key with
    | some n => match keysI l with
      | some r => some (n :: r)
      | none => none
    | none => none
def bornsA : List AEntry → List Nat
  | [] => []
  | e :: l => e.born :: bornsA l
def allLt (c : Nat) : List Nat → Bool
  | [] => true
  | b :: l => Nat.blt b c && allLt c l
def nodupZ : List Int → Bool
  | [] => true
  | x :: l => !l.contains x && nodupZ l
def insZ (x : Int) : List Int → List Int
  | [] => [x]
  | y :: l => match decide (x ≤ y) with
    | true => x :: y :: l
    | false => y :: insZ x l
def srt : List Int → List Int
  | [] => []
  | x :: l => insZ x (srt l)
theorem insZ_perm (x : Int) : ∀ l, (insZ x l).Perm (x :: l)
  | [] => .refl _
  | y :: l => by
    simp only [insZ]
    split
    · exact .refl _
    · exact ((insZ_perm x l).cons y).trans (.swap x y l)
theorem srt_self : ∀ l, (srt l).Perm l
  | [] => .refl _
  | x :: l => (insZ_perm x _).trans ((srt_self l).cons x)
theorem insZ_sorted (x : Int) : ∀ l : List Int, l.Pairwise (fun a b => a ≤ b) → (insZ x l).Pairwise (fun a b => a ≤ b)
  | [], _ => by simp [insZ]
  | y :: l, h => by
    simp only [insZ]
    have hy := List.pairwise_cons.1 h
    split
    · rename_i hd
      have hd : x ≤ y := by simpa using hd
      refine List.pairwise_cons.2 ⟨fun z hz => ?_, h⟩
      rcases List.mem_cons.1 hz with rfl | hz
      · exact hd
      · exact Int.le_trans hd (hy.1 z hz)
    · rename_i hd
      have hd : ¬ x ≤ y := by simpa using hd
      refine List.pairwise_cons.2 ⟨fun z hz => ?_, insZ_sorted x l hy.2⟩
      rcases List.mem_cons.1 ((insZ_perm x l).mem_iff.1 hz) with rfl | hz
      · omega
      · exact hy.1 z hz
theorem srt_sorted : ∀ l : List Int, (srt l).Pairwise (fun a b => a ≤ b)
  | [] => .nil
  | x :: l => insZ_sorted x _ (srt_sorted l)
/-- The keys, as they stand; none where the map is not in order. -/
def okKeys (N : Nat) (es : List AEntry) (clock : Nat) : Option (List Int) := match keysI es with
  | some ks => match allLt clock (bornsA es) && (nodupB (bornsA es) && (nodupZ ks && Nat.ble ks.length N)) with
    | true => some ks
    | false => none
  | none => none
def keysRes (s : St) (ks : List Int) : AV × St := match ks with
  | [] => (.nilSlice, s)
  | _ => (.slice ⟨s.next, 0, 0, ks.length⟩ ks.length ks.length false 1, s.add (.cells ((srt ks).map aU) 0 0 false))
def sortedMap (N : Nat) (s : St) : AV → Option (AV × St)
  | .map r => match s.heap.get r with
    | some (.map es clock) => match okKeys N es clock with
      | some ks => some (keysRes s ks)
      | none => none
    | _ => none
  | _ => none
def sortedH (N kf : Nat) (args : List AV) (s : St) : Option (AV × St) := match args with
  | [.func f [] [.ptr a]] => match Nat.beq f kf with
    | true => match s.readAt a 1 with
      | some (m :: _) => sortedMap N s m
      | _ => none
    | false => none
  | _ => none
end Go.V.KU
