/- The hook for slices.Sorted(maps.Keys(m)) at keys of uint32 is right, out of a contract for slices.Sort over the small language. -/
import Derived.Test.YtlpdekocilhciaaKU3
set_option linter.unusedVariables false
set_option linter.unusedSimpArgs false
set_option linter.unusedSectionVars false
namespace Go.V.KU
open Go Go.V Go.RowKit Go.Maps Go.Sort Go.Shelf Go.Proofs Go.WideShapes
open Go.WideElems (rd rg)

/-- slices.Sort at a whole slice of numbers, and at nil. -/
structure SortsV (T : Tab) (f N : Nat) : Prop where
  row : ∀ (s : St) (l : List Int) (b : Nat), WFS s → l.length ≤ N → s.heap.get b = some (.cells (l.map aU) 0 0 false) → b < s.next → Ran T f [.slice ⟨b, 0, 0, l.length⟩ l.length l.length false 1] s fun v s2 =>
    v = .tuple [] ∧ s2.heap.get b = some (.cells ((srt l).map aU) 0 0 false) ∧ ∀ id, id < s.next → id ≠ b → s2.heap.get id = s.heap.get id
  none : ∀ s : St, WFS s → Ran T f [.nilSlice] s fun v s2 => v = .tuple [] ∧ ∀ id, id < s.next → s2.heap.get id = s.heap.get id

theorem keyI_eq {v : AV} {n : Int} (h : keyI v = some n) : v = .int .u32 n ∧ 0 ≤ n ∧ n ≤ 4294967295 := by
  unfold keyI at h
  split at h
  · rename_i m
    split at h
    · rename_i hb
      cases h
      have : m < 4294967296 := by simpa using hb
      refine ⟨rfl, Int.natCast_nonneg m, ?_⟩
      show ((m : Nat) : Int) ≤ 4294967295
      omega
    · cases h
  · cases h
theorem allLt_eq {c : Nat} : ∀ {l : List Nat}, allLt c l = true → ∀ b ∈ l, b < c
  | [], _, b, hb => by simp at hb
  | x :: l, h, b, hb => by
    simp only [allLt, Bool.and_eq_true] at h
    rcases List.mem_cons.1 hb with rfl | hb
    · simpa using h.1
    · exact allLt_eq h.2 b hb
theorem nodupZ_eq : ∀ {l : List Int}, nodupZ l = true → l.Nodup
  | [], _ => .nil
  | x :: l, h => by
    simp only [nodupZ, Bool.and_eq_true, Bool.not_eq_true', List.contains_eq_mem, decide_eq_false_iff_not] at h
    exact List.nodup_cons.2 ⟨h.1, nodupZ_eq h.2⟩

theorem ents_keys {φ : Phi} : ∀ {l : List AEntry} {l' : List MapEntry} {ks : List Int}, EntsRel φ l l' → keysI l = some ks → l'.map (·.key) = ks.map encU ∧ (∀ k ∈ ks, 0 ≤ k ∧ k ≤ 4294967295) ∧ l'.map (·.born) = bornsA l
  | _, _, _, .nil, h => by cases h; exact ⟨rfl, by simp, rfl⟩
  | _, _, _, .cons (a := a) (b := b) (l := l) (l' := l') q1 q2 q3 q4, h => by
    simp only [keysI] at h
    split at h
    · rename_i n hn
      split at h
      · rename_i r hr
        cases h
        obtain ⟨e1, e2, e3⟩ := ents_keys q4 hr
        obtain ⟨hk, h0, h1⟩ := keyI_eq hn
        rw [hk] at q1
        refine ⟨?_, ?_, ?_⟩
        · rw [List.map_cons, List.map_cons, e1]
          congr 1
          generalize b.key = bk at q1
          cases q1
          rfl
        · intro k hk
          rcases List.mem_cons.1 hk with rfl | hk
          · exact ⟨h0, h1⟩
          · exact e2 k hk
        · rw [List.map_cons, e3, bornsA, q3]
      · cases h
    · cases h

/-- How a map's values are read here: not at all. -/
def R0 : Value → Option (DataW Unit × List MemPlace) := fun _ => some (.nil, [])

theorem wf_u32 {n : Int} (h0 : 0 ≤ n) (h1 : n ≤ 4294967295) : (Lit.int .u32 n).wf = true := by
  simp only [Lit.wf, Bool.and_eq_true, IntKind.min, IntKind.max, IntKind.signed, IntKind.bits]
  simp
  omega

set_option maxRecDepth 100000 in
theorem owns_u32 {φ : Phi} {w : World} {b N : Nat} {es : List AEntry} {es' : Array MapEntry} {clock : Nat} {ks : List Int} (hN : N ≤ 1000000000) (hb : w.heap[b]? = some (.map es' clock)) (hr : EntsRel φ es es'.toList) (hok : okKeys N es clock = some ks) :
    ∃ D : DataW Unit, w.ownsMap Try.prog 22 R0 b es'.size D ∧ (intKeys D).Perm ks ∧ Maps.size D = ks.length ∧ ks.length ≤ N := by
  unfold okKeys at hok
  split at hok
  · rename_i ks' hks
    split at hok
    · rename_i hc
      cases hok
      simp only [Bool.and_eq_true] at hc
      obtain ⟨c1, c2, c3, c4⟩ := hc
      have c4 : ks.length ≤ N := Nat.le_of_ble_eq_true c4
      obtain ⟨e1, e2, e3⟩ := ents_keys hr hks
      have hrd : ∀ x ∈ es'.toList, ∃ n, n ∈ ks ∧ rd Try.prog 22 R0 x = some (.int .u32 n, .nil) ∧ x.key = encU n := by
        intro x hx
        have : x.key ∈ es'.toList.map (·.key) := List.mem_map_of_mem hx
        rw [e1] at this
        obtain ⟨n, hn, hk⟩ := List.mem_map.1 this
        obtain ⟨h0, h1⟩ := e2 n hn
        refine ⟨n, hn, ?_, hk.symm⟩
        unfold rd
        rw [← hk]
        simp [keyOf, mapKey, Try.underlying22, wf_u32 h0 h1, R0, encU]
      have hlen : es'.toList.length = ks.length := by
        have := congrArg List.length e1
        simpa using this
      have hkk : es'.toList.map (fun x => intOf (rg Try.prog 22 R0 x).1) = ks := by
        apply List.ext_getElem?
        intro i
        rw [List.getElem?_map]
        cases hx : es'.toList[i]? with
        | none =>
          simp only [Option.map_none]
          rw [List.getElem?_eq_none_iff] at hx
          rw [eq_comm, List.getElem?_eq_none_iff]; omega
        | some x =>
          obtain ⟨n, hn, h1, h2⟩ := hrd x (List.mem_of_getElem? hx)
          have h3 : (es'.toList.map (·.key))[i]? = some x.key := by rw [List.getElem?_map, hx]; rfl
          rw [e1, List.getElem?_map] at h3
          cases hk : ks[i]? with
          | none => rw [hk] at h3; cases h3
          | some m =>
            rw [hk, h2] at h3
            simp only [Option.map_some, Option.some.injEq] at h3
            obtain rfl := encU_inj h3
            simp only [Option.map_some]
            simp only [rg, h1, Option.getD_some, intOf]
      have hF : WideElems.Fit Try.prog 22 R0 es' clock := by
        refine ⟨?_, ⟨?_, ?_, ?_⟩, ?_⟩
        · have : es'.size = ks.length := by simpa using hlen
          unfold maxLen; omega
        · intro x hx
          have : x.born ∈ es'.toList.map (·.born) := List.mem_map_of_mem hx
          rw [e3] at this
          exact allLt_eq c1 _ this
        · rw [e3]; exact nodupB_nodup c2
        · rw [e1]
          exact List.pairwise_map.2 ((nodupZ_eq c3).imp fun {a b} hab he => hab (encU_inj he))
        · intro x hx
          obtain ⟨n, _, h1, _⟩ := hrd x hx
          exact ⟨_, h1⟩
      have hp := sorted_perm (es'.toList.map (rg Try.prog 22 R0))
      refine ⟨_, ⟨es', clock, hb, hF, Nat.le_refl _, rfl⟩, ?_, ?_, c4⟩
      · show (List.map (fun p : Lit × DataW Unit => intOf p.1) _).Perm ks
        refine (hp.map _).trans ?_
        rw [List.map_map]
        have : ((fun p : Lit × DataW Unit => intOf p.1) ∘ rg Try.prog 22 R0) = (fun x => intOf (rg Try.prog 22 R0 x).1) := rfl
        rw [this, hkk]
      · show List.length _ = _
        rw [hp.length_eq, List.length_map, hlen]
    · cases hok
  · cases hok
end Go.V.KU
