/- A state that came in. -/
import Derived.Test.YtipcimefenpjhaaGreatDoorVE
import Derived.Test.YtipcimefenpjhaaGreatDoorTS3
set_option linter.unusedVariables false
set_option linter.unusedSimpArgs false
set_option linter.unusedSectionVars false
/- A state that came in. -/
namespace Go.V
open Go Go.RowKit
theorem words_of {P : Program} {W : World} {base : Nat} {u : TypeId} (hu : P.underlying u = some (.int .u32)) : ∀ l : List Value, (∀ c ∈ l, Cell.okWide P W .any base u c) → ∃ ns : List Nat, ns.length = l.length ∧ (∀ x ∈ ns, x < 4294967296) ∧ VRels phi0 (ns.map fun x : Nat => .int .u32 (x : Int)) l
  | [], _ => ⟨[], rfl, by simp, .nil⟩
  | c :: l, h => by
    obtain ⟨ns, h1, h2, h3⟩ := words_of hu l fun c hc => h c (List.mem_cons_of_mem _ hc)
    obtain ⟨n, rfl, a, b⟩ := cell_int hu (h c List.mem_cons_self)
    simp [IntKind.min, IntKind.max, IntKind.signed, IntKind.bits] at a b
    obtain ⟨k, rfl⟩ := Int.eq_ofNat_of_zero_le a
    refine ⟨k :: ns, by simp [h1], fun x hx => ?_, .cons (.int _ _) h3⟩
    rcases List.mem_cons.1 hx with rfl | hx
    · omega
    · exact h2 x hx
theorem flags_of {P : Program} {W : World} {base : Nat} {u : TypeId} (hu : P.underlying u = some .bool) : ∀ l : List Value, (∀ c ∈ l, Cell.okWide P W .any base u c) → ∃ ns : List Bool, ns.length = l.length ∧ VRels phi0 (ns.map AV.bool) l
  | [], _ => ⟨[], rfl, .nil⟩
  | c :: l, h => by
    obtain ⟨ns, h1, h3⟩ := flags_of hu l fun c hc => h c (List.mem_cons_of_mem _ hc)
    obtain ⟨n, rfl⟩ := cell_bool hu (h c List.mem_cons_self)
    exact ⟨n :: ns, by simp [h1], .cons (.bool _) h3⟩
theorem state_arg {P : Program} {W : World} {base : Nat} {t w b u8 : TypeId} {v : Value} {fs : Array Field} (ht : P.underlying t = some (.struct fs)) (hn : P.cellsOf t = 42)
    (hc : P.cellTypes P.depth t = some (List.replicate 32 w ++ (List.replicate 4 b ++ (List.replicate 5 w ++ [u8]))))
    (hw : P.underlying w = some (.int .u32)) (hb : P.underlying b = some .bool) (h8 : P.underlying u8 = some (.int .u8)) (h : Value.okWide P W .any base t v) : ∃ m : Mst, m.Ok ∧ VRel phi0 (.agg m.cells) v := by
  unfold Value.okWide at h
  rw [ht] at h
  obtain ⟨cs, rfl, hsz, ts, hts, _, hcell⟩ := h
  rw [hc] at hts
  cases hts
  rw [hn] at hsz
  obtain ⟨l⟩ := cs
  have hl : l.length = 42 := hsz
  have hcell' : ∀ (j : Nat) (c : Value), l[j]? = some c → ∃ u, (List.replicate 32 w ++ (List.replicate 4 b ++ (List.replicate 5 w ++ [u8])))[j]? = some u ∧ Cell.okWide P W .any base u c := fun j c hj => by
    obtain ⟨u, hu, q⟩ := hcell j c (by simpa using hj)
    have hj42 : j < 42 := by have := (List.getElem?_eq_some_iff.1 hj).1; omega
    rw [Nat.mod_eq_of_lt (by simpa using hj42)] at hu
    exact ⟨u, hu, q⟩
  have seg : ∀ (a n : Nat) (u : TypeId), (∀ j, a ≤ j → j < a + n → (List.replicate 32 w ++ (List.replicate 4 b ++ (List.replicate 5 w ++ [u8])))[j]? = some u) → ∀ c ∈ (l.drop a).take n, Cell.okWide P W .any base u c := by
    intro a n u hu c hcm
    obtain ⟨j, hj, he⟩ := List.mem_iff_getElem.1 hcm
    have hjn : j < n := by rw [List.length_take] at hj; omega
    have hg : l[a + j]? = some c := by
      have e1 : ((l.drop a).take n)[j]? = some c := by rw [List.getElem?_eq_getElem hj, he]
      rw [List.getElem?_take, if_pos hjn, List.getElem?_drop] at e1
      exact e1
    obtain ⟨u', e, q⟩ := hcell' _ _ hg
    rw [hu (a + j) (by omega) (by omega)] at e
    cases e
    exact q
  have rng : ∀ (a n : Nat) (u : TypeId), ((List.range' a n).all fun j => (List.replicate 32 w ++ (List.replicate 4 b ++ (List.replicate 5 w ++ [u8])))[j]? == some u) = true → ∀ c ∈ (l.drop a).take n, Cell.okWide P W .any base u c := by
    intro a n u hq
    refine seg a n u fun j h1 h2 => ?_
    have := List.all_eq_true.1 hq j (List.mem_range'_1.2 ⟨h1, h2⟩)
    simpa using this
  obtain ⟨r, r1, r2, r3⟩ := words_of hw _ (rng 0 32 w (by simp [List.range', List.replicate]))
  obtain ⟨p, p1, p3⟩ := flags_of hb _ (rng 32 4 b (by simp [List.range', List.replicate]))
  obtain ⟨a, a1, a2, a3⟩ := words_of hw _ (rng 36 2 w (by simp [List.range', List.replicate]))
  obtain ⟨c, c1, c2, c3⟩ := words_of hw _ (rng 38 2 w (by simp [List.range', List.replicate]))
  have e40 : 40 < l.length := by omega
  have e41 : 41 < l.length := by omega
  obtain ⟨u, e, q0⟩ := hcell' 40 l[40] (List.getElem?_eq_getElem e40); cases e
  obtain ⟨u, e, q1⟩ := hcell' 41 l[41] (List.getElem?_eq_getElem e41); cases e
  obtain ⟨n0, x0, b0, b1⟩ := cell_int hw q0
  obtain ⟨n1, x1, d0, d1⟩ := cell_int h8 q1
  simp [IntKind.min, IntKind.max, IntKind.signed, IntKind.bits] at b0 b1 d0 d1
  obtain ⟨k0, rfl⟩ := Int.eq_ofNat_of_zero_le b0
  obtain ⟨k1, rfl⟩ := Int.eq_ofNat_of_zero_le d0
  refine ⟨⟨r, p, a, c, k0, k1⟩, ⟨by rw [r1]; simp; omega, by rw [p1]; simp; omega, by rw [a1]; simp; omega, by rw [c1]; simp; omega, r2, a2, c2, by show k0 < _; omega, by show k1 < _; omega⟩, .agg ?_⟩
  have hlast : l.drop 40 = [.int .u32 (k0 : Int), .int .u8 (k1 : Int)] := by
    rw [List.drop_eq_getElem_cons e40, List.drop_eq_getElem_cons e41, x0, x1, List.drop_of_length_le (by omega)]
  have hsplit : l = (l.drop 0).take 32 ++ ((l.drop 32).take 4 ++ ((l.drop 36).take 2 ++ ((l.drop 38).take 2 ++ l.drop 40))) := by
    have s1 : (l.drop 38).take 2 ++ l.drop 40 = l.drop 38 := by
      have := List.take_append_drop 2 (l.drop 38); rwa [List.drop_drop] at this
    have s2 : (l.drop 36).take 2 ++ l.drop 38 = l.drop 36 := by
      have := List.take_append_drop 2 (l.drop 36); rwa [List.drop_drop] at this
    have s3 : (l.drop 32).take 4 ++ l.drop 36 = l.drop 32 := by
      have := List.take_append_drop 4 (l.drop 32); rwa [List.drop_drop] at this
    rw [s1, s2, s3, List.drop_zero, List.take_append_drop]
  rw [hsplit, hlast]
  exact r3.append (p3.append (a3.append (c3.append (.cons (.int _ _) (.cons (.int _ _) .nil)))))
end Go.V
