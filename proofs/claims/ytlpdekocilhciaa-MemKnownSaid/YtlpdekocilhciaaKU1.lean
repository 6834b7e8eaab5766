/- The keys of a map of uint32, collected in whatever order they come: what slices.Collect(maps.Keys(m)) hands back. -/
import Derived.Test.YtlpdekocilhciaaProg
import Derived.Shelf.SlIterI.Sorted
set_option linter.unusedVariables false
set_option linter.unusedSimpArgs false
set_option linter.unusedSectionVars false
namespace Go.V.KU
open Go Go.RowKit Go.Maps Go.Sort Go.Shelf Go.Proofs

abbrev encU : Int → Value := Value.int .u32
theorem encU_inj {x y : Int} (h : encU x = encU y) : x = y := by simpa [encU] using h

theorem keyU {P : Program} {k : TypeId} (hk : P.underlying k = some (.int .u32)) {key : Value} {kl : Lit} (h : keyOf P k key = some kl) : ∃ x : Int, key = encU x ∧ kl = .int .u32 x := by
  cases key <;> simp [keyOf, hk, mapKey] at h
  rename_i q a
  obtain ⟨⟨rfl, hw⟩, rfl⟩ := h
  exact ⟨a, rfl, rfl⟩

/-- No key twice; a key is on the list just where the map has it and it is no longer to come. -/
def ColU {H : Type} (D : DataW H) (left : Lit → Bool) (ss : List Int) : Prop := ss.Nodup ∧ ∀ x, x ∈ ss ↔ (has D (.int .u32 x) = true ∧ left (.int .u32 x) = false)

theorem ColU.start {H : Type} (D : DataW H) : ColU D (has D) [] := ⟨List.nodup_nil, fun x => by cases has D (.int .u32 x) <;> simp⟩
theorem ColU.step {H : Type} {D : DataW H} {left : Lit → Bool} {ss : List Int} (h : ColU D left ss) {x : Int} {y : DataW H} (hl : left (.int .u32 x) = true) (hat : ∀ zd, D.atKey (.int .u32 x) zd = y) :
    ColU D (fun z => left z && !z.sameKey (.int .u32 x)) (ss ++ [x]) := by
  have hh : has D (.int .u32 x) = true := has_true_of_atKey hat
  have hn : x ∉ ss := by
    intro hx
    have := ((h.2 x).1 hx).2
    rw [hl] at this; cases this
  constructor
  · rw [List.nodup_append]
    refine ⟨h.1, by simp, ?_⟩
    intro a ha b hb e
    simp at hb
    subst hb
    exact hn (e ▸ ha)
  · intro y
    by_cases e : y = x
    · subst e; simp [hh, Lit.sameKey]
    · simp [h.2 y, e, Lit.sameKey]

theorem permU {H : Type} {P : Program} {k : TypeId} {R : Value → Option (DataW H × List MemPlace)} {w : World} {b n : Nat} {D : DataW H} {left : Lit → Bool} {ss : List Int} (h : ColU D left ss) (hown : w.ownsMap P k R b n D) (K : Keyed P k)
    (hk : P.underlying k = some (.int .u32)) (hl : ∀ kl, left kl = false) : ss.Perm (intKeys D) := by
  obtain ⟨es, hD, hpw, _⟩ := hown.entries K
  obtain ⟨es', hD', hko⟩ := hown.keysOf
  obtain rfl : es = es' := by rw [hD] at hD'; simpa using hD'
  subst hD
  have hk' : ∀ p ∈ es, ∃ x, p.1 = .int .u32 x := fun p hp => by
    obtain ⟨v, hv⟩ := hko p hp
    obtain ⟨x, _, hx⟩ := keyU hk hv
    exact ⟨x, hx⟩
  refine (List.perm_ext_iff_of_nodup h.1 ?_).2 fun x => ?_
  · show (es.map fun p => intOf p.1).Nodup
    refine List.pairwise_map.2 (hpw.imp_of_mem fun {p q} hp hq hne e => hne ?_)
    obtain ⟨a, ha⟩ := hk' p hp
    obtain ⟨c, hc⟩ := hk' q hq
    rw [ha, hc] at e ⊢
    exact congrArg _ e
  · rw [h.2 x, hl, has_eq]
    show _ ↔ x ∈ es.map fun p => intOf p.1
    rw [List.mem_map]
    constructor
    · rintro ⟨h1, _⟩
      obtain ⟨p, hp, hs⟩ := List.any_eq_true.1 h1
      obtain ⟨a, ha⟩ := hk' p hp
      rw [ha] at hs
      exact ⟨p, hp, by rw [ha]; simpa [Lit.sameKey, intOf] using hs⟩
    · rintro ⟨p, hp, rfl⟩
      obtain ⟨a, ha⟩ := hk' p hp
      exact ⟨List.any_eq_true.2 ⟨p, hp, by rw [ha]; simp [Lit.sameKey, intOf]⟩, rfl⟩

set_option maxRecDepth 100000 in
set_option maxHeartbeats 4000000 in
/-- The iterator: it calls its yield once for each key. -/
theorem keysU_gives {H : Type} (n : Nat) (hn : 1 ≤ n) (Bm o b nn : Nat) (D : DataW H) {R : Value → Option (DataW H × List MemPlace)} (w : World) (hBm : Bm < w.heap.size) (hm0 : w.cell? ⟨Bm, o, none⟩ = some (.map (some b))) (hown0 : w.ownsMap Try.prog 22 R b nn D) :
    SeqGives Fence.wide n Try.prog 82 #[.pointer (some ⟨Bm, o, none⟩)] encU (fun ss => ss.Perm (intKeys D)) (Maps.size D) w := by
  intro l J W hW hJ hY h0
  have hown : W.ownsMap Try.prog 22 R b nn D := by
    have hbl := hown0.lt
    obtain ⟨es, clock, hb, Ft, hs, hD⟩ := hown0
    exact ⟨es, clock, (hW.block b hbl).trans hb, Ft, hs, hD⟩
  have hm : W.cell? ⟨Bm, o, none⟩ = some (.map (some b)) := (hW.cell (p := ⟨Bm, o, none⟩) hBm).trans hm0
  refine callsIn_of_wp Try.func82 rfl trivial ?_ rfl
  simp only [Try.ntmps82, List.size_toArray, List.length_cons, List.length_nil, Nat.reduceAdd, Nat.reduceSub, Array.replicate_succ, Array.replicate_zero, List.push_toArray, List.append_toArray, List.nil_append, List.cons_append]
  have hfE : Fence.wide.round = none := rfl
  gi_wp2_with (first
    | (gi_at_range; refine wpListIn_range_own _ rfl _ 65 rfl 22 5 (int_keyed Try.underlying22) Try.underlying65 _ b nn _ rfl hown ?_; intro w0 hrg0 hg0 hs0)
    | gi_in)
  go_frame
  gi_loopw [3] (fun _ wr => ∃ (left : Lit → Bool) (cnt : Nat) (ss : List Int), wr.ranges Try.prog 22 R b W.heap.size nn D left cnt ∧ ss.length + cnt ≤ Maps.size D ∧ ColU D left ss ∧ J ss wr)
    (fun _ wr => wr.rangeLeft b W.heap.size)
  case atStart =>
    exact ⟨_, _, [], hrg0, by simp, ColU.start D, hJ [] W w0 none h0 hg0 (fun r e => by cases e)⟩
  case round =>
    obtain ⟨left, cnt, ss, hrg, hcs, hC, hJs⟩ := hrel
    gi_wp2_with (first
      | (gi_at_next; refine wpListIn_next_ranges _ rfl _ rfl 22 (int_keyed Try.underlying22) R encU id (fun key kl hk => by obtain ⟨x, hx, _⟩ := keyU Try.underlying22 hk; exact ⟨x, hx⟩) (fun v _ _ => ⟨v, rfl⟩) b W.heap.size nn _ _ _ rfl hrg ?_ ?_)
      | gi_in)
    · intro hc0 hl0
      gi_wp2
      go_end0
      exact ⟨⟨_, rfl⟩, ss, permU hC hown (int_keyed Try.underlying22) Try.underlying22 hl0, hJs⟩
    · intro x c kl yd yp w2 cnt2 hkey hlk hv hat hrg2 hlt hg2 hs2 hen
      obtain ⟨x', ex, rfl⟩ := keyU Try.underlying22 hkey
      obtain rfl : x = x' := encU_inj ex
      have hJ2 : J ss w2 := hJ ss wr w2 (some W.heap.size) hJs hg2 (fun r e => by cases e; exact ⟨Nat.le_refl _, hrg.iter_walk⟩)
      obtain ⟨fn, tmps, assign, body, hy, hR⟩ := hY ss x w2 hJ2 (by omega)
      clear hs2
      gi_wp2
      refine hR.mono ?_
      rintro e W3 ⟨rfl, hJ3, hk3⟩
      gi_wp2
      have hrg3 := hrg2.of_walks hk3
      go_roundw
      case rel => exact ⟨_, cnt2, ss ++ [x], hrg3, by simp; omega, hC.step hlk hat, hJ3⟩
      case measure => rw [hrg3.left_eq, hrg.left_eq]; exact hlt
end Go.V.KU
