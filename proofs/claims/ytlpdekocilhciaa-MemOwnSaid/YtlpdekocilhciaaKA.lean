/- The keys of a map of uint32, collected in whatever order they come: what slices.Collect(maps.Keys(m)) hands back. -/
import Derived.Test.YtlpdekocilhciaaProg
import Derived.Shelf.SlIterI.Sorted
import Derived.Test.YtlpdekocilhciaaVE
set_option linter.unusedVariables false
set_option linter.unusedSimpArgs false
set_option linter.unusedSectionVars false
/- The keys of a map of uint32, collected in whatever order they come: what slices.Collect(maps.Keys(m)) hands back. -/
/- The keys of a map of uint32, collected in whatever order they come: what slices.Collect(maps.Keys(m)) hands back. -/
namespace Go.V.KU
open Go Go.RowKit Go.Maps Go.Sort Go.Shelf Go.Proofs

abbrev encU : Int → Value := Value.int .u32
theorem encU_inj {x y : Int} (h : encU x = encU y) : x = y := by simpa [encU] using h

theorem keyU {P : Program} {k : TypeId} (hk : P.underlying k = some (.int .u32)) {key : Value} {kl : Lit} (h : keyOf P k key = some kl) : ∃ x : Int, key = encU x ∧ kl = .int .u32 x := by
  cases key <;> simp [keyOf, hk, mapKey] at h
  rename_i q a
  obtain ⟨⟨rfl, hw⟩, rfl⟩ := h
  exact ⟨a, rfl, rfl⟩

/-- No key twice; a key is on the list just where the map has it and it is no longer to come. -/
def ColU {H : Type} (D : DataW H) (left : Lit → Bool) (ss : List Int) : Prop := ss.Nodup ∧ ∀ x, x ∈ ss ↔ (has D (.int .u32 x) = true ∧ left (.int .u32 x) = false)

theorem ColU.start {H : Type} (D : DataW H) : ColU D (has D) [] := ⟨List.nodup_nil, fun x => by cases has D (.int .u32 x) <;> simp⟩
theorem ColU.step {H : Type} {D : DataW H} {left : Lit → Bool} {ss : List Int} (h : ColU D left ss) {x : Int} {y : DataW H} (hl : left (.int .u32 x) = true) (hat : ∀ zd, D.atKey (.int .u32 x) zd = y) :
    ColU D (fun z => left z && !z.sameKey (.int .u32 x)) (ss ++ [x]) := by
  have hh : has D (.int .u32 x) = true := has_true_of_atKey hat
  have hn : x ∉ ss := by
    intro hx
    have := ((h.2 x).1 hx).2
    rw [hl] at this; cases this
  constructor
  · rw [List.nodup_append]
    refine ⟨h.1, by simp, ?_⟩
    intro a ha b hb e
    simp at hb
    subst hb
    exact hn (e ▸ ha)
  · intro y
    by_cases e : y = x
    · subst e; simp [hh, Lit.sameKey]
    · simp [h.2 y, e, Lit.sameKey]

theorem permU {H : Type} {P : Program} {k : TypeId} {R : Value → Option (DataW H × List MemPlace)} {w : World} {b n : Nat} {D : DataW H} {left : Lit → Bool} {ss : List Int} (h : ColU D left ss) (hown : w.ownsMap P k R b n D) (K : Keyed P k)
    (hk : P.underlying k = some (.int .u32)) (hl : ∀ kl, left kl = false) : ss.Perm (intKeys D) := by
  obtain ⟨es, hD, hpw, _⟩ := hown.entries K
  obtain ⟨es', hD', hko⟩ := hown.keysOf
  obtain rfl : es = es' := by rw [hD] at hD'; simpa using hD'
  subst hD
  have hk' : ∀ p ∈ es, ∃ x, p.1 = .int .u32 x := fun p hp => by
    obtain ⟨v, hv⟩ := hko p hp
    obtain ⟨x, _, hx⟩ := keyU hk hv
    exact ⟨x, hx⟩
  refine (List.perm_ext_iff_of_nodup h.1 ?_).2 fun x => ?_
  · show (es.map fun p => intOf p.1).Nodup
    refine List.pairwise_map.2 (hpw.imp_of_mem fun {p q} hp hq hne e => hne ?_)
    obtain ⟨a, ha⟩ := hk' p hp
    obtain ⟨c, hc⟩ := hk' q hq
    rw [ha, hc] at e ⊢
    exact congrArg _ e
  · rw [h.2 x, hl, has_eq]
    show _ ↔ x ∈ es.map fun p => intOf p.1
    rw [List.mem_map]
    constructor
    · rintro ⟨h1, _⟩
      obtain ⟨p, hp, hs⟩ := List.any_eq_true.1 h1
      obtain ⟨a, ha⟩ := hk' p hp
      rw [ha] at hs
      exact ⟨p, hp, by rw [ha]; simpa [Lit.sameKey, intOf] using hs⟩
    · rintro ⟨p, hp, rfl⟩
      obtain ⟨a, ha⟩ := hk' p hp
      exact ⟨List.any_eq_true.2 ⟨p, hp, by rw [ha]; simp [Lit.sameKey, intOf]⟩, rfl⟩

set_option maxRecDepth 100000 in
set_option maxHeartbeats 4000000 in
/-- The iterator: it calls its yield once for each key. -/
theorem keysU_gives {H : Type} (n : Nat) (hn : 1 ≤ n) (Bm o b nn : Nat) (D : DataW H) {R : Value → Option (DataW H × List MemPlace)} (w : World) (hBm : Bm < w.heap.size) (hm0 : w.cell? ⟨Bm, o, none⟩ = some (.map (some b))) (hown0 : w.ownsMap Try.prog 22 R b nn D) :
    SeqGives Fence.wide n Try.prog 82 #[.pointer (some ⟨Bm, o, none⟩)] encU (fun ss => ss.Perm (intKeys D)) (Maps.size D) w := by
  intro l J W hW hJ hY h0
  have hown : W.ownsMap Try.prog 22 R b nn D := by
    have hbl := hown0.lt
    obtain ⟨es, clock, hb, Ft, hs, hD⟩ := hown0
    exact ⟨es, clock, (hW.block b hbl).trans hb, Ft, hs, hD⟩
  have hm : W.cell? ⟨Bm, o, none⟩ = some (.map (some b)) := (hW.cell (p := ⟨Bm, o, none⟩) hBm).trans hm0
  refine callsIn_of_wp Try.func82 rfl trivial ?_ rfl
  simp only [Try.ntmps82, List.size_toArray, List.length_cons, List.length_nil, Nat.reduceAdd, Nat.reduceSub, Array.replicate_succ, Array.replicate_zero, List.push_toArray, List.append_toArray, List.nil_append, List.cons_append]
  have hfE : Fence.wide.round = none := rfl
  gi_wp2_with (first
    | (gi_at_range; refine wpListIn_range_own _ rfl _ 65 rfl 22 5 (int_keyed Try.underlying22) Try.underlying65 _ b nn _ rfl hown ?_; intro w0 hrg0 hg0 hs0)
    | gi_in)
  go_frame
  gi_loopw [3] (fun _ wr => ∃ (left : Lit → Bool) (cnt : Nat) (ss : List Int), wr.ranges Try.prog 22 R b W.heap.size nn D left cnt ∧ ss.length + cnt ≤ Maps.size D ∧ ColU D left ss ∧ J ss wr)
    (fun _ wr => wr.rangeLeft b W.heap.size)
  case atStart =>
    exact ⟨_, _, [], hrg0, by simp, ColU.start D, hJ [] W w0 none h0 hg0 (fun r e => by cases e)⟩
  case round =>
    obtain ⟨left, cnt, ss, hrg, hcs, hC, hJs⟩ := hrel
    gi_wp2_with (first
      | (gi_at_next; refine wpListIn_next_ranges _ rfl _ rfl 22 (int_keyed Try.underlying22) R encU id (fun key kl hk => by obtain ⟨x, hx, _⟩ := keyU Try.underlying22 hk; exact ⟨x, hx⟩) (fun v _ _ => ⟨v, rfl⟩) b W.heap.size nn _ _ _ rfl hrg ?_ ?_)
      | gi_in)
    · intro hc0 hl0
      gi_wp2
      go_end0
      exact ⟨⟨_, rfl⟩, ss, permU hC hown (int_keyed Try.underlying22) Try.underlying22 hl0, hJs⟩
    · intro x c kl yd yp w2 cnt2 hkey hlk hv hat hrg2 hlt hg2 hs2 hen
      obtain ⟨x', ex, rfl⟩ := keyU Try.underlying22 hkey
      obtain rfl : x = x' := encU_inj ex
      have hJ2 : J ss w2 := hJ ss wr w2 (some W.heap.size) hJs hg2 (fun r e => by cases e; exact ⟨Nat.le_refl _, hrg.iter_walk⟩)
      obtain ⟨fn, tmps, assign, body, hy, hR⟩ := hY ss x w2 hJ2 (by omega)
      clear hs2
      gi_wp2
      refine hR.mono ?_
      rintro e W3 ⟨rfl, hJ3, hk3⟩
      gi_wp2
      have hrg3 := hrg2.of_walks hk3
      go_roundw
      case rel => exact ⟨_, cnt2, ss ++ [x], hrg3, by simp; omega, hC.step hlk hat, hJ3⟩
      case measure => rw [hrg3.left_eq, hrg.left_eq]; exact hlt
end Go.V.KU
/- What slices.Collect(maps.Keys(m)) hands back: a slice of its own that holds the map's keys, in whatever order. -/
namespace Go.V.KU
open Go Go.RowKit Go.Maps Go.Sort Go.Shelf Go.Proofs

def apAssign : Code := (Code.region 2 #[{ dst := some 5, op := Op.assign (Operand.tmp 7), type := 22, pos := "iter.go:51", after := #[], guard := none }] false)
def apBody : Code := (Code.block 1 (Code.region 3 #[{ dst := some 8, op := Op.load 44 (Operand.tmp 2), type := 44, pos := "iter.go:52", after := #[], guard := none }, { dst := some 9, op := Op.move (Operand.tmp 5), type := 22, pos := "iter.go:52", after := #[], guard := none }, { dst := some 10, op := Op.buildSlice 44 1 #[(0, Operand.tmp 9)], type := 44, pos := "iter.go:52", after := #[{ on := 1, ground := Ground.data }], guard := none }, { dst := some 11, op := Op.call { callee := Callee.builtin Builtin.append, args := #[Operand.tmp 8, Operand.tmp 10], argTypes := #[44, 44] }, type := 44, pos := "iter.go:52", after := #[{ on := 0, ground := Ground.data }, { on := 2, ground := Ground.data }], guard := none }, { dst := none, op := Op.store 44 (Operand.tmp 2) (Operand.tmp 11), type := 0, pos := "iter.go:52", after := #[{ on := 3, ground := Ground.data }, { on := 3, ground := Ground.chain }, { on := 0, ground := Ground.phase }, { on := 1, ground := Ground.phase }, { on := 2, ground := Ground.phase }, { on := 3, ground := Ground.phase }], guard := none }] false))
/-- The loop's record. -/
def apRec (fn : FuncId) (sv : Value) (Bs D : Nat) (st : LoopState) (pend : Option Code) : Loop :=
  { state := st, pending := pend, fn, tmps := #[.slice none 0 0, sv, .pointer (some ⟨Bs, 0, none⟩), undef, .slice none 0 0, undef, sv, undef, undef, undef, undef, undef, undef], params := #[7], assign := apAssign, body := apBody, defers := D }

structure ApAt (w0 : World) (fn : FuncId) (sv : Value) (Bs l D : Nat) (ss : List Int) (W : World) : Prop where
  box : ∃ v, W.heap[Bs]? = some (.cells #[v] 44 (0, 0)) ∧ W.ownsRow w0.heap.size 22 1 v ss.length (ss.map encU) ∧ (v = .slice none 0 0 ↔ ss = [])
  L : W.heap[l]? = some (.loop (apRec fn sv Bs D .ready none))
  K : W.heap[D]? = some (.deferred (some []))
  below : Below w0.heap.size w0 W

theorem ap_abides (w0 : World) (fn : FuncId) (sv : Value) (Bs l D B : Nat) (hB : w0.heap.size ≤ B) : AbidesFrom B (ApAt w0 fn sv Bs l D) := fun s W W' row h hg hrow => by
  have hrow' : ∀ r, row = some r → ∃ o : Obj, W.heap[r]? = some o ∧ o.isWalk = true := fun r e => (hrow r e).2
  obtain ⟨v, hv, hr, hn⟩ := h.box
  exact ⟨⟨v, (grownBy_keeps hg hrow' hv rfl).trans hv, ownsRow_abides_a hr hg hrow', hn⟩, (grownBy_keeps hg hrow' h.L rfl).trans h.L, (grownBy_keeps hg hrow' h.K rfl).trans h.K,
    h.below.grown hg h.below.size (fun k e => Nat.le_trans hB (hrow k e).1)⟩

theorem info32 : (Try.prog.info? 22).map (fun i => (i.zero, i.size, i.bytes)) = some (some (.int .u32 0), 1, 4) := by kernel_rfl

set_option maxRecDepth 100000 in
set_option maxHeartbeats 4000000 in
theorem apYield (m : Nat) (w0 : World) (fn : FuncId) (sv : Value) (Bs l D : Nat) (hBl : Bs ≠ l) (hDl : D ≠ l) (hDB : D ≠ Bs) (h0B : w0.heap.size ≤ Bs) (h0l : w0.heap.size ≤ l)
    (N : Nat) (hN : N ≤ maxLen) (hNb : N * 4 ≤ 140737488355328) (ss : List Int) (x : Int) (W : World) (h : ApAt w0 fn sv Bs l D ss W) (hlen : ss.length < N) :
    YieldAt Fence.wide m Try.prog l #[encU x] W fun e W' => e = .returned (.bool true) ∧ ApAt w0 fn sv Bs l D (ss ++ [x]) W' ∧ KeepsWalks W W' := by
  have hne : (44 : Nat) ≠ 22 := by decide
  obtain ⟨i0, hi, hz0, hz1, hz2⟩ := info_parts info32
  obtain ⟨v, hv, hrow, _⟩ := h.box
  refine ⟨fn, #[.slice none 0 0, sv, .pointer (some ⟨Bs, 0, none⟩), undef, .slice none 0 0, undef, sv, encU x, undef, undef, undef, undef, undef], apAssign, apBody, by simpa [apRec] using run_yield (P := Try.prog) (args := #[encU x]) h.L rfl, roundIn_of_wpIn trivial ?_⟩
  have hl : l < W.heap.size := (Array.getElem?_eq_some_iff.1 h.L).1
  have hbr := run_beginRound (P := Try.prog) h.L rfl
  obtain ⟨W2, hW2⟩ : ∃ W2, W.putObj l (.loop { apRec fn sv Bs D .ready none with state := .busy }) = W2 := ⟨_, rfl⟩
  rw [hW2] at hbr
  have hg2 : W.grownBy W2 (some l) := by rw [← hW2]; exact grownBy_putObj_a _ _ _
  have hk2 : KeepsWalks W W2 := by rw [← hW2]; exact KeepsWalks.putObj _ h.L rfl
  have hv2 : W2.heap[Bs]? = some (.cells #[v] 44 (0, 0)) := by rw [← hW2]; exact (World.putObj_heap_other hBl).trans hv
  have hK2 : W2.heap[D]? = some (.deferred (some [])) := by rw [← hW2]; exact (World.putObj_heap_other hDl).trans h.K
  have hL2 : W2.heap[l]? = some (.loop { apRec fn sv Bs D .ready none with state := .busy }) := by rw [← hW2]; exact World.putObj_heap_same hl
  have hrow2 : W2.ownsRow w0.heap.size 22 1 v ss.length (ss.map encU) := hrow.kept hg2 (ownsRow_ne_a hrow h.L (fun cur e => by first | cases e | exact hne (Obj.cells.inj e).2.1))
  have hb2 : Below w0.heap.size w0 W2 := h.below.grown hg2 h.below.size (fun k e => by cases e; exact h0l)
  obtain ⟨hc2, hf2⟩ := cell_of_box_a hv2
  have hBlt : Bs < W2.heap.size := (Array.getElem?_eq_some_iff.1 hv2).1
  have hl2 : l < W2.heap.size := (Array.getElem?_eq_some_iff.1 hL2).1
  have hDlt : D < W2.heap.size := (Array.getElem?_eq_some_iff.1 hK2).1
  have ne_of : ∀ {j : Nat} {o : Obj}, W2.heap[j]? = some o → (∀ cur, o ≠ .cells cur 22 (0, 0)) → some j ≠ v.ownBlock := fun hj hno => by
    rcases ownsRow_ne_a hrow2 hj hno with e | e
    · rw [e]; simp
    · exact fun e' => e e'.symm
  clear hW2
  unfold apAssign
  gi_wp2_with gi_round_op_a
  unfold apBody
  gi_wp2_with (first
    | (gi_at_builtin; refine wpListIn_append_own _ rfl _ _ 44 rfl w0.heap.size 22 i0 (.int .u32 0) 1 4 Try.underlying44 hi hz0 hz1 hz2 rfl (by decide) _ _ _ rfl (hrow2.alloc _) ⟨W2.heap.size, 0, none⟩ 1 1 [encU x] rfl rfl (cell_one_new _ _ _) (by simp [Value.oneCell', encU]) (by omega) (by omega) (by have := hb2.size; simp; omega) ?_; intro v' w3 hown' hg3 hnil3
       have hv3 : w3.heap[Bs]? = some (.cells #[v] 44 (0, 0)) := (hg3.block Bs (by simp; omega) (ne_of hv2 (fun cur e => by first | cases e | exact hne (Obj.cells.inj e).2.1))).trans ((Below.heap_alloc _ _ Bs hBlt).trans hv2)
       obtain ⟨hc3, hf3⟩ := cell_of_box_a hv3
       obtain ⟨g', cap', cur', rfl, hbase', hgb', hr1, hr2, hr3, hr4⟩ : ∃ g' cap' cur', v' = .slice (some ⟨g', 0, none⟩) (ss.length + 1) cap' ∧ w0.heap.size ≤ g' ∧ w3.heap[g']? = some (.cells cur' 22 (0, 0)) ∧ ss.length + 1 ≤ cap' ∧ cap' ≤ maxLen ∧ cur'.size = cap' * 1 ∧ cur'.toList.take ((ss.length + 1) * 1) = ss.map encU ++ [encU x] := by
         rcases hown'.2 with ⟨_, h0⟩ | h'
         · exact absurd h0 (by omega)
         · exact h'
       go_frame)
    | gi_round_op_a)
  have hg3' : (W2.alloc (.cells #[encU x] 22)).grownBy w3 v.ownBlock := hg3
  have hL3 : w3.heap[l]? = some (.loop { apRec fn sv Bs D .ready none with state := .busy }) := (hg3'.block l (by simp; omega) (ne_of hL2 (fun cur e => by first | cases e | exact hne (Obj.cells.inj e).2.1))).trans ((Below.heap_alloc _ _ l hl2).trans hL2)
  have hK3 : w3.heap[D]? = some (.deferred (some [])) := (hg3'.block D (by simp; omega) (ne_of hK2 (fun cur e => by first | cases e | exact hne (Obj.cells.inj e).2.1))).trans ((Below.heap_alloc _ _ D hDlt).trans hK2)
  obtain ⟨w4, hw4⟩ : ∃ w4, w3.setCell ⟨Bs, 0, none⟩ (.slice (some ⟨g', 0, none⟩) (ss.length + 1) cap') = w4 := ⟨_, rfl⟩
  rw [hw4]
  have hg4 : w3.grownBy w4 (some Bs) := by rw [← hw4]; exact grownBy_setCell0_a _ _ _
  have hv4 : w4.heap[Bs]? = some (.cells #[.slice (some ⟨g', 0, none⟩) (ss.length + 1) cap'] 44 (0, 0)) := by rw [← hw4]; exact heap_setCell_box_a _ hv3
  have hL4 : w4.heap[l]? = some (.loop { apRec fn sv Bs D .ready none with state := .busy }) := (hg4.block l (Array.getElem?_eq_some_iff.1 hL3).1 (fun e => hBl (by cases e; rfl))).trans hL3
  have hK4 : w4.heap[D]? = some (.deferred (some [])) := (hg4.block D (Array.getElem?_eq_some_iff.1 hK3).1 (fun e => hDB (by cases e; rfl))).trans hK3
  have hrow4 := hown'.kept hg4 (ownsRow_ne_a hown' hv3 (fun cur e => by first | cases e | exact hne (Obj.cells.inj e).2.1))
  have hl4 : l < w4.heap.size := (Array.getElem?_eq_some_iff.1 hL4).1
  have hb3 : Below w0.heap.size w0 w3 := (hb2.alloc hb2.size _).grown hg3' (by have := hb2.size; simp; omega) (fun k e => (hrow2.lt k e).1)
  have hb4 : Below w0.heap.size w0 w4 := hb3.grown hg4 hb3.size (fun k e => by cases e; exact h0B)
  have hk4 : KeepsWalks W w4 := ((hk2.trans (KeepsWalks.alloc _ _)).trans (KeepsWalks.of_grownBy hg3' (ownsRow_not_walk_a (hrow2.alloc _)))).trans (by rw [← hw4]; exact KeepsWalks.setCell _ _ _)
  clear hw4
  refine ⟨_, _, run_endRound none hL4, rfl, ⟨⟨_, (World.putObj_heap_other hBl).trans hv4, ?_, by simp⟩, World.putObj_heap_same hl4, (World.putObj_heap_other hDl).trans hK4, hb4.grown (grownBy_putObj_a _ _ _) hb4.size (fun k e => by cases e; exact h0l)⟩, hk4.trans (KeepsWalks.putObj _ hL4 rfl)⟩
  have := hrow4.kept (grownBy_putObj_a w4 l (.loop { { apRec fn sv Bs D .ready none with state := .busy } with state := if (none : Option Code).isNone then .ready else .done, pending := none })) (ownsRow_ne_a hrow4 hL4 (fun cur e => by first | cases e | exact hne (Obj.cells.inj e).2.1))
  simpa using this

/-- What the collecting comes to. -/
def GivesRow (w : World) (S : List Int → Prop) (e : Ending) (w' : World) : Prop :=
  ∃ (v : Value) (ss : List Int), e = .returned v ∧ S ss ∧ w'.ownsRow w.heap.size 22 1 v ss.length (ss.map encU) ∧ (v = .slice none 0 0 ↔ ss = []) ∧ Below w.heap.size w w'

set_option maxRecDepth 100000 in
set_option maxHeartbeats 4000000 in
theorem appendSeqU (n : Nat) (hn : 2 ≤ n) (g : Nat) (lb : Array Value) (eg : ∀ args w, (callFunc g args).run Try.prog w = .ok (.enter g args) w)
    (S : List Int → Prop) (N : Nat) (hN : N ≤ maxLen) (hNb : N * 4 ≤ 140737488355328) (w : World) (hseq : SeqGives Fence.wide (n - 1) Try.prog g lb encU S N w) :
    CallsIn Fence.wide n Try.prog 94 #[.slice none 0 0, .func (.func g) #[] lb] w (GivesRow w S) := by
  have hro : Fence.wide.round = none := rfl
  have h1 : 1 ≤ n := by omega
  have hne : (44 : Nat) ≠ 22 := by decide
  refine callsIn_of_wp_marks Try.func94 rfl trivial ?_ hro
  simp only [Try.ntmps94, List.size_toArray, List.length_cons, List.length_nil, Nat.reduceAdd, Nat.reduceSub, Array.replicate_succ, Array.replicate_zero, List.push_toArray, List.append_toArray, List.nil_append, List.cons_append]
  gi_wp2
  refine wpIn_rangeFunc ?_
  intro fn hfn
  rw [hro]
  obtain ⟨W0, hW0⟩ : ∃ W0, w.alloc (.cells #[.slice none 0 0] 44) = W0 := ⟨_, rfl⟩
  have hs0 : W0.heap.size = w.heap.size + 1 := by rw [← hW0]; simp
  have hv0 : W0.heap[w.heap.size]? = some (.cells #[.slice none 0 0] 44 (0, 0)) := by rw [← hW0]; exact World.alloc_heap_new w _
  have hb0 : Below w.heap.size w W0 := by rw [← hW0]; exact (Below.refl _ w).alloc (Nat.le_refl _) _
  rw [hW0]
  obtain ⟨W1, hW1⟩ : ∃ W1, (W0.alloc (.deferred (some []))).alloc (.loop (apRec fn (.func (.func g) #[] lb) w.heap.size W0.heap.size .ready none)) = W1 := ⟨_, rfl⟩
  have hold : ∀ k, k < W0.heap.size → W1.heap[k]? = W0.heap[k]? := fun k hk => by
    rw [← hW1]; exact (Below.heap_alloc _ _ k (by simp; omega)).trans (Below.heap_alloc _ _ k hk)
  have hb1 : Below w.heap.size w W1 := by rw [← hW1]; exact (hb0.alloc hb0.size _).alloc (by have := hb0.size; simp; omega) _
  have hs1 : W1.heap.size = W0.heap.size + 2 := by rw [← hW1]; simp
  have hM : ApAt w fn (.func (.func g) #[] lb) w.heap.size (W0.heap.size + 1) W0.heap.size [] W1 :=
    ⟨⟨_, (hold w.heap.size (by omega)).trans hv0, ⟨rfl, .inl ⟨rfl, rfl⟩⟩, by simp⟩,
     by rw [← hW1]; have := World.alloc_heap_new (W0.alloc (.deferred (some []))) (.loop (apRec fn (.func (.func g) #[] lb) w.heap.size W0.heap.size .ready none)); rwa [World.size_alloc] at this,
     by rw [← hW1]; exact (Below.heap_alloc _ _ _ (by simp)).trans (World.alloc_heap_new W0 _), hb1⟩
  refine ⟨W0.heap.size + 1, [{ target := .collected W0.heap.size, args := #[] }], W1, { target := .fn (.func g) lb, args := #[.func (.yield (W0.heap.size + 1)) #[] #[]] }, W1, g,
    #[.func (.yield (W0.heap.size + 1)) #[] #[]] ++ lb, W1, ?_, ?_, ?_, ?_, fun _ => h1, ?_⟩
  · rw [← hW1]; exact run_enterLoop_outer _ _ _ _ _
  · simp [resolve, go_sem]
  · intro f' hf'; simp [Target.leads] at hf'; subst hf'; trivial
  · simp [invoke, go_sem, eg]
  · refine (hseq (W0.heap.size + 1) (ApAt w fn (.func (.func g) #[] lb) w.heap.size (W0.heap.size + 1) W0.heap.size) W1 hb1 (ap_abides _ _ _ _ _ _ _ hb1.size)
      (fun pre x W hJ hl => apYield (n - 1 - 1) w fn _ w.heap.size (W0.heap.size + 1) W0.heap.size (by omega) (by omega) (by omega) (Nat.le_refl _) (by omega) N hN hNb pre x W hJ hl) hM).mono ?_
    rintro e W2 ⟨⟨v0, rfl⟩, ss, hS, h2⟩
    obtain ⟨v, hv, hrow, hnil⟩ := h2.box
    have hend := run_endLoop (P := Try.prog) h2.L (by simp [apRec])
    obtain ⟨W3, hW3⟩ : ∃ W3, W2.putObj (W0.heap.size + 1) (.loop { apRec fn (.func (.func g) #[] lb) w.heap.size W0.heap.size .ready none with state := .exhausted }) = W3 := ⟨_, rfl⟩
    rw [hW3] at hend
    have hg3 : W2.grownBy W3 (some (W0.heap.size + 1)) := by rw [← hW3]; exact grownBy_putObj_a _ _ _
    have hv3 : W3.heap[w.heap.size]? = some (.cells #[v] 44 (0, 0)) := by rw [← hW3]; exact (World.putObj_heap_other (by omega)).trans hv
    have hK3 : W3.heap[W0.heap.size]? = some (.deferred (some [])) := by rw [← hW3]; exact (World.putObj_heap_other (by omega)).trans h2.K
    have hrow3 := hrow.kept hg3 (ownsRow_ne_a hrow h2.L (fun cur e => by first | cases e | exact hne (Obj.cells.inj e).2.1))
    have hb3 : Below w.heap.size w W3 := h2.below.grown hg3 h2.below.size (fun k e => by cases e; omega)
    obtain ⟨hc3, hf3⟩ := cell_of_box_a hv3
    clear hW3
    refine ⟨none, W3, hend, ?_⟩
    gi_wp2
    rw [← hs0]
    refine ⟨by simp, .inl ⟨_, _, rfl, run_takeDeferred hK3, ?_⟩⟩
    exact ⟨_, results_tmp rfl _ _ _, v, ss, rfl, hS, hrow3.kept (grownBy_putObj_a _ _ _) (ownsRow_ne_a hrow3 hK3 (fun cur e => by first | cases e | exact hne (Obj.cells.inj e).2.1)), hnil, hb3.grown (grownBy_putObj_a _ _ _) hb3.size (fun k e => by cases e; omega)⟩

set_option maxRecDepth 100000 in
set_option maxHeartbeats 4000000 in
theorem collectU (n : Nat) (hn : 3 ≤ n) (g : Nat) (lb : Array Value) (eg : ∀ args w, (callFunc g args).run Try.prog w = .ok (.enter g args) w)
    (S : List Int → Prop) (N : Nat) (hN : N ≤ maxLen) (hNb : N * 4 ≤ 140737488355328) (w : World) (hseq : SeqGives Fence.wide (n - 1 - 1) Try.prog g lb encU S N w) :
    CallsIn Fence.wide n Try.prog 80 #[.func (.func g) #[] lb] w (GivesRow w S) := by
  have h1 : 1 ≤ n := by omega
  have hfE : Fence.wide.round = none := rfl
  have hf11 : Fence.wide.fn 94 := trivial
  have cA := appendSeqU (n - 1) (by omega) g lb eg S N hN hNb w hseq
  refine callsIn_of_wp Try.func80 rfl trivial ?_ rfl
  simp only [Try.ntmps80, List.size_toArray, List.length_cons, List.length_nil, Nat.reduceAdd, Nat.reduceSub, Array.replicate_succ, Array.replicate_zero, List.push_toArray, List.append_toArray, List.nil_append, List.cons_append]
  gi_wp2_with (gi_at_call 94; refine cA.mono ?_; rintro e w' ⟨v, ss, rfl, hS, hrow, hnil, hb⟩)
  go_ret
  exact ⟨v, ss, rfl, hS, hrow, hnil, hb⟩
end Go.V.KU
/- slices.Sorted(maps.Keys(m)) at keys of uint32, as a hook of the small language: a new slice that holds the keys, sorted. -/
namespace Go.V.KU
open Go Go.V Go.RowKit Go.Maps Go.Sort Go.Shelf Go.Proofs Go.WideAt

/-- A new object whose block the call has made, whatever else it has made. -/
theorem step_new {φ : Phi} {s : St} {w w' : World} (h : RelSt φ s w) (hf : s.heap.get s.next = none) (o : AObj) (x : Inc) (hb : Below w.heap.size w w') (hx : w.heap.size ≤ x.blk) (hx2 : x.blk < w'.heap.size)
    (ho : ObjRel (φ.upd s.next 0 x) w' s.next o) : Step φ s w (φ.upd s.next 0 x) (s.add o) w' := by
  have hnk := free_phi h hf
  have hle : PhiLe φ (φ.upd s.next 0 x) := Phi.upd_le (hnk 0)
  have hnr : ∀ id, isRo s id → id ≠ s.next := by
    rintro id ⟨cs, lo, inc, e⟩ rfl
    rw [hf] at e; cases e
  have hro' : ∀ id, isRo s id → isRo (s.add o) id := by
    intro id hr
    obtain ⟨cs, lo, inc, e⟩ := hr
    exact ⟨cs, lo, inc, by rw [add_get, if_neg (hnr id ⟨cs, lo, inc, e⟩)]; exact e⟩
  refine ⟨hle, ⟨?_, ?_, ?_, ?_⟩, hb.size, fun b hlt _ => hb.block b hlt, ?_, ?_, ?_, ?_, hb.os, hb.tape, hb.output⟩
  · intro id o' e
    rw [add_get] at e
    split at e
    · rename_i hid; cases e; rw [hid]; exact ho
    · exact (h.obj id o' e).mono hle fun k y hy => hb.block _ (h.dom id k y hy).2
  · intro id k y e
    rw [add_get]
    rcases Phi.upd_cases e with ⟨rfl, rfl, rfl⟩ | e'
    · simp [hx2]
    · have := h.dom id k y e'
      have hs := hb.size
      split
      · simp; omega
      · exact ⟨this.1, by omega⟩
  · intro id k y id' k' y' e e' hbb
    rcases Phi.upd_cases e with ⟨rfl, rfl, rfl⟩ | e1
    · rcases Phi.upd_cases e' with ⟨rfl, rfl, rfl⟩ | e2
      · exact .inl ⟨rfl, rfl, rfl, rfl⟩
      · have := (h.dom _ _ _ e2).2; omega
    · rcases Phi.upd_cases e' with ⟨rfl, rfl, rfl⟩ | e2
      · have := (h.dom _ _ _ e1).2; omega
      · rcases h.inj _ _ _ _ _ _ e1 e2 hbb with h1 | ⟨h1, h2⟩
        · exact .inl h1
        · exact .inr ⟨hro' _ h1, hro' _ h2⟩
  · intro id k y cs lo inc ro e e2
    rw [add_get] at e2
    rcases Phi.upd_cases e with ⟨rfl, rfl, rfl⟩ | e1
    · exact Nat.zero_le _
    · split at e2
      · rename_i hid; rw [hid, hnk] at e1; cases e1
      · exact h.incs _ _ _ _ _ _ _ e1 e2
  · intro id k y e _
    exact hb.block _ (h.dom _ _ _ e).2
  · intro id k y e
    rcases Phi.upd_cases e with ⟨rfl, rfl, rfl⟩ | e1
    · exact .inr hx
    · exact .inl ⟨id, k, y, e1, rfl⟩
  · intro id hr
    rw [add_get, if_neg (hnr id hr)]
  · intro id k y e hr
    rcases Phi.upd_cases e with ⟨rfl, rfl, rfl⟩ | e1
    · exact absurd rfl (hnr _ hr)
    · exact e1

/-- What lay there is as it was. -/
theorem step_below {φ : Phi} {s : St} {w w' : World} (h : RelSt φ s w) (hb : Below w.heap.size w w') : Step φ s w φ s w' := by
  have hs := hb.size
  exact ⟨.refl φ, ⟨fun id o e => (h.obj id o e).mono (.refl φ) fun k y hy => hb.block _ (h.dom id k y hy).2, fun id k x e => ⟨(h.dom id k x e).1, by have := (h.dom id k x e).2; omega⟩, h.inj, h.incs⟩, hs, fun b hlt _ => hb.block b hlt,
    fun id k x e _ => hb.block _ (h.dom id k x e).2, fun id k x e => .inl ⟨id, k, x, e, rfl⟩, fun _ _ => rfl, fun _ _ _ e _ => e, hb.os, hb.tape, hb.output⟩

/-- A row of plain cells, new. -/
theorem plain_cells {φ : Phi} {w : World} {x : Inc} {l : List AV} {l' : List Value} {cur : Array Value} {el : TypeId} (id : Nat) (hx : φ id 0 = some x) (hb : w.heap[x.blk]? = some (.cells cur el (0, 0))) (h0 : x.base = 0) (h1 : x.sh = 0) (h2 : x.n = l.length) (h3 : x.top = cur.size)
    (h4 : l.length ≤ cur.size) (h5 : cur.toList.take l.length = l') (hr : VRels φ l l') : ObjRel φ w id (.cells l 0 0 false) := by
  refine ⟨Nat.le_refl _, fun k hk hk' => ?_⟩
  obtain rfl : k = 0 := by omega
  refine ⟨x, hx, cur, el, (0, 0), hb, h3.symm, fun _ o _ => by simp, by omega, by omega, fun _ => h2, by omega, fun j v _ hj hv => ?_⟩
  obtain ⟨c, hc, hv'⟩ := hr.get hv
  refine ⟨c, ?_, hv'⟩
  rw [h0, h1]
  simp only [Nat.zero_add, Nat.sub_zero]
  rw [← h5, List.getElem?_take_of_lt (by omega)] at hc
  rw [← hc]
  simp

/-- What nothing reaches is left out: nothing new is kept. -/
theorem gc_none {φ φ2 : Phi} {s s2 : St} {w w' : World} (hs : RelSt φ s w) (hfree : ∀ id, s.next ≤ id → s.heap.get id = none) (st : Step φ s w φ2 s2 w') (hext : ∀ id, id < s.next → s2.heap.get id = s.heap.get id) : ∃ φ', Step φ s w φ' s w' := by
  have hK := selfK_get s.heap s.next
  have hlt : ∀ id, (s.heap.get id).isSome = true → id < s.next := by
    intro id hid
    rcases Nat.lt_or_ge id s.next with h1 | h1
    · exact h1
    · rw [hfree id h1] at hid; cases hid
  obtain ⟨φ', st', _⟩ := gc_step (s' := s) hs st (selfK s.heap s.next) (fun i => if i < s.next ∧ (s.heap.get i).isSome = true then some i else none)
    (fun i id e => by
      split at e
      · rename_i hc; cases e; rw [hK, if_pos hc]
      · cases e)
    (fun id i e => by
      rw [hK] at e
      split at e
      · rename_i hc; cases e; show (if _ then _ else _) = _; rw [if_pos hc]
      · cases e)
    (fun id hid => by rw [hK, if_pos ⟨hlt id hid, hid⟩])
    (fun i id e => by
      split at e
      · rename_i hc
        cases e
        cases ho : s.heap.get i with
        | none => rw [ho] at hc; cases hc.2
        | some o' =>
          have := hext i hc.1
          rw [ho] at this
          exact ⟨o', o', this, rfl, .inr ⟨rfl, rfl, rfl⟩⟩
      · cases e)
    (fun i o' ho => by
      refine ⟨i, ?_⟩
      show (if _ then _ else _) = _
      rw [if_pos ⟨hlt i (by rw [ho]; rfl), by rw [ho]; rfl⟩])
    (fun _ _ => rfl)
  exact ⟨φ', st'⟩

/-- One new object is kept, at the first free number of the state that the call began with. -/
theorem gc_one {φ φ2 : Phi} {s : St} {N : Nat} {s2 : St} {w w' : World} (hs : RelSt φ ⟨s.heap, N⟩ w) (hfree : ∀ id, N ≤ id → s.heap.get id = none) (hnx : s.heap.get s.next = none) (st : Step φ ⟨s.heap, N⟩ w φ2 s2 w') (l : List AV) (hpl : plains l = true)
    (hnew : s2.heap.get N = some (.cells l 0 0 false)) (hext : ∀ id, id < N → s2.heap.get id = s.heap.get id) : ∃ φ', Step φ ⟨s.heap, N⟩ w φ' (s.add (.cells l 0 0 false)) w' ∧ ∀ j x, φ2 N j = some x → φ' s.next j = some x := by
  have hsK := selfK_get s.heap N
  have hK : ∀ id, ((selfK s.heap N).set N s.next).get id = if id = N then some s.next else if id < N ∧ (s.heap.get id).isSome = true then some id else none := by
    intro id
    rw [Tree.get_set, hsK]
  have hlt : ∀ id, (s.heap.get id).isSome = true → id < N := by
    intro id hid
    rcases Nat.lt_or_ge id N with h1 | h1
    · exact h1
    · rw [hfree id h1] at hid; cases hid
  obtain ⟨φ', st', hr⟩ := gc_step (s' := s.add (.cells l 0 0 false)) hs st ((selfK s.heap N).set N s.next) (fun i => if i = s.next then some N else if i < N ∧ (s.heap.get i).isSome = true then some i else none)
    (fun i id e => by
      rw [hK]
      split at e
      · rename_i hc; cases e; rw [if_pos rfl, hc]
      · split at e
        · rename_i hc; cases e; rw [if_neg (by omega), if_pos hc]
        · cases e)
    (fun id i e => by
      rw [hK] at e
      show (if _ then _ else _) = _
      split at e
      · rename_i hc; cases e; rw [if_pos rfl, hc]
      · split at e
        · rename_i hc
          cases e
          rw [if_neg ?_, if_pos hc]
          intro e2
          rw [e2, hnx] at hc
          cases hc.2
        · cases e)
    (fun id hid => by
      have := hlt id hid
      rw [hK, if_neg (by omega), if_pos ⟨this, hid⟩])
    (fun i id e => by
      split at e
      · rename_i hc
        cases e
        refine ⟨_, _, hnew, by rw [add_get, if_pos hc], .inl ?_⟩
        simp only [AObj.ren, plains_ren hpl]
      · rename_i hne
        split at e
        · rename_i hc
          cases e
          cases ho : s.heap.get i with
          | none => rw [ho] at hc; cases hc.2
          | some o' =>
            have := hext i hc.1
            rw [ho] at this
            exact ⟨o', o', this, by rw [add_get, if_neg hne]; exact ho, .inr ⟨rfl, rfl, rfl⟩⟩
        · cases e)
    (fun i o' ho => by
      rw [add_get] at ho
      split at ho
      · rename_i hc; exact ⟨N, by rw [if_pos hc]⟩
      · rename_i hc; exact ⟨i, by rw [if_neg hc, if_pos ⟨hlt i (by rw [ho]; rfl), by rw [ho]; rfl⟩]⟩)
    (fun id ⟨cs, lo, inc, e⟩ => by
      have e : s.heap.get id = some (.cells cs lo inc true) := e
      rw [add_get, if_neg]
      intro e2
      rw [e2, hnx] at e
      cases e)
  refine ⟨φ', st', fun j x e => hr N s.next ?_ j x e⟩
  rw [hK, if_pos rfl]

abbrev aU : Int → AV := AV.int .u32
def keyI : AV → Option Int
  | .int .u32 (.ofNat n) => match Nat.blt n 4294967296 with
    | true => some (Int.ofNat n)
    | false => none
  | _ => none
def keysI : List AEntry → Option (List Int)
  | [] => some []
  | e :: l => match keyI e.key with
    | some n => match keysI l with
      | some r => some (n :: r)
      | none => none
    | none => none
def bornsA : List AEntry → List Nat
  | [] => []
  | e :: l => e.born :: bornsA l
def allLt (c : Nat) : List Nat → Bool
  | [] => true
  | b :: l => Nat.blt b c && allLt c l
def nodupZ : List Int → Bool
  | [] => true
  | x :: l => !l.contains x && nodupZ l
def insZ (x : Int) : List Int → List Int
  | [] => [x]
  | y :: l => match decide (x ≤ y) with
    | true => x :: y :: l
    | false => y :: insZ x l
def srt : List Int → List Int
  | [] => []
  | x :: l => insZ x (srt l)
theorem insZ_perm (x : Int) : ∀ l, (insZ x l).Perm (x :: l)
  | [] => .refl _
  | y :: l => by
    simp only [insZ]
    split
    · exact .refl _
    · exact ((insZ_perm x l).cons y).trans (.swap x y l)
theorem srt_self : ∀ l, (srt l).Perm l
  | [] => .refl _
  | x :: l => (insZ_perm x _).trans ((srt_self l).cons x)
theorem insZ_sorted (x : Int) : ∀ l : List Int, l.Pairwise (fun a b => a ≤ b) → (insZ x l).Pairwise (fun a b => a ≤ b)
  | [], _ => by simp [insZ]
  | y :: l, h => by
    simp only [insZ]
    have hy := List.pairwise_cons.1 h
    split
    · rename_i hd
      have hd : x ≤ y := by simpa using hd
      refine List.pairwise_cons.2 ⟨fun z hz => ?_, h⟩
      rcases List.mem_cons.1 hz with rfl | hz
      · exact hd
      · exact Int.le_trans hd (hy.1 z hz)
    · rename_i hd
      have hd : ¬ x ≤ y := by simpa using hd
      refine List.pairwise_cons.2 ⟨fun z hz => ?_, insZ_sorted x l hy.2⟩
      rcases List.mem_cons.1 ((insZ_perm x l).mem_iff.1 hz) with rfl | hz
      · omega
      · exact hy.1 z hz
theorem srt_sorted : ∀ l : List Int, (srt l).Pairwise (fun a b => a ≤ b)
  | [] => .nil
  | x :: l => insZ_sorted x _ (srt_sorted l)
/-- The keys, as they stand; none where the map is not in order. -/
def okKeys (N : Nat) (es : List AEntry) (clock : Nat) : Option (List Int) := match keysI es with
  | some ks => match allLt clock (bornsA es) && (nodupB (bornsA es) && (nodupZ ks && Nat.ble ks.length N)) with
    | true => some ks
    | false => none
  | none => none
def keysRes (s : St) (ks : List Int) : AV × St := match ks with
  | [] => (.nilSlice, s)
  | _ => (.slice ⟨s.next, 0, 0, ks.length⟩ ks.length ks.length false 1, s.add (.cells ((srt ks).map aU) 0 0 false))
def sortedMap (N : Nat) (s : St) : AV → Option (AV × St)
  | .map r => match s.heap.get r with
    | some (.map es clock) => match okKeys N es clock with
      | some ks => some (keysRes s ks)
      | none => none
    | _ => none
  | _ => none
def sortedH (N kf : Nat) (args : List AV) (s : St) : Option (AV × St) := match args with
  | [.func f [] [.ptr a]] => match Nat.beq f kf with
    | true => match s.readAt a 1 with
      | some (m :: _) => sortedMap N s m
      | _ => none
    | false => none
  | _ => none
end Go.V.KU
/- The hook for slices.Sorted(maps.Keys(m)) at keys of uint32 is right, out of a contract for slices.Sort over the small language. -/
namespace Go.V.KU
open Go Go.V Go.RowKit Go.Maps Go.Sort Go.Shelf Go.Proofs Go.WideShapes
open Go.WideElems (rd rg)

/-- slices.Sort at a whole slice of numbers, and at nil. -/
structure SortsV (T : Tab) (f N : Nat) : Prop where
  row : ∀ (s : St) (l : List Int) (b : Nat), WFS s → l.length ≤ N → s.heap.get b = some (.cells (l.map aU) 0 0 false) → b < s.next → Ran T f [.slice ⟨b, 0, 0, l.length⟩ l.length l.length false 1] s fun v s2 =>
    v = .tuple [] ∧ s2.heap.get b = some (.cells ((srt l).map aU) 0 0 false) ∧ ∀ id, id < s.next → id ≠ b → s2.heap.get id = s.heap.get id
  none : ∀ s : St, WFS s → Ran T f [.nilSlice] s fun v s2 => v = .tuple [] ∧ ∀ id, id < s.next → s2.heap.get id = s.heap.get id

theorem keyI_eq {v : AV} {n : Int} (h : keyI v = some n) : v = .int .u32 n ∧ 0 ≤ n ∧ n ≤ 4294967295 := by
  unfold keyI at h
  split at h
  · rename_i m
    split at h
    · rename_i hb
      cases h
      have : m < 4294967296 := by simpa using hb
      refine ⟨rfl, Int.natCast_nonneg m, ?_⟩
      show ((m : Nat) : Int) ≤ 4294967295
      omega
    · cases h
  · cases h
theorem allLt_eq {c : Nat} : ∀ {l : List Nat}, allLt c l = true → ∀ b ∈ l, b < c
  | [], _, b, hb => by simp at hb
  | x :: l, h, b, hb => by
    simp only [allLt, Bool.and_eq_true] at h
    rcases List.mem_cons.1 hb with rfl | hb
    · simpa using h.1
    · exact allLt_eq h.2 b hb
theorem nodupZ_eq : ∀ {l : List Int}, nodupZ l = true → l.Nodup
  | [], _ => .nil
  | x :: l, h => by
    simp only [nodupZ, Bool.and_eq_true, Bool.not_eq_true', List.contains_eq_mem, decide_eq_false_iff_not] at h
    exact List.nodup_cons.2 ⟨h.1, nodupZ_eq h.2⟩

theorem ents_keys {φ : Phi} : ∀ {l : List AEntry} {l' : List MapEntry} {ks : List Int}, EntsRel φ l l' → keysI l = some ks → l'.map (·.key) = ks.map encU ∧ (∀ k ∈ ks, 0 ≤ k ∧ k ≤ 4294967295) ∧ l'.map (·.born) = bornsA l
  | _, _, _, .nil, h => by cases h; exact ⟨rfl, by simp, rfl⟩
  | _, _, _, .cons (a := a) (b := b) (l := l) (l' := l') q1 q2 q3 q4, h => by
    simp only [keysI] at h
    split at h
    · rename_i n hn
      split at h
      · rename_i r hr
        cases h
        obtain ⟨e1, e2, e3⟩ := ents_keys q4 hr
        obtain ⟨hk, h0, h1⟩ := keyI_eq hn
        rw [hk] at q1
        refine ⟨?_, ?_, ?_⟩
        · rw [List.map_cons, List.map_cons, e1]
          congr 1
          generalize b.key = bk at q1
          cases q1
          rfl
        · intro k hk
          rcases List.mem_cons.1 hk with rfl | hk
          · exact ⟨h0, h1⟩
          · exact e2 k hk
        · rw [List.map_cons, e3, bornsA, q3]
      · cases h
    · cases h

/-- How a map's values are read here: not at all. -/
def R0 : Value → Option (DataW Unit × List MemPlace) := fun _ => some (.nil, [])

theorem wf_u32 {n : Int} (h0 : 0 ≤ n) (h1 : n ≤ 4294967295) : (Lit.int .u32 n).wf = true := by
  simp only [Lit.wf, Bool.and_eq_true, IntKind.min, IntKind.max, IntKind.signed, IntKind.bits]
  simp
  omega

set_option maxRecDepth 100000 in
theorem owns_u32 {φ : Phi} {w : World} {b N : Nat} {es : List AEntry} {es' : Array MapEntry} {clock : Nat} {ks : List Int} (hN : N ≤ 1000000000) (hb : w.heap[b]? = some (.map es' clock)) (hr : EntsRel φ es es'.toList) (hok : okKeys N es clock = some ks) :
    ∃ D : DataW Unit, w.ownsMap Try.prog 22 R0 b es'.size D ∧ (intKeys D).Perm ks ∧ Maps.size D = ks.length ∧ ks.length ≤ N := by
  unfold okKeys at hok
  split at hok
  · rename_i ks' hks
    split at hok
    · rename_i hc
      cases hok
      simp only [Bool.and_eq_true] at hc
      obtain ⟨c1, c2, c3, c4⟩ := hc
      have c4 : ks.length ≤ N := Nat.le_of_ble_eq_true c4
      obtain ⟨e1, e2, e3⟩ := ents_keys hr hks
      have hrd : ∀ x ∈ es'.toList, ∃ n, n ∈ ks ∧ rd Try.prog 22 R0 x = some (.int .u32 n, .nil) ∧ x.key = encU n := by
        intro x hx
        have : x.key ∈ es'.toList.map (·.key) := List.mem_map_of_mem hx
        rw [e1] at this
        obtain ⟨n, hn, hk⟩ := List.mem_map.1 this
        obtain ⟨h0, h1⟩ := e2 n hn
        refine ⟨n, hn, ?_, hk.symm⟩
        unfold rd
        rw [← hk]
        simp [keyOf, mapKey, Try.underlying22, wf_u32 h0 h1, R0, encU]
      have hlen : es'.toList.length = ks.length := by
        have := congrArg List.length e1
        simpa using this
      have hkk : es'.toList.map (fun x => intOf (rg Try.prog 22 R0 x).1) = ks := by
        apply List.ext_getElem?
        intro i
        rw [List.getElem?_map]
        cases hx : es'.toList[i]? with
        | none =>
          simp only [Option.map_none]
          rw [List.getElem?_eq_none_iff] at hx
          rw [eq_comm, List.getElem?_eq_none_iff]; omega
        | some x =>
          obtain ⟨n, hn, h1, h2⟩ := hrd x (List.mem_of_getElem? hx)
          have h3 : (es'.toList.map (·.key))[i]? = some x.key := by rw [List.getElem?_map, hx]; rfl
          rw [e1, List.getElem?_map] at h3
          cases hk : ks[i]? with
          | none => rw [hk] at h3; cases h3
          | some m =>
            rw [hk, h2] at h3
            simp only [Option.map_some, Option.some.injEq] at h3
            obtain rfl := encU_inj h3
            simp only [Option.map_some]
            simp only [rg, h1, Option.getD_some, intOf]
      have hF : WideElems.Fit Try.prog 22 R0 es' clock := by
        refine ⟨?_, ⟨?_, ?_, ?_⟩, ?_⟩
        · have : es'.size = ks.length := by simpa using hlen
          unfold maxLen; omega
        · intro x hx
          have : x.born ∈ es'.toList.map (·.born) := List.mem_map_of_mem hx
          rw [e3] at this
          exact allLt_eq c1 _ this
        · rw [e3]; exact nodupB_nodup c2
        · rw [e1]
          exact List.pairwise_map.2 ((nodupZ_eq c3).imp fun {a b} hab he => hab (encU_inj he))
        · intro x hx
          obtain ⟨n, _, h1, _⟩ := hrd x hx
          exact ⟨_, h1⟩
      have hp := sorted_perm (es'.toList.map (rg Try.prog 22 R0))
      refine ⟨_, ⟨es', clock, hb, hF, Nat.le_refl _, rfl⟩, ?_, ?_, c4⟩
      · show (List.map (fun p : Lit × DataW Unit => intOf p.1) _).Perm ks
        refine (hp.map _).trans ?_
        rw [List.map_map]
        have : ((fun p : Lit × DataW Unit => intOf p.1) ∘ rg Try.prog 22 R0) = (fun x => intOf (rg Try.prog 22 R0 x).1) := rfl
        rw [this, hkk]
      · show List.length _ = _
        rw [hp.length_eq, List.length_map, hlen]
    · cases hok
  · cases hok
end Go.V.KU
/- The hook for slices.Sorted(maps.Keys(m)) at keys of uint32: the walk, and the join. -/
namespace Go.V.KU
open Go Go.V Go.RowKit Go.Maps Go.Sort Go.Shelf Go.Proofs Go.WideShapes

theorem srt_perm {l l' : List Int} (h : l.Perm l') : srt l = srt l' :=
  List.Perm.eq_of_pairwise (fun a b _ _ h1 h2 => Int.le_antisymm h1 h2) (srt_sorted l) (srt_sorted l') (((srt_self l).trans h).trans (srt_self l').symm)
theorem srt_len (l : List Int) : (srt l).length = l.length := (srt_self l).length_eq
theorem vrels_u {φ : Phi} : ∀ l : List Int, VRels φ (l.map aU) (l.map encU)
  | [] => .nil
  | x :: l => .cons (.int .u32 x) (vrels_u l)
theorem plains_u : ∀ l : List Int, plains (l.map aU) = true
  | [] => rfl
  | x :: l => by simp only [List.map_cons, plains, plain, plains_u l, Bool.and_self]

set_option maxRecDepth 100000 in
set_option maxHeartbeats 4000000 in
/-- The walk of slices.Sorted, over a row that was collected and what the sort comes to. -/
theorem sorted_walk (n : Nat) (hn : 4 ≤ n) (g : Nat) (lb : Array Value) (w : World) (S : List Int → Prop) (K : Value → World → Prop)
    (cC : CallsIn Fence.wide (n - 1) Try.prog 80 #[.func (.func g) #[] lb] w (GivesRow w S))
    (cS : ∀ (v : Value) (ss : List Int) (W : World), S ss → W.ownsRow w.heap.size 22 1 v ss.length (ss.map encU) → (v = .slice none 0 0 ↔ ss = []) → Below w.heap.size w W →
      CallsIn Fence.wide (n - 1) Try.prog 81 #[v] W fun e w' => (∃ c, e = .returned c) ∧ K v w') :
    CallsIn Fence.wide n Try.prog 58 #[.func (.func g) #[] lb] w fun e w' => ∃ v, e = .returned v ∧ K v w' := by
  have h1 : 1 ≤ n := by omega
  have hfE : Fence.wide.round = none := rfl
  have hfC : Fence.wide.fn 80 := trivial
  have hfS : Fence.wide.fn 81 := trivial
  refine callsIn_of_wp Try.func58 rfl trivial ?_ rfl
  simp only [Try.ntmps58, List.size_toArray, List.length_cons, List.length_nil, Nat.reduceAdd, Nat.reduceSub, Array.replicate_succ, Array.replicate_zero, List.push_toArray, List.append_toArray, List.nil_append, List.cons_append]
  gi_wp2_with (gi_at_call 80; refine cC.mono ?_; rintro e W ⟨v, ss, rfl, hS, hrow, hnil, hb⟩)
  have cS' := cS v ss W hS hrow hnil hb
  gi_wp2_with (gi_at_call 81; refine cS'.mono ?_; rintro e w' ⟨⟨c, rfl⟩, hK⟩)
  go_ret
  exact ⟨_, rfl, hK⟩

set_option maxHeartbeats 1000000 in
/-- The sort, at what was collected. -/
theorem sort_step {P : Prog} (hp : P.toProgram = Try.prog) (hm : P.follows .mixedOrders = true) {T : Tab} (hT : TabFine P T) {ir : IFunc} (hc : T 81 = some (.code ir)) (N : Nat) (hS : SortsV T 81 N)
    {φ : Phi} {s : St} {w : World} (hg : GlobOk P φ) (hs : RelSt φ s w) (ks : List Int) (hkN : ks.length ≤ N) (hnx : ks ≠ [] → s.heap.get s.next = none)
    (v : Value) (ss : List Int) (W : World) (hperm : ss.Perm ks) (hrow : W.ownsRow w.heap.size 22 1 v ss.length (ss.map encU)) (hnil : v = .slice none 0 0 ↔ ss = []) (hb : Below w.heap.size w W) :
    Calls Try.prog 81 #[v] W fun e w' => (∃ c, e = .returned c) ∧ ∃ φ', Step φ s w φ' (keysRes s ks).2 w' ∧ VRel φ' (keysRes s ks).1 v := by
  rw [← hp]
  obtain ⟨N0, hN0⟩ : ∃ N0, N0 = max s.next s.heap.bound := ⟨_, rfl⟩
  have hfree : ∀ id, N0 ≤ id → s.heap.get id = none := fun id hid => Tree.get_bound _ _ (by omega)
  have hs1 : RelSt φ ⟨s.heap, N0⟩ w := RelSt.at (b := s.next) hs
  cases hks : ks with
  | nil =>
    subst hks
    have hss : ss = [] := List.Perm.eq_nil hperm
    subst hss
    obtain rfl := hnil.2 rfl
    have st1 := step_below hs1 hb
    obtain ⟨n, v2, s2, hcall, rfl, hext⟩ := hS.none ⟨s.heap, N0⟩ hfree
    refine Calls.mono (calls_of_eval hm hT.ok hT.tame hcall hc hg st1.rel (.cons .nilSlice .nil) (fun id hid _ => hfree id hid)) fun e w' he => ?_
    obtain ⟨c, φ2, rfl, st2, _⟩ := he
    obtain ⟨φ', st⟩ := gc_none hs1 hfree (st1.trans st2) hext
    exact ⟨⟨c, rfl⟩, φ', Step.at (b := N0) (b' := N0) st, .nilSlice⟩
  | cons k0 kt =>
    rw [← hks]
    have hne : ks ≠ [] := by rw [hks]; simp
    have hres : keysRes s ks = (.slice ⟨s.next, 0, 0, ks.length⟩ ks.length ks.length false 1, s.add (.cells ((srt ks).map aU) 0 0 false)) := by rw [hks]; rfl
    rw [hres]
    have hlen := hperm.length_eq
    have hsl : ss.length ≠ 0 := by rw [hlen, hks]; simp
    rcases hrow.2 with ⟨_, h0⟩ | ⟨gb, cap, cur, rfl, hbase, hgb, r1, r2, r3, r4⟩
    · exact absurd h0 hsl
    · have hglt : gb < W.heap.size := (Array.getElem?_eq_some_iff.1 hgb).1
      let x : Inc := ⟨gb, 0, 0, ss.length, cur.size⟩
      have hφ1 : φ.upd N0 0 x N0 0 = some x := Phi.upd_same _ _ _ _
      have st1 : Step φ ⟨s.heap, N0⟩ w (φ.upd N0 0 x) ((⟨s.heap, N0⟩ : St).add (.cells (ss.map aU) 0 0 false)) W :=
        step_new hs1 (hfree N0 (Nat.le_refl _)) _ x hb hbase hglt (plain_cells (cur := cur) N0 hφ1 hgb rfl rfl (by simp [x]) rfl (by simp; omega) (by simpa using r4) (vrels_u ss))
      have hwf : WFS ((⟨s.heap, N0⟩ : St).add (.cells (ss.map aU) 0 0 false)) := WFS.add (s := ⟨s.heap, N0⟩) hfree _
      obtain ⟨n, v2, s2, hcall, rfl, hg2, hext⟩ := hS.row _ ss N0 hwf (by omega) (by rw [add_get, if_pos rfl]) (by rw [add_next]; exact Nat.lt_succ_self N0)
      refine Calls.mono (calls_of_eval hm hT.ok hT.tame hcall hc (hg.mono st1.le) st1.rel (cargs := [.slice (some ⟨gb, 0, none⟩) ss.length cap]) (.cons (.slice (x := x) hφ1 (Nat.le_refl _) (Nat.le_refl _) (by simp) (Nat.le_refl _) (by omega) (by simp) (by simp [x, r3])) .nil) (fun id hid _ => hwf id hid)) fun e w' he => ?_
      obtain ⟨c, φ2, rfl, st2, _⟩ := he
      have st := st1.trans st2
      rw [srt_perm hperm] at hg2
      obtain ⟨φ', st', hφ'⟩ := gc_one (s := s) hs1 hfree (hnx hne) st ((srt ks).map aU) (plains_u _) hg2 (fun id hid => by
        rw [hext id (by rw [add_next]; exact Nat.lt_succ_of_lt hid) (by omega), add_get, if_neg (by show id ≠ N0; omega)])
      refine ⟨⟨c, rfl⟩, φ', Step.at (b := N0) (b' := s.next + 1) st', ?_⟩
      rw [← hlen]
      exact .slice (x := x) (hφ' 0 x (st2.le _ _ _ hφ1)) (Nat.le_refl _) (Nat.le_refl _) (by simp) (Nat.le_refl _) (by omega) (by simp) (by simp [x, r3])

set_option maxHeartbeats 1000000 in
theorem sorted_ok {P : Prog} (hp : P.toProgram = Try.prog) (hm : P.follows .mixedOrders = true) {T : Tab} (hT : TabFine P T) {ir : IFunc} (hc : T 81 = some (.code ir)) (N : Nat) (hN : N ≤ 1000000000) (hS : SortsV T 81 N) :
    HookOk P 58 fun args s => ofBoth (sortedH N 82 args s) := by
  intro args s r hres hne φ w cargs hg hs ha hf
  obtain ⟨v', s', hmm, rfl⟩ := ofBoth_ne hres hne
  unfold sortedH at hmm
  split at hmm
  · rename_i f a
    split at hmm
    · rename_i hbeq
      have hfk : f = 82 := by simpa using hbeq
      subst hfk
      split at hmm
      · rename_i mv tl hrd
        unfold sortedMap at hmm
        split at hmm
        · rename_i r
          split at hmm
          · rename_i es clock hget
            split at hmm
            · rename_i ks hok
              have hmm := Option.some.inj hmm
              cases ha with
              | cons a1 a2 =>
              cases a2
              cases a1 with
              | func b1 b2 =>
              cases b1
              cases b2 with
              | cons c1 c2 =>
              cases c2
              cases c1 with
              | ptr q1 q2 q3 =>
              rename_i x
              obtain ⟨cl, d1, d2, d3, d4⟩ := read_ok hs hrd (.ptr q1 q2 q3)
              cases d3 with
              | cons e1 e2 =>
              cases e1 with
              | map f1 =>
              rename_i xr
              have hcell := d4 0 _ rfl
              rw [addr_add] at hcell
              simp only [Nat.add_zero] at hcell
              obtain ⟨x2, es', g1, g2, g3⟩ := hs.obj r _ hget
              rw [f1] at g1
              cases g1
              obtain ⟨D, hown, hperm, hsize, hkN⟩ := owns_u32 hN g2 g3 hok
              have hseq := keysU_gives 2 (by omega) x.blk (x.base + (a.off - x.sh)) xr.blk es'.size D w (hs.dom _ _ _ q1).2 hcell hown
              rw [hsize] at hseq
              have cC := collectU 4 (by omega) 82 _ (enters_of Try.func82 (by kernel_rfl) rfl) _ ks.length (by unfold maxLen; omega) (by omega) w hseq
              have hnx : ks ≠ [] → s.heap.get s.next = none := by
                intro hk
                refine hf s.next (Nat.le_refl _) ?_
                cases ks with
                | nil => exact absurd rfl hk
                | cons k0 kt =>
                  have : s' = s.add (.cells ((srt (k0 :: kt)).map aU) 0 0 false) := by cases hmm; rfl
                  show s.next < s'.next
                  rw [this, add_next]; omega
              have hv : v' = (keysRes s ks).1 := by rw [hmm]
              have hs' : s' = (keysRes s ks).2 := by rw [hmm]
              have key := sorted_walk 5 (by omega) _ _ w _ (fun v w' => ∃ φ', Step φ s w φ' (keysRes s ks).2 w' ∧ VRel φ' (keysRes s ks).1 v) cC
                (fun v ss W hSs hrow hnil hb => callsIn_wide.2 (sort_step hp hm hT hc N hS hg hs ks hkN hnx v ss W (List.Perm.trans hSs hperm) hrow hnil hb))
              have key := callsIn_wide.1 key
              intro o ac next Q hk
              have hrun : (callFunc 58 #[.func (.func 82) #[] #[.pointer (some ⟨x.blk, x.base + (a.off - x.sh), none⟩)]]).run P.toProgram w = .ok (.enter 58 #[.func (.func 82) #[] #[.pointer (some ⟨x.blk, x.base + (a.off - x.sh), none⟩)]]) w := by
                rw [hp]
                exact enters_of Try.func58 (by kernel_rfl) rfl _ _
              show o.upon P.toProgram ac next Q ((callFunc 58 #[.func (.func 82) #[] #[.pointer (some ⟨x.blk, x.base + (a.off - x.sh), none⟩)]]).run P.toProgram w)
              rw [hrun, Oper.upon_enter, hp]
              refine key.mono fun e w' he => ?_
              obtain ⟨v, rfl, φ', st, hv2⟩ := he
              rw [← hs'] at st
              rw [← hv] at hv2
              exact hk v w' φ' st hv2
            · cases hmm
          · cases hmm
        · cases hmm
      · cases hmm
    · cases hmm
  · cases hmm
end Go.V.KU
