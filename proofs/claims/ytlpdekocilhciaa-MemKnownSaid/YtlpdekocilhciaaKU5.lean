/- The hook for slices.Sorted(maps.Keys(m)) at keys of uint32: the walk, and the join. -/
import Derived.Test.YtlpdekocilhciaaKU4
set_option linter.unusedVariables false
set_option linter.unusedSimpArgs false
set_option linter.unusedSectionVars false
namespace Go.V.KU
open Go Go.V Go.RowKit Go.Maps Go.Sort Go.Shelf Go.Proofs Go.WideShapes

theorem srt_perm {l l' : List Int} (h : l.Perm l') : srt l = srt l' :=
  List.Perm.eq_of_pairwise (fun a b _ _ h1 h2 => Int.le_antisymm h1 h2) (srt_sorted l) (srt_sorted l') (((srt_self l).trans h).trans (srt_self l').symm)
theorem srt_len (l : List Int) : (srt l).length = l.length := (srt_self l).length_eq
theorem vrels_u {φ : Phi} : ∀ l : List Int, VRels φ (l.map aU) (l.map encU)
  | [] => .nil
  | x :: l => .cons (.int .u32 x) (vrels_u l)
theorem plains_u : ∀ l : List Int, plains (l.map aU) = true
  | [] => rfl
  | x :: l => by simp only [List.map_cons, plains, plain, plains_u l, Bool.and_self]

set_option maxRecDepth 100000 in
set_option maxHeartbeats 4000000 in
/-- The walk of slices.Sorted, over a row that was collected and what the sort comes to. -/
theorem sorted_walk (n : Nat) (hn : 4 ≤ n) (g : Nat) (lb : Array Value) (w : World) (S : List Int → Prop) (K : Value → World → Prop)
    (cC : CallsIn Fence.wide (n - 1) Try.prog 80 #[.func (.func g) #[] lb] w (GivesRow w S))
    (cS : ∀ (v : Value) (ss : List Int) (W : World), S ss → W.ownsRow w.heap.size 22 1 v ss.length (ss.map encU) → (v = .slice none 0 0 ↔ ss = []) → Below w.heap.size w W →
      CallsIn Fence.wide (n - 1) Try.prog 81 #[v] W fun e w' => (∃ c, e = .returned c) ∧ K v w') :
    CallsIn Fence.wide n Try.prog 58 #[.func (.func g) #[] lb] w fun e w' => ∃ v, e = .returned v ∧ K v w' := by
  have h1 : 1 ≤ n := by omega
  have hfE : Fence.wide.round = none := rfl
  have hfC : Fence.wide.fn 80 := trivial
  have hfS : Fence.wide.fn 81 := trivial
  refine callsIn_of_wp Try.func58 rfl trivial ?_ rfl
  simp only [Try.ntmps58, List.size_toArray, List.length_cons, List.length_nil, Nat.reduceAdd, Nat.reduceSub, Array.replicate_succ, Array.replicate_zero, List.push_toArray, List.append_toArray, List.nil_append, List.cons_append]
  gi_wp2_with (gi_at_call 80; refine cC.mono ?_; rintro e W ⟨v, ss, rfl, hS, hrow, hnil, hb⟩)
  have cS' := cS v ss W hS hrow hnil hb
  gi_wp2_with (gi_at_call 81; refine cS'.mono ?_; rintro e w' ⟨⟨c, rfl⟩, hK⟩)
  go_ret
  exact ⟨_, rfl, hK⟩

set_option maxHeartbeats 1000000 in
/-- The sort, at what was collected. -/
theorem sort_step {P : Prog} (hp : P.toProgram = Try.prog) (hm : P.follows .mixedOrders = true) {T : Tab} (hT : TabFine P T) {ir : IFunc} (hc : T 81 = some (.code ir)) (N : Nat) (hS : SortsV T 81 N)
    {φ : Phi} {s : St} {w : World} (hg : GlobOk P φ) (hs : RelSt φ s w) (ks : List Int) (hkN : ks.length ≤ N) (hnx : ks ≠ [] → s.heap.get s.next = none)
    (v : Value) (ss : List Int) (W : World) (hperm : ss.Perm ks) (hrow : W.ownsRow w.heap.size 22 1 v ss.length (ss.map encU)) (hnil : v = .slice none 0 0 ↔ ss = []) (hb : Below w.heap.size w W) :
    Calls Try.prog 81 #[v] W fun e w' => (∃ c, e = .returned c) ∧ ∃ φ', Step φ s w φ' (keysRes s ks).2 w' ∧ VRel φ' (keysRes s ks).1 v := by
  rw [← hp]
  obtain ⟨N0, hN0⟩ : ∃ N0, N0 = max s.next s.heap.bound := ⟨_, rfl⟩
  have hfree : ∀ id, N0 ≤ id → s.heap.get id = none := fun id hid => Tree.get_bound _ _ (by omega)
  have hs1 : RelSt φ ⟨s.heap, N0⟩ w := RelSt.at (b := s.next) hs
  cases hks : ks with
  | nil =>
    subst hks
    have hss : ss = [] := List.Perm.eq_nil hperm
    subst hss
    obtain rfl := hnil.2 rfl
    have st1 := step_below hs1 hb
    obtain ⟨n, v2, s2, hcall, rfl, hext⟩ := hS.none ⟨s.heap, N0⟩ hfree
    refine Calls.mono (calls_of_eval hm hT.ok hT.tame hcall hc hg st1.rel (.cons .nilSlice .nil) (fun id hid _ => hfree id hid)) fun e w' he => ?_
    obtain ⟨c, φ2, rfl, st2, _⟩ := he
    obtain ⟨φ', st⟩ := gc_none hs1 hfree (st1.trans st2) hext
    exact ⟨⟨c, rfl⟩, φ', Step.at (b := N0) (b' := N0) st, .nilSlice⟩
  | cons k0 kt =>
    rw [← hks]
    have hne : ks ≠ [] := by rw [hks]; simp
    have hres : keysRes s ks = (.slice ⟨s.next, 0, 0, ks.length⟩ ks.length ks.length false 1, s.add (.cells ((srt ks).map aU) 0 0 false)) := by rw [hks]; rfl
    rw [hres]
    have hlen := hperm.length_eq
    have hsl : ss.length ≠ 0 := by rw [hlen, hks]; simp
    rcases hrow.2 with ⟨_, h0⟩ | ⟨gb, cap, cur, rfl, hbase, hgb, r1, r2, r3, r4⟩
    · exact absurd h0 hsl
    · have hglt : gb < W.heap.size := (Array.getElem?_eq_some_iff.1 hgb).1
      let x : Inc := ⟨gb, 0, 0, ss.length, cur.size⟩
      have hφ1 : φ.upd N0 0 x N0 0 = some x := Phi.upd_same _ _ _ _
      have st1 : Step φ ⟨s.heap, N0⟩ w (φ.upd N0 0 x) ((⟨s.heap, N0⟩ : St).add (.cells (ss.map aU) 0 0 false)) W :=
        step_new hs1 (hfree N0 (Nat.le_refl _)) _ x hb hbase hglt (plain_cells (cur := cur) N0 hφ1 hgb rfl rfl (by simp [x]) rfl (by simp; omega) (by simpa using r4) (vrels_u ss))
      have hwf : WFS ((⟨s.heap, N0⟩ : St).add (.cells (ss.map aU) 0 0 false)) := WFS.add (s := ⟨s.heap, N0⟩) hfree _
      obtain ⟨n, v2, s2, hcall, rfl, hg2, hext⟩ := hS.row _ ss N0 hwf (by omega) (by rw [add_get, if_pos rfl]) (by rw [add_next]; exact Nat.lt_succ_self N0)
      refine Calls.mono (calls_of_eval hm hT.ok hT.tame hcall hc (hg.mono st1.le) st1.rel (cargs := [.slice (some ⟨gb, 0, none⟩) ss.length cap]) (.cons (.slice (x := x) hφ1 (Nat.le_refl _) (Nat.le_refl _) (by simp) (Nat.le_refl _) (by omega) (by simp) (by simp [x, r3])) .nil) (fun id hid _ => hwf id hid)) fun e w' he => ?_
      obtain ⟨c, φ2, rfl, st2, _⟩ := he
      have st := st1.trans st2
      rw [srt_perm hperm] at hg2
      obtain ⟨φ', st', hφ'⟩ := gc_one (s := s) hs1 hfree (hnx hne) st ((srt ks).map aU) (plains_u _) hg2 (fun id hid => by
        rw [hext id (by rw [add_next]; exact Nat.lt_succ_of_lt hid) (by omega), add_get, if_neg (by show id ≠ N0; omega)])
      refine ⟨⟨c, rfl⟩, φ', Step.at (b := N0) (b' := s.next + 1) st', ?_⟩
      rw [← hlen]
      exact .slice (x := x) (hφ' 0 x (st2.le _ _ _ hφ1)) (Nat.le_refl _) (Nat.le_refl _) (by simp) (Nat.le_refl _) (by omega) (by simp) (by simp [x, r3])

set_option maxHeartbeats 1000000 in
theorem sorted_ok {P : Prog} (hp : P.toProgram = Try.prog) (hm : P.follows .mixedOrders = true) {T : Tab} (hT : TabFine P T) {ir : IFunc} (hc : T 81 = some (.code ir)) (N : Nat) (hN : N ≤ 1000000000) (hS : SortsV T 81 N) :
    HookOk P 58 fun args s => ofBoth (sortedH N 82 args s) := by
  intro args s r hres hne φ w cargs hg hs ha hf
  obtain ⟨v', s', hmm, rfl⟩ := ofBoth_ne hres hne
  unfold sortedH at hmm
  split at hmm
  · rename_i f a
    split at hmm
    · rename_i hbeq
      have hfk : f = 82 := by simpa using hbeq
      subst hfk
      split at hmm
      · rename_i mv tl hrd
        unfold sortedMap at hmm
        split at hmm
        · rename_i r
          split at hmm
          · rename_i es clock hget
            split at hmm
            · rename_i ks hok
              have hmm := Option.some.inj hmm
              cases ha with
              | cons a1 a2 =>
              cases a2
              cases a1 with
              | func b1 b2 =>
              cases b1
              cases b2 with
              | cons c1 c2 =>
              cases c2
              cases c1 with
              | ptr q1 q2 q3 =>
              rename_i x
              obtain ⟨cl, d1, d2, d3, d4⟩ := read_ok hs hrd (.ptr q1 q2 q3)
              cases d3 with
              | cons e1 e2 =>
              cases e1 with
              | map f1 =>
              rename_i xr
              have hcell := d4 0 _ rfl
              rw [addr_add] at hcell
              simp only [Nat.add_zero] at hcell
              obtain ⟨x2, es', g1, g2, g3⟩ := hs.obj r _ hget
              rw [f1] at g1
              cases g1
              obtain ⟨D, hown, hperm, hsize, hkN⟩ := owns_u32 hN g2 g3 hok
              have hseq := keysU_gives 2 (by omega) x.blk (x.base + (a.off - x.sh)) xr.blk es'.size D w (hs.dom _ _ _ q1).2 hcell hown
              rw [hsize] at hseq
              have cC := collectU 4 (by omega) 82 _ (enters_of Try.func82 (by kernel_rfl) rfl) _ ks.length (by unfold maxLen; omega) (by omega) w hseq
              have hnx : ks ≠ [] → s.heap.get s.next = none := by
                intro hk
                refine hf s.next (Nat.le_refl _) ?_
                cases ks with
                | nil => exact absurd rfl hk
                | cons k0 kt =>
                  have : s' = s.add (.cells ((srt (k0 :: kt)).map aU) 0 0 false) := by cases hmm; rfl
                  show s.next < s'.next
                  rw [this, add_next]; omega
              have hv : v' = (keysRes s ks).1 := by rw [hmm]
              have hs' : s' = (keysRes s ks).2 := by rw [hmm]
              have key := sorted_walk 5 (by omega) _ _ w _ (fun v w' => ∃ φ', Step φ s w φ' (keysRes s ks).2 w' ∧ VRel φ' (keysRes s ks).1 v) cC
                (fun v ss W hSs hrow hnil hb => callsIn_wide.2 (sort_step hp hm hT hc N hS hg hs ks hkN hnx v ss W (List.Perm.trans hSs hperm) hrow hnil hb))
              have key := callsIn_wide.1 key
              intro o ac next Q hk
              have hrun : (callFunc 58 #[.func (.func 82) #[] #[.pointer (some ⟨x.blk, x.base + (a.off - x.sh), none⟩)]]).run P.toProgram w = .ok (.enter 58 #[.func (.func 82) #[] #[.pointer (some ⟨x.blk, x.base + (a.off - x.sh), none⟩)]]) w := by
                rw [hp]
                exact enters_of Try.func58 (by kernel_rfl) rfl _ _
              show o.upon P.toProgram ac next Q ((callFunc 58 #[.func (.func 82) #[] #[.pointer (some ⟨x.blk, x.base + (a.off - x.sh), none⟩)]]).run P.toProgram w)
              rw [hrun, Oper.upon_enter, hp]
              refine key.mono fun e w' he => ?_
              obtain ⟨v, rfl, φ', st, hv2⟩ := he
              rw [← hs'] at st
              rw [← hv] at hv2
              exact hk v w' φ' st hv2
            · cases hmm
          · cases hmm
        · cases hmm
      · cases hmm
    · cases hmm
  · cases hmm
end Go.V.KU
