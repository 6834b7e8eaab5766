/- The hook for slices.Sorted(maps.Keys(m)) at keys of uint32, for a table that holds the sort's code. -/
import Derived.Test.YtlpdekocilhciaaKA
import Derived.Test.YtlpdekocilhciaaPB
import Derived.Test.YtlpdekocilhciaaVD
set_option linter.unusedVariables false
set_option linter.unusedSimpArgs false
set_option linter.unusedSectionVars false
namespace Go.V
open Go
set_option linter.unusedSimpArgs false
set_option linter.unusedVariables false
-- cmp.Less[uint32]
def ir140 : IFunc := ⟨17, [.tmp 4], (.seq (.region [⟨some 4, none, [], (.move (.c (.bool false)))⟩] false)
 (.seq (.region [⟨some 5, none, [], (.move (.t 0))⟩, ⟨some 6, none, [], (.call 157 [(.t 5)])⟩, ⟨some 7, none, [], (.move (.t 6))⟩, ⟨some 8, some (7, true), [], (.move (.t 1))⟩, ⟨some 9, some (7, true), [], (.call 157 [(.t 8)])⟩, ⟨some 10, some (7, true), [], (.un .not (.t 9))⟩, ⟨some 11, none, [], (.pick (.t 7) (.t 10) (.c (.bool false)))⟩, ⟨some 12, none, [], (.move (.t 11))⟩, ⟨some 13, some (12, false), [], (.move (.t 0))⟩, ⟨some 14, some (12, false), [], (.move (.t 1))⟩, ⟨some 15, some (12, false), [], (.bin .lss (.t 13) (.t 14))⟩, ⟨some 16, none, [], (.pick (.t 12) (.c (.bool true)) (.t 15))⟩, ⟨some 4, none, [], (.move (.t 16))⟩] false)
 .ret))⟩
-- cmp.isNaN[uint32]
def ir157 : IFunc := ⟨6, [.tmp 2], (.seq (.region [⟨some 2, none, [], (.move (.c (.bool false)))⟩] false)
 (.seq (.region [⟨some 3, none, [], (.move (.t 0))⟩, ⟨some 4, none, [], (.move (.t 0))⟩, ⟨some 5, none, [], (.bin .neq (.t 3) (.t 4))⟩, ⟨some 2, none, [], (.move (.t 5))⟩] false)
 .ret))⟩
end Go.V
namespace Go.V.KU
open Go Go.V Go.RowKit Go.Maps Go.Sort Go.Shelf Go.Proofs
set_option linter.unusedSimpArgs false
set_option linter.unusedVariables false

def ltI (a b : Int) : Bool := decide (a < b)
theorem ord_ltI : Ord ltI := by
  constructor
  · intro x y h
    simp only [ltI, decide_eq_true_eq, decide_eq_false_iff_not] at *
    omega
  · intro x y z h1 h2
    simp only [ltI, decide_eq_false_iff_not] at *
    omega
section
variable {T : Tab}
theorem nanU_ran (hc : T 157 = some (.code ir157)) (s : St) (a : Int) : Ran T 157 [.int .u32 a] s fun v s' => v = .bool false ∧ s' = s := by
  refine ran_code hc (Nat.le_of_ble_eq_true rfl) ?_
  simp only [ir157, wk, wk1, wk2, Option.some.injEq, exists_eq_left', decide_true, decide_false, Nat.reduceAdd, Nat.reduceEqDiff, Nat.reduceLeDiff, Nat.reduceLT, Nat.reduceMul, Nat.reduceBEq, Int.reduceLT, Int.reduceLE, Int.reduceEq, Int.reduceAdd, Int.reduceSub, Int.reduceMul, Int.reduceMod, Int.reduceTMod, Int.reduceTDiv, Int.reduceNeg, Nat.reduceSub, Nat.reduceDiv, reduceIte, reduceCtorEq]
theorem lessU_ran (hc : T 140 = some (.code ir140)) (hn : T 157 = some (.code ir157)) (s : St) (a b : Int) : Ran T 140 [.int .u32 a, .int .u32 b] s fun v s' => v = .bool (decide (a < b)) ∧ s' = s := by
  refine ran_code hc (Nat.le_of_ble_eq_true rfl) ?_
  generalize hQ : Fin _ _ = Q
  simp only [ir140, wk, wk1, wk2, Option.some.injEq, exists_eq_left', decide_true, decide_false, Nat.reduceAdd, Nat.reduceEqDiff, Nat.reduceLeDiff, Nat.reduceLT, Nat.reduceMul, Nat.reduceBEq, Int.reduceLT, Int.reduceLE, Int.reduceEq, Int.reduceAdd, Int.reduceSub, Int.reduceMul, Int.reduceMod, Int.reduceTMod, Int.reduceTDiv, Int.reduceNeg, Nat.reduceSub, Nat.reduceDiv, reduceIte, reduceCtorEq]
  refine goCall_by (nanU_ran hn s a) ?_
  rintro v s' ⟨rfl, rfl⟩
  subst hQ
  simp only [ir140, wk, wk1, wk2, Option.some.injEq, exists_eq_left', decide_true, decide_false, Nat.reduceAdd, Nat.reduceEqDiff, Nat.reduceLeDiff, Nat.reduceLT, Nat.reduceMul, Nat.reduceBEq, Int.reduceLT, Int.reduceLE, Int.reduceEq, Int.reduceAdd, Int.reduceSub, Int.reduceMul, Int.reduceMod, Int.reduceTMod, Int.reduceTDiv, Int.reduceNeg, Nat.reduceSub, Nat.reduceDiv, reduceIte, reduceCtorEq]
def lessUG (args : List AV) : Option AV := match args with
  | [.int .u32 a, .int .u32 b] => some (.bool (decide (a < b)))
  | _ => none
theorem lessUG_ok (hc : T 140 = some (.code ir140)) (hn : T 157 = some (.code ir157)) (args : List AV) (v : AV) (h : lessUG args = some v) :
    plain v = true ∧ ∀ s, WFS s → Ran T 140 args s fun v' s' => v' = v ∧ Ext s s' := by
  unfold lessUG at h
  split at h
  · rename_i a b
    cases h
    exact ⟨rfl, fun s hs => (lessU_ran hc hn s a b).mono fun v s' ⟨h1, h2⟩ => ⟨h1, by rw [h2]; exact Ext.refl hs⟩⟩
  · cases h
theorem lessOkU (hl : T 140 = some (.hook (pureH lessUG))) : LessOk T 140 aU ltI := by
  refine ⟨fun _ => rfl, fun _ => rfl, fun Q d dst x y l fs e s => ?_⟩
  rw [goCall_hk hl]
  show GoR T Q d dst [] (.val (.bool (decide (x < y))) s) l fs e s ↔ _
  rw [goR_val]
  rfl

theorem sorts_of (hT : SortTab T) (hso : T 81 = some (.code ir81)) (hl : T 140 = some (.hook (pureH lessUG))) : SortsV T 81 1000000000 := by
  constructor
  · intro s l b hw hN hg hb
    have hA : Aft aU s b 0 l.length (fun i => l.getD i 0) s := Aft.refl hw ⟨0, Nat.le_refl _, by rw [mp_list]; exact hg⟩
    refine (sort_ran hT hso (lessOkU hl) ord_ltI s b 0 l.length l.length false hb hN _ hA).mono ?_
    rintro v s2 ⟨rfl, g, hA2, hP, hS⟩
    obtain ⟨lo, hlo, hrow⟩ := hA2.row
    obtain rfl : lo = 0 := by omega
    refine ⟨rfl, ?_, hA2.same⟩
    rw [hrow]
    -- the sorted row is the list, merge sorted
    have hperm := hP.list (Nat.le_refl l.length)
    have hl0 : (List.range l.length).map (fun i => l.getD i 0) = l := by
      apply List.ext_getElem?
      intro k
      by_cases hk : k < l.length
      · simp [hk, List.getD_eq_getElem?_getD]
      · rw [List.getElem?_eq_none (by simp; omega), List.getElem?_eq_none (by omega)]
    rw [hl0] at hperm
    have hsorted : ((List.range l.length).map g).Pairwise (fun a b => a ≤ b) := by
      rw [List.pairwise_map]
      refine List.pairwise_iff_getElem.2 fun i j hi hj hij => ?_
      simp only [List.getElem_range]
      have := hS i j (Nat.zero_le _) hij (by simpa using hj)
      simp only [Le, ltI, decide_eq_false_iff_not] at this
      omega
    have heq : (List.range l.length).map g = srt l :=
      List.Perm.eq_of_pairwise (fun a b _ _ h1 h2 => Int.le_antisymm h1 h2) hsorted (srt_sorted l) (hperm.trans (srt_self l).symm)
    have : mp aU l.length g = (srt l).map aU := by
      rw [← heq]
      simp [mp, List.map_map, Function.comp_def]
    rw [this]
  · intro s hw
    exact (sort_nil hT hso s).mono fun v s2 ⟨h1, h2⟩ => ⟨h1, fun id _ => by rw [h2]⟩
end

theorem sortedH_eq {N kf f : Nat} {a : AAddr} {t : St} {r : Nat} {tl : List AV} {es : List AEntry} {clock : Nat} {ks : List Int} (hb : Nat.beq f kf = true) (h1 : t.readAt a 1 = some (.map r :: tl)) (h2 : t.heap.get r = some (.map es clock)) (h3 : okKeys N es clock = some ks) :
    sortedH N kf [.func f [] [.ptr a]] t = some (keysRes t ks) := by
  simp only [sortedH, hb, h1, sortedMap, h2, h3]
theorem sortedH_inv {N kf : Nat} {args : List AV} {s : St} {x : AV × St} (h : sortedH N kf args s = some x) : ∃ f a r tl es clock ks, args = [.func f [] [.ptr a]] ∧ Nat.beq f kf = true ∧ s.readAt a 1 = some (.map r :: tl) ∧ s.heap.get r = some (.map es clock) ∧ okKeys N es clock = some ks := by
  unfold sortedH at h
  split at h
  · rename_i f a
    cases hb : Nat.beq f kf with
    | false => rw [hb] at h; cases h
    | true =>
      rw [hb] at h
      simp only [] at h
      cases hr : s.readAt a 1 with
      | none => rw [hr] at h; cases h
      | some l =>
        rw [hr] at h
        cases l with
        | nil => cases h
        | cons m tl =>
          simp only [] at h
          unfold sortedMap at h
          split at h
          · rename_i r
            cases hg : s.heap.get r with
            | none => rw [hg] at h; cases h
            | some o =>
              rw [hg] at h
              cases o with
              | cells _ _ _ _ => cases h
              | map es clock =>
                simp only [] at h
                cases hk : okKeys N es clock with
                | none => rw [hk] at h; cases h
                | some ks => exact ⟨f, a, r, tl, es, clock, ks, rfl, hb, hr, hg, hk⟩
          · cases h
  · cases h
theorem sorted_tame (N kf : Nat) (args : List AV) (s : St) : Tame s fun s => ofBoth (sortedH N kf args s) := by
  intro hn
  cases hx : sortedH N kf args s with
  | none =>
    have hn : ofBoth (sortedH N kf args s) ≠ .fail := hn
    rw [hx] at hn; exact absurd rfl hn
  | some x =>
    obtain ⟨f, a, r, tl, es, clock, ks, rfl, hb, hrd, hget, hok⟩ := sortedH_inv hx
    have hput : ∀ b o, s.heap.get b = none → (s.put b o).readAt a 1 = some (.map r :: tl) ∧ (s.put b o).heap.get r = some (.map es clock) := by
      intro b o hb
      constructor
      · have hne : a.id ≠ b := by
          intro h
          unfold St.readAt at hrd
          rw [h, hb] at hrd
          cases hrd
        have hg : (s.put b o).heap.get a.id = s.heap.get a.id := by rw [put_get, if_neg hne]
        rw [← hrd]
        unfold St.readAt
        rw [hg]
      · rw [put_get, if_neg]
        · exact hget
        · intro e; rw [e, hb] at hget; cases hget
    have e0 := sortedH_eq hb hrd hget hok
    have e1 := fun b o h => sortedH_eq (t := s.put b o) hb (hput b o h).1 (hput b o h).2 hok
    show Good s ((ofBoth (sortedH N kf [.func f [] [.ptr a]] s)).st s) ∧ ∀ b o, s.heap.get b = none → ¬ (s.next ≤ b ∧ b < ((ofBoth (sortedH N kf [.func f [] [.ptr a]] s)).st s).next) →
      ofBoth (sortedH N kf [.func f [] [.ptr a]] (s.put b o)) = (ofBoth (sortedH N kf [.func f [] [.ptr a]] s)).to (((ofBoth (sortedH N kf [.func f [] [.ptr a]] s)).st s).put b o)
    rw [e0]
    cases ks with
    | nil => exact ⟨Good.refl s, fun b o hb2 _ => by rw [e1 b o hb2]; rfl⟩
    | cons k0 kt =>
      refine ⟨⟨by show s.next ≤ s.next + 1; omega, fun id hid => ?_, fun id hid => ?_⟩, fun b o hb2 hnb => ?_⟩
      · show ((s.add _).heap.get id).isSome = true
        rw [add_get]; split
        · rfl
        · exact hid
      · have hid : ((s.add (.cells ((srt (k0 :: kt)).map aU) 0 0 false)).heap.get id).isSome = true := hid
        rw [add_get] at hid
        split at hid
        · rename_i h; exact .inr ⟨by omega, by show id < s.next + 1; omega⟩
        · exact .inl hid
      · rw [e1 b o hb2]
        have hne : ¬ (b = s.next) := fun e => hnb ⟨by omega, by show b < s.next + 1; omega⟩
        show Res.val _ ((s.put b o).add _) = Res.val _ ((s.add _).put b o)
        rw [add_put, if_neg hne]
        rfl

/-- The entry. -/
theorem sorted_entry {P : Prog} (hp : P.toProgram = Try.prog) (hm : P.follows .mixedOrders = true) {T : Tab} (hF : TabFine P T) (hT : SortTab T) (hso : T 81 = some (.code ir81)) (hl : T 140 = some (.hook (pureH lessUG))) :
    EntryOk2 P 58 (.hook (sortedH 1000000000 82)) :=
  .hook (sorted_ok hp hm hF hso 1000000000 (Nat.le_refl _) (sorts_of hT hso hl)) (fun args s => sorted_tame _ _ args s)
end Go.V.KU
