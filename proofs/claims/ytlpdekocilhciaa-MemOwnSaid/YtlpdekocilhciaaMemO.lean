/- MemOwn over the small language. -/
import Derived.Test.YtlpdekocilhciaaMB
set_option linter.unusedVariables false
set_option linter.unusedSimpArgs false
set_option linter.unusedSectionVars false
/- MemOwn over the small language. -/
namespace Go.V
open Go
set_option linter.unusedSimpArgs false
set_option linter.unusedVariables false
open Go.V.KU
-- coxless/coxlesslaw24.MemOwn
def ir6 : IFunc := ⟨116, [.tmp 4], (.seq (.region [⟨some 4, none, [], (.move (.c (.bool false)))⟩] false)
 (.seq (.seq (.region [⟨some 12, none, [], (.move (.t 0))⟩, ⟨some 13, none, [], (.call 18 [(.t 12)])⟩, ⟨some 14, none, [], (.move (.t 13))⟩, ⟨some 15, some (14, false), [], (.move (.t 1))⟩, ⟨some 16, some (14, false), [], (.call 18 [(.t 15)])⟩, ⟨some 17, none, [], (.pick (.t 14) (.c (.bool true)) (.t 16))⟩] false)
 (.cond (.t 17) (.seq (.region [⟨some 18, none, [], (.call 19 [])⟩, ⟨some 4, none, [], (.move (.t 18))⟩] false)
 .ret) .skip))
 (.seq (.region [⟨some 19, none, [], (.call 12 [])⟩, ⟨some 5, none, [], (.move (.t 19))⟩] false)
 (.seq (.seq (.region [⟨some 20, none, [], (.move (.t 5))⟩, ⟨some 21, none, [], (.eq false (.nilable .ptr) (.t 20) (.c .nilPtr))⟩] false)
 (.cond (.t 21) (.seq (.region [⟨some 4, none, [], (.move (.c (.bool false)))⟩] false)
 .ret) .skip))
 (.seq (.region [⟨some 22, none, [], (.move (.t 5))⟩, ⟨some 23, none, [], (.move (.t 0))⟩, ⟨some 24, none, [], (.call 33 [(.t 22), (.t 23)])⟩] false)
 (.seq (.region [⟨some 25, none, [], (.move (.t 5))⟩, ⟨some 26, none, [], (.call 31 [(.t 25)])⟩, ⟨some 6, none, [], (.move (.t 26))⟩] false)
 (.seq (.region [⟨some 27, none, [], (.move (.t 5))⟩, ⟨some 28, none, [], (.call 29 [(.t 27)])⟩, ⟨some 7, none, [], (.move (.t 28))⟩] false)
 (.seq (.seq (.region [⟨some 29, none, [], (.move (.t 5))⟩, ⟨some 30, none, [], (.move (.t 6))⟩, ⟨some 31, none, [], (.call 32 [(.t 29), (.t 30)])⟩, ⟨some 32, none, [], (.un .not (.t 31))⟩, ⟨some 33, none, [], (.move (.t 32))⟩, ⟨some 34, some (33, false), [], (.move (.t 6))⟩, ⟨some 35, some (33, false), [], (.move (.t 5))⟩, ⟨some 36, some (33, false), [], (.call 32 [(.t 34), (.t 35)])⟩, ⟨some 37, some (33, false), [], (.un .not (.t 36))⟩, ⟨some 38, none, [], (.pick (.t 33) (.c (.bool true)) (.t 37))⟩] false)
 (.cond (.t 38) (.seq (.region [⟨some 4, none, [], (.move (.c (.bool false)))⟩] false)
 .ret) .skip))
 (.seq (.region [⟨some 39, none, [], (.move (.t 6))⟩, ⟨some 40, none, [], (.move (.t 1))⟩, ⟨some 41, none, [], (.call 33 [(.t 39), (.t 40)])⟩] false)
 (.seq (.seq (.region [⟨some 42, none, [], (.move (.t 5))⟩, ⟨some 43, none, [], (.call 29 [(.t 42)])⟩, ⟨some 44, none, [], (.move (.t 7))⟩, ⟨some 45, none, [], (.call 28 [(.t 43), (.t 44)])⟩, ⟨some 46, none, [], (.un .not (.t 45))⟩, ⟨some 47, none, [], (.move (.t 46))⟩, ⟨some 48, some (47, false), [], (.move (.t 5))⟩, ⟨some 49, some (47, false), [], (.move (.t 6))⟩, ⟨some 50, some (47, false), [], (.call 32 [(.t 48), (.t 49)])⟩, ⟨some 51, some (47, false), [], (.move (.t 6))⟩, ⟨some 52, some (47, false), [], (.call 29 [(.t 51)])⟩, ⟨some 53, some (47, false), [], (.move (.t 7))⟩, ⟨some 54, some (47, false), [], (.call 28 [(.t 52), (.t 53)])⟩, ⟨some 55, some (47, false), [], (.eq true (.prim .bool) (.t 50) (.t 54))⟩, ⟨some 56, none, [], (.pick (.t 47) (.c (.bool true)) (.t 55))⟩] false)
 (.cond (.t 56) (.seq (.region [⟨some 4, none, [], (.move (.c (.bool false)))⟩] false)
 .ret) .skip))
 (.seq (.region [⟨some 57, none, [], (.call 12 [])⟩, ⟨some 8, none, [], (.move (.t 57))⟩] false)
 (.seq (.region [⟨some 59, none, [], (.move (.t 6))⟩, ⟨some 60, none, [], (.call 30 [(.t 59)])⟩, ⟨some 58, none, [], (.move (.t 60))⟩, ⟨some 61, none, [], (.extract (.t 58) 0)⟩, ⟨some 62, none, [], (.extract (.t 58) 1)⟩, ⟨some 9, none, [], (.move (.t 61))⟩, ⟨some 10, none, [], (.move (.t 62))⟩] false)
 (.seq (.seq (.region [⟨some 11, none, [], (.move (.c (.int .i64 0)))⟩] false)
 (.block 0 (.loop (.seq (.seq (.region [⟨some 63, none, [], (.move (.t 11))⟩, ⟨some 64, none, [], (.move (.t 9))⟩, ⟨some 65, none, [], (.lenSl (.t 64))⟩, ⟨some 66, none, [], (.bin .lss (.t 63) (.t 65))⟩] false)
 (.cond (.t 66) .skip (.exit 0)))
 (.seq (.block 1 (.seq (.region [⟨some 69, none, [], (.move (.t 10))⟩, ⟨some 70, none, [], (.move (.t 11))⟩, ⟨some 71, none, [], (.idxSl 1 (.t 69) (.t 70))⟩, ⟨some 72, none, [], (.load false 1 (.t 71))⟩, ⟨some 73, none, [], (.bin .eql (.t 72) (.c (.int .u8 0)))⟩, ⟨some 74, none, [], (.move (.t 73))⟩, ⟨some 75, some (74, false), [], (.move (.t 11))⟩, ⟨some 76, some (74, false), [], (.bin .gtr (.t 75) (.c (.int .i64 0)))⟩, ⟨some 77, some (74, false), [], (.move (.t 76))⟩, ⟨some 78, some (77, true), [], (.move (.t 9))⟩, ⟨some 79, some (77, true), [], (.move (.t 11))⟩, ⟨some 80, some (77, true), [], (.idxSl 1 (.t 78) (.t 79))⟩, ⟨some 81, some (77, true), [], (.load false 1 (.t 80))⟩, ⟨some 82, some (77, true), [], (.move (.t 9))⟩, ⟨some 83, some (77, true), [], (.move (.t 11))⟩, ⟨some 84, some (77, true), [], (.bin .sub (.t 83) (.c (.int .i64 1)))⟩, ⟨some 85, some (77, true), [], (.idxSl 1 (.t 82) (.t 84))⟩, ⟨some 86, some (77, true), [], (.load false 1 (.t 85))⟩, ⟨some 87, some (77, true), [], (.bin .leq (.t 81) (.t 86))⟩, ⟨some 88, some (74, false), [], (.pick (.t 77) (.t 87) (.c (.bool false)))⟩, ⟨some 89, none, [], (.pick (.t 74) (.c (.bool true)) (.t 88))⟩, ⟨some 90, none, [], (.move (.t 89))⟩, ⟨some 91, some (90, false), [], (.move (.t 8))⟩, ⟨some 92, some (90, false), [], (.move (.t 9))⟩, ⟨some 93, some (90, false), [], (.move (.t 11))⟩, ⟨some 94, some (90, false), [], (.idxSl 1 (.t 92) (.t 93))⟩, ⟨some 95, some (90, false), [], (.load false 1 (.t 94))⟩, ⟨some 96, some (90, false), [], (.move (.t 10))⟩, ⟨some 97, some (90, false), [], (.move (.t 11))⟩, ⟨some 98, some (90, false), [], (.idxSl 1 (.t 96) (.t 97))⟩, ⟨some 99, some (90, false), [], (.load false 1 (.t 98))⟩, ⟨some 100, some (90, false), [], (.call 21 [(.t 91), (.t 95), (.t 99)])⟩, ⟨some 101, some (90, false), [], (.bin .neq (.t 100) (.c (.int .i64 0)))⟩, ⟨some 102, none, [], (.pick (.t 90) (.c (.bool true)) (.t 101))⟩] true)
 (.cond (.t 102) (.seq (.region [⟨some 4, none, [], (.move (.c (.bool false)))⟩] false)
 .ret) .skip)))
 (.region [⟨some 67, none, [], (.move (.t 11))⟩, ⟨some 68, none, [], (.bin .add (.t 67) (.c (.int .i64 1)))⟩, ⟨some 11, none, [], (.move (.t 68))⟩] false))))))
 (.seq (.region [⟨some 103, none, [], (.move (.t 9))⟩, ⟨some 104, none, [], (.lenSl (.t 103))⟩, ⟨some 105, none, [], (.move (.t 10))⟩, ⟨some 106, none, [], (.lenSl (.t 105))⟩, ⟨some 107, none, [], (.bin .eql (.t 104) (.t 106))⟩, ⟨some 108, none, [], (.move (.t 107))⟩, ⟨some 109, some (108, true), [], (.move (.t 6))⟩, ⟨some 110, some (108, true), [], (.move (.t 8))⟩, ⟨some 111, some (108, true), [], (.call 32 [(.t 109), (.t 110)])⟩, ⟨some 112, none, [], (.pick (.t 108) (.t 111) (.c (.bool false)))⟩, ⟨some 113, none, [], (.move (.t 112))⟩, ⟨some 114, some (113, true), [], (.call 19 [])⟩, ⟨some 115, none, [], (.pick (.t 113) (.t 114) (.c (.bool false)))⟩, ⟨some 4, none, [], (.move (.t 115))⟩] false)
 .ret))))))))))))))⟩
theorem eq_bool3 (a b : Bool) : eqV (.prim .bool) (.bool a) (.bool b) = some (a == b) := rfl
theorem Acts.keep {bnd bnd' : Nat} {s s' : St} {x : AV} {l : List Act} (h : Acts bnd s x l) (hw' : WFS s') (hk : ∀ id o, s.heap.get id = some o → s'.heap.get id = some o) (hb : s'.next ≤ bnd') : Acts bnd' s' x l := by
  refine ⟨h.ok, ?_⟩
  rcases h.sl with h | ⟨h0, id, cap, h1, h2, h3, h4⟩
  · exact .inl h
  · have h5 := hk _ _ h4
    have hid : id < s'.next := by
      refine Nat.lt_of_not_le fun hge => ?_
      rw [hw' id hge] at h5; cases h5
    exact .inr ⟨h0, id, cap, h1, by omega, hid, h5⟩
section
variable {T : Tab}
set_option maxHeartbeats 8000000 in
theorem own_loop (hT : DoTab T) {Q : Post} {s0 : St} {b pd rd pc : Nat} {L : List ME} {c : Nat} {x y : AV} (hM : MOk L c) (hcl : c ≤ 100000) (hrb : rd < b) (hx : Slc b s0 1 L.length x (kcells L)) (hy : Slc b s0 1 L.length y (bcells L))
    (K : ∀ (e : Env) (s : St) (D : List ME) (cd : Nat), MemAt s pd rd D cd → cd ≤ L.length → (∀ k, mget D k = mget L k) → Only rd s0 s → opd e (.t 6) = mptr pc → opd e (.t 8) = mptr pd → opd e (.t 9) = x → opd e (.t 10) = y → Ret T Q [.seq (.seq (.region [⟨some 103, none, [], (.move (.t 9))⟩, ⟨some 104, none, [], (.lenSl (.t 103))⟩, ⟨some 105, none, [], (.move (.t 10))⟩, ⟨some 106, none, [], (.lenSl (.t 105))⟩, ⟨some 107, none, [], (.bin .eql (.t 104) (.t 106))⟩, ⟨some 108, none, [], (.move (.t 107))⟩, ⟨some 109, some (108, true), [], (.move (.t 6))⟩, ⟨some 110, some (108, true), [], (.move (.t 8))⟩, ⟨some 111, some (108, true), [], (.call 32 [(.t 109), (.t 110)])⟩, ⟨some 112, none, [], (.pick (.t 108) (.t 111) (.c (.bool false)))⟩, ⟨some 113, none, [], (.move (.t 112))⟩, ⟨some 114, some (113, true), [], (.call 19 [])⟩, ⟨some 115, none, [], (.pick (.t 113) (.t 114) (.c (.bool false)))⟩, ⟨some 4, none, [], (.move (.t 115))⟩] false)
 .ret)] .normal e s) :
    ∀ (m i : Nat) (e : Env) (s : St) (D : List ME) (cd : Nat), m + i = L.length → MemAt s pd rd D cd → cd ≤ i → (∀ k, mget D k = if k ∈ (skeys L).take i then mget L k else 0) → Only rd s0 s → opd e (.t 6) = mptr pc → opd e (.t 8) = mptr pd → opd e (.t 9) = x → opd e (.t 10) = y → opd e (.t 11) = .int .i64 (i : Int) →
      Go T Q ((.loop (.seq (.seq (.region [⟨some 63, none, [], (.move (.t 11))⟩, ⟨some 64, none, [], (.move (.t 9))⟩, ⟨some 65, none, [], (.lenSl (.t 64))⟩, ⟨some 66, none, [], (.bin .lss (.t 63) (.t 65))⟩] false)
 (.cond (.t 66) .skip (.exit 0)))
 (.seq (.block 1 (.seq (.region [⟨some 69, none, [], (.move (.t 10))⟩, ⟨some 70, none, [], (.move (.t 11))⟩, ⟨some 71, none, [], (.idxSl 1 (.t 69) (.t 70))⟩, ⟨some 72, none, [], (.load false 1 (.t 71))⟩, ⟨some 73, none, [], (.bin .eql (.t 72) (.c (.int .u8 0)))⟩, ⟨some 74, none, [], (.move (.t 73))⟩, ⟨some 75, some (74, false), [], (.move (.t 11))⟩, ⟨some 76, some (74, false), [], (.bin .gtr (.t 75) (.c (.int .i64 0)))⟩, ⟨some 77, some (74, false), [], (.move (.t 76))⟩, ⟨some 78, some (77, true), [], (.move (.t 9))⟩, ⟨some 79, some (77, true), [], (.move (.t 11))⟩, ⟨some 80, some (77, true), [], (.idxSl 1 (.t 78) (.t 79))⟩, ⟨some 81, some (77, true), [], (.load false 1 (.t 80))⟩, ⟨some 82, some (77, true), [], (.move (.t 9))⟩, ⟨some 83, some (77, true), [], (.move (.t 11))⟩, ⟨some 84, some (77, true), [], (.bin .sub (.t 83) (.c (.int .i64 1)))⟩, ⟨some 85, some (77, true), [], (.idxSl 1 (.t 82) (.t 84))⟩, ⟨some 86, some (77, true), [], (.load false 1 (.t 85))⟩, ⟨some 87, some (77, true), [], (.bin .leq (.t 81) (.t 86))⟩, ⟨some 88, some (74, false), [], (.pick (.t 77) (.t 87) (.c (.bool false)))⟩, ⟨some 89, none, [], (.pick (.t 74) (.c (.bool true)) (.t 88))⟩, ⟨some 90, none, [], (.move (.t 89))⟩, ⟨some 91, some (90, false), [], (.move (.t 8))⟩, ⟨some 92, some (90, false), [], (.move (.t 9))⟩, ⟨some 93, some (90, false), [], (.move (.t 11))⟩, ⟨some 94, some (90, false), [], (.idxSl 1 (.t 92) (.t 93))⟩, ⟨some 95, some (90, false), [], (.load false 1 (.t 94))⟩, ⟨some 96, some (90, false), [], (.move (.t 10))⟩, ⟨some 97, some (90, false), [], (.move (.t 11))⟩, ⟨some 98, some (90, false), [], (.idxSl 1 (.t 96) (.t 97))⟩, ⟨some 99, some (90, false), [], (.load false 1 (.t 98))⟩, ⟨some 100, some (90, false), [], (.call 21 [(.t 91), (.t 95), (.t 99)])⟩, ⟨some 101, some (90, false), [], (.bin .neq (.t 100) (.c (.int .i64 0)))⟩, ⟨some 102, none, [], (.pick (.t 90) (.c (.bool true)) (.t 101))⟩] true)
 (.cond (.t 102) (.seq (.region [⟨some 4, none, [], (.move (.c (.bool false)))⟩] false)
 .ret) .skip)))
 (.region [⟨some 67, none, [], (.move (.t 11))⟩, ⟨some 68, none, [], (.bin .add (.t 67) (.c (.int .i64 1)))⟩, ⟨some 11, none, [], (.move (.t 68))⟩] false))))) [.block 0, .seq (.seq (.region [⟨some 103, none, [], (.move (.t 9))⟩, ⟨some 104, none, [], (.lenSl (.t 103))⟩, ⟨some 105, none, [], (.move (.t 10))⟩, ⟨some 106, none, [], (.lenSl (.t 105))⟩, ⟨some 107, none, [], (.bin .eql (.t 104) (.t 106))⟩, ⟨some 108, none, [], (.move (.t 107))⟩, ⟨some 109, some (108, true), [], (.move (.t 6))⟩, ⟨some 110, some (108, true), [], (.move (.t 8))⟩, ⟨some 111, some (108, true), [], (.call 32 [(.t 109), (.t 110)])⟩, ⟨some 112, none, [], (.pick (.t 108) (.t 111) (.c (.bool false)))⟩, ⟨some 113, none, [], (.move (.t 112))⟩, ⟨some 114, some (113, true), [], (.call 19 [])⟩, ⟨some 115, none, [], (.pick (.t 113) (.t 114) (.c (.bool false)))⟩, ⟨some 4, none, [], (.move (.t 115))⟩] false)
 .ret)] e s := by
  have hlen := hM.len
  have hsl := skeys_len L
  intro m
  induction m with
  | zero =>
    intro i e s D cd hm hD hcd hg hO h6 h8 h9 h10 h11
    have hin : i = L.length := by omega
    subst hin
    rw [List.take_of_length_le (by omega)] at hg
    have hg' : ∀ k, mget D k = mget L k := by
      intro k
      rw [hg]
      split
      · rfl
      · rename_i hk
        by_cases h0 : mget L k = 0
        · exact h0.symm
        · exact absurd (skeys_mem.2 ((mget_pos hM k).2 h0)) hk
    have hK := fun e => K e s D cd hD hcd hg' hO
    rw [go_loop]
    generalize ([.seq (.seq (.region [⟨some 103, none, [], (.move (.t 9))⟩, ⟨some 104, none, [], (.lenSl (.t 103))⟩, ⟨some 105, none, [], (.move (.t 10))⟩, ⟨some 106, none, [], (.lenSl (.t 105))⟩, ⟨some 107, none, [], (.bin .eql (.t 104) (.t 106))⟩, ⟨some 108, none, [], (.move (.t 107))⟩, ⟨some 109, some (108, true), [], (.move (.t 6))⟩, ⟨some 110, some (108, true), [], (.move (.t 8))⟩, ⟨some 111, some (108, true), [], (.call 32 [(.t 109), (.t 110)])⟩, ⟨some 112, none, [], (.pick (.t 108) (.t 111) (.c (.bool false)))⟩, ⟨some 113, none, [], (.move (.t 112))⟩, ⟨some 114, some (113, true), [], (.call 19 [])⟩, ⟨some 115, none, [], (.pick (.t 113) (.t 114) (.c (.bool false)))⟩, ⟨some 4, none, [], (.move (.t 115))⟩] false)
 .ret)] : List Fr) = FF at *
    rcases hx.len with ⟨hz, a, rfl⟩ | ⟨rfl, hl0⟩
    · simp only [h9, h11, wk, wk1, wk2, Option.some.injEq, exists_eq_left', decide_true, decide_false, Nat.reduceAdd, Nat.reduceEqDiff, Nat.reduceLeDiff, Nat.reduceLT, Nat.reduceMul, Nat.reduceBEq, Int.reduceLT, Int.reduceLE, Int.reduceEq, Int.reduceAdd, Int.reduceSub, Int.reduceMul, Int.reduceMod, Int.reduceTMod, Int.reduceTDiv, Int.reduceNeg, Nat.reduceSub, Nat.reduceDiv, reduceIte, reduceCtorEq]
      refine hK _ ?_ ?_ ?_ ?_ <;> simp only [h6, h8, h9, h10, wk, wk1, Nat.reduceEqDiff, reduceIte, decide_true]
    · simp only [h9, h11, hl0, wk, wk1, wk2, Option.some.injEq, exists_eq_left', decide_true, decide_false, Nat.reduceAdd, Nat.reduceEqDiff, Nat.reduceLeDiff, Nat.reduceLT, Nat.reduceMul, Nat.reduceBEq, Int.reduceLT, Int.reduceLE, Int.reduceEq, Int.reduceAdd, Int.reduceSub, Int.reduceMul, Int.reduceMod, Int.reduceTMod, Int.reduceTDiv, Int.reduceNeg, Nat.reduceSub, Nat.reduceDiv, reduceIte, reduceCtorEq]
      refine hK _ ?_ ?_ ?_ ?_ <;> simp only [h6, h8, h9, h10, wk, wk1, Nat.reduceEqDiff, reduceIte, decide_true]
  | succ m ih =>
    intro i e s D cd hm hD hcd hg hO h6 h8 h9 h10 h11
    have hi : i < L.length := by omega
    have hx2 := hx.only hrb hO
    have hy2 := hy.only hrb hO
    obtain ⟨_, ⟨hn0, _⟩ | ⟨hn0, id, inc, rfl, _, _, hrow⟩⟩ := hx2
    · omega
    obtain ⟨_, ⟨hn0, _⟩ | ⟨hn0, id2, inc2, rfl, _, _, hrow2⟩⟩ := hy2
    · omega
    obtain ⟨u, hu⟩ : ∃ x, (skeys L)[i]? = some x := ⟨_, List.getElem?_eq_getElem (by omega)⟩
    have hld : List.take 1 (List.drop i (kcells L)) = [.int .u32 (u : Int)] := take_map _ i u hu
    have hld2 : List.take 1 (List.drop i (bcells L)) = [.int .u8 (mget L u : Int)] := take_map (f := fun k : Nat => AV.int .u8 (mget L k : Int)) _ i u hu
    have hum : u ∈ skeys L := List.mem_of_getElem? hu
    have hu0 : mget L u ≠ 0 := (mget_pos hM u).1 (skeys_mem.1 hum)
    have hu0' : ((mget L u : Int) = 0) = False := eq_false (by omega)
    have huk : u < 4294967296 := by
      obtain ⟨z, hz, rfl⟩ := List.mem_map.1 (skeys_mem.1 hum)
      exact (hM.val z hz).1
    have hub := mget_lt hM u
    have hc : (i : Int) < (L.length : Int) := by omega
    have hi1 : i + 1 ≤ L.length := hi
    have u5 : wrapF .i64 ((i : Int) + 1) = ((i + 1 : Nat) : Int) := i64_add1 (by omega)
    have hg2 : ∀ k, mget (mput D cd u (mget L u)).1 k = if k ∈ (skeys L).take (i + 1) then mget L k else 0 := by
      intro k
      rw [mput_get hD.ok, List.take_add_one, hu, hg]
      by_cases hk : k = u
      · subst hk; simp
      · simp [hk]
    have hcd2 := mput_clk D cd u (mget L u)
    have fin : ∀ (e' : Env) (s' : St), s' = s.put rd (.map (ments (mput D cd u (mget L u)).1) (mput D cd u (mget L u)).2) → opd e' (.t 6) = mptr pc → opd e' (.t 8) = mptr pd → opd e' (.t 9) = .slice ⟨id, 0, inc, L.length * 1⟩ L.length L.length false 1 → opd e' (.t 10) = .slice ⟨id2, 0, inc2, L.length * 1⟩ L.length L.length false 1 → opd e' (.t 11) = .int .i64 ((i + 1 : Nat) : Int) → Go T Q ((.loop (.seq (.seq (.region [⟨some 63, none, [], (.move (.t 11))⟩, ⟨some 64, none, [], (.move (.t 9))⟩, ⟨some 65, none, [], (.lenSl (.t 64))⟩, ⟨some 66, none, [], (.bin .lss (.t 63) (.t 65))⟩] false)
 (.cond (.t 66) .skip (.exit 0)))
 (.seq (.block 1 (.seq (.region [⟨some 69, none, [], (.move (.t 10))⟩, ⟨some 70, none, [], (.move (.t 11))⟩, ⟨some 71, none, [], (.idxSl 1 (.t 69) (.t 70))⟩, ⟨some 72, none, [], (.load false 1 (.t 71))⟩, ⟨some 73, none, [], (.bin .eql (.t 72) (.c (.int .u8 0)))⟩, ⟨some 74, none, [], (.move (.t 73))⟩, ⟨some 75, some (74, false), [], (.move (.t 11))⟩, ⟨some 76, some (74, false), [], (.bin .gtr (.t 75) (.c (.int .i64 0)))⟩, ⟨some 77, some (74, false), [], (.move (.t 76))⟩, ⟨some 78, some (77, true), [], (.move (.t 9))⟩, ⟨some 79, some (77, true), [], (.move (.t 11))⟩, ⟨some 80, some (77, true), [], (.idxSl 1 (.t 78) (.t 79))⟩, ⟨some 81, some (77, true), [], (.load false 1 (.t 80))⟩, ⟨some 82, some (77, true), [], (.move (.t 9))⟩, ⟨some 83, some (77, true), [], (.move (.t 11))⟩, ⟨some 84, some (77, true), [], (.bin .sub (.t 83) (.c (.int .i64 1)))⟩, ⟨some 85, some (77, true), [], (.idxSl 1 (.t 82) (.t 84))⟩, ⟨some 86, some (77, true), [], (.load false 1 (.t 85))⟩, ⟨some 87, some (77, true), [], (.bin .leq (.t 81) (.t 86))⟩, ⟨some 88, some (74, false), [], (.pick (.t 77) (.t 87) (.c (.bool false)))⟩, ⟨some 89, none, [], (.pick (.t 74) (.c (.bool true)) (.t 88))⟩, ⟨some 90, none, [], (.move (.t 89))⟩, ⟨some 91, some (90, false), [], (.move (.t 8))⟩, ⟨some 92, some (90, false), [], (.move (.t 9))⟩, ⟨some 93, some (90, false), [], (.move (.t 11))⟩, ⟨some 94, some (90, false), [], (.idxSl 1 (.t 92) (.t 93))⟩, ⟨some 95, some (90, false), [], (.load false 1 (.t 94))⟩, ⟨some 96, some (90, false), [], (.move (.t 10))⟩, ⟨some 97, some (90, false), [], (.move (.t 11))⟩, ⟨some 98, some (90, false), [], (.idxSl 1 (.t 96) (.t 97))⟩, ⟨some 99, some (90, false), [], (.load false 1 (.t 98))⟩, ⟨some 100, some (90, false), [], (.call 21 [(.t 91), (.t 95), (.t 99)])⟩, ⟨some 101, some (90, false), [], (.bin .neq (.t 100) (.c (.int .i64 0)))⟩, ⟨some 102, none, [], (.pick (.t 90) (.c (.bool true)) (.t 101))⟩] true)
 (.cond (.t 102) (.seq (.region [⟨some 4, none, [], (.move (.c (.bool false)))⟩] false)
 .ret) .skip)))
 (.region [⟨some 67, none, [], (.move (.t 11))⟩, ⟨some 68, none, [], (.bin .add (.t 67) (.c (.int .i64 1)))⟩, ⟨some 11, none, [], (.move (.t 68))⟩] false))))) [.block 0, .seq (.seq (.region [⟨some 103, none, [], (.move (.t 9))⟩, ⟨some 104, none, [], (.lenSl (.t 103))⟩, ⟨some 105, none, [], (.move (.t 10))⟩, ⟨some 106, none, [], (.lenSl (.t 105))⟩, ⟨some 107, none, [], (.bin .eql (.t 104) (.t 106))⟩, ⟨some 108, none, [], (.move (.t 107))⟩, ⟨some 109, some (108, true), [], (.move (.t 6))⟩, ⟨some 110, some (108, true), [], (.move (.t 8))⟩, ⟨some 111, some (108, true), [], (.call 32 [(.t 109), (.t 110)])⟩, ⟨some 112, none, [], (.pick (.t 108) (.t 111) (.c (.bool false)))⟩, ⟨some 113, none, [], (.move (.t 112))⟩, ⟨some 114, some (113, true), [], (.call 19 [])⟩, ⟨some 115, none, [], (.pick (.t 113) (.t 114) (.c (.bool false)))⟩, ⟨some 4, none, [], (.move (.t 115))⟩] false)
 .ret)] e' s' := by
      rintro e' s' rfl a6 a8 a9 a10 a11
      exact ih (i + 1) e' _ _ _ (by omega) (hD.put huk hub) (by omega) hg2 (hO.trans (Only.put hD.wfs hD.lt2 _)) a6 a8 a9 a10 a11
    rw [go_loop]
    cases i with
    | zero =>
      have hc0 : (0 : Int) < (L.length : Int) := by omega
      have hi0 : 1 ≤ L.length := by omega
      have hld' := hld
      have hld2' := hld2
      rw [List.drop_zero] at hld' hld2'
      have h11' : opd e (.t 11) = .int .i64 0 := h11
      simp only [h6, h8, h9, h10, h11', hc0, hi, hi0, hrow, hrow2, hld', hld2', hu0', Nat.mul_one, wk, wk1, wk2, Option.some.injEq, exists_eq_left', decide_true, decide_false, Nat.reduceAdd, Nat.reduceEqDiff, Nat.reduceLeDiff, Nat.reduceLT, Nat.reduceMul, Nat.reduceBEq, Int.reduceLT, Int.reduceLE, Int.reduceEq, Int.reduceAdd, Int.reduceSub, Int.reduceMul, Int.reduceMod, Int.reduceTMod, Int.reduceTDiv, Int.reduceNeg, Nat.reduceSub, Nat.reduceDiv, reduceIte, reduceCtorEq]
      refine goCall_by (Put_ran hT.Put hT.put hD u (mget L u)) ?_
      rintro _ s2 ⟨rfl, hs2⟩
      simp only [h6, h8, h9, h10, h11', wk, wk1, wk2, Option.some.injEq, exists_eq_left', decide_true, decide_false, Nat.reduceAdd, Nat.reduceEqDiff, Nat.reduceLeDiff, Nat.reduceLT, Nat.reduceMul, Nat.reduceBEq, Int.reduceLT, Int.reduceLE, Int.reduceEq, Int.reduceAdd, Int.reduceSub, Int.reduceMul, Int.reduceMod, Int.reduceTMod, Int.reduceTDiv, Int.reduceNeg, Nat.reduceSub, Nat.reduceDiv, reduceIte, reduceCtorEq]
      refine fin _ s2 hs2 ?_ ?_ ?_ ?_ ?_ <;> simp only [h6, h8, h9, h10, h11', Nat.mul_one, wk, wk1, Nat.reduceEqDiff, reduceIte, decide_true]
    | succ j =>
      obtain ⟨q, hq⟩ : ∃ x, (skeys L)[j]? = some x := ⟨_, List.getElem?_eq_getElem (by omega)⟩
      have hld3 : List.take 1 (List.drop j (kcells L)) = [.int .u32 (q : Int)] := take_map _ j q hq
      have hqu : q < u := by
        have h1 : j < (skeys L).length := by omega
        have h2 : j + 1 < (skeys L).length := by omega
        rw [List.getElem?_eq_getElem h1] at hq
        rw [List.getElem?_eq_getElem h2] at hu
        have := List.pairwise_iff_getElem.1 (skeys_sorted hM) j (j + 1) h1 h2 (by omega)
        rw [← Option.some.inj hq, ← Option.some.inj hu]; exact this
      have hqu' : ¬ (u : Int) ≤ (q : Int) := by omega
      have hj0 : (0 : Int) < ((j + 1 : Nat) : Int) := by omega
      have u6 : wrapF .i64 (((j + 1 : Nat) : Int) - 1) = (j : Int) := by rw [wrap_i64 _ (by omega) (by omega)]; omega
      have hj1 : j + 1 ≤ L.length := by omega
      have hj2 : j < L.length := by omega
      generalize hjj : j + 1 = i at *
      simp only [h6, h8, h9, h10, h11, hc, hi, hi1, hj1, hj2, hrow, hrow2, hld, hld2, hld3, hu0', hqu', hj0, u6, Nat.mul_one, wk, wk1, wk2, Option.some.injEq, exists_eq_left', decide_true, decide_false, Nat.reduceAdd, Nat.reduceEqDiff, Nat.reduceLeDiff, Nat.reduceLT, Nat.reduceMul, Nat.reduceBEq, Int.reduceLT, Int.reduceLE, Int.reduceEq, Int.reduceAdd, Int.reduceSub, Int.reduceMul, Int.reduceMod, Int.reduceTMod, Int.reduceTDiv, Int.reduceNeg, Nat.reduceSub, Nat.reduceDiv, reduceIte, reduceCtorEq]
      simp only [h6, h8, h9, h10, h11, hc, hi, hi1, hj1, hj2, hrow, hrow2, hld, hld2, hld3, hu0', hqu', hj0, u6, hjj, Nat.mul_one, wk, wk1, wk2, Option.some.injEq, exists_eq_left', decide_true, decide_false, Nat.reduceAdd, Nat.reduceEqDiff, Nat.reduceLeDiff, Nat.reduceLT, Nat.reduceMul, Nat.reduceBEq, Int.reduceLT, Int.reduceLE, Int.reduceEq, Int.reduceAdd, Int.reduceSub, Int.reduceMul, Int.reduceMod, Int.reduceTMod, Int.reduceTDiv, Int.reduceNeg, Nat.reduceSub, Nat.reduceDiv, reduceIte, reduceCtorEq]
      refine goCall_by (Put_ran hT.Put hT.put hD u (mget L u)) ?_
      rintro _ s2 ⟨rfl, hs2⟩
      simp only [h6, h8, h9, h10, h11, u5, wk, wk1, wk2, Option.some.injEq, exists_eq_left', decide_true, decide_false, Nat.reduceAdd, Nat.reduceEqDiff, Nat.reduceLeDiff, Nat.reduceLT, Nat.reduceMul, Nat.reduceBEq, Int.reduceLT, Int.reduceLE, Int.reduceEq, Int.reduceAdd, Int.reduceSub, Int.reduceMul, Int.reduceMod, Int.reduceTMod, Int.reduceTDiv, Int.reduceNeg, Nat.reduceSub, Nat.reduceDiv, reduceIte, reduceCtorEq]
      refine fin _ s2 hs2 ?_ ?_ ?_ ?_ ?_ <;> simp only [h6, h8, h9, h10, h11, u5, Nat.mul_one, wk, wk1, Nat.reduceEqDiff, reduceIte, decide_true]
set_option maxHeartbeats 8000000 in
theorem own_ran (hc : T 6 = some (.code ir6)) (hT : DoTab T) (hP : PartsTab T) (hR : T 28 = some (.code ir28)) {s : St} {x x' : AV} {l l' : List Act} (hs : WFS s) (hx : Acts s.next s x l) (hx' : Acts s.next s x' l') :
    Ran T 6 [x, x'] s fun r _ => r = .bool true := by
  refine ran_code hc (Nat.le_of_ble_eq_true rfl) ?_
  generalize hQ : Fin _ _ = Q
  simp only [ir6, wk, wk1, wk2, Option.some.injEq, exists_eq_left', decide_true, decide_false, Nat.reduceAdd, Nat.reduceEqDiff, Nat.reduceLeDiff, Nat.reduceLT, Nat.reduceMul, Nat.reduceBEq, Int.reduceLT, Int.reduceLE, Int.reduceEq, Int.reduceAdd, Int.reduceSub, Int.reduceMul, Int.reduceMod, Int.reduceTMod, Int.reduceTDiv, Int.reduceNeg, Nat.reduceSub, Nat.reduceDiv, reduceIte, reduceCtorEq]
  refine goCall_by (great_ran hT.great hx) ?_
  rintro _ _ ⟨rfl, rfl⟩
  cases hg : great l with
  | true =>
    simp only [wk, wk1, wk2, Option.some.injEq, exists_eq_left', decide_true, decide_false, Nat.reduceAdd, Nat.reduceEqDiff, Nat.reduceLeDiff, Nat.reduceLT, Nat.reduceMul, Nat.reduceBEq, Int.reduceLT, Int.reduceLE, Int.reduceEq, Int.reduceAdd, Int.reduceSub, Int.reduceMul, Int.reduceMod, Int.reduceTMod, Int.reduceTDiv, Int.reduceNeg, Nat.reduceSub, Nat.reduceDiv, reduceIte, reduceCtorEq]
    refine goCall_by (awake_ran hT hs) ?_
    rintro _ s1 ⟨rfl, _⟩
    subst hQ
    simp only [ir6, wk, wk1, wk2, Option.some.injEq, exists_eq_left', decide_true, decide_false, Nat.reduceAdd, Nat.reduceEqDiff, Nat.reduceLeDiff, Nat.reduceLT, Nat.reduceMul, Nat.reduceBEq, Int.reduceLT, Int.reduceLE, Int.reduceEq, Int.reduceAdd, Int.reduceSub, Int.reduceMul, Int.reduceMod, Int.reduceTMod, Int.reduceTDiv, Int.reduceNeg, Nat.reduceSub, Nat.reduceDiv, reduceIte, reduceCtorEq]
  | false =>
    simp only [wk, wk1, wk2, Option.some.injEq, exists_eq_left', decide_true, decide_false, Nat.reduceAdd, Nat.reduceEqDiff, Nat.reduceLeDiff, Nat.reduceLT, Nat.reduceMul, Nat.reduceBEq, Int.reduceLT, Int.reduceLE, Int.reduceEq, Int.reduceAdd, Int.reduceSub, Int.reduceMul, Int.reduceMod, Int.reduceTMod, Int.reduceTDiv, Int.reduceNeg, Nat.reduceSub, Nat.reduceDiv, reduceIte, reduceCtorEq]
    refine goCall_by (great_ran hT.great hx') ?_
    rintro _ _ ⟨rfl, rfl⟩
    cases hg' : great l' with
    | true =>
      simp only [wk, wk1, wk2, Option.some.injEq, exists_eq_left', decide_true, decide_false, Nat.reduceAdd, Nat.reduceEqDiff, Nat.reduceLeDiff, Nat.reduceLT, Nat.reduceMul, Nat.reduceBEq, Int.reduceLT, Int.reduceLE, Int.reduceEq, Int.reduceAdd, Int.reduceSub, Int.reduceMul, Int.reduceMod, Int.reduceTMod, Int.reduceTDiv, Int.reduceNeg, Nat.reduceSub, Nat.reduceDiv, reduceIte, reduceCtorEq]
      refine goCall_by (awake_ran hT hs) ?_
      rintro _ s1 ⟨rfl, _⟩
      subst hQ
      simp only [ir6, wk, wk1, wk2, Option.some.injEq, exists_eq_left', decide_true, decide_false, Nat.reduceAdd, Nat.reduceEqDiff, Nat.reduceLeDiff, Nat.reduceLT, Nat.reduceMul, Nat.reduceBEq, Int.reduceLT, Int.reduceLE, Int.reduceEq, Int.reduceAdd, Int.reduceSub, Int.reduceMul, Int.reduceMod, Int.reduceTMod, Int.reduceTDiv, Int.reduceNeg, Nat.reduceSub, Nat.reduceDiv, reduceIte, reduceCtorEq]
    | false =>
      simp only [great, Bool.or_eq_false_iff, decide_eq_false_iff_not] at hg hg'
      obtain ⟨hl, hb⟩ := hg
      obtain ⟨hl', hb'⟩ := hg'
      have hb : ∀ a ∈ l, a.b.length ≤ 60 := fun a ha => by
        have := List.any_eq_false.1 hb a ha
        simpa using this
      have hb' : ∀ a ∈ l', a.b.length ≤ 60 := fun a ha => by
        have := List.any_eq_false.1 hb' a ha
        simpa using this
      simp only [wk, wk1, wk2, Option.some.injEq, exists_eq_left', decide_true, decide_false, Nat.reduceAdd, Nat.reduceEqDiff, Nat.reduceLeDiff, Nat.reduceLT, Nat.reduceMul, Nat.reduceBEq, Int.reduceLT, Int.reduceLE, Int.reduceEq, Int.reduceAdd, Int.reduceSub, Int.reduceMul, Int.reduceMod, Int.reduceTMod, Int.reduceTDiv, Int.reduceNeg, Nat.reduceSub, Nat.reduceDiv, reduceIte, reduceCtorEq]
      refine goCall_by (new_ran hT.new _ hs) ?_
      rintro _ s1 ⟨pm, r, rfl, hpm, hr, hM, hE⟩
      simp only [eqV, nilEq, wk, wk1, wk2, Option.some.injEq, exists_eq_left', decide_true, decide_false, Nat.reduceAdd, Nat.reduceEqDiff, Nat.reduceLeDiff, Nat.reduceLT, Nat.reduceMul, Nat.reduceBEq, Int.reduceLT, Int.reduceLE, Int.reduceEq, Int.reduceAdd, Int.reduceSub, Int.reduceMul, Int.reduceMod, Int.reduceTMod, Int.reduceTDiv, Int.reduceNeg, Nat.reduceSub, Nat.reduceDiv, reduceIte, reduceCtorEq]
      refine goCall_by (done_ran hT hM (by omega) hb (hx.ext hE) hr) ?_
      rintro _ s2 ⟨L, c, hM2, hcl, hO⟩
      have hc2 : c ≤ 3600 := by omega
      simp only [wk, wk1, wk2, Option.some.injEq, exists_eq_left', decide_true, decide_false, Nat.reduceAdd, Nat.reduceEqDiff, Nat.reduceLeDiff, Nat.reduceLT, Nat.reduceMul, Nat.reduceBEq, Int.reduceLT, Int.reduceLE, Int.reduceEq, Int.reduceAdd, Int.reduceSub, Int.reduceMul, Int.reduceMod, Int.reduceTMod, Int.reduceTDiv, Int.reduceNeg, Nat.reduceSub, Nat.reduceDiv, reduceIte, reduceCtorEq]
      refine goCall_by (copy_ran hP hM2) ?_
      rintro _ s3 ⟨pc, rc, rfl, hpc, hrc, hC3, hE3⟩
      have hM3 := hM2.ext hE3
      have n1 : pm ≠ rc := by have := hM2.lt1; omega
      have n2 : r ≠ rc := by have := hM2.lt2; omega
      simp only [wk, wk1, wk2, Option.some.injEq, exists_eq_left', decide_true, decide_false, Nat.reduceAdd, Nat.reduceEqDiff, Nat.reduceLeDiff, Nat.reduceLT, Nat.reduceMul, Nat.reduceBEq, Int.reduceLT, Int.reduceLE, Int.reduceEq, Int.reduceAdd, Int.reduceSub, Int.reduceMul, Int.reduceMod, Int.reduceTMod, Int.reduceTDiv, Int.reduceNeg, Nat.reduceSub, Nat.reduceDiv, reduceIte, reduceCtorEq]
      refine goCall_by (cells_ran hP hM3 (by omega)) ?_
      rintro was s4 ⟨hE4, hw4⟩
      have hM4 := hM3.ext hE4
      have hC4 := hC3.ext hE4
      simp only [wk, wk1, wk2, Option.some.injEq, exists_eq_left', decide_true, decide_false, Nat.reduceAdd, Nat.reduceEqDiff, Nat.reduceLeDiff, Nat.reduceLT, Nat.reduceMul, Nat.reduceBEq, Int.reduceLT, Int.reduceLE, Int.reduceEq, Int.reduceAdd, Int.reduceSub, Int.reduceMul, Int.reduceMod, Int.reduceTMod, Int.reduceTDiv, Int.reduceNeg, Nat.reduceSub, Nat.reduceDiv, reduceIte, reduceCtorEq]
      refine goCall_by (same_ran hP hM4 hC4 (by omega) (by omega)) ?_
      rintro _ s5 ⟨hE5, rfl⟩
      simp only [wk, wk1, wk2, Option.some.injEq, exists_eq_left', decide_true, decide_false, Nat.reduceAdd, Nat.reduceEqDiff, Nat.reduceLeDiff, Nat.reduceLT, Nat.reduceMul, Nat.reduceBEq, Int.reduceLT, Int.reduceLE, Int.reduceEq, Int.reduceAdd, Int.reduceSub, Int.reduceMul, Int.reduceMod, Int.reduceTMod, Int.reduceTDiv, Int.reduceNeg, Nat.reduceSub, Nat.reduceDiv, reduceIte, reduceCtorEq]
      refine goCall_by (same_ran hP (hC4.ext hE5) (hM4.ext hE5) (by omega) (by omega)) ?_
      rintro _ s6 ⟨hE6, rfl⟩
      have hE46 := hE5.trans hE6
      have hM6 := hM4.ext hE46
      have hC6 := hC4.ext hE46
      have hw6 := hw4.ext hE46
      simp only [wk, wk1, wk2, Option.some.injEq, exists_eq_left', decide_true, decide_false, Nat.reduceAdd, Nat.reduceEqDiff, Nat.reduceLeDiff, Nat.reduceLT, Nat.reduceMul, Nat.reduceBEq, Int.reduceLT, Int.reduceLE, Int.reduceEq, Int.reduceAdd, Int.reduceSub, Int.reduceMul, Int.reduceMod, Int.reduceTMod, Int.reduceTDiv, Int.reduceNeg, Nat.reduceSub, Nat.reduceDiv, reduceIte, reduceCtorEq]
      have hx6 : Acts _ s6 x' l' := (((hx'.ext hE).only hr hO).ext (hE3.trans (hE4.trans hE46)))
      refine goCall_by (done_ran hT hC6 (by omega) hb' hx6 (Nat.le_trans hE.2.1 (Nat.le_trans hO.next hrc))) ?_
      rintro _ s7 ⟨C, d, hC7, hd, hO7⟩
      have hd2 : d ≤ 7200 := by omega
      have hM7 := hM6.only hO7 n1 n2
      have hw7 := hw6.only hC3.lt2 hO7
      simp only [wk, wk1, wk2, Option.some.injEq, exists_eq_left', decide_true, decide_false, Nat.reduceAdd, Nat.reduceEqDiff, Nat.reduceLeDiff, Nat.reduceLT, Nat.reduceMul, Nat.reduceBEq, Int.reduceLT, Int.reduceLE, Int.reduceEq, Int.reduceAdd, Int.reduceSub, Int.reduceMul, Int.reduceMod, Int.reduceTMod, Int.reduceTDiv, Int.reduceNeg, Nat.reduceSub, Nat.reduceDiv, reduceIte, reduceCtorEq]
      refine goCall_by (cells_ran hP hM7 (by omega)) ?_
      rintro now s8 ⟨hE8, hw8⟩
      have hpl := pairs_len L
      have hpc2 := pairs_len C
      have hlL := hM2.ok.len
      have hlC := hC7.ok.len
      simp only [wk, wk1, wk2, Option.some.injEq, exists_eq_left', decide_true, decide_false, Nat.reduceAdd, Nat.reduceEqDiff, Nat.reduceLeDiff, Nat.reduceLT, Nat.reduceMul, Nat.reduceBEq, Int.reduceLT, Int.reduceLE, Int.reduceEq, Int.reduceAdd, Int.reduceSub, Int.reduceMul, Int.reduceMod, Int.reduceTMod, Int.reduceTDiv, Int.reduceNeg, Nat.reduceSub, Nat.reduceDiv, reduceIte, reduceCtorEq]
      refine goCall_by (rsame_ran hR (hw8.lenEq hpl.symm) ((hw7.ext hE8).lenEq hpl.symm) (by omega) (by omega)) ?_
      rintro _ _ ⟨rfl, rfl⟩
      have hM8 := hM7.ext hE8
      have hC8 := hC7.ext hE8
      simp only [wk, wk1, wk2, Option.some.injEq, exists_eq_left', decide_true, decide_false, Nat.reduceAdd, Nat.reduceEqDiff, Nat.reduceLeDiff, Nat.reduceLT, Nat.reduceMul, Nat.reduceBEq, Int.reduceLT, Int.reduceLE, Int.reduceEq, Int.reduceAdd, Int.reduceSub, Int.reduceMul, Int.reduceMod, Int.reduceTMod, Int.reduceTDiv, Int.reduceNeg, Nat.reduceSub, Nat.reduceDiv, reduceIte, reduceCtorEq]
      refine goCall_by (same_ran hP hM8 hC8 (by omega) (by omega)) ?_
      rintro _ s9 ⟨hE9, rfl⟩
      have hC9 := hC8.ext hE9
      simp only [wk, wk1, wk2, Option.some.injEq, exists_eq_left', decide_true, decide_false, Nat.reduceAdd, Nat.reduceEqDiff, Nat.reduceLeDiff, Nat.reduceLT, Nat.reduceMul, Nat.reduceBEq, Int.reduceLT, Int.reduceLE, Int.reduceEq, Int.reduceAdd, Int.reduceSub, Int.reduceMul, Int.reduceMod, Int.reduceTMod, Int.reduceTDiv, Int.reduceNeg, Nat.reduceSub, Nat.reduceDiv, reduceIte, reduceCtorEq]
      refine goCall_by (cells_ran hP hC9 (by omega)) ?_
      rintro cc s10 ⟨hE10, hw10⟩
      simp only [wk, wk1, wk2, Option.some.injEq, exists_eq_left', decide_true, decide_false, Nat.reduceAdd, Nat.reduceEqDiff, Nat.reduceLeDiff, Nat.reduceLT, Nat.reduceMul, Nat.reduceBEq, Int.reduceLT, Int.reduceLE, Int.reduceEq, Int.reduceAdd, Int.reduceSub, Int.reduceMul, Int.reduceMod, Int.reduceTMod, Int.reduceTDiv, Int.reduceNeg, Nat.reduceSub, Nat.reduceDiv, reduceIte, reduceCtorEq]
      refine goCall_by (rsame_ran hR (hw10.lenEq hpc2.symm) ((hw7.ext (hE8.trans (hE9.trans hE10))).lenEq hpl.symm) (by omega) (by omega)) ?_
      rintro _ _ ⟨rfl, rfl⟩
      have hsym : decide (pairs C = pairs L) = decide (pairs L = pairs C) := by rw [decide_eq_decide]; exact ⟨Eq.symm, Eq.symm⟩
      have hC10 := hC9.ext hE10
      simp only [hsym, eq_bool3, beq_self_eq_true, wk, wk1, wk2, Option.some.injEq, exists_eq_left', decide_true, decide_false, Nat.reduceAdd, Nat.reduceEqDiff, Nat.reduceLeDiff, Nat.reduceLT, Nat.reduceMul, Nat.reduceBEq, Int.reduceLT, Int.reduceLE, Int.reduceEq, Int.reduceAdd, Int.reduceSub, Int.reduceMul, Int.reduceMod, Int.reduceTMod, Int.reduceTDiv, Int.reduceNeg, Nat.reduceSub, Nat.reduceDiv, reduceIte, reduceCtorEq]
      refine goCall_by (new_ran hT.new _ hC10.wfs) ?_
      rintro _ s11 ⟨pd, rd, rfl, hpd, hrd, hD11, hE11⟩
      have hC11 := hC10.ext hE11
      simp only [wk, wk1, wk2, Option.some.injEq, exists_eq_left', decide_true, decide_false, Nat.reduceAdd, Nat.reduceEqDiff, Nat.reduceLeDiff, Nat.reduceLT, Nat.reduceMul, Nat.reduceBEq, Int.reduceLT, Int.reduceLE, Int.reduceEq, Int.reduceAdd, Int.reduceSub, Int.reduceMul, Int.reduceMod, Int.reduceTMod, Int.reduceTDiv, Int.reduceNeg, Nat.reduceSub, Nat.reduceDiv, reduceIte, reduceCtorEq]
      refine goCall_by (parts_ran hP.p hP.k hP.s hC11 (by omega)) ?_
      rintro _ s12 ⟨hE12, ax, bx, rfl, hax, hbx⟩
      have hD12 := hD11.ext hE12
      have hC12 := hC11.ext hE12
      have m1 : pc ≠ rd := by have := hC10.lt1; omega
      have m2 : rc ≠ rd := by have := hC10.lt2; omega
      simp only [wk, wk1, wk2, Option.some.injEq, exists_eq_left', decide_true, decide_false, Nat.reduceAdd, Nat.reduceEqDiff, Nat.reduceLeDiff, Nat.reduceLT, Nat.reduceMul, Nat.reduceBEq, Int.reduceLT, Int.reduceLE, Int.reduceEq, Int.reduceAdd, Int.reduceSub, Int.reduceMul, Int.reduceMod, Int.reduceTMod, Int.reduceTDiv, Int.reduceNeg, Nat.reduceSub, Nat.reduceDiv, reduceIte, reduceCtorEq]
      refine own_loop hT (pc := pc) hC12.ok (by omega) hD11.lt2 hax hbx ?_ C.length 0 _ s12 [] 0 (by omega) hD12 (by omega) (by simp [mget]) (Only.refl hD12.wfs) ?_ ?_ ?_ ?_ ?_
      · intro e s13 D cd hD13 hcd hg hO13 h6 h8 h9 h10
        have hC13 := hC12.only hO13 m1 m2
        have hpe : pairs C = pairs D := (pairs_iff hC13.ok hD13.ok).2 fun k => (hg k).symm
        rcases hax.len with ⟨hz, a1, rfl⟩ | ⟨rfl, hl0⟩ <;> rcases hbx.len with ⟨hz', b1, rfl⟩ | ⟨rfl, hl0'⟩
        · simp only [h6, h8, h9, h10, wk, wk1, wk2, Option.some.injEq, exists_eq_left', decide_true, decide_false, Nat.reduceAdd, Nat.reduceEqDiff, Nat.reduceLeDiff, Nat.reduceLT, Nat.reduceMul, Nat.reduceBEq, Int.reduceLT, Int.reduceLE, Int.reduceEq, Int.reduceAdd, Int.reduceSub, Int.reduceMul, Int.reduceMod, Int.reduceTMod, Int.reduceTDiv, Int.reduceNeg, Nat.reduceSub, Nat.reduceDiv, reduceIte, reduceCtorEq]
          refine goCall_by (same_ran hP hC13 hD13 (by omega) (by omega)) ?_
          rintro _ s14 ⟨hE14, rfl⟩
          simp only [hpe, wk, wk1, wk2, Option.some.injEq, exists_eq_left', decide_true, decide_false, Nat.reduceAdd, Nat.reduceEqDiff, Nat.reduceLeDiff, Nat.reduceLT, Nat.reduceMul, Nat.reduceBEq, Int.reduceLT, Int.reduceLE, Int.reduceEq, Int.reduceAdd, Int.reduceSub, Int.reduceMul, Int.reduceMod, Int.reduceTMod, Int.reduceTDiv, Int.reduceNeg, Nat.reduceSub, Nat.reduceDiv, reduceIte, reduceCtorEq]
          refine goCall_by (awake_ran hT hE14.1) ?_
          rintro _ s15 ⟨rfl, _⟩
          subst hQ
          simp only [ir6, wk, wk1, wk2, Option.some.injEq, exists_eq_left', decide_true, decide_false, Nat.reduceAdd, Nat.reduceEqDiff, Nat.reduceLeDiff, Nat.reduceLT, Nat.reduceMul, Nat.reduceBEq, Int.reduceLT, Int.reduceLE, Int.reduceEq, Int.reduceAdd, Int.reduceSub, Int.reduceMul, Int.reduceMod, Int.reduceTMod, Int.reduceTDiv, Int.reduceNeg, Nat.reduceSub, Nat.reduceDiv, reduceIte, reduceCtorEq]
        · omega
        · omega
        · simp only [h6, h8, h9, h10, wk, wk1, wk2, Option.some.injEq, exists_eq_left', decide_true, decide_false, Nat.reduceAdd, Nat.reduceEqDiff, Nat.reduceLeDiff, Nat.reduceLT, Nat.reduceMul, Nat.reduceBEq, Int.reduceLT, Int.reduceLE, Int.reduceEq, Int.reduceAdd, Int.reduceSub, Int.reduceMul, Int.reduceMod, Int.reduceTMod, Int.reduceTDiv, Int.reduceNeg, Nat.reduceSub, Nat.reduceDiv, reduceIte, reduceCtorEq]
          refine goCall_by (same_ran hP hC13 hD13 (by omega) (by omega)) ?_
          rintro _ s14 ⟨hE14, rfl⟩
          simp only [hpe, wk, wk1, wk2, Option.some.injEq, exists_eq_left', decide_true, decide_false, Nat.reduceAdd, Nat.reduceEqDiff, Nat.reduceLeDiff, Nat.reduceLT, Nat.reduceMul, Nat.reduceBEq, Int.reduceLT, Int.reduceLE, Int.reduceEq, Int.reduceAdd, Int.reduceSub, Int.reduceMul, Int.reduceMod, Int.reduceTMod, Int.reduceTDiv, Int.reduceNeg, Nat.reduceSub, Nat.reduceDiv, reduceIte, reduceCtorEq]
          refine goCall_by (awake_ran hT hE14.1) ?_
          rintro _ s15 ⟨rfl, _⟩
          subst hQ
          simp only [ir6, wk, wk1, wk2, Option.some.injEq, exists_eq_left', decide_true, decide_false, Nat.reduceAdd, Nat.reduceEqDiff, Nat.reduceLeDiff, Nat.reduceLT, Nat.reduceMul, Nat.reduceBEq, Int.reduceLT, Int.reduceLE, Int.reduceEq, Int.reduceAdd, Int.reduceSub, Int.reduceMul, Int.reduceMod, Int.reduceTMod, Int.reduceTDiv, Int.reduceNeg, Nat.reduceSub, Nat.reduceDiv, reduceIte, reduceCtorEq]
      all_goals (try simp only [wk, wk1, Nat.reduceEqDiff, reduceIte, decide_true])
      all_goals rfl
end
end Go.V
