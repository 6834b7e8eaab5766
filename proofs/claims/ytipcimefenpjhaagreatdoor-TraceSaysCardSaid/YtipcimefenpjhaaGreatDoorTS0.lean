/- trace: the hexadecimal of a word. -/
import Derived.Test.YtipcimefenpjhaaGreatDoorV67
import Derived.Test.YtipcimefenpjhaaGreatDoorVE
import Derived.IntWalk
set_option linter.unusedVariables false
set_option linter.unusedSimpArgs false
set_option linter.unusedSectionVars false
/- trace: the hexadecimal of a word. -/
namespace Go.V
open Go
set_option linter.unusedSimpArgs false
set_option linter.unusedVariables false
-- coxless/trace.hex
def ir12 : IFunc := ⟨20, [.tmp 2], (.seq (.region [⟨some 2, none, [], (.move (.c (.str [])))⟩] false)
 (.seq (.region [⟨some 3, none, [], (.alloc [(.int .u8 0), (.int .u8 0), (.int .u8 0), (.int .u8 0), (.int .u8 0), (.int .u8 0), (.int .u8 0), (.int .u8 0)])⟩] false)
 (.seq (.seq (.region [⟨some 5, none, [], (.move (.c (.int .i64 0)))⟩] false)
 (.block 0 (.loop (.seq (.region [⟨some 6, none, [], (.bin .lss (.t 5) (.c (.int .i64 8)))⟩] false)
 (.seq (.cond (.t 6) .skip (.exit 0))
 (.seq (.block 1 (.seq (.region [⟨some 7, none, [], (.move (.t 5))⟩, ⟨some 4, none, [], (.move (.t 7))⟩] false)
 (.region [⟨some 8, none, [], (.move (.t 4))⟩, ⟨some 9, none, [], (.bin .sub (.c (.int .i64 7)) (.t 8))⟩, ⟨some 10, none, [], (.move (.t 0))⟩, ⟨some 11, none, [], (.move (.t 4))⟩, ⟨some 12, none, [], (.bin .mul (.c (.int .i64 4)) (.t 11))⟩, ⟨some 13, none, [], (.bin .shr (.t 10) (.t 12))⟩, ⟨some 14, none, [], (.bin .and (.t 13) (.c (.int .u32 15)))⟩, ⟨some 15, none, [], (.idxStr (.c (.str [48, 49, 50, 51, 52, 53, 54, 55, 56, 57, 97, 98, 99, 100, 101, 102])) (.t 14))⟩, ⟨some 16, none, [], (.idxArr 8 1 (.t 3) (.t 9))⟩, ⟨none, none, [], (.store 1 (.t 16) (.t 15))⟩] false)))
 (.region [⟨some 17, none, [], (.bin .add (.t 5) (.c (.int .i64 1)))⟩, ⟨some 5, none, [], (.move (.t 17))⟩] false)))))))
 (.seq (.region [⟨some 18, none, [], (.sliceArr 8 1 (.t 3) none none none)⟩, ⟨some 19, none, [], (.conv .bytesStr (.t 18))⟩, ⟨some 2, none, [], (.move (.t 19))⟩] false)
 .ret))))⟩
def hexRow : List UInt8 := [48, 49, 50, 51, 52, 53, 54, 55, 56, 57, 97, 98, 99, 100, 101, 102]
def hexD (n : Nat) : UInt8 := if n < 10 then UInt8.ofNat (48 + n) else UInt8.ofNat (87 + n)
theorem hexRow_get : ∀ n, n < 16 → hexRow[n]? = some (hexD n) := by decide
def hex8 (x : Nat) : List UInt8 := [hexD (x / 2 ^ 28 % 16), hexD (x / 2 ^ 24 % 16), hexD (x / 2 ^ 20 % 16), hexD (x / 2 ^ 16 % 16), hexD (x / 2 ^ 12 % 16), hexD (x / 2 ^ 8 % 16), hexD (x / 2 ^ 4 % 16), hexD (x / 2 ^ 0 % 16)]
theorem bytesAV_map : ∀ bs : List UInt8, bytesAV (bs.map fun b => .int .u8 (b.toNat : Int)) = some bs
  | [] => rfl
  | b :: l => by
    have := bytesAV_map l
    show (match bytesAV (l.map fun b => .int .u8 (b.toNat : Int)) with | some r => some (UInt8.ofNat b.toNat :: r) | none => none) = _
    rw [this]
    simp
theorem sa8 (s : St) (cs : List AV) : sliceArrV (s.add (.cells cs 0 0 false)) 8 1 (.ptr ⟨s.next, 0, 0, 8⟩) none none none = some (.slice ⟨s.next, 0, 0, 8⟩ 8 8 true 1) := by
  unfold sliceArrV St.readAt
  simp only [add_get, if_true]
  rfl
theorem shr32 (x m : Nat) (h : m ≤ 32) : binV .shr (.int .u32 (x : Int)) (.int .i64 (m : Int)) = some (.int .u32 ((x / 2 ^ m : Nat) : Int)) := by
  show binInt .shr .u32 (x : Int) .i64 (Int.ofNat m) = _
  simp only [binInt, mkInt_eq]
  congr 2
  have : min m (IntKind.bits .u32) = m := by simp [IntKind.bits]; omega
  rw [this]
  have h2 : Int.ofNat (2 ^ m) = ((2 ^ m : Nat) : Int) := rfl
  have h3 : Int.ofNat (Nat.pow 2 m) = ((2 ^ m : Nat) : Int) := rfl
  rw [h3, Int.fdiv_eq_ediv_of_nonneg _ (Int.natCast_nonneg _)]
  rfl
theorem and15 (x : Nat) (h : x < 4294967296) : binV .and (.int .u32 (x : Int)) (.int .u32 15) = some (.int .u32 ((x % 16 : Nat) : Int)) := by
  show binInt .and .u32 (x : Int) .u32 15 = _
  have h1 : Op.intBits .and .u32 (x : Int) 15 = (pure (.int .u32 ((x % 16 : Nat) : Int)) : Sem Value) := by
    simp only [Op.intBits]
    have hb : (BitVec.ofInt 32 (x : Int) &&& BitVec.ofInt 32 15).toNat = x % 16 := by
      rw [BitVec.toNat_and]
      have e1 : (BitVec.ofInt 32 (x : Int)).toNat = x := by simp [BitVec.toNat_ofInt]; omega
      have e2 : (BitVec.ofInt 32 15).toNat = 15 := by decide
      rw [e1, e2]
      exact Nat.and_two_pow_sub_one_eq_mod x 4
    show (pure (.int .u32 (IntKind.wrap .u32 ((BitVec.ofInt 32 (x : Int) &&& BitVec.ofInt 32 15).toNat : Int))) : Sem Value) = _
    rw [hb]
    have e3 : IntKind.wrap .u32 ((x % 16 : Nat) : Int) = ((x % 16 : Nat) : Int) := by
      exact IntWalk.u32_in _ (by omega)
    rw [e3]
  simp only [binInt, if_true, h1]
  show pureAV (.pure (.int .u32 _)) = _
  simp only [pureAV, mkInt_eq]
theorem wo_bytesStr {T : Tab} {Q : Post} {fs : List Fr} {d : Bool} {l : List IOp} {dst : Option Nat} {w : List Opd} {e : Env} {s : St} {x : Opd} {a : AAddr} {len c : Nat} {ex : Bool} {row : List AV} {bs : List UInt8} (hx : opd e x = .slice a len c ex 1) (hr : s.readAt a len = some row) (hb : bytesAV row = some bs) :
    GoOps T Q d (⟨dst, none, w, (.conv .bytesStr x)⟩ :: l) fs e s ↔ GoR T Q d dst w (.val (.str bs) s) l fs e s := by
  rw [ops_ins (i := .conv .bytesStr x) rfl, show insV e s (.conv .bytesStr x) = .val (.str bs) s by simp only [insV, evalIns, hx, hr, hb]]
theorem readAt_add (s : St) (cs : List AV) (n : Nat) : (s.add (.cells cs 0 0 false)).readAt ⟨s.next, 0, 0, n⟩ n = some (cs.take n) := by
  unfold St.readAt
  simp only [add_get, if_true]
  simp
section
variable {T : Tab}
theorem hex_ran (hc : T 12 = some (.code ir12)) (s : St) (hs : WFS s) (x : Nat) (hx : x < 4294967296) :
    Ran T 12 [.int .u32 (x : Int)] s fun v s' => v = .str (hex8 x) ∧ Ext s s' := by
  refine ran_code hc (Nat.le_of_ble_eq_true rfl) ?_
  simp only [ir12, wk, wk1, wk2, Option.some.injEq, exists_eq_left', decide_true, decide_false, Nat.reduceAdd, Nat.reduceEqDiff, Nat.reduceLeDiff, Nat.reduceLT, Nat.reduceMul, Nat.reduceBEq, Int.reduceLT, Int.reduceLE, Int.reduceEq, Int.reduceAdd, Int.reduceSub, Int.reduceMul, Int.reduceMod, Int.reduceTMod, Int.reduceTDiv, Int.reduceNeg, Nat.reduceSub, Nat.reduceDiv, reduceIte, reduceCtorEq]
  have h0 : binV .shr (.int .u32 (x : Int)) (.int .i64 0) = some (.int .u32 ((x / 2 ^ 0 : Nat) : Int)) := shr32 x 0 (by omega)
  have k0 : binV .and (.int .u32 ((x / 2 ^ 0 : Nat) : Int)) (.int .u32 15) = some (.int .u32 ((x / 2 ^ 0 % 16 : Nat) : Int)) := and15 _ (Nat.lt_of_le_of_lt (Nat.div_le_self _ _) hx)
  have m0 : ([48, 49, 50, 51, 52, 53, 54, 55, 56, 57, 97, 98, 99, 100, 101, 102] : List UInt8)[x / 2 ^ 0 % 16]? = some (hexD (x / 2 ^ 0 % 16)) := hexRow_get _ (Nat.mod_lt _ (by omega))
  have h1 : binV .shr (.int .u32 (x : Int)) (.int .i64 4) = some (.int .u32 ((x / 2 ^ 4 : Nat) : Int)) := shr32 x 4 (by omega)
  have k1 : binV .and (.int .u32 ((x / 2 ^ 4 : Nat) : Int)) (.int .u32 15) = some (.int .u32 ((x / 2 ^ 4 % 16 : Nat) : Int)) := and15 _ (Nat.lt_of_le_of_lt (Nat.div_le_self _ _) hx)
  have m1 : ([48, 49, 50, 51, 52, 53, 54, 55, 56, 57, 97, 98, 99, 100, 101, 102] : List UInt8)[x / 2 ^ 4 % 16]? = some (hexD (x / 2 ^ 4 % 16)) := hexRow_get _ (Nat.mod_lt _ (by omega))
  have h2 : binV .shr (.int .u32 (x : Int)) (.int .i64 8) = some (.int .u32 ((x / 2 ^ 8 : Nat) : Int)) := shr32 x 8 (by omega)
  have k2 : binV .and (.int .u32 ((x / 2 ^ 8 : Nat) : Int)) (.int .u32 15) = some (.int .u32 ((x / 2 ^ 8 % 16 : Nat) : Int)) := and15 _ (Nat.lt_of_le_of_lt (Nat.div_le_self _ _) hx)
  have m2 : ([48, 49, 50, 51, 52, 53, 54, 55, 56, 57, 97, 98, 99, 100, 101, 102] : List UInt8)[x / 2 ^ 8 % 16]? = some (hexD (x / 2 ^ 8 % 16)) := hexRow_get _ (Nat.mod_lt _ (by omega))
  have h3 : binV .shr (.int .u32 (x : Int)) (.int .i64 12) = some (.int .u32 ((x / 2 ^ 12 : Nat) : Int)) := shr32 x 12 (by omega)
  have k3 : binV .and (.int .u32 ((x / 2 ^ 12 : Nat) : Int)) (.int .u32 15) = some (.int .u32 ((x / 2 ^ 12 % 16 : Nat) : Int)) := and15 _ (Nat.lt_of_le_of_lt (Nat.div_le_self _ _) hx)
  have m3 : ([48, 49, 50, 51, 52, 53, 54, 55, 56, 57, 97, 98, 99, 100, 101, 102] : List UInt8)[x / 2 ^ 12 % 16]? = some (hexD (x / 2 ^ 12 % 16)) := hexRow_get _ (Nat.mod_lt _ (by omega))
  have h4 : binV .shr (.int .u32 (x : Int)) (.int .i64 16) = some (.int .u32 ((x / 2 ^ 16 : Nat) : Int)) := shr32 x 16 (by omega)
  have k4 : binV .and (.int .u32 ((x / 2 ^ 16 : Nat) : Int)) (.int .u32 15) = some (.int .u32 ((x / 2 ^ 16 % 16 : Nat) : Int)) := and15 _ (Nat.lt_of_le_of_lt (Nat.div_le_self _ _) hx)
  have m4 : ([48, 49, 50, 51, 52, 53, 54, 55, 56, 57, 97, 98, 99, 100, 101, 102] : List UInt8)[x / 2 ^ 16 % 16]? = some (hexD (x / 2 ^ 16 % 16)) := hexRow_get _ (Nat.mod_lt _ (by omega))
  have h5 : binV .shr (.int .u32 (x : Int)) (.int .i64 20) = some (.int .u32 ((x / 2 ^ 20 : Nat) : Int)) := shr32 x 20 (by omega)
  have k5 : binV .and (.int .u32 ((x / 2 ^ 20 : Nat) : Int)) (.int .u32 15) = some (.int .u32 ((x / 2 ^ 20 % 16 : Nat) : Int)) := and15 _ (Nat.lt_of_le_of_lt (Nat.div_le_self _ _) hx)
  have m5 : ([48, 49, 50, 51, 52, 53, 54, 55, 56, 57, 97, 98, 99, 100, 101, 102] : List UInt8)[x / 2 ^ 20 % 16]? = some (hexD (x / 2 ^ 20 % 16)) := hexRow_get _ (Nat.mod_lt _ (by omega))
  have h6 : binV .shr (.int .u32 (x : Int)) (.int .i64 24) = some (.int .u32 ((x / 2 ^ 24 : Nat) : Int)) := shr32 x 24 (by omega)
  have k6 : binV .and (.int .u32 ((x / 2 ^ 24 : Nat) : Int)) (.int .u32 15) = some (.int .u32 ((x / 2 ^ 24 % 16 : Nat) : Int)) := and15 _ (Nat.lt_of_le_of_lt (Nat.div_le_self _ _) hx)
  have m6 : ([48, 49, 50, 51, 52, 53, 54, 55, 56, 57, 97, 98, 99, 100, 101, 102] : List UInt8)[x / 2 ^ 24 % 16]? = some (hexD (x / 2 ^ 24 % 16)) := hexRow_get _ (Nat.mod_lt _ (by omega))
  have h7 : binV .shr (.int .u32 (x : Int)) (.int .i64 28) = some (.int .u32 ((x / 2 ^ 28 : Nat) : Int)) := shr32 x 28 (by omega)
  have k7 : binV .and (.int .u32 ((x / 2 ^ 28 : Nat) : Int)) (.int .u32 15) = some (.int .u32 ((x / 2 ^ 28 % 16 : Nat) : Int)) := and15 _ (Nat.lt_of_le_of_lt (Nat.div_le_self _ _) hx)
  have m7 : ([48, 49, 50, 51, 52, 53, 54, 55, 56, 57, 97, 98, 99, 100, 101, 102] : List UInt8)[x / 2 ^ 28 % 16]? = some (hexD (x / 2 ^ 28 % 16)) := hexRow_get _ (Nat.mod_lt _ (by omega))
  rw [go_loop]
  simp only [h0, k0, m0, wk, wk1, wk2, Option.some.injEq, exists_eq_left', decide_true, decide_false, Nat.reduceAdd, Nat.reduceEqDiff, Nat.reduceLeDiff, Nat.reduceLT, Nat.reduceMul, Nat.reduceBEq, Int.reduceLT, Int.reduceLE, Int.reduceEq, Int.reduceAdd, Int.reduceSub, Int.reduceMul, Int.reduceMod, Int.reduceTMod, Int.reduceTDiv, Int.reduceNeg, Nat.reduceSub, Nat.reduceDiv, reduceIte, reduceCtorEq]
  rw [go_loop]
  simp only [h1, k1, m1, wk, wk1, wk2, Option.some.injEq, exists_eq_left', decide_true, decide_false, Nat.reduceAdd, Nat.reduceEqDiff, Nat.reduceLeDiff, Nat.reduceLT, Nat.reduceMul, Nat.reduceBEq, Int.reduceLT, Int.reduceLE, Int.reduceEq, Int.reduceAdd, Int.reduceSub, Int.reduceMul, Int.reduceMod, Int.reduceTMod, Int.reduceTDiv, Int.reduceNeg, Nat.reduceSub, Nat.reduceDiv, reduceIte, reduceCtorEq]
  rw [go_loop]
  simp only [h2, k2, m2, wk, wk1, wk2, Option.some.injEq, exists_eq_left', decide_true, decide_false, Nat.reduceAdd, Nat.reduceEqDiff, Nat.reduceLeDiff, Nat.reduceLT, Nat.reduceMul, Nat.reduceBEq, Int.reduceLT, Int.reduceLE, Int.reduceEq, Int.reduceAdd, Int.reduceSub, Int.reduceMul, Int.reduceMod, Int.reduceTMod, Int.reduceTDiv, Int.reduceNeg, Nat.reduceSub, Nat.reduceDiv, reduceIte, reduceCtorEq]
  rw [go_loop]
  simp only [h3, k3, m3, wk, wk1, wk2, Option.some.injEq, exists_eq_left', decide_true, decide_false, Nat.reduceAdd, Nat.reduceEqDiff, Nat.reduceLeDiff, Nat.reduceLT, Nat.reduceMul, Nat.reduceBEq, Int.reduceLT, Int.reduceLE, Int.reduceEq, Int.reduceAdd, Int.reduceSub, Int.reduceMul, Int.reduceMod, Int.reduceTMod, Int.reduceTDiv, Int.reduceNeg, Nat.reduceSub, Nat.reduceDiv, reduceIte, reduceCtorEq]
  rw [go_loop]
  simp only [h4, k4, m4, wk, wk1, wk2, Option.some.injEq, exists_eq_left', decide_true, decide_false, Nat.reduceAdd, Nat.reduceEqDiff, Nat.reduceLeDiff, Nat.reduceLT, Nat.reduceMul, Nat.reduceBEq, Int.reduceLT, Int.reduceLE, Int.reduceEq, Int.reduceAdd, Int.reduceSub, Int.reduceMul, Int.reduceMod, Int.reduceTMod, Int.reduceTDiv, Int.reduceNeg, Nat.reduceSub, Nat.reduceDiv, reduceIte, reduceCtorEq]
  rw [go_loop]
  simp only [h5, k5, m5, wk, wk1, wk2, Option.some.injEq, exists_eq_left', decide_true, decide_false, Nat.reduceAdd, Nat.reduceEqDiff, Nat.reduceLeDiff, Nat.reduceLT, Nat.reduceMul, Nat.reduceBEq, Int.reduceLT, Int.reduceLE, Int.reduceEq, Int.reduceAdd, Int.reduceSub, Int.reduceMul, Int.reduceMod, Int.reduceTMod, Int.reduceTDiv, Int.reduceNeg, Nat.reduceSub, Nat.reduceDiv, reduceIte, reduceCtorEq]
  rw [go_loop]
  simp only [h6, k6, m6, wk, wk1, wk2, Option.some.injEq, exists_eq_left', decide_true, decide_false, Nat.reduceAdd, Nat.reduceEqDiff, Nat.reduceLeDiff, Nat.reduceLT, Nat.reduceMul, Nat.reduceBEq, Int.reduceLT, Int.reduceLE, Int.reduceEq, Int.reduceAdd, Int.reduceSub, Int.reduceMul, Int.reduceMod, Int.reduceTMod, Int.reduceTDiv, Int.reduceNeg, Nat.reduceSub, Nat.reduceDiv, reduceIte, reduceCtorEq]
  rw [go_loop]
  simp only [h7, k7, m7, wk, wk1, wk2, Option.some.injEq, exists_eq_left', decide_true, decide_false, Nat.reduceAdd, Nat.reduceEqDiff, Nat.reduceLeDiff, Nat.reduceLT, Nat.reduceMul, Nat.reduceBEq, Int.reduceLT, Int.reduceLE, Int.reduceEq, Int.reduceAdd, Int.reduceSub, Int.reduceMul, Int.reduceMod, Int.reduceTMod, Int.reduceTDiv, Int.reduceNeg, Nat.reduceSub, Nat.reduceDiv, reduceIte, reduceCtorEq]
  rw [go_loop]
  simp only [wk, wk1, wk2, Option.some.injEq, exists_eq_left', decide_true, decide_false, Nat.reduceAdd, Nat.reduceEqDiff, Nat.reduceLeDiff, Nat.reduceLT, Nat.reduceMul, Nat.reduceBEq, Int.reduceLT, Int.reduceLE, Int.reduceEq, Int.reduceAdd, Int.reduceSub, Int.reduceMul, Int.reduceMod, Int.reduceTMod, Int.reduceTDiv, Int.reduceNeg, Nat.reduceSub, Nat.reduceDiv, reduceIte, reduceCtorEq]
  rw [sa8]
  simp only [wk, wk1, wk2, Option.some.injEq, exists_eq_left', decide_true, decide_false, Nat.reduceAdd, Nat.reduceEqDiff, Nat.reduceLeDiff, Nat.reduceLT, Nat.reduceMul, Nat.reduceBEq, Int.reduceLT, Int.reduceLE, Int.reduceEq, Int.reduceAdd, Int.reduceSub, Int.reduceMul, Int.reduceMod, Int.reduceTMod, Int.reduceTDiv, Int.reduceNeg, Nat.reduceSub, Nat.reduceDiv, reduceIte, reduceCtorEq]
  refine (wo_bytesStr (a := ⟨s.next, 0, 0, 8⟩) (len := 8) (c := 8) (ex := true) (bs := hex8 x) (row := (hex8 x).map fun b => .int .u8 (b.toNat : Int)) (by simp only [wk, wk1, wk2, Option.some.injEq, exists_eq_left', decide_true, decide_false, Nat.reduceAdd, Nat.reduceEqDiff, Nat.reduceLeDiff, Nat.reduceLT, Nat.reduceMul, Nat.reduceBEq, Int.reduceLT, Int.reduceLE, Int.reduceEq, Int.reduceAdd, Int.reduceSub, Int.reduceMul, Int.reduceMod, Int.reduceTMod, Int.reduceTDiv, Int.reduceNeg, Nat.reduceSub, Nat.reduceDiv, reduceIte, reduceCtorEq]) (by rw [readAt_add]; rfl) (bytesAV_map (hex8 x))).2 ?_
  simp only [wk, wk1, wk2, Option.some.injEq, exists_eq_left', decide_true, decide_false, Nat.reduceAdd, Nat.reduceEqDiff, Nat.reduceLeDiff, Nat.reduceLT, Nat.reduceMul, Nat.reduceBEq, Int.reduceLT, Int.reduceLE, Int.reduceEq, Int.reduceAdd, Int.reduceSub, Int.reduceMul, Int.reduceMod, Int.reduceTMod, Int.reduceTDiv, Int.reduceNeg, Nat.reduceSub, Nat.reduceDiv, reduceIte, reduceCtorEq]
  exact .add (.refl hs) _
end
end Go.V
