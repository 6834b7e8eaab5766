/- The document's Reads: an array of marks. -/
import Derived.Test.YtlpdekocilhciaaRef04c
set_option linter.unusedVariables false
set_option linter.unusedSimpArgs false
set_option linter.unusedSectionVars false
/- The document's Reads: an array of marks. -/
namespace Go.V
open Go
set_option linter.unusedSimpArgs false
set_option linter.unusedVariables false
-- coxless/coxlessref04.Reads
def ir51 : IFunc := ⟨51, [.cell 2 true 32], (.seq (.region [⟨some 1, none, [], (.box (.t 0))⟩, ⟨some 2, none, [], (.alloc [(.bool false), (.bool false), (.bool false), (.bool false), (.bool false), (.bool false), (.bool false), (.bool false), (.bool false), (.bool false), (.bool false), (.bool false), (.bool false), (.bool false), (.bool false), (.bool false), (.bool false), (.bool false), (.bool false), (.bool false), (.bool false), (.bool false), (.bool false), (.bool false), (.bool false), (.bool false), (.bool false), (.bool false), (.bool false), (.bool false), (.bool false), (.bool false)])⟩] false)
 (.seq (.region [⟨some 3, none, [], (.alloc [(.bool false), (.bool false), (.bool false), (.bool false), (.bool false), (.bool false), (.bool false), (.bool false), (.bool false), (.bool false), (.bool false), (.bool false), (.bool false), (.bool false), (.bool false), (.bool false), (.bool false), (.bool false), (.bool false), (.bool false), (.bool false), (.bool false), (.bool false), (.bool false), (.bool false), (.bool false), (.bool false), (.bool false), (.bool false), (.bool false), (.bool false), (.bool false)])⟩] false)
 (.seq (.seq (.region [⟨some 4, none, [], (.load true 11 (.t 1))⟩, ⟨some 5, none, [], (.call 44 [(.t 4)])⟩, ⟨some 6, none, [], (.un .not (.t 5))⟩] false)
 (.cond (.t 6) (.seq (.region [⟨some 7, none, [], (.load true 32 (.t 3))⟩, ⟨none, none, [], (.store 32 (.t 2) (.t 7))⟩] false)
 .ret) .skip))
 (.seq (.seq (.region [⟨some 8, none, [], (.fieldAddr 0 (.t 1))⟩, ⟨some 9, none, [], (.load false 1 (.t 8))⟩, ⟨some 10, none, [], (.call 46 [(.t 9)])⟩] false)
 (.block 0 (.seq (.seq (.region [⟨some 12, none, [], (.bin .eql (.t 10) (.c (.int .i64 1)))⟩, ⟨some 11, none, [], (.move (.t 12))⟩] false)
 (.cond (.t 11) .skip (.seq (.region [⟨some 13, none, [], (.bin .eql (.t 10) (.c (.int .i64 5)))⟩, ⟨some 11, none, [], (.move (.t 13))⟩] false)
 (.cond (.t 11) .skip (.seq (.region [⟨some 14, none, [], (.bin .eql (.t 10) (.c (.int .i64 7)))⟩, ⟨some 11, none, [], (.move (.t 14))⟩] false)
 (.cond (.t 11) .skip (.region [⟨some 15, none, [], (.bin .eql (.t 10) (.c (.int .i64 9)))⟩, ⟨some 11, none, [], (.move (.t 15))⟩] false)))))))
 (.cond (.t 11) (.seq (.region [⟨some 16, none, [], (.fieldAddr 2 (.t 1))⟩, ⟨some 17, none, [], (.load false 1 (.t 16))⟩, ⟨some 18, none, [], (.idxArr 32 1 (.t 3) (.t 17))⟩, ⟨none, none, [], (.store 1 (.t 18) (.c (.bool true)))⟩] false)
 (.region [⟨some 19, none, [], (.fieldAddr 3 (.t 1))⟩, ⟨some 20, none, [], (.load false 1 (.t 19))⟩, ⟨some 21, none, [], (.idxArr 32 1 (.t 3) (.t 20))⟩, ⟨none, none, [], (.store 1 (.t 21) (.c (.bool true)))⟩] false)) (.seq (.seq (.region [⟨some 23, none, [], (.bin .eql (.t 10) (.c (.int .i64 2)))⟩, ⟨some 22, none, [], (.move (.t 23))⟩] false)
 (.cond (.t 22) .skip (.seq (.region [⟨some 24, none, [], (.bin .eql (.t 10) (.c (.int .i64 4)))⟩, ⟨some 22, none, [], (.move (.t 24))⟩] false)
 (.cond (.t 22) .skip (.seq (.region [⟨some 25, none, [], (.bin .eql (.t 10) (.c (.int .i64 6)))⟩, ⟨some 22, none, [], (.move (.t 25))⟩] false)
 (.cond (.t 22) .skip (.seq (.region [⟨some 26, none, [], (.bin .eql (.t 10) (.c (.int .i64 8)))⟩, ⟨some 22, none, [], (.move (.t 26))⟩] false)
 (.cond (.t 22) .skip (.seq (.region [⟨some 27, none, [], (.bin .eql (.t 10) (.c (.int .i64 10)))⟩, ⟨some 22, none, [], (.move (.t 27))⟩] false)
 (.cond (.t 22) .skip (.seq (.region [⟨some 28, none, [], (.bin .eql (.t 10) (.c (.int .i64 13)))⟩, ⟨some 22, none, [], (.move (.t 28))⟩] false)
 (.cond (.t 22) .skip (.region [⟨some 29, none, [], (.bin .eql (.t 10) (.c (.int .i64 16)))⟩, ⟨some 22, none, [], (.move (.t 29))⟩] false)))))))))))))
 (.cond (.t 22) (.region [⟨some 30, none, [], (.fieldAddr 2 (.t 1))⟩, ⟨some 31, none, [], (.load false 1 (.t 30))⟩, ⟨some 32, none, [], (.idxArr 32 1 (.t 3) (.t 31))⟩, ⟨none, none, [], (.store 1 (.t 32) (.c (.bool true)))⟩] false) (.seq (.region [⟨some 34, none, [], (.bin .eql (.t 10) (.c (.int .i64 11)))⟩, ⟨some 33, none, [], (.move (.t 34))⟩] false)
 (.cond (.t 33) (.seq (.region [⟨some 35, none, [], (.fieldAddr 2 (.t 1))⟩, ⟨some 36, none, [], (.load false 1 (.t 35))⟩, ⟨some 37, none, [], (.idxArr 32 1 (.t 3) (.t 36))⟩, ⟨none, none, [], (.store 1 (.t 37) (.c (.bool true)))⟩] false)
 (.region [⟨some 38, none, [], (.fieldAddr 3 (.t 1))⟩, ⟨some 39, none, [], (.load false 1 (.t 38))⟩, ⟨some 40, none, [], (.fieldAddr 3 (.t 1))⟩, ⟨some 41, none, [], (.load false 1 (.t 40))⟩, ⟨some 42, none, [], (.idxArr 32 1 (.t 3) (.t 41))⟩, ⟨some 43, none, [], (.load false 1 (.t 42))⟩, ⟨some 44, none, [], (.move (.t 43))⟩, ⟨some 45, some (44, false), [], (.fieldAddr 7 (.t 1))⟩, ⟨some 46, some (44, false), [], (.load false 1 (.t 45))⟩, ⟨some 47, some (44, false), [], (.un .not (.t 46))⟩, ⟨some 48, none, [], (.pick (.t 44) (.c (.bool true)) (.t 47))⟩, ⟨some 49, none, [], (.idxArr 32 1 (.t 3) (.t 39))⟩, ⟨none, none, [], (.store 1 (.t 49) (.t 48))⟩] true)) .skip))))))))
 (.seq (.region [⟨some 50, none, [], (.load true 32 (.t 3))⟩, ⟨none, none, [], (.store 32 (.t 2) (.t 50))⟩] false)
 .ret)))))⟩
def marksC (p : Nat → Bool) : List AV := (List.range 32).map fun j => .bool (p j)
theorem marks_len (p : Nat → Bool) : (marksC p).length = 32 := by simp [marksC]
theorem marks_0 : [AV.bool false, .bool false, .bool false, .bool false, .bool false, .bool false, .bool false, .bool false, .bool false, .bool false, .bool false, .bool false, .bool false, .bool false, .bool false, .bool false, .bool false, .bool false, .bool false, .bool false, .bool false, .bool false, .bool false, .bool false, .bool false, .bool false, .bool false, .bool false, .bool false, .bool false, .bool false, .bool false] = marksC fun _ => false := rfl
theorem marks_take (p : Nat → Bool) : (marksC p).take 32 = marksC p := List.take_of_length_le (by rw [marks_len]; exact Nat.le_refl _)
theorem marks_all (p : Nat → Bool) : (marksC p).all AV.isCell = true := by simp [marksC, AV.isCell]
theorem marks_drop (p : Nat → Bool) : (marksC p).drop 32 = [] := List.drop_eq_nil_of_le (by rw [marks_len]; exact Nat.le_refl _)
theorem marks_get (p : Nat → Bool) (k : Nat) (h : k < 32) : (marksC p)[k]? = some (.bool (p k)) := by
  simp [marksC, h]
theorem marks_one (p : Nat → Bool) (k : Nat) (h : k < 32) : ((marksC p).drop k).take 1 = [.bool (p k)] := by
  have := marks_get p k h
  have hl : k < (marksC p).length := by rw [marks_len]; exact h
  rw [List.getElem?_eq_getElem hl] at this
  rw [List.drop_eq_getElem_cons hl]
  simp only [List.take_succ_cons, List.take_zero]
  rw [Option.some.inj this]
theorem marks_set (p : Nat → Bool) (k : Nat) (b : Bool) (h : k < 32) : (marksC p).take k ++ .bool b :: (marksC p).drop (k + 1) = marksC fun j => if j = k then b else p j := by
  apply List.ext_getElem?
  intro j
  have hl := marks_len p
  rw [List.getElem?_append]
  simp only [List.length_take, hl, Nat.min_eq_left (Nat.le_of_lt h)]
  by_cases h1 : j < k
  · rw [if_pos h1, List.getElem?_take, if_pos h1, marks_get _ _ (by omega), marks_get _ _ (by omega), if_neg (by omega)]
  · rw [if_neg h1]
    by_cases h2 : j = k
    · subst h2
      rw [marks_get _ _ h]; simp
    · obtain ⟨m, rfl⟩ : ∃ m, j = k + (m + 1) := ⟨j - k - 1, by omega⟩
      have : k + (m + 1) - k = m + 1 := by omega
      rw [this, List.getElem?_cons_succ, List.getElem?_drop]
      by_cases h3 : k + (m + 1) < 32
      · rw [marks_get _ _ h3, show k + 1 + m = k + (m + 1) by omega, marks_get _ _ h3, if_neg h2]
      · rw [List.getElem?_eq_none (by rw [hl]; omega), List.getElem?_eq_none (by rw [marks_len]; omega)]
def rsK (k : Int) : Bool := decide (k = 1 ∨ k = 5 ∨ k = 7 ∨ k = 9 ∨ k = 2 ∨ k = 4 ∨ k = 6 ∨ k = 8 ∨ k = 10 ∨ k = 13 ∨ k = 16 ∨ k = 11)
def rtK (k : Int) : Bool := decide (k = 1 ∨ k = 5 ∨ k = 7 ∨ k = 9)
def rReadsM (i : In) (j : Nat) : Bool := refF i && ((decide ((j : Int) = i.s) && rsK (kindF i.op)) || (decide ((j : Int) = i.t) && (rtK (kindF i.op) || (decide (kindF i.op = 11) && !i.nw))))
section
variable {T : Tab}
set_option maxHeartbeats 4000000 in
theorem rreads_ran (hc : T 51 = some (.code ir51)) (hr : T 44 = some (.hook (pureH (inF refRR)))) (hh : T 46 = some (.hook (litH (byteG kindR)))) (s : St) (hs : WFS s) (i : In) (hi : In.ok i = true) :
    Ran T 51 [.agg i.cells] s fun v s' => v = .agg (marksC (rReadsM i)) ∧ Ext s s' := by
  refine ran_code hc (Nat.le_of_ble_eq_true rfl) ?_
  have k1 := goCall_hook hr
  have k2 := goCall_hook hh
  have hok := hi
  simp only [In.ok, Bool.and_eq_true] at hok
  obtain ⟨ho, -, hs1, ht1, -, -, -, -, -, him⟩ := hok
  have hoi : okI i = true := by simp only [okI, Bool.and_eq_true]; exact ⟨ho, him⟩
  have q1 := fun s => inF_eq refRR i s hoi
  have q2 := fun s => byteH_eq kindR i.op s ho rfl
  have b2 := (isByte_lt hs1).1
  have b3 := (isByte_lt ht1).1
  have hlt : refF i = true → i.s < 32 ∧ i.t < 32 := by
    intro h
    simp only [refF, regsF, Bool.and_eq_true, decide_eq_true_eq] at h
    omega
  obtain ⟨a1, a2, a3, a4, a5, a6, a7, a8, a9, a10, a11⟩ := i
  simp only [] at b2 b3 hlt
  obtain ⟨sn, rfl⟩ := Int.eq_ofNat_of_zero_le b2
  obtain ⟨tn, rfl⟩ := Int.eq_ofNat_of_zero_le b3
  simp only [In.cells, refRR, kindR] at q1 q2
  generalize hQ : Fin _ _ = Q
  cases hR : refF ⟨a1, a2, sn, tn, a5, a6, a7, a8, a9, a10, a11⟩ with
  | false =>
    rw [hR] at q1
    simp only [ir51, In.cells, marks_0, k1, k2, q1, q2, marks_len, marks_all, marks_drop, List.append_nil, marks_take, go_skip, go_label, go_exit, go_goto, go_ret, go_region, go_seq, go_block, go_scope, go_cond, goC_true, goC_false, ret_nil, ret_seq, ret_seq_exit, ret_seq_ret, ret_seq_goto, ret_seq_panic, ret_block, ret_block_exit, ret_block_ret, ret_block_goto, ret_block_panic, ret_loop, ret_loop_exit, ret_loop_ret, ret_loop_goto, ret_loop_panic, ret_scope, ret_scope_exit, ret_scope_ret, ret_scope_panic, ops_nil, ops_guard, ops_call, ops_callVal, goCV_func, goR_val, goR_panic, gx_tt, gx_ff, gx_tf, gx_ft, gx_undef, w0, w1, w2, w3, w4, w5, w6, w7, w8, w9, w10, w11, w12, w13, w14, w15, w16, Nat.reduceAdd, Nat.reduceEqDiff, Nat.reduceLeDiff, Nat.reduceLT, Nat.reduceMul, Nat.add_zero, Nat.add_assoc, Nat.add_left_cancel_iff, Nat.reduceBEq, Int.reduceLT, Int.reduceLE, Int.reduceEq, Int.reduceAdd, Int.reduceSub, Int.cast_ofNat_Int, Int.reduceMul, Int.reduceMod, Int.reduceTMod, Int.reduceTDiv, Int.reduceNeg, Nat.reduceSub, Nat.reduceDiv, Nat.mul_one, Nat.one_mul, Int.lt_irrefl, decide_true, decide_false, reduceIte, reduceCtorEq, Nat.zero_add, Nat.le_refl, Nat.zero_le, and_self, and_true, true_and, List.length_cons, List.length_nil, List.drop_succ_cons, List.drop_zero, List.take_succ_cons, List.take_zero, List.getElem?_cons_succ, List.getElem?_cons_zero, List.cons_append, List.nil_append, List.append_nil, List.all_cons, List.all_nil, Bool.and_true, Nat.left_eq_add, Nat.add_eq_left, Nat.succ_ne_self, Bool.not_true, Bool.not_false, Option.some.injEq, exists_eq_left']
    subst hQ
    simp only [ir51, marks_len, marks_all, marks_drop, List.append_nil, marks_take, go_skip, go_label, go_exit, go_goto, go_ret, go_region, go_seq, go_block, go_scope, go_cond, goC_true, goC_false, ret_nil, ret_seq, ret_seq_exit, ret_seq_ret, ret_seq_goto, ret_seq_panic, ret_block, ret_block_exit, ret_block_ret, ret_block_goto, ret_block_panic, ret_loop, ret_loop_exit, ret_loop_ret, ret_loop_goto, ret_loop_panic, ret_scope, ret_scope_exit, ret_scope_ret, ret_scope_panic, ops_nil, ops_guard, ops_call, ops_callVal, goCV_func, goR_val, goR_panic, gx_tt, gx_ff, gx_tf, gx_ft, gx_undef, w0, w1, w2, w3, w4, w5, w6, w7, w8, w9, w10, w11, w12, w13, w14, w15, w16, Nat.reduceAdd, Nat.reduceEqDiff, Nat.reduceLeDiff, Nat.reduceLT, Nat.reduceMul, Nat.add_zero, Nat.add_assoc, Nat.add_left_cancel_iff, Nat.reduceBEq, Int.reduceLT, Int.reduceLE, Int.reduceEq, Int.reduceAdd, Int.reduceSub, Int.cast_ofNat_Int, Int.reduceMul, Int.reduceMod, Int.reduceTMod, Int.reduceTDiv, Int.reduceNeg, Nat.reduceSub, Nat.reduceDiv, Nat.mul_one, Nat.one_mul, Int.lt_irrefl, decide_true, decide_false, reduceIte, reduceCtorEq, Nat.zero_add, Nat.le_refl, Nat.zero_le, and_self, and_true, true_and, List.length_cons, List.length_nil, List.drop_succ_cons, List.drop_zero, List.take_succ_cons, List.take_zero, List.getElem?_cons_succ, List.getElem?_cons_zero, List.cons_append, List.nil_append, List.append_nil, List.all_cons, List.all_nil, Bool.and_true, Nat.left_eq_add, Nat.add_eq_left, Nat.succ_ne_self, Bool.not_true, Bool.not_false, Option.some.injEq, exists_eq_left']
    refine ⟨?_, ?_⟩
    · refine congrArg AV.agg (congrArg marksC (funext fun j => ?_))
      simp [rReadsM, hR]
    · (repeat (first | exact Ext.refl hs | refine Ext.add ?_ _))
  | true =>
    rw [hR] at q1
    have l1 : sn < 32 := by have := (hlt hR).1; omega
    have l2 : tn < 32 := by have := (hlt hR).2; omega
    have l1' : sn ≤ 31 := by omega
    have l2' : tn ≤ 31 := by omega
    have ms := fun p b => marks_set p sn b l1
    have mt := fun p b => marks_set p tn b l2
    have go := fun p => marks_one p tn l2
    rcases kind_cases a1 with hkk | hkk | hkk | hkk | hkk | hkk | hkk | hkk | hkk | hkk | hkk | hkk | hkk | hkk | hkk | hkk | hkk | hkk
    all_goals
      rw [hkk] at q2
      simp only [ir51, In.cells, marks_0, k1, k2, q1, q2, l1, l2, l1', l2', ms, mt, go, marks_len, marks_all, marks_drop, List.append_nil, marks_take, go_skip, go_label, go_exit, go_goto, go_ret, go_region, go_seq, go_block, go_scope, go_cond, goC_true, goC_false, ret_nil, ret_seq, ret_seq_exit, ret_seq_ret, ret_seq_goto, ret_seq_panic, ret_block, ret_block_exit, ret_block_ret, ret_block_goto, ret_block_panic, ret_loop, ret_loop_exit, ret_loop_ret, ret_loop_goto, ret_loop_panic, ret_scope, ret_scope_exit, ret_scope_ret, ret_scope_panic, ops_nil, ops_guard, ops_call, ops_callVal, goCV_func, goR_val, goR_panic, gx_tt, gx_ff, gx_tf, gx_ft, gx_undef, w0, w1, w2, w3, w4, w5, w6, w7, w8, w9, w10, w11, w12, w13, w14, w15, w16, Nat.reduceAdd, Nat.reduceEqDiff, Nat.reduceLeDiff, Nat.reduceLT, Nat.reduceMul, Nat.add_zero, Nat.add_assoc, Nat.add_left_cancel_iff, Nat.reduceBEq, Int.reduceLT, Int.reduceLE, Int.reduceEq, Int.reduceAdd, Int.reduceSub, Int.cast_ofNat_Int, Int.reduceMul, Int.reduceMod, Int.reduceTMod, Int.reduceTDiv, Int.reduceNeg, Nat.reduceSub, Nat.reduceDiv, Nat.mul_one, Nat.one_mul, Int.lt_irrefl, decide_true, decide_false, reduceIte, reduceCtorEq, Nat.zero_add, Nat.le_refl, Nat.zero_le, and_self, and_true, true_and, List.length_cons, List.length_nil, List.drop_succ_cons, List.drop_zero, List.take_succ_cons, List.take_zero, List.getElem?_cons_succ, List.getElem?_cons_zero, List.cons_append, List.nil_append, List.append_nil, List.all_cons, List.all_nil, Bool.and_true, Nat.left_eq_add, Nat.add_eq_left, Nat.succ_ne_self, Bool.not_true, Bool.not_false, Option.some.injEq, exists_eq_left']
    all_goals repeat' ((first | refine goC_split (fun h => ?_) (fun h => ?_) | refine goG_split_t (fun h => ?_) (fun h => ?_) | refine goG_split_f (fun h => ?_) (fun h => ?_)) <;> (try simp only [Bool.not_eq_true', Bool.not_eq_false'] at h) <;> (try simp only [h, l1, l2, l1', l2', ms, mt, go, marks_len, marks_all, marks_drop, List.append_nil, marks_take, go_skip, go_label, go_exit, go_goto, go_ret, go_region, go_seq, go_block, go_scope, go_cond, goC_true, goC_false, ret_nil, ret_seq, ret_seq_exit, ret_seq_ret, ret_seq_goto, ret_seq_panic, ret_block, ret_block_exit, ret_block_ret, ret_block_goto, ret_block_panic, ret_loop, ret_loop_exit, ret_loop_ret, ret_loop_goto, ret_loop_panic, ret_scope, ret_scope_exit, ret_scope_ret, ret_scope_panic, ops_nil, ops_guard, ops_call, ops_callVal, goCV_func, goR_val, goR_panic, gx_tt, gx_ff, gx_tf, gx_ft, gx_undef, w0, w1, w2, w3, w4, w5, w6, w7, w8, w9, w10, w11, w12, w13, w14, w15, w16, Nat.reduceAdd, Nat.reduceEqDiff, Nat.reduceLeDiff, Nat.reduceLT, Nat.reduceMul, Nat.add_zero, Nat.add_assoc, Nat.add_left_cancel_iff, Nat.reduceBEq, Int.reduceLT, Int.reduceLE, Int.reduceEq, Int.reduceAdd, Int.reduceSub, Int.cast_ofNat_Int, Int.reduceMul, Int.reduceMod, Int.reduceTMod, Int.reduceTDiv, Int.reduceNeg, Nat.reduceSub, Nat.reduceDiv, Nat.mul_one, Nat.one_mul, Int.lt_irrefl, decide_true, decide_false, reduceIte, reduceCtorEq, Nat.zero_add, Nat.le_refl, Nat.zero_le, and_self, and_true, true_and, List.length_cons, List.length_nil, List.drop_succ_cons, List.drop_zero, List.take_succ_cons, List.take_zero, List.getElem?_cons_succ, List.getElem?_cons_zero, List.cons_append, List.nil_append, List.append_nil, List.all_cons, List.all_nil, Bool.and_true, Nat.left_eq_add, Nat.add_eq_left, Nat.succ_ne_self, Bool.not_true, Bool.not_false, Option.some.injEq, exists_eq_left']))
    all_goals subst hQ
    all_goals simp only [ir51, marks_len, marks_all, marks_drop, List.append_nil, marks_take, go_skip, go_label, go_exit, go_goto, go_ret, go_region, go_seq, go_block, go_scope, go_cond, goC_true, goC_false, ret_nil, ret_seq, ret_seq_exit, ret_seq_ret, ret_seq_goto, ret_seq_panic, ret_block, ret_block_exit, ret_block_ret, ret_block_goto, ret_block_panic, ret_loop, ret_loop_exit, ret_loop_ret, ret_loop_goto, ret_loop_panic, ret_scope, ret_scope_exit, ret_scope_ret, ret_scope_panic, ops_nil, ops_guard, ops_call, ops_callVal, goCV_func, goR_val, goR_panic, gx_tt, gx_ff, gx_tf, gx_ft, gx_undef, w0, w1, w2, w3, w4, w5, w6, w7, w8, w9, w10, w11, w12, w13, w14, w15, w16, Nat.reduceAdd, Nat.reduceEqDiff, Nat.reduceLeDiff, Nat.reduceLT, Nat.reduceMul, Nat.add_zero, Nat.add_assoc, Nat.add_left_cancel_iff, Nat.reduceBEq, Int.reduceLT, Int.reduceLE, Int.reduceEq, Int.reduceAdd, Int.reduceSub, Int.cast_ofNat_Int, Int.reduceMul, Int.reduceMod, Int.reduceTMod, Int.reduceTDiv, Int.reduceNeg, Nat.reduceSub, Nat.reduceDiv, Nat.mul_one, Nat.one_mul, Int.lt_irrefl, decide_true, decide_false, reduceIte, reduceCtorEq, Nat.zero_add, Nat.le_refl, Nat.zero_le, and_self, and_true, true_and, List.length_cons, List.length_nil, List.drop_succ_cons, List.drop_zero, List.take_succ_cons, List.take_zero, List.getElem?_cons_succ, List.getElem?_cons_zero, List.cons_append, List.nil_append, List.append_nil, List.all_cons, List.all_nil, Bool.and_true, Nat.left_eq_add, Nat.add_eq_left, Nat.succ_ne_self, Bool.not_true, Bool.not_false, Option.some.injEq, exists_eq_left']
    all_goals refine ⟨congrArg AV.agg (congrArg marksC (funext fun j => ?_)), ?_⟩
    all_goals first | ((repeat (first | exact Ext.refl hs | refine Ext.add ?_ _)); done) | skip
    all_goals clear k1 k2 q1 q2 ms mt go
    all_goals simp only [rReadsM, rsK, rtK, hR, hkk]
    all_goals (try (rw [Bool.eq_iff_iff]; simp; done))
    all_goals clear hlt hi hs1 ht1 hoi ho him hc hr hh
    all_goals cases a8 <;> by_cases g1 : j = sn <;> by_cases g2 : j = tn <;> simp [g1, g2, Int.ofNat_inj] <;> (try omega) <;> (try simp_all) <;> trace_state
end
end Go.V
