/- InstTells: what it reads. -/
import Derived.Test.YtlpdekocilhciaaLTells3
import Derived.Test.YtlpdekocilhciaaLTurn2
import Derived.Test.YtlpdekocilhciaaFInst
set_option linter.unusedVariables false
set_option linter.unusedSimpArgs false
set_option linter.unusedSectionVars false
/- InstTells: what it reads. -/
namespace Go.V
open Go
set_option linter.unusedSimpArgs false
set_option linter.unusedVariables false
section
variable {T : Tab}
theorem reads_lt {i : In} (hi : In.ok i = true) : ∀ x ∈ readsF i, 0 ≤ x ∧ x < 32 := by
  intro x hx
  have hR : rightF i = true := by
    cases h : rightF i with
    | true => rfl
    | false => rw [reads_not h] at hx; simp at hx
  have hreg : refF i = true := by rw [ref_right i hi]; exact hR
  simp only [refF, regsF, Bool.and_eq_true, decide_eq_true_eq] at hreg
  have hok := hi
  simp only [In.ok, Bool.and_eq_true] at hok
  obtain ⟨-, -, hs1, ht1, -⟩ := hok
  have b2 := (isByte_lt hs1).1
  have b3 := (isByte_lt ht1).1
  have hx' : x = i.s ∨ x = i.t := by
    unfold readsF at hx
    repeat' split at hx
    all_goals simp at hx
    all_goals omega
  omega
set_option maxHeartbeats 4000000 in
theorem tells_tail (haw : T 35 = some (.hook (litH yesG))) (i : In) (hi : In.ok i = true)
    (hrr : ∀ s, WFS s → Ran T 51 [.agg i.cells] s fun v s' => v = .agg (marksC (rReadsM i)) ∧ Ext s s')
    (hrd : ∀ s, WFS s → Ran T 38 [.agg i.cells] s fun v s' => SlU8 s' v (readsF i) ∧ Ext s s')
    (e : Env) (σ : St) (hσ : WFS σ) (b : Nat) (h1 : opd e (.t 1) = .ptr ⟨b, 0, 0, 11⟩) (hbox : σ.heap.get b = some (.cells i.cells 0 0 false)) (hlt : b < σ.next) :
    Go T (Fin [.tmp 2] fun v _ => v = .bool true) ((.seq (.region [⟨some 170, none, [], (.load true 11 (.t 1))⟩, ⟨some 171, none, [], (.call 51 [(.t 170)])⟩, ⟨some 22, none, [], (.alloc [(.bool false), (.bool false), (.bool false), (.bool false), (.bool false), (.bool false), (.bool false), (.bool false), (.bool false), (.bool false), (.bool false), (.bool false), (.bool false), (.bool false), (.bool false), (.bool false), (.bool false), (.bool false), (.bool false), (.bool false), (.bool false), (.bool false), (.bool false), (.bool false), (.bool false), (.bool false), (.bool false), (.bool false), (.bool false), (.bool false), (.bool false), (.bool false)])⟩, ⟨none, none, [], (.store 32 (.t 22) (.t 171))⟩] false)
 (.seq (.region [⟨some 172, none, [], (.load true 11 (.t 1))⟩, ⟨some 173, none, [], (.call 38 [(.t 172)])⟩, ⟨some 23, none, [], (.move (.t 173))⟩] false)
 (.seq (.region [⟨some 24, none, [], (.move (.c (.int .i64 0)))⟩] false)
 (.seq (.seq (.region [⟨some 25, none, [], (.move (.c (.int .i64 0)))⟩] false)
 (.block 0 (.loop (.seq (.seq (.region [⟨some 174, none, [], (.move (.t 25))⟩, ⟨some 175, none, [], (.bin .lss (.t 174) (.c (.int .i64 32)))⟩] false)
 (.cond (.t 175) .skip (.exit 0)))
 (.seq (.block 1 (.seq (.region [⟨some 178, none, [], (.move (.t 25))⟩, ⟨some 179, none, [], (.idxArr 32 1 (.t 22) (.t 178))⟩, ⟨some 180, none, [], (.load false 1 (.t 179))⟩] false)
 (.cond (.t 180) (.seq (.seq (.region [⟨some 181, none, [], (.move (.t 24))⟩, ⟨some 182, none, [], (.move (.t 23))⟩, ⟨some 183, none, [], (.lenSl (.t 182))⟩, ⟨some 184, none, [], (.bin .geq (.t 181) (.t 183))⟩, ⟨some 185, none, [], (.move (.t 184))⟩, ⟨some 186, some (185, false), [], (.move (.t 23))⟩, ⟨some 187, some (185, false), [], (.move (.t 24))⟩, ⟨some 188, some (185, false), [], (.idxSl 1 (.t 186) (.t 187))⟩, ⟨some 189, some (185, false), [], (.load false 1 (.t 188))⟩, ⟨some 190, some (185, false), [], (.conv (.intInt .i64) (.t 189))⟩, ⟨some 191, some (185, false), [], (.move (.t 25))⟩, ⟨some 192, some (185, false), [], (.bin .neq (.t 190) (.t 191))⟩, ⟨some 193, none, [], (.pick (.t 185) (.c (.bool true)) (.t 192))⟩] false)
 (.cond (.t 193) (.seq (.region [⟨some 2, none, [], (.move (.c (.bool false)))⟩] false)
 .ret) .skip))
 (.region [⟨some 194, none, [], (.move (.t 24))⟩, ⟨some 195, none, [], (.bin .add (.t 194) (.c (.int .i64 1)))⟩, ⟨some 24, none, [], (.move (.t 195))⟩] false)) .skip)))
 (.region [⟨some 176, none, [], (.move (.t 25))⟩, ⟨some 177, none, [], (.bin .add (.t 176) (.c (.int .i64 1)))⟩, ⟨some 25, none, [], (.move (.t 177))⟩] false))))))
 (.seq (.region [⟨some 196, none, [], (.move (.t 24))⟩, ⟨some 197, none, [], (.move (.t 23))⟩, ⟨some 198, none, [], (.lenSl (.t 197))⟩, ⟨some 199, none, [], (.bin .eql (.t 196) (.t 198))⟩, ⟨some 200, none, [], (.move (.t 199))⟩, ⟨some 201, some (200, true), [], (.call 35 [])⟩, ⟨some 202, none, [], (.pick (.t 200) (.t 201) (.c (.bool false)))⟩, ⟨some 2, none, [], (.move (.t 202))⟩] false)
 .ret)))))) [] e σ := by
  have hl := reads_lt hi
  have key := fun σ v b hv ob => tells_loop haw (readsF i) (reads_shape i) (fun x hx => (hl x hx).2) σ v b hv (rReadsM i) (eq_reads i hi) ob 32 0
  rw [cnt_zero fun x hx => (hl x hx).1] at key
  generalize hQ : Fin _ _ = Q at *
  simp only [In.cells] at hbox hrr hrd
  simp only [h1, hbox, In.cells, go_skip, go_label, go_exit, go_goto, go_ret, go_region, go_seq, go_block, go_scope, go_cond, goC_true, goC_false, ret_nil, ret_seq, ret_seq_exit, ret_seq_ret, ret_seq_goto, ret_seq_panic, ret_block, ret_block_exit, ret_block_ret, ret_block_goto, ret_block_panic, ret_loop, ret_loop_exit, ret_loop_ret, ret_loop_goto, ret_loop_panic, ret_scope, ret_scope_exit, ret_scope_ret, ret_scope_panic, ops_nil, ops_guard, ops_call, ops_callVal, goCV_func, goR_val, goR_panic, gx_tt, gx_ff, gx_tf, gx_ft, gx_undef, w0, w1, w2, w3, w4, w5, w6, w7, w8, w9, w10, w11, w12, w13, w14, w15, w16, Nat.reduceAdd, Nat.reduceEqDiff, Nat.reduceLeDiff, Nat.reduceLT, Nat.reduceMul, Nat.add_zero, Nat.add_assoc, Nat.add_left_cancel_iff, Nat.reduceBEq, Int.reduceLT, Int.reduceLE, Int.reduceEq, Int.reduceAdd, Int.reduceSub, Int.cast_ofNat_Int, Int.reduceMul, Int.reduceMod, Int.reduceTMod, Int.reduceTDiv, Int.reduceNeg, Nat.reduceSub, Nat.reduceDiv, Nat.mul_one, Nat.one_mul, Int.lt_irrefl, decide_true, decide_false, reduceIte, reduceCtorEq, Nat.zero_add, Nat.le_refl, Nat.zero_le, and_self, and_true, true_and, List.length_cons, List.length_nil, List.drop_succ_cons, List.drop_zero, List.take_succ_cons, List.take_zero, List.getElem?_cons_succ, List.getElem?_cons_zero, List.cons_append, List.nil_append, List.append_nil, List.all_cons, List.all_nil, Bool.and_true, Nat.left_eq_add, Nat.add_eq_left, Nat.succ_ne_self, Bool.not_true, Bool.not_false, Option.some.injEq, exists_eq_left']
  refine goCall_by (hrr _ hσ) ?_
  rintro v s' ⟨rfl, hx⟩
  have hbox' : s'.heap.get b = some (.cells i.cells 0 0 false) := by
    rw [hx.2.2 b hlt]; exact hbox
  have hltb : b < s'.next := by have := hx.2.1; omega
  have n1 : ¬ (b = s'.next) := by omega
  have n2 : ¬ (s'.next = b) := by omega
  simp only [In.cells] at hbox'
  simp only [h1, hbox', n1, n2, marks_0, marks_len, marks_all, marks_drop, List.append_nil, marks_take, go_skip, go_label, go_exit, go_goto, go_ret, go_region, go_seq, go_block, go_scope, go_cond, goC_true, goC_false, ret_nil, ret_seq, ret_seq_exit, ret_seq_ret, ret_seq_goto, ret_seq_panic, ret_block, ret_block_exit, ret_block_ret, ret_block_goto, ret_block_panic, ret_loop, ret_loop_exit, ret_loop_ret, ret_loop_goto, ret_loop_panic, ret_scope, ret_scope_exit, ret_scope_ret, ret_scope_panic, ops_nil, ops_guard, ops_call, ops_callVal, goCV_func, goR_val, goR_panic, gx_tt, gx_ff, gx_tf, gx_ft, gx_undef, w0, w1, w2, w3, w4, w5, w6, w7, w8, w9, w10, w11, w12, w13, w14, w15, w16, Nat.reduceAdd, Nat.reduceEqDiff, Nat.reduceLeDiff, Nat.reduceLT, Nat.reduceMul, Nat.add_zero, Nat.add_assoc, Nat.add_left_cancel_iff, Nat.reduceBEq, Int.reduceLT, Int.reduceLE, Int.reduceEq, Int.reduceAdd, Int.reduceSub, Int.cast_ofNat_Int, Int.reduceMul, Int.reduceMod, Int.reduceTMod, Int.reduceTDiv, Int.reduceNeg, Nat.reduceSub, Nat.reduceDiv, Nat.mul_one, Nat.one_mul, Int.lt_irrefl, decide_true, decide_false, reduceIte, reduceCtorEq, Nat.zero_add, Nat.le_refl, Nat.zero_le, and_self, and_true, true_and, List.length_cons, List.length_nil, List.drop_succ_cons, List.drop_zero, List.take_succ_cons, List.take_zero, List.getElem?_cons_succ, List.getElem?_cons_zero, List.cons_append, List.nil_append, List.append_nil, List.all_cons, List.all_nil, Bool.and_true, Nat.left_eq_add, Nat.add_eq_left, Nat.succ_ne_self, Bool.not_true, Bool.not_false, Option.some.injEq, exists_eq_left']
  refine goCall_by (hrd _ (hx.1.add _)) ?_
  rintro v s2 ⟨hsl, hx2⟩
  have oa : s2.heap.get s'.next = some (.cells (marksC (rReadsM i)) 0 0 false) := by
    rw [hx2.2.2 s'.next (by rw [add_next]; omega), add_get, if_pos rfl]
  simp only [go_skip, go_label, go_exit, go_goto, go_ret, go_region, go_seq, go_block, go_scope, go_cond, goC_true, goC_false, ret_nil, ret_seq, ret_seq_exit, ret_seq_ret, ret_seq_goto, ret_seq_panic, ret_block, ret_block_exit, ret_block_ret, ret_block_goto, ret_block_panic, ret_loop, ret_loop_exit, ret_loop_ret, ret_loop_goto, ret_loop_panic, ret_scope, ret_scope_exit, ret_scope_ret, ret_scope_panic, ops_nil, ops_guard, ops_call, ops_callVal, goCV_func, goR_val, goR_panic, gx_tt, gx_ff, gx_tf, gx_ft, gx_undef, w0, w1, w2, w3, w4, w5, w6, w7, w8, w9, w10, w11, w12, w13, w14, w15, w16, Nat.reduceAdd, Nat.reduceEqDiff, Nat.reduceLeDiff, Nat.reduceLT, Nat.reduceMul, Nat.add_zero, Nat.add_assoc, Nat.add_left_cancel_iff, Nat.reduceBEq, Int.reduceLT, Int.reduceLE, Int.reduceEq, Int.reduceAdd, Int.reduceSub, Int.cast_ofNat_Int, Int.reduceMul, Int.reduceMod, Int.reduceTMod, Int.reduceTDiv, Int.reduceNeg, Nat.reduceSub, Nat.reduceDiv, Nat.mul_one, Nat.one_mul, Int.lt_irrefl, decide_true, decide_false, reduceIte, reduceCtorEq, Nat.zero_add, Nat.le_refl, Nat.zero_le, and_self, and_true, true_and, List.length_cons, List.length_nil, List.drop_succ_cons, List.drop_zero, List.take_succ_cons, List.take_zero, List.getElem?_cons_succ, List.getElem?_cons_zero, List.cons_append, List.nil_append, List.append_nil, List.all_cons, List.all_nil, Bool.and_true, Nat.left_eq_add, Nat.add_eq_left, Nat.succ_ne_self, Bool.not_true, Bool.not_false, Option.some.injEq, exists_eq_left']
  refine key s2 v s'.next hsl oa _ rfl ?_ ?_ ?_ ?_
  all_goals simp only [go_skip, go_label, go_exit, go_goto, go_ret, go_region, go_seq, go_block, go_scope, go_cond, goC_true, goC_false, ret_nil, ret_seq, ret_seq_exit, ret_seq_ret, ret_seq_goto, ret_seq_panic, ret_block, ret_block_exit, ret_block_ret, ret_block_goto, ret_block_panic, ret_loop, ret_loop_exit, ret_loop_ret, ret_loop_goto, ret_loop_panic, ret_scope, ret_scope_exit, ret_scope_ret, ret_scope_panic, ops_nil, ops_guard, ops_call, ops_callVal, goCV_func, goR_val, goR_panic, gx_tt, gx_ff, gx_tf, gx_ft, gx_undef, w0, w1, w2, w3, w4, w5, w6, w7, w8, w9, w10, w11, w12, w13, w14, w15, w16, Nat.reduceAdd, Nat.reduceEqDiff, Nat.reduceLeDiff, Nat.reduceLT, Nat.reduceMul, Nat.add_zero, Nat.add_assoc, Nat.add_left_cancel_iff, Nat.reduceBEq, Int.reduceLT, Int.reduceLE, Int.reduceEq, Int.reduceAdd, Int.reduceSub, Int.cast_ofNat_Int, Int.reduceMul, Int.reduceMod, Int.reduceTMod, Int.reduceTDiv, Int.reduceNeg, Nat.reduceSub, Nat.reduceDiv, Nat.mul_one, Nat.one_mul, Int.lt_irrefl, decide_true, decide_false, reduceIte, reduceCtorEq, Nat.zero_add, Nat.le_refl, Nat.zero_le, and_self, and_true, true_and, List.length_cons, List.length_nil, List.drop_succ_cons, List.drop_zero, List.take_succ_cons, List.take_zero, List.getElem?_cons_succ, List.getElem?_cons_zero, List.cons_append, List.nil_append, List.append_nil, List.all_cons, List.all_nil, Bool.and_true, Nat.left_eq_add, Nat.add_eq_left, Nat.succ_ne_self, Bool.not_true, Bool.not_false, Option.some.injEq, exists_eq_left']
  all_goals rfl
end
end Go.V
