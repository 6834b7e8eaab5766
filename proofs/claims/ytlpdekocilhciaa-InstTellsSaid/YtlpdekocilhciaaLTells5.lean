/- LTells5 -/
import Derived.Test.YtlpdekocilhciaaLTells4
set_option linter.unusedVariables false
set_option linter.unusedSimpArgs false
set_option linter.unusedSectionVars false
namespace Go.V
open Go
set_option linter.unusedSimpArgs false
set_option linter.unusedVariables false
section
variable {T : Tab}
set_option maxRecDepth 100000 in
set_option maxHeartbeats 8000000 in
theorem tells_mid (haw : T 35 = some (.hook (litH yesG))) (hw : T 39 = some (.hook (pureH (inF writesR)))) (hwp : T 37 = some (.hook (pureH (inF writesPredR)))) (hrp : T 41 = some (.hook (pureH (inF readsPredR)))) (htg : T 40 = some (.hook (pureH (inF targetR))))
    (hw' : T 47 = some (.hook (pureH (inF rWritesR)))) (hwp' : T 48 = some (.hook (pureH (inF rWritesPredR)))) (hrp' : T 49 = some (.hook (pureH (inF rReadsPredR)))) (htg' : T 50 = some (.hook (pureH (inF rTargetR)))) (i : In) (hi : In.ok i = true)
    (hrr : ∀ s, WFS s → Ran T 51 [.agg i.cells] s fun v s' => v = .agg (marksC (rReadsM i)) ∧ Ext s s')
    (hrd : ∀ s, WFS s → Ran T 38 [.agg i.cells] s fun v s' => SlU8 s' v (readsF i) ∧ Ext s s')
    (e : Env) (σ : St) (hσ : WFS σ) (b : Nat) (h1 : opd e (.t 1) = .ptr ⟨b, 0, 0, 11⟩) (hbox : σ.heap.get b = some (.cells i.cells 0 0 false)) (hlt : b < σ.next) :
    Go T (Fin [.tmp 2] fun v _ => v = .bool true) ((.seq (.region [⟨some 64, none, [], (.load true 11 (.t 1))⟩, ⟨some 65, none, [], (.call 39 [(.t 64)])⟩, ⟨some 63, none, [], (.move (.t 65))⟩, ⟨some 66, none, [], (.extract (.t 63) 0)⟩, ⟨some 67, none, [], (.extract (.t 63) 1)⟩, ⟨some 4, none, [], (.move (.t 66))⟩, ⟨some 5, none, [], (.move (.t 67))⟩] false)
 (.seq (.region [⟨some 69, none, [], (.load true 11 (.t 1))⟩, ⟨some 70, none, [], (.call 47 [(.t 69)])⟩, ⟨some 68, none, [], (.move (.t 70))⟩, ⟨some 71, none, [], (.extract (.t 68) 0)⟩, ⟨some 72, none, [], (.extract (.t 68) 1)⟩, ⟨some 6, none, [], (.move (.t 71))⟩, ⟨some 7, none, [], (.move (.t 72))⟩] false)
 (.seq (.region [⟨some 74, none, [], (.load true 11 (.t 1))⟩, ⟨some 75, none, [], (.call 37 [(.t 74)])⟩, ⟨some 73, none, [], (.move (.t 75))⟩, ⟨some 76, none, [], (.extract (.t 73) 0)⟩, ⟨some 77, none, [], (.extract (.t 73) 1)⟩, ⟨some 8, none, [], (.move (.t 76))⟩, ⟨some 9, none, [], (.move (.t 77))⟩] false)
 (.seq (.region [⟨some 79, none, [], (.load true 11 (.t 1))⟩, ⟨some 80, none, [], (.call 48 [(.t 79)])⟩, ⟨some 78, none, [], (.move (.t 80))⟩, ⟨some 81, none, [], (.extract (.t 78) 0)⟩, ⟨some 82, none, [], (.extract (.t 78) 1)⟩, ⟨some 10, none, [], (.move (.t 81))⟩, ⟨some 11, none, [], (.move (.t 82))⟩] false)
 (.seq (.region [⟨some 84, none, [], (.load true 11 (.t 1))⟩, ⟨some 85, none, [], (.call 41 [(.t 84)])⟩, ⟨some 83, none, [], (.move (.t 85))⟩, ⟨some 86, none, [], (.extract (.t 83) 0)⟩, ⟨some 87, none, [], (.extract (.t 83) 1)⟩, ⟨some 88, none, [], (.extract (.t 83) 2)⟩, ⟨some 12, none, [], (.move (.t 86))⟩, ⟨some 13, none, [], (.move (.t 87))⟩, ⟨some 14, none, [], (.move (.t 88))⟩] false)
 (.seq (.region [⟨some 90, none, [], (.load true 11 (.t 1))⟩, ⟨some 91, none, [], (.call 49 [(.t 90)])⟩, ⟨some 89, none, [], (.move (.t 91))⟩, ⟨some 92, none, [], (.extract (.t 89) 0)⟩, ⟨some 93, none, [], (.extract (.t 89) 1)⟩, ⟨some 94, none, [], (.extract (.t 89) 2)⟩, ⟨some 15, none, [], (.move (.t 92))⟩, ⟨some 16, none, [], (.move (.t 93))⟩, ⟨some 17, none, [], (.move (.t 94))⟩] false)
 (.seq (.region [⟨some 96, none, [], (.load true 11 (.t 1))⟩, ⟨some 97, none, [], (.call 40 [(.t 96)])⟩, ⟨some 95, none, [], (.move (.t 97))⟩, ⟨some 98, none, [], (.extract (.t 95) 0)⟩, ⟨some 99, none, [], (.extract (.t 95) 1)⟩, ⟨some 18, none, [], (.move (.t 98))⟩, ⟨some 19, none, [], (.move (.t 99))⟩] false)
 (.seq (.region [⟨some 101, none, [], (.load true 11 (.t 1))⟩, ⟨some 102, none, [], (.call 50 [(.t 101)])⟩, ⟨some 100, none, [], (.move (.t 102))⟩, ⟨some 103, none, [], (.extract (.t 100) 0)⟩, ⟨some 104, none, [], (.extract (.t 100) 1)⟩, ⟨some 20, none, [], (.move (.t 103))⟩, ⟨some 21, none, [], (.move (.t 104))⟩] false)
 (.seq (.seq (.region [⟨some 105, none, [], (.move (.t 5))⟩, ⟨some 106, none, [], (.move (.t 7))⟩, ⟨some 107, none, [], (.eq true (.prim .bool) (.t 105) (.t 106))⟩, ⟨some 108, none, [], (.move (.t 107))⟩, ⟨some 109, some (108, false), [], (.move (.t 9))⟩, ⟨some 110, some (108, false), [], (.move (.t 11))⟩, ⟨some 111, some (108, false), [], (.eq true (.prim .bool) (.t 109) (.t 110))⟩, ⟨some 112, none, [], (.pick (.t 108) (.c (.bool true)) (.t 111))⟩, ⟨some 113, none, [], (.move (.t 112))⟩, ⟨some 114, some (113, false), [], (.move (.t 5))⟩, ⟨some 115, some (113, false), [], (.move (.t 114))⟩, ⟨some 116, some (115, true), [], (.move (.t 4))⟩, ⟨some 117, some (115, true), [], (.move (.t 6))⟩, ⟨some 118, some (115, true), [], (.bin .neq (.t 116) (.t 117))⟩, ⟨some 119, some (113, false), [], (.pick (.t 115) (.t 118) (.c (.bool false)))⟩, ⟨some 120, none, [], (.pick (.t 113) (.c (.bool true)) (.t 119))⟩, ⟨some 121, none, [], (.move (.t 120))⟩, ⟨some 122, some (121, false), [], (.move (.t 9))⟩, ⟨some 123, some (121, false), [], (.move (.t 122))⟩, ⟨some 124, some (123, true), [], (.move (.t 8))⟩, ⟨some 125, some (123, true), [], (.move (.t 10))⟩, ⟨some 126, some (123, true), [], (.bin .neq (.t 124) (.t 125))⟩, ⟨some 127, some (121, false), [], (.pick (.t 123) (.t 126) (.c (.bool false)))⟩, ⟨some 128, none, [], (.pick (.t 121) (.c (.bool true)) (.t 127))⟩, ⟨some 129, none, [], (.move (.t 128))⟩, ⟨some 130, some (129, false), [], (.move (.t 12))⟩, ⟨some 131, some (129, false), [], (.move (.t 15))⟩, ⟨some 132, some (129, false), [], (.bin .neq (.t 130) (.t 131))⟩, ⟨some 133, none, [], (.pick (.t 129) (.c (.bool true)) (.t 132))⟩, ⟨some 134, none, [], (.move (.t 133))⟩, ⟨some 135, some (134, false), [], (.move (.t 13))⟩, ⟨some 136, some (134, false), [], (.move (.t 16))⟩, ⟨some 137, some (134, false), [], (.eq true (.prim .bool) (.t 135) (.t 136))⟩, ⟨some 138, none, [], (.pick (.t 134) (.c (.bool true)) (.t 137))⟩, ⟨some 139, none, [], (.move (.t 138))⟩, ⟨some 140, some (139, false), [], (.move (.t 14))⟩, ⟨some 141, some (139, false), [], (.move (.t 17))⟩, ⟨some 142, some (139, false), [], (.eq true (.prim .bool) (.t 140) (.t 141))⟩, ⟨some 143, none, [], (.pick (.t 139) (.c (.bool true)) (.t 142))⟩, ⟨some 144, none, [], (.move (.t 143))⟩, ⟨some 145, some (144, false), [], (.move (.t 18))⟩, ⟨some 146, some (144, false), [], (.move (.t 20))⟩, ⟨some 147, some (144, false), [], (.bin .neq (.t 145) (.t 146))⟩, ⟨some 148, none, [], (.pick (.t 144) (.c (.bool true)) (.t 147))⟩, ⟨some 149, none, [], (.move (.t 148))⟩, ⟨some 150, some (149, false), [], (.move (.t 19))⟩, ⟨some 151, some (149, false), [], (.move (.t 21))⟩, ⟨some 152, some (149, false), [], (.eq true (.prim .bool) (.t 150) (.t 151))⟩, ⟨some 153, none, [], (.pick (.t 149) (.c (.bool true)) (.t 152))⟩, ⟨some 154, none, [], (.move (.t 153))⟩, ⟨some 155, some (154, false), [], (.move (.t 5))⟩, ⟨some 156, some (154, false), [], (.un .not (.t 155))⟩, ⟨some 157, some (154, false), [], (.move (.t 156))⟩, ⟨some 158, some (157, true), [], (.move (.t 4))⟩, ⟨some 159, some (157, true), [], (.bin .neq (.t 158) (.c (.int .u8 0)))⟩, ⟨some 160, some (154, false), [], (.pick (.t 157) (.t 159) (.c (.bool false)))⟩, ⟨some 161, none, [], (.pick (.t 154) (.c (.bool true)) (.t 160))⟩, ⟨some 162, none, [], (.move (.t 161))⟩, ⟨some 163, some (162, false), [], (.move (.t 9))⟩, ⟨some 164, some (162, false), [], (.un .not (.t 163))⟩, ⟨some 165, some (162, false), [], (.move (.t 164))⟩, ⟨some 166, some (165, true), [], (.move (.t 8))⟩, ⟨some 167, some (165, true), [], (.bin .neq (.t 166) (.c (.int .u8 0)))⟩, ⟨some 168, some (162, false), [], (.pick (.t 165) (.t 167) (.c (.bool false)))⟩, ⟨some 169, none, [], (.pick (.t 162) (.c (.bool true)) (.t 168))⟩] false)
 (.cond (.t 169) (.seq (.region [⟨some 2, none, [], (.move (.c (.bool false)))⟩] false)
 .ret) .skip))
 (.seq (.region [⟨some 170, none, [], (.load true 11 (.t 1))⟩, ⟨some 171, none, [], (.call 51 [(.t 170)])⟩, ⟨some 22, none, [], (.alloc [(.bool false), (.bool false), (.bool false), (.bool false), (.bool false), (.bool false), (.bool false), (.bool false), (.bool false), (.bool false), (.bool false), (.bool false), (.bool false), (.bool false), (.bool false), (.bool false), (.bool false), (.bool false), (.bool false), (.bool false), (.bool false), (.bool false), (.bool false), (.bool false), (.bool false), (.bool false), (.bool false), (.bool false), (.bool false), (.bool false), (.bool false), (.bool false)])⟩, ⟨none, none, [], (.store 32 (.t 22) (.t 171))⟩] false)
 (.seq (.region [⟨some 172, none, [], (.load true 11 (.t 1))⟩, ⟨some 173, none, [], (.call 38 [(.t 172)])⟩, ⟨some 23, none, [], (.move (.t 173))⟩] false)
 (.seq (.region [⟨some 24, none, [], (.move (.c (.int .i64 0)))⟩] false)
 (.seq (.seq (.region [⟨some 25, none, [], (.move (.c (.int .i64 0)))⟩] false)
 (.block 0 (.loop (.seq (.seq (.region [⟨some 174, none, [], (.move (.t 25))⟩, ⟨some 175, none, [], (.bin .lss (.t 174) (.c (.int .i64 32)))⟩] false)
 (.cond (.t 175) .skip (.exit 0)))
 (.seq (.block 1 (.seq (.region [⟨some 178, none, [], (.move (.t 25))⟩, ⟨some 179, none, [], (.idxArr 32 1 (.t 22) (.t 178))⟩, ⟨some 180, none, [], (.load false 1 (.t 179))⟩] false)
 (.cond (.t 180) (.seq (.seq (.region [⟨some 181, none, [], (.move (.t 24))⟩, ⟨some 182, none, [], (.move (.t 23))⟩, ⟨some 183, none, [], (.lenSl (.t 182))⟩, ⟨some 184, none, [], (.bin .geq (.t 181) (.t 183))⟩, ⟨some 185, none, [], (.move (.t 184))⟩, ⟨some 186, some (185, false), [], (.move (.t 23))⟩, ⟨some 187, some (185, false), [], (.move (.t 24))⟩, ⟨some 188, some (185, false), [], (.idxSl 1 (.t 186) (.t 187))⟩, ⟨some 189, some (185, false), [], (.load false 1 (.t 188))⟩, ⟨some 190, some (185, false), [], (.conv (.intInt .i64) (.t 189))⟩, ⟨some 191, some (185, false), [], (.move (.t 25))⟩, ⟨some 192, some (185, false), [], (.bin .neq (.t 190) (.t 191))⟩, ⟨some 193, none, [], (.pick (.t 185) (.c (.bool true)) (.t 192))⟩] false)
 (.cond (.t 193) (.seq (.region [⟨some 2, none, [], (.move (.c (.bool false)))⟩] false)
 .ret) .skip))
 (.region [⟨some 194, none, [], (.move (.t 24))⟩, ⟨some 195, none, [], (.bin .add (.t 194) (.c (.int .i64 1)))⟩, ⟨some 24, none, [], (.move (.t 195))⟩] false)) .skip)))
 (.region [⟨some 176, none, [], (.move (.t 25))⟩, ⟨some 177, none, [], (.bin .add (.t 176) (.c (.int .i64 1)))⟩, ⟨some 25, none, [], (.move (.t 177))⟩] false))))))
 (.seq (.region [⟨some 196, none, [], (.move (.t 24))⟩, ⟨some 197, none, [], (.move (.t 23))⟩, ⟨some 198, none, [], (.lenSl (.t 197))⟩, ⟨some 199, none, [], (.bin .eql (.t 196) (.t 198))⟩, ⟨some 200, none, [], (.move (.t 199))⟩, ⟨some 201, some (200, true), [], (.call 35 [])⟩, ⟨some 202, none, [], (.pick (.t 200) (.t 201) (.c (.bool false)))⟩, ⟨some 2, none, [], (.move (.t 202))⟩] false)
 .ret))))))))))))))) [] e σ := by
  have key := fun e h1 => tells_tail haw i hi hrr hrd e σ hσ b h1 hbox hlt
  have hoi := In.okI_of hi
  have k1 := goCall_hook hw
  have k2 := goCall_hook hwp
  have k3 := goCall_hook hrp
  have k4 := goCall_hook htg
  have k1' := goCall_hook hw'
  have k2' := goCall_hook hwp'
  have k3' := goCall_hook hrp'
  have k4' := goCall_hook htg'
  have q1 := fun s => inF_eq writesR i s hoi
  have q2 := fun s => inF_eq writesPredR i s hoi
  have q3 := fun s => inF_eq readsPredR i s hoi
  have q4 := fun s => inF_eq targetR i s hoi
  have q1' := fun s => inF_eq rWritesR i s hoi
  have q2' := fun s => inF_eq rWritesPredR i s hoi
  have q3' := fun s => inF_eq rReadsPredR i s hoi
  have q4' := fun s => inF_eq rTargetR i s hoi
  simp only [rWritesR, rWritesPredR, rReadsPredR, rTargetR, eq_writes i hi, eq_writesPred i hi, eq_readsPred i hi, eq_target i hi] at q1' q2' q3' q4'
  simp only [writesR, writesPredR, readsPredR, targetR] at q1 q2 q3 q4
  have hW : (writesF i).2 = false → (writesF i).1 = 0 := by
    unfold writesF; repeat' split
    all_goals simp
  have hP : (writesPredF i).2 = false → (writesPredF i).1 = 0 := by
    unfold writesPredF; split <;> simp
  generalize (writesF i).1 = vw at *
  generalize (writesF i).2 = vb at *
  generalize (writesPredF i).1 = p1 at *
  generalize (writesPredF i).2 = p2 at *
  generalize (readsPredF i).1 = r1 at *
  generalize (readsPredF i).2.1 = r2 at *
  generalize (readsPredF i).2.2 = r3 at *
  generalize (targetF i).1 = t1 at *
  generalize (targetF i).2 = t2 at *
  generalize hQ : Fin _ _ = Q at *
  generalize hrest : (((.seq (.region [⟨some 170, none, [], (.load true 11 (.t 1))⟩, ⟨some 171, none, [], (.call 51 [(.t 170)])⟩, ⟨some 22, none, [], (.alloc [(.bool false), (.bool false), (.bool false), (.bool false), (.bool false), (.bool false), (.bool false), (.bool false), (.bool false), (.bool false), (.bool false), (.bool false), (.bool false), (.bool false), (.bool false), (.bool false), (.bool false), (.bool false), (.bool false), (.bool false), (.bool false), (.bool false), (.bool false), (.bool false), (.bool false), (.bool false), (.bool false), (.bool false), (.bool false), (.bool false), (.bool false), (.bool false)])⟩, ⟨none, none, [], (.store 32 (.t 22) (.t 171))⟩] false)
 (.seq (.region [⟨some 172, none, [], (.load true 11 (.t 1))⟩, ⟨some 173, none, [], (.call 38 [(.t 172)])⟩, ⟨some 23, none, [], (.move (.t 173))⟩] false)
 (.seq (.region [⟨some 24, none, [], (.move (.c (.int .i64 0)))⟩] false)
 (.seq (.seq (.region [⟨some 25, none, [], (.move (.c (.int .i64 0)))⟩] false)
 (.block 0 (.loop (.seq (.seq (.region [⟨some 174, none, [], (.move (.t 25))⟩, ⟨some 175, none, [], (.bin .lss (.t 174) (.c (.int .i64 32)))⟩] false)
 (.cond (.t 175) .skip (.exit 0)))
 (.seq (.block 1 (.seq (.region [⟨some 178, none, [], (.move (.t 25))⟩, ⟨some 179, none, [], (.idxArr 32 1 (.t 22) (.t 178))⟩, ⟨some 180, none, [], (.load false 1 (.t 179))⟩] false)
 (.cond (.t 180) (.seq (.seq (.region [⟨some 181, none, [], (.move (.t 24))⟩, ⟨some 182, none, [], (.move (.t 23))⟩, ⟨some 183, none, [], (.lenSl (.t 182))⟩, ⟨some 184, none, [], (.bin .geq (.t 181) (.t 183))⟩, ⟨some 185, none, [], (.move (.t 184))⟩, ⟨some 186, some (185, false), [], (.move (.t 23))⟩, ⟨some 187, some (185, false), [], (.move (.t 24))⟩, ⟨some 188, some (185, false), [], (.idxSl 1 (.t 186) (.t 187))⟩, ⟨some 189, some (185, false), [], (.load false 1 (.t 188))⟩, ⟨some 190, some (185, false), [], (.conv (.intInt .i64) (.t 189))⟩, ⟨some 191, some (185, false), [], (.move (.t 25))⟩, ⟨some 192, some (185, false), [], (.bin .neq (.t 190) (.t 191))⟩, ⟨some 193, none, [], (.pick (.t 185) (.c (.bool true)) (.t 192))⟩] false)
 (.cond (.t 193) (.seq (.region [⟨some 2, none, [], (.move (.c (.bool false)))⟩] false)
 .ret) .skip))
 (.region [⟨some 194, none, [], (.move (.t 24))⟩, ⟨some 195, none, [], (.bin .add (.t 194) (.c (.int .i64 1)))⟩, ⟨some 24, none, [], (.move (.t 195))⟩] false)) .skip)))
 (.region [⟨some 176, none, [], (.move (.t 25))⟩, ⟨some 177, none, [], (.bin .add (.t 176) (.c (.int .i64 1)))⟩, ⟨some 25, none, [], (.move (.t 177))⟩] false))))))
 (.seq (.region [⟨some 196, none, [], (.move (.t 24))⟩, ⟨some 197, none, [], (.move (.t 23))⟩, ⟨some 198, none, [], (.lenSl (.t 197))⟩, ⟨some 199, none, [], (.bin .eql (.t 196) (.t 198))⟩, ⟨some 200, none, [], (.move (.t 199))⟩, ⟨some 201, some (200, true), [], (.call 35 [])⟩, ⟨some 202, none, [], (.pick (.t 200) (.t 201) (.c (.bool false)))⟩, ⟨some 2, none, [], (.move (.t 202))⟩] false)
 .ret)))))) : ICode) = RC at *
  clear hrr hrd haw hQ hrest
  simp only [In.cells] at hbox q1 q2 q3 q4 q1' q2' q3' q4'
  cases vb <;> cases p2
  all_goals
    (try have hW := hW rfl)
    (try have hP := hP rfl)
    (try subst hW)
    (try subst hP)
    simp only [h1, hbox, In.cells, k1, k2, k3, k4, k1', k2', k3', k4', q1, q2, q3, q4, q1', q2', q3', q4', eq_bool, bne_self_eq_false, beq_self_eq_true, go_skip, go_label, go_exit, go_goto, go_ret, go_region, go_seq, go_block, go_scope, go_cond, goC_true, goC_false, ret_nil, ret_seq, ret_seq_exit, ret_seq_ret, ret_seq_goto, ret_seq_panic, ret_block, ret_block_exit, ret_block_ret, ret_block_goto, ret_block_panic, ret_loop, ret_loop_exit, ret_loop_ret, ret_loop_goto, ret_loop_panic, ret_scope, ret_scope_exit, ret_scope_ret, ret_scope_panic, ops_nil, ops_guard, ops_call, ops_callVal, goCV_func, goR_val, goR_panic, gx_tt, gx_ff, gx_tf, gx_ft, gx_undef, w0, w1, w2, w3, w4, w5, w6, w7, w8, w9, w10, w11, w12, w13, w14, w15, w16, Nat.reduceAdd, Nat.reduceEqDiff, Nat.reduceLeDiff, Nat.reduceLT, Nat.reduceMul, Nat.add_zero, Nat.add_assoc, Nat.add_left_cancel_iff, Nat.reduceBEq, Int.reduceLT, Int.reduceLE, Int.reduceEq, Int.reduceAdd, Int.reduceSub, Int.cast_ofNat_Int, Int.reduceMul, Int.reduceMod, Int.reduceTMod, Int.reduceTDiv, Int.reduceNeg, Nat.reduceSub, Nat.reduceDiv, Nat.mul_one, Nat.one_mul, Int.lt_irrefl, decide_true, decide_false, reduceIte, reduceCtorEq, Nat.zero_add, Nat.le_refl, Nat.zero_le, and_self, and_true, true_and, List.length_cons, List.length_nil, List.drop_succ_cons, List.drop_zero, List.take_succ_cons, List.take_zero, List.getElem?_cons_succ, List.getElem?_cons_zero, List.cons_append, List.nil_append, List.append_nil, List.all_cons, List.all_nil, Bool.and_true, Nat.left_eq_add, Nat.add_eq_left, Nat.succ_ne_self, Bool.not_true, Bool.not_false, Option.some.injEq, exists_eq_left']
  all_goals exact key _ (by simp only [h1, go_skip, go_label, go_exit, go_goto, go_ret, go_region, go_seq, go_block, go_scope, go_cond, goC_true, goC_false, ret_nil, ret_seq, ret_seq_exit, ret_seq_ret, ret_seq_goto, ret_seq_panic, ret_block, ret_block_exit, ret_block_ret, ret_block_goto, ret_block_panic, ret_loop, ret_loop_exit, ret_loop_ret, ret_loop_goto, ret_loop_panic, ret_scope, ret_scope_exit, ret_scope_ret, ret_scope_panic, ops_nil, ops_guard, ops_call, ops_callVal, goCV_func, goR_val, goR_panic, gx_tt, gx_ff, gx_tf, gx_ft, gx_undef, w0, w1, w2, w3, w4, w5, w6, w7, w8, w9, w10, w11, w12, w13, w14, w15, w16, Nat.reduceAdd, Nat.reduceEqDiff, Nat.reduceLeDiff, Nat.reduceLT, Nat.reduceMul, Nat.add_zero, Nat.add_assoc, Nat.add_left_cancel_iff, Nat.reduceBEq, Int.reduceLT, Int.reduceLE, Int.reduceEq, Int.reduceAdd, Int.reduceSub, Int.cast_ofNat_Int, Int.reduceMul, Int.reduceMod, Int.reduceTMod, Int.reduceTDiv, Int.reduceNeg, Nat.reduceSub, Nat.reduceDiv, Nat.mul_one, Nat.one_mul, Int.lt_irrefl, decide_true, decide_false, reduceIte, reduceCtorEq, Nat.zero_add, Nat.le_refl, Nat.zero_le, and_self, and_true, true_and, List.length_cons, List.length_nil, List.drop_succ_cons, List.drop_zero, List.take_succ_cons, List.take_zero, List.getElem?_cons_succ, List.getElem?_cons_zero, List.cons_append, List.nil_append, List.append_nil, List.all_cons, List.all_nil, Bool.and_true, Nat.left_eq_add, Nat.add_eq_left, Nat.succ_ne_self, Bool.not_true, Bool.not_false, Option.some.injEq, exists_eq_left'])
end
end Go.V
