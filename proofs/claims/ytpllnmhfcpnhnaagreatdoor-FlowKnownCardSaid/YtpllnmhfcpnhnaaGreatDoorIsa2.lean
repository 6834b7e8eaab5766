/- ISA's functions, as contracts and hooks. -/
import Derived.Test.YtpllnmhfcpnhnaaGreatDoorVD
import Derived.Test.YtpllnmhfcpnhnaaGreatDoorIsa1
set_option linter.unusedVariables false
set_option linter.unusedSimpArgs false
set_option linter.unusedSectionVars false
/- ISA's functions, as contracts and hooks. -/
namespace Go.V
open Go
set_option linter.unusedSimpArgs false
set_option linter.unusedVariables false

def Fld.zero : Fld := ⟨0, 0, 0, false, false⟩
def atSpec (kind : Int) : List Fld → Int → Fld × Int × Bool
  | [], _ => (.zero, 0, false)
  | f :: l, a => if f.kind = kind then (f, wrapF .i64 (a - f.bits), true) else atSpec kind l (wrapF .i64 (a - f.bits))
theorem Fld.len (f : Fld) : f.cells.length = 5 := rfl
theorem Fld.plain (f : Fld) : plains f.cells = true := rfl
theorem isaRow_mem {op : Int} {r : IRow} (h : isaRow op = some r) : r ∈ isaRows := by
  unfold isaRow at h
  split at h
  · split at h
    · cases h
    · exact List.mem_of_getElem? h
  · cases h
theorem isaRow_len {op : Int} {r : IRow} (h : isaRow op = some r) : r.fields.length < 1000 := by
  have h1 : isaRows.all (fun r => Nat.blt r.fields.length 1000) = true := by decide +kernel
  exact Nat.le_of_ble_eq_true (List.all_eq_true.1 h1 r (isaRow_mem h))
def fieldsOf (op : Int) : List Fld := match isaRow op with
  | some r => r.fields
  | none => []

section
variable {T : Tab}

theorem at_ran (hc : T 139 = some (.code ir139)) (hf : T 180 = some (.hook (litH rowG))) (s : St) (hs : WFS s) (op kind : Int) (hop : isByte op = true) :
    Ran T 139 [.int .u8 op, .int .u8 kind] s fun v s' => v = (match atSpec kind (fieldsOf op) 24 with | (f, a, b) => .tuple [.agg f.cells, .int .i64 a, .bool b]) ∧ Ext s s' := by
  refine ran_code hc (Nat.le_of_ble_eq_true rfl) ?_
  simp only [ir139, w0, w1, w2, w3, w4, w5, w6, w7, w8, w9, w10, w11, w12, w13, w14, w15, w16, Nat.reduceAdd, Nat.reduceEqDiff, Nat.reduceLeDiff, Nat.reduceLT, Nat.reduceMul, Nat.add_zero, Nat.add_assoc, Nat.add_left_cancel_iff, Nat.reduceBEq, Int.reduceLT, Int.reduceLE, Int.reduceEq, Int.reduceAdd, Int.reduceSub, Int.cast_ofNat_Int, Int.reduceMul, Int.reduceMod, Int.reduceTMod, Int.reduceTDiv, Int.reduceNeg, Nat.reduceSub, Nat.reduceDiv, Nat.mul_one, Nat.one_mul, Int.lt_irrefl, decide_true, decide_false, reduceIte, reduceCtorEq, Nat.zero_add, Nat.le_refl, Nat.zero_le, and_self, and_true, true_and, List.length_cons, List.length_nil, List.drop_succ_cons, List.drop_zero, List.take_succ_cons, List.take_zero, List.getElem?_cons_succ, List.getElem?_cons_zero, List.cons_append, List.nil_append, List.append_nil, List.all_cons, List.all_nil, Bool.and_true, Nat.left_eq_add, Nat.add_eq_left, Nat.succ_ne_self, Bool.not_true, Bool.not_false, Option.some.injEq, exists_eq_left']
  refine goCall_by (ran_hook hf (K := fun v s' => v = (rowAns op).1.sh (s.next + 1) ∧ s' = addAll (s.next + 1) (rowAns op).2 (s.add (.cells [.int .u8 0, .int .i64 0, .int .i64 0, .bool false, .bool false] 0 0 false))) (by simp only [litH, rowG, hop, add_next]) ⟨rfl, rfl⟩) ?_
  rintro v s' ⟨rfl, rfl⟩
  unfold rowAns fieldsOf
  cases hr : isaRow op with
  | none =>
    simp only [AV.sh, AV.shs, addAll, atSpec, w0, w1, w2, w3, w4, w5, w6, w7, w8, w9, w10, w11, w12, w13, w14, w15, w16, Nat.reduceAdd, Nat.reduceEqDiff, Nat.reduceLeDiff, Nat.reduceLT, Nat.reduceMul, Nat.add_zero, Nat.add_assoc, Nat.add_left_cancel_iff, Nat.reduceBEq, Int.reduceLT, Int.reduceLE, Int.reduceEq, Int.reduceAdd, Int.reduceSub, Int.cast_ofNat_Int, Int.reduceMul, Int.reduceMod, Int.reduceTMod, Int.reduceTDiv, Int.reduceNeg, Nat.reduceSub, Nat.reduceDiv, Nat.mul_one, Nat.one_mul, Int.lt_irrefl, decide_true, decide_false, reduceIte, reduceCtorEq, Nat.zero_add, Nat.le_refl, Nat.zero_le, and_self, and_true, true_and, List.length_cons, List.length_nil, List.drop_succ_cons, List.drop_zero, List.take_succ_cons, List.take_zero, List.getElem?_cons_succ, List.getElem?_cons_zero, List.cons_append, List.nil_append, List.append_nil, List.all_cons, List.all_nil, Bool.and_true, Nat.left_eq_add, Nat.add_eq_left, Nat.succ_ne_self, Bool.not_true, Bool.not_false, Option.some.injEq, exists_eq_left']
    simp only [go_loop, w0, w1, w2, w3, w4, w5, w6, w7, w8, w9, w10, w11, w12, w13, w14, w15, w16, Nat.reduceAdd, Nat.reduceEqDiff, Nat.reduceLeDiff, Nat.reduceLT, Nat.reduceMul, Nat.add_zero, Nat.add_assoc, Nat.add_left_cancel_iff, Nat.reduceBEq, Int.reduceLT, Int.reduceLE, Int.reduceEq, Int.reduceAdd, Int.reduceSub, Int.cast_ofNat_Int, Int.reduceMul, Int.reduceMod, Int.reduceTMod, Int.reduceTDiv, Int.reduceNeg, Nat.reduceSub, Nat.reduceDiv, Nat.mul_one, Nat.one_mul, Int.lt_irrefl, decide_true, decide_false, reduceIte, reduceCtorEq, Nat.zero_add, Nat.le_refl, Nat.zero_le, and_self, and_true, true_and, List.length_cons, List.length_nil, List.drop_succ_cons, List.drop_zero, List.take_succ_cons, List.take_zero, List.getElem?_cons_succ, List.getElem?_cons_zero, List.cons_append, List.nil_append, List.append_nil, List.all_cons, List.all_nil, Bool.and_true, Nat.left_eq_add, Nat.add_eq_left, Nat.succ_ne_self, Bool.not_true, Bool.not_false, Option.some.injEq, exists_eq_left']
    exact ⟨rfl, (((Ext.refl hs).add _).add _)⟩
  | some r =>
    obtain ⟨nm, cl, sl, fs⟩ := r
    cases fs with
    | nil =>
      simp only [AV.sh, AV.shs, addAll, atSpec, fldsV, fldsL, w0, w1, w2, w3, w4, w5, w6, w7, w8, w9, w10, w11, w12, w13, w14, w15, w16, Nat.reduceAdd, Nat.reduceEqDiff, Nat.reduceLeDiff, Nat.reduceLT, Nat.reduceMul, Nat.add_zero, Nat.add_assoc, Nat.add_left_cancel_iff, Nat.reduceBEq, Int.reduceLT, Int.reduceLE, Int.reduceEq, Int.reduceAdd, Int.reduceSub, Int.cast_ofNat_Int, Int.reduceMul, Int.reduceMod, Int.reduceTMod, Int.reduceTDiv, Int.reduceNeg, Nat.reduceSub, Nat.reduceDiv, Nat.mul_one, Nat.one_mul, Int.lt_irrefl, decide_true, decide_false, reduceIte, reduceCtorEq, Nat.zero_add, Nat.le_refl, Nat.zero_le, and_self, and_true, true_and, List.length_cons, List.length_nil, List.drop_succ_cons, List.drop_zero, List.take_succ_cons, List.take_zero, List.getElem?_cons_succ, List.getElem?_cons_zero, List.cons_append, List.nil_append, List.append_nil, List.all_cons, List.all_nil, Bool.and_true, Nat.left_eq_add, Nat.add_eq_left, Nat.succ_ne_self, Bool.not_true, Bool.not_false, Option.some.injEq, exists_eq_left']
      simp only [go_loop, w0, w1, w2, w3, w4, w5, w6, w7, w8, w9, w10, w11, w12, w13, w14, w15, w16, Nat.reduceAdd, Nat.reduceEqDiff, Nat.reduceLeDiff, Nat.reduceLT, Nat.reduceMul, Nat.add_zero, Nat.add_assoc, Nat.add_left_cancel_iff, Nat.reduceBEq, Int.reduceLT, Int.reduceLE, Int.reduceEq, Int.reduceAdd, Int.reduceSub, Int.cast_ofNat_Int, Int.reduceMul, Int.reduceMod, Int.reduceTMod, Int.reduceTDiv, Int.reduceNeg, Nat.reduceSub, Nat.reduceDiv, Nat.mul_one, Nat.one_mul, Int.lt_irrefl, decide_true, decide_false, reduceIte, reduceCtorEq, Nat.zero_add, Nat.le_refl, Nat.zero_le, and_self, and_true, true_and, List.length_cons, List.length_nil, List.drop_succ_cons, List.drop_zero, List.take_succ_cons, List.take_zero, List.getElem?_cons_succ, List.getElem?_cons_zero, List.cons_append, List.nil_append, List.append_nil, List.all_cons, List.all_nil, Bool.and_true, Nat.left_eq_add, Nat.add_eq_left, Nat.succ_ne_self, Bool.not_true, Bool.not_false, Option.some.injEq, exists_eq_left']
      exact ⟨rfl, (((Ext.refl hs).add _).add _)⟩
    | cons f0 fs0 =>
      simp only [AV.sh, AV.shs, addAll, fldsV, fldsL, AObj.sh, w0, w1, w2, w3, w4, w5, w6, w7, w8, w9, w10, w11, w12, w13, w14, w15, w16, Nat.reduceAdd, Nat.reduceEqDiff, Nat.reduceLeDiff, Nat.reduceLT, Nat.reduceMul, Nat.add_zero, Nat.add_assoc, Nat.add_left_cancel_iff, Nat.reduceBEq, Int.reduceLT, Int.reduceLE, Int.reduceEq, Int.reduceAdd, Int.reduceSub, Int.cast_ofNat_Int, Int.reduceMul, Int.reduceMod, Int.reduceTMod, Int.reduceTDiv, Int.reduceNeg, Nat.reduceSub, Nat.reduceDiv, Nat.mul_one, Nat.one_mul, Int.lt_irrefl, decide_true, decide_false, reduceIte, reduceCtorEq, Nat.zero_add, Nat.le_refl, Nat.zero_le, and_self, and_true, true_and, List.length_cons, List.length_nil, List.drop_succ_cons, List.drop_zero, List.take_succ_cons, List.take_zero, List.getElem?_cons_succ, List.getElem?_cons_zero, List.cons_append, List.nil_append, List.append_nil, List.all_cons, List.all_nil, Bool.and_true, Nat.left_eq_add, Nat.add_eq_left, Nat.succ_ne_self, Bool.not_true, Bool.not_false, Option.some.injEq, exists_eq_left']
      have hn : (f0 :: fs0).length < 1000 := isaRow_len hr
      generalize hfs : f0 :: fs0 = fs at *
      refine (?_ : ∀ (k i : Nat) (e : Env) (σ : St) (a : Int), k + i = fs.length → atSpec kind (fs.drop i) a = atSpec kind fs 24 →
        opd e (.t 1) = .int .u8 kind → opd e (.t 4) = .ptr ⟨s.next, 0, 0, 5⟩ → opd e (.t 5) = .int .i64 a → opd e (.t 17) = .slice ⟨s.next + 1, 0, 0, 5 * fs.length⟩ fs.length fs.length false 5 →
        opd e (.t 18) = .int .i64 fs.length → opd e (.t 19) = .int .i64 i →
        Ext s σ → s.next + 1 < σ.next → σ.heap.get (s.next + 1) = some (.cells (fs.flatMap Fld.cells) 0 0 false) → σ.heap.get s.next = some (.cells Fld.zero.cells 0 0 false) → Go T _ _ _ e σ) fs.length 0 _ _ 24 ?_ ?_ ?_ ?_ ?_ ?_ ?_ ?_ ?_ ?_ ?_ ?_
      · intro k
        induction k with
        | zero =>
          intro i e σ a hi hat h1 h4 h5 h17 h18 h19 hext hlt ho1 ho0
          have hlt' : ¬ ((i : Int) < (fs.length : Int)) := by omega
          have hii : i = fs.length := by omega
          subst hii
          rw [List.drop_length] at hat
          simp only [go_loop, h17, h18, h19, h4, ho0, hlt', w0, w1, w2, w3, w4, w5, w6, w7, w8, w9, w10, w11, w12, w13, w14, w15, w16, Nat.reduceAdd, Nat.reduceEqDiff, Nat.reduceLeDiff, Nat.reduceLT, Nat.reduceMul, Nat.add_zero, Nat.add_assoc, Nat.add_left_cancel_iff, Nat.reduceBEq, Int.reduceLT, Int.reduceLE, Int.reduceEq, Int.reduceAdd, Int.reduceSub, Int.cast_ofNat_Int, Int.reduceMul, Int.reduceMod, Int.reduceTMod, Int.reduceTDiv, Int.reduceNeg, Nat.reduceSub, Nat.reduceDiv, Nat.mul_one, Nat.one_mul, Int.lt_irrefl, decide_true, decide_false, reduceIte, reduceCtorEq, Nat.zero_add, Nat.le_refl, Nat.zero_le, and_self, and_true, true_and, List.length_cons, List.length_nil, List.drop_succ_cons, List.drop_zero, List.take_succ_cons, List.take_zero, List.getElem?_cons_succ, List.getElem?_cons_zero, List.cons_append, List.nil_append, List.append_nil, List.all_cons, List.all_nil, Bool.and_true, Nat.left_eq_add, Nat.add_eq_left, Nat.succ_ne_self, Bool.not_true, Bool.not_false, Option.some.injEq, exists_eq_left']
          simp only [← hat, atSpec, Fld.zero, Fld.cells]
          exact ⟨trivial, hext.put (Nat.le_refl _) (by omega) _⟩
        | succ k ih =>
          intro i e σ a hi hat h1 h4 h5 h17 h18 h19 hext hlt ho1 ho0
          have hlt' : ((i : Int) < (fs.length : Int)) := by omega
          have hi' : i < fs.length := by omega
          rw [List.drop_eq_getElem_cons hi'] at hat
          simp only [atSpec] at hat
          have hrd : i * 5 + 5 ≤ 5 * fs.length := by omega
          have hfl : List.take 5 (List.drop (i * 5) (List.flatMap Fld.cells fs)) = fs[i].cells := flat_at Fld.len fs i hi'
          simp only [go_loop, h17, h18, h19, h4, h5, h1, ho0, ho1, hlt', hi', hrd, hfl, Fld.cells, w0, w1, w2, w3, w4, w5, w6, w7, w8, w9, w10, w11, w12, w13, w14, w15, w16, Nat.reduceAdd, Nat.reduceEqDiff, Nat.reduceLeDiff, Nat.reduceLT, Nat.reduceMul, Nat.add_zero, Nat.add_assoc, Nat.add_left_cancel_iff, Nat.reduceBEq, Int.reduceLT, Int.reduceLE, Int.reduceEq, Int.reduceAdd, Int.reduceSub, Int.cast_ofNat_Int, Int.reduceMul, Int.reduceMod, Int.reduceTMod, Int.reduceTDiv, Int.reduceNeg, Nat.reduceSub, Nat.reduceDiv, Nat.mul_one, Nat.one_mul, Int.lt_irrefl, decide_true, decide_false, reduceIte, reduceCtorEq, Nat.zero_add, Nat.le_refl, Nat.zero_le, and_self, and_true, true_and, List.length_cons, List.length_nil, List.drop_succ_cons, List.drop_zero, List.take_succ_cons, List.take_zero, List.getElem?_cons_succ, List.getElem?_cons_zero, List.cons_append, List.nil_append, List.append_nil, List.all_cons, List.all_nil, Bool.and_true, Nat.left_eq_add, Nat.add_eq_left, Nat.succ_ne_self, Bool.not_true, Bool.not_false, Option.some.injEq, exists_eq_left']
          have hne0 : ¬ (s.next = σ.next) := by omega
          have hne1 : ¬ (s.next + 1 = σ.next) := by omega
          refine goC_split (fun h => ?_) (fun h => ?_)
          · have h := of_decide_eq_true h
            rw [if_pos h] at hat
            simp only [h17, h18, h19, h4, h5, h1, ho0, ho1, hne0, hne1, Fld.zero, Fld.cells, w0, w1, w2, w3, w4, w5, w6, w7, w8, w9, w10, w11, w12, w13, w14, w15, w16, Nat.reduceAdd, Nat.reduceEqDiff, Nat.reduceLeDiff, Nat.reduceLT, Nat.reduceMul, Nat.add_zero, Nat.add_assoc, Nat.add_left_cancel_iff, Nat.reduceBEq, Int.reduceLT, Int.reduceLE, Int.reduceEq, Int.reduceAdd, Int.reduceSub, Int.cast_ofNat_Int, Int.reduceMul, Int.reduceMod, Int.reduceTMod, Int.reduceTDiv, Int.reduceNeg, Nat.reduceSub, Nat.reduceDiv, Nat.mul_one, Nat.one_mul, Int.lt_irrefl, decide_true, decide_false, reduceIte, reduceCtorEq, Nat.zero_add, Nat.le_refl, Nat.zero_le, and_self, and_true, true_and, List.length_cons, List.length_nil, List.drop_succ_cons, List.drop_zero, List.take_succ_cons, List.take_zero, List.getElem?_cons_succ, List.getElem?_cons_zero, List.cons_append, List.nil_append, List.append_nil, List.all_cons, List.all_nil, Bool.and_true, Nat.left_eq_add, Nat.add_eq_left, Nat.succ_ne_self, Bool.not_true, Bool.not_false, Option.some.injEq, exists_eq_left']
            simp only [← hat, Fld.cells]
            exact ⟨trivial, (hext.put (Nat.le_refl _) (by omega) _).add _⟩
          · have h := of_decide_eq_false h
            rw [if_neg h] at hat
            simp only [h17, h18, h19, h4, h5, h1, ho0, ho1, hne0, hne1, w0, w1, w2, w3, w4, w5, w6, w7, w8, w9, w10, w11, w12, w13, w14, w15, w16, Nat.reduceAdd, Nat.reduceEqDiff, Nat.reduceLeDiff, Nat.reduceLT, Nat.reduceMul, Nat.add_zero, Nat.add_assoc, Nat.add_left_cancel_iff, Nat.reduceBEq, Int.reduceLT, Int.reduceLE, Int.reduceEq, Int.reduceAdd, Int.reduceSub, Int.cast_ofNat_Int, Int.reduceMul, Int.reduceMod, Int.reduceTMod, Int.reduceTDiv, Int.reduceNeg, Nat.reduceSub, Nat.reduceDiv, Nat.mul_one, Nat.one_mul, Int.lt_irrefl, decide_true, decide_false, reduceIte, reduceCtorEq, Nat.zero_add, Nat.le_refl, Nat.zero_le, and_self, and_true, true_and, List.length_cons, List.length_nil, List.drop_succ_cons, List.drop_zero, List.take_succ_cons, List.take_zero, List.getElem?_cons_succ, List.getElem?_cons_zero, List.cons_append, List.nil_append, List.append_nil, List.all_cons, List.all_nil, Bool.and_true, Nat.left_eq_add, Nat.add_eq_left, Nat.succ_ne_self, Bool.not_true, Bool.not_false, Option.some.injEq, exists_eq_left']
            refine ih (i + 1) _ _ (wrapF .i64 (a - fs[i].bits)) (by omega) hat ?_ ?_ ?_ ?_ ?_ ?_ (hext.add _) (by rw [add_next]; omega) (by rw [add_get, if_neg hne1, ho1]) (by rw [add_get, if_neg hne0, ho0])
            all_goals simp only [h17, h18, h19, h4, h5, h1, w0, w1, w2, w3, w4, w5, w6, w7, w8, w9, w10, w11, w12, w13, w14, w15, w16, Nat.reduceAdd, Nat.reduceEqDiff, Nat.reduceLeDiff, Nat.reduceLT, Nat.reduceMul, Nat.add_zero, Nat.add_assoc, Nat.add_left_cancel_iff, Nat.reduceBEq, Int.reduceLT, Int.reduceLE, Int.reduceEq, Int.reduceAdd, Int.reduceSub, Int.cast_ofNat_Int, Int.reduceMul, Int.reduceMod, Int.reduceTMod, Int.reduceTDiv, Int.reduceNeg, Nat.reduceSub, Nat.reduceDiv, Nat.mul_one, Nat.one_mul, Int.lt_irrefl, decide_true, decide_false, reduceIte, reduceCtorEq, Nat.zero_add, Nat.le_refl, Nat.zero_le, and_self, and_true, true_and, List.length_cons, List.length_nil, List.drop_succ_cons, List.drop_zero, List.take_succ_cons, List.take_zero, List.getElem?_cons_succ, List.getElem?_cons_zero, List.cons_append, List.nil_append, List.append_nil, List.all_cons, List.all_nil, Bool.and_true, Nat.left_eq_add, Nat.add_eq_left, Nat.succ_ne_self, Bool.not_true, Bool.not_false, Option.some.injEq, exists_eq_left']
            rw [wrap_i64 _ (by omega) (by omega)]; rfl
      all_goals (try simp only [w0, w1, w2, w3, w4, w5, w6, w7, w8, w9, w10, w11, w12, w13, w14, w15, w16, Nat.reduceAdd, Nat.reduceEqDiff, Nat.reduceLeDiff, Nat.reduceLT, Nat.reduceMul, Nat.add_zero, Nat.add_assoc, Nat.add_left_cancel_iff, Nat.reduceBEq, Int.reduceLT, Int.reduceLE, Int.reduceEq, Int.reduceAdd, Int.reduceSub, Int.cast_ofNat_Int, Int.reduceMul, Int.reduceMod, Int.reduceTMod, Int.reduceTDiv, Int.reduceNeg, Nat.reduceSub, Nat.reduceDiv, Nat.mul_one, Nat.one_mul, Int.lt_irrefl, decide_true, decide_false, reduceIte, reduceCtorEq, Nat.zero_add, Nat.le_refl, Nat.zero_le, and_self, and_true, true_and, List.length_cons, List.length_nil, List.drop_succ_cons, List.drop_zero, List.take_succ_cons, List.take_zero, List.getElem?_cons_succ, List.getElem?_cons_zero, List.cons_append, List.nil_append, List.append_nil, List.all_cons, List.all_nil, Bool.and_true, Nat.left_eq_add, Nat.add_eq_left, Nat.succ_ne_self, Bool.not_true, Bool.not_false, Option.some.injEq, exists_eq_left'])
      all_goals first
        | rfl
        | (rw [← hfs]; rfl)
        | exact (((Ext.refl hs).add _).add _).add _
        | omega
        | rw [plains_sh (plains_flatMap Fld.plain fs)]
end
end Go.V
