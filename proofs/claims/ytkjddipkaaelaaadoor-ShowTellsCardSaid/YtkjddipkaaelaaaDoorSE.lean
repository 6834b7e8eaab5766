/- show's document: Inst. -/
import Derived.Test.YtkjddipkaaelaaaDoorVZ
import Derived.Test.YtkjddipkaaelaaaDoorSC
import Derived.Test.YtkjddipkaaelaaaDoorSD
import Derived.KernelRfl
set_option linter.unusedVariables false
set_option linter.unusedSimpArgs false
set_option linter.unusedSectionVars false
/- show's document: Inst. -/
/- show's document: Inst. -/
namespace Go.V
open Go
set_option linter.unusedSimpArgs false
set_option linter.unusedVariables false
section
open Z
abbrev rS3l1 : ICode := .seq (R [(m 65 6),(m 4 65)]) .ret
abbrev rS3l0 : ICode := .loop (q (q (R [(m 39 8),(m 40 7),(o 41 (.lenStr t40)),(o 42 (.bin .lss t39 t41))]) (.cond t42 .skip (.exit 0))) (q (.block 1 (q (.regionP [(la 46 11 2),(m 47 7),(m 48 8),(o 49 (.idxStr t47 t48)),(m 50 1),(o 51 (.call 23 [t46,t49,t50])),(m 45 51),(x 52 45 0),(x 53 45 1),(m 9 52),(m 10 53)]) (q (R [(m 54 10)]) (.cond t54 (R [(m 55 6),(m 56 9),(o 57 (.bin .add t55 t56)),(m 6 57)]) (R [(m 58 6),(m 59 7),(m 60 8),(m 61 8),(o 62 (.bin .add t61 (I 1))),(o 63 (.sliceStr t59 (some t60) (some t62))),(o 64 (.bin .add t58 t63)),(m 6 64)]))))) (R [(m 43 8),(o 44 (.bin .add t43 (I 1))),(m 8 44)])))
end
open Z in def ir9 : IFunc := ⟨66,[.tmp 4],(q (R [(o 2 (.box t0)),(o 4 (.move (sc [])))]) (q (q (R [(la 11 11 2),(o 12 (.call 20 [t11])),(o 13 (.un .not t12))]) (.cond t13 (q (R [(o 4 (.move (sc [])))]) .ret) .skip)) (q (R [(o 14 (.buildSlice 5 1 [(s [])] [(0,1,(sc [])),(1,1,(sc [105,102,32,40,112])),(2,1,(sc [105,102,32,40,33,112])),(3,1,(sc [105,102,32,40,112])),(4,1,(sc [105,102,32,40,33,112]))])),(m 5 14)]) (q (R [(m 15 5),(f 16 6 2),(l 17 1 16),(ix 18 1 15 17),(l 19 1 18),(m 6 19)]) (q (q (R [(f 20 6 2),(l 21 1 20),(o 22 (.bin .gtr t21 (B 0)))]) (.cond t22 (q (R [(m 23 6),(f 24 5 2),(l 25 1 24),(o 26 (.conv (.intInt .i64) t25)),(o 27 (.call 21 [t26,(I 10)])),(o 28 (.bin .add t23 t27)),(m 6 28)]) (q (q (R [(f 29 6 2),(l 30 1 29),(o 31 (.bin .gtr t30 (B 2)))]) (.cond t31 (R [(m 32 6),(o 33 (.bin .add t32 (sc [46,110,101,119]))),(m 6 33)]) .skip)) (R [(m 34 6),(o 35 (.bin .add t34 (sc [41,32]))),(m 6 35)]))) .skip)) (q (R [(f 36 0 2),(l 37 1 36),(o 38 (.call 22 [t37])),(m 7 38)]) (q (q (R [(mi 8 0)]) (.block 0 rS3l0)) rS3l1)))))))⟩
def putG (args : List AV) : Option AV := match args with
  | [x, .int .u8 c, .str nm] => match getIn x with
    | some i => match putOk i nm && (!decide (c = 71) || decide (0 ≤ i.imm)) with
      | true => some (putR i nm c)
      | false => none
    | none => none
  | _ => none
def chS (i : In) (nm : List UInt8) (c : UInt8) : List UInt8 := if (putS i nm (c.toNat : Int)).2 = true then (putS i nm (c.toNat : Int)).1 else [c]
def flatS (i : In) (nm : List UInt8) : List UInt8 → List UInt8
  | [] => []
  | c :: l => chS i nm c ++ flatS i nm l
def rinstS (i : In) (nm : List UInt8) : List UInt8 := if rightF i = true then condS i ++ flatS i nm (patS i.op) else []
set_option maxHeartbeats 4000000 in
theorem put_len {i : In} {nm : List UInt8} (h : putOk i nm = true) (c : Int) : (putS i nm c).1.length ≤ 80 := by
  simp only [putOk, Bool.and_eq_true, decide_eq_true_eq] at h
  obtain ⟨hi, him, hnm⟩ := h
  obtain ⟨b1, b2, b3, b4, b5, b6, b7, b8⟩ := ok_bytes hi
  have l2 := reg_len b2
  have l3 := reg_len b3
  have l4 := reg_len b4
  have l5 := itoa_len (byte_i64 b5)
  have l6 := pred_len b6
  have l7 := pred_len b2
  have l8 := count_len b8
  have l9 := imm_len hi
  have l10 := target_len i hnm
  unfold putS
  repeat' split
  all_goals ((try simp only [List.length_cons, List.length_nil]); omega)
theorem ssp (p : List UInt8) (k : Nat) (c : UInt8) (h : p[k]? = some c) : sliceStrV (.str p) (some (.int .i64 (k : Int))) (some (.int .i64 ((k + 1 : Nat) : Int))) = some (.str [c]) := by
  have hk : k < p.length := (List.getElem?_eq_some_iff.1 h).1
  show (match (if k + 1 ≤ p.length then some (k + 1) else none) with
    | some h => match (if k ≤ h then some k else none) with
      | some l => some (AV.str ((p.take h).drop l))
      | none => none
    | none => none) = _
  rw [if_pos (by omega)]
  simp only []
  rw [if_pos (by omega)]
  simp only []
  congr 2
  apply List.ext_getElem?
  intro j
  rw [List.getElem?_drop]
  cases j with
  | zero => rw [List.getElem?_take_of_lt (by omega)]; simpa using h
  | succ j => rw [List.getElem?_eq_none (by simp; omega)]; simp
section
variable {T : Tab}
theorem putG_ok (hc : T 23 = some (.code ir23)) (hd : T 21 = some (.hook (pureH digitsG))) (hg : T 44 = some (.hook (pureH signedG))) (args : List AV) (v : AV) (h : putG args = some v) :
    plain v = true ∧ ∀ s, WFS s → Ran T 23 args s fun v' s' => v' = v ∧ Ext s s' := by
  unfold putG at h
  split at h
  · rename_i x c nm
    split at h
    · rename_i i hx
      split at h
      · rename_i hc2
        cases h
        rw [getIn_eq hx]
        simp only [Bool.and_eq_true, Bool.or_eq_true, Bool.not_eq_true', decide_eq_false_iff_not, decide_eq_true_eq] at hc2
        exact ⟨rfl, fun s hs => put_ran hc hd hg s hs i nm hc2.1 c hc2.2⟩
      · cases h
    · cases h
  · cases h
theorem put_eq {i : In} {nm : List UInt8} (h : putOk i nm = true) (c : Int) (hc : c ≠ 71 ∨ 0 ≤ i.imm) (s : St) : pureH putG [.agg i.cells, .int .u8 c, .str nm] s = some (putR i nm c, s) := by
  have : (putOk i nm && (!decide (c = 71) || decide (0 ≤ i.imm))) = true := by
    simp only [Bool.and_eq_true, Bool.or_eq_true, Bool.not_eq_true', decide_eq_false_iff_not, decide_eq_true_eq]
    exact ⟨h, hc⟩
  simp only [pureH, putG, getIn_cells, this]
set_option maxHeartbeats 4000000 in
theorem rf_loop {Q : Post} {s : St} {id : Nat} {i : In} {nm p R : List UInt8} (hput : T 23 = some (.hook (pureH putG))) (ho : s.heap.get id = some (.cells i.cells 0 0 false)) (hok : putOk i nm = true) (hG : ∀ c ∈ p, (c.toNat : Int) ≠ 71 ∨ 0 ≤ i.imm) (hpl : p.length ≤ 40)
    (K : ∀ e : Env, opd e (.t 6) = .str R → Ret T Q [.seq rS3l1] .normal e s) :
    ∀ (m k : Nat) (pre : List UInt8) (e : Env), m + k = p.length → R = pre ++ flatS i nm (p.drop k) → pre.length ≤ 100 + 80 * k → opd e (.t 1) = .str nm → opd e (.t 2) = .ptr ⟨id, 0, 0, 11⟩ → opd e (.t 6) = .str pre → opd e (.t 7) = .str p → opd e (.t 8) = .int .i64 (k : Int) →
      Go T Q (rS3l0) [.block 0, .seq rS3l1] e s := by
  have k1 := goCall_hook hput
  intro m
  induction m with
  | zero =>
    intro k pre e hm hR hl h1 h2 h6 h7 h8
    have hy' : ¬ (k : Int) < (p.length : Int) := by omega
    rw [go_loop]
    generalize ([.seq rS3l1] : List Fr) = FF at *
    simp only [h7, h8, hy', wk, wk1, wk2, Option.some.injEq, exists_eq_left', decide_true, decide_false, seval, go_regionPw, pw_normal]
    refine K _ ?_
    simp only [h6, wk, wk1, wk2, Option.some.injEq, exists_eq_left', decide_true, decide_false, seval, go_regionPw, pw_normal]
    rw [hR, List.drop_eq_nil_of_le (by omega)]
    simp [flatS]
  | succ m ih =>
    intro k pre e hm hR hl h1 h2 h6 h7 h8
    have hk : k < p.length := by omega
    have hy' : (k : Int) < (p.length : Int) := by omega
    obtain ⟨c, hc⟩ : ∃ c, p[k]? = some c := ⟨_, List.getElem?_eq_getElem hk⟩
    have hcm : c ∈ p := List.mem_of_getElem? hc
    have q1 := put_eq hok (c.toNat : Int) (hG c hcm)
    have pl := put_len hok (c.toNat : Int)
    have hd : p.drop k = c :: p.drop (k + 1) := by
      rw [List.drop_eq_getElem_cons hk]
      rw [List.getElem?_eq_getElem hk] at hc
      rw [Option.some.inj hc]
    have w1 : wrapF .i64 ((k : Int) + 1) = ((k + 1 : Nat) : Int) := by rw [wrap_i64 _ (by omega) (by omega)]; omega
    have s1 := ssp p k c hc
    have cells : i.cells = [.int .u8 i.op, .int .u8 i.d, .int .u8 i.s, .int .u8 i.t, .int .u8 i.n, .int .u8 i.pred, .int .u8 i.mode, .bool i.nw, .bool i.ext, .int .u16 i.count, .int .i64 i.imm] := rfl
    rw [cells] at ho q1
    simp only [putR] at q1
    rw [hd] at hR
    cases hb : (putS i nm (c.toNat : Int)).2 with
    | true =>
      have e1 : flatS i nm (c :: p.drop (k + 1)) = (putS i nm (c.toNat : Int)).1 ++ flatS i nm (p.drop (k + 1)) := by simp only [flatS, chS, hb, if_true]
      rw [hb] at q1
      rw [go_loop]
      generalize ([.seq rS3l1] : List Fr) = FF at *
      simp (disch := first | assumption | ((repeat (apply ps_add)); assumption) | ((try simp only [List.length_append, List.length_cons, List.length_nil]); omega)) only [h1, h2, h6, h7, h8, hy', hc, ho, k1, q1, w1, if_pos, goR_watch, watch_cons, watch_nil, wat_ptr, wat_map, sameObj_refl, Bool.and_self, true_and, wk, wk1, wk2, Option.some.injEq, exists_eq_left', decide_true, decide_false, seval, go_regionPw, pw_normal]
      refine ih (k + 1) (pre ++ (putS i nm (c.toNat : Int)).1) _ (by omega) (by rw [hR, e1, List.append_assoc]) (by rw [List.length_append]; omega) ?_ ?_ ?_ ?_ ?_
      all_goals simp only [h1, h2, h6, h7, h8, wk, wk1, wk2, Option.some.injEq, exists_eq_left', decide_true, decide_false, seval, go_regionPw, pw_normal]
    | false =>
      have e1 : flatS i nm (c :: p.drop (k + 1)) = [c] ++ flatS i nm (p.drop (k + 1)) := by simp [flatS, chS, hb]
      rw [hb] at q1
      rw [go_loop]
      generalize ([.seq rS3l1] : List Fr) = FF at *
      simp (disch := first | assumption | ((repeat (apply ps_add)); assumption) | ((try simp only [List.length_append, List.length_cons, List.length_nil]); omega)) only [h1, h2, h6, h7, h8, hy', hc, ho, k1, q1, w1, s1, if_pos, goR_watch, watch_cons, watch_nil, wat_ptr, wat_map, sameObj_refl, Bool.and_self, true_and, wk, wk1, wk2, Option.some.injEq, exists_eq_left', decide_true, decide_false, seval, go_regionPw, pw_normal]
      refine ih (k + 1) (pre ++ [c]) _ (by omega) (by rw [hR, e1, List.append_assoc]) (by rw [List.length_append]; simp; omega) ?_ ?_ ?_ ?_ ?_
      all_goals simp only [h1, h2, h6, h7, h8, wk, wk1, wk2, Option.some.injEq, exists_eq_left', decide_true, decide_false, seval, go_regionPw, pw_normal]
end
theorem rt_row {i : In} (h : rightF i = true) : ∃ r, isaRow i.op = some r := by
  obtain ⟨r, h1, _⟩ := right_row h
  exact ⟨r, h1⟩
theorem rt_op {i : In} (h : rightF i = true) : 1 ≤ i.op ∧ i.op ≤ 31 := by
  obtain ⟨r, h1⟩ := rt_row h
  exact isaRow_range h1
theorem rt_mode {i : In} (h : rightF i = true) : i.mode ≤ 4 := by
  obtain ⟨_, h2, h3, _⟩ := (right_iff i).1 h
  rcases h3.2.1 with h | h
  · unfold anyK at h
    obtain ⟨f, hf, hk⟩ := List.any_eq_true.1 h
    have := h2 f hf
    simp [holdsSpec, of_decide_eq_true hk] at this
    exact this
  · have h : i.mode = 0 := h
    omega
theorem pat_facts {op : Int} {r : IRow} (hr : isaRow op = some r) : ((patS op).contains 71 = false ∨ hasF op 10 = true) ∧ (patS op).length ≤ 40 := by
  have := isa_all (p := fun op => (!(patS op).contains 71 || hasF op 10) && decide ((patS op).length ≤ 40)) (by decide +kernel) hr
  simp only [Bool.and_eq_true, Bool.or_eq_true, Bool.not_eq_true', decide_eq_true_eq] at this
  exact this
theorem rt_G {i : In} (h : rightF i = true) : ∀ c ∈ patS i.op, (c.toNat : Int) ≠ 71 ∨ 0 ≤ i.imm := by
  intro c hc
  obtain ⟨r, h1⟩ := rt_row h
  rcases (pat_facts h1).1 with h2 | h2
  · left
    intro e
    have e' : c = 71 := by
      apply UInt8.toNat_inj.1
      have : c.toNat = 71 := by omega
      exact this
    subst e'
    rw [List.contains_iff_mem.2 hc] at h2
    cases h2
  · exact .inr (imm_target h h2).1
theorem rt_imm {i : In} (h : rightF i = true) : -9223372036854775808 < i.imm := by
  obtain ⟨_, h2, h3, _⟩ := (right_iff i).1 h
  obtain ⟨_, _, _, _, _, _, _, _, h9, _⟩ := h3
  rcases h9 with h9 | h9 | h9
  · unfold anyK at h9
    obtain ⟨f, hf, hk⟩ := List.any_eq_true.1 h9
    have hk := of_decide_eq_true hk
    have h4 := h2 f hf
    obtain ⟨r, hr⟩ := rt_row h
    have h5 : fldOk f = true := isaRow_fldOk hr _ (by simp only [fieldsOf, hr] at hf; exact hf)
    simp [fldOk, hk] at h5
    simp [holdsSpec, hk] at h4
    split at h4
    · omega
    · simp [fitsKnown] at h5
      rcases h5 with ⟨a, b, c⟩ | ⟨a, b, c⟩ | ⟨a, b, c⟩ | ⟨a, b, c⟩ | ⟨a, b, c⟩
      all_goals
        rw [a, b, c] at h4
        simp [fitsSpec] at h4
        omega
  · unfold anyK at h9
    obtain ⟨f, hf, hk⟩ := List.any_eq_true.1 h9
    have hk := of_decide_eq_true hk
    have h4 := h2 f hf
    simp [holdsSpec, hk] at h4
    omega
  · have h9 : i.imm = 0 := h9
    omega
end Go.V
/- show's document: Inst, whole. -/
namespace Go.V
open Go
set_option linter.unusedSimpArgs false
set_option linter.unusedVariables false
section
variable {T : Tab}
def refRR (i : In) : AV := .bool (refF i)
set_option maxHeartbeats 8000000 in
theorem rinst_ran (hc : T 9 = some (.code ir9)) (hr : T 20 = some (.hook (pureH (inF refRR)))) (hd : T 21 = some (.hook (pureH digitsG))) (hpt : T 22 = some (.hook (litH patG))) (hput : T 23 = some (.hook (pureH putG)))
    (s : St) (hs : WFS s) (i : In) (hi : i.ok = true) (nm : List UInt8) (hl : nm.length ≤ 60) :
    Ran T 9 [.agg i.cells, .str nm] s fun v s' => v = .str (rinstS i nm) ∧ Ext s s' := by
  refine ran_code hc (Nat.le_of_ble_eq_true rfl) ?_
  have ho := ok_imm hi
  obtain ⟨b1, b2, b3, b4, b5, b6, b7, b8⟩ := ok_bytes hi
  have hoI : okI i = true := by simp only [okI, b1, ho, Bool.and_self]
  have k1 := goCall_hook hr
  have k2 := goCall_hook hd
  have k3 := goCall_hook hpt
  have q1 := fun s => inF_eq refRR i s hoI
  have q2 := dg10_eq i.pred (isByte_iff.1 b6).1 (isI64_iff.1 (byte_i64 b6)).2
  have w6 := wrapI (byte_i64 b6)
  have l6 := itoa_len (byte_i64 b6)
  have cells : i.cells = [.int .u8 i.op, .int .u8 i.d, .int .u8 i.s, .int .u8 i.t, .int .u8 i.n, .int .u8 i.pred, .int .u8 i.mode, .bool i.nw, .bool i.ext, .int .u16 i.count, .int .i64 i.imm] := rfl
  simp only [cells, refRR, ref_right i hi] at q1
  by_cases hR : rightF i = true
  · simp only [hR] at q1
    have hop := rt_op hR
    have q3 := pat_eq i.op hop.1 hop.2
    have hpo : putOk i nm = true := by simp only [putOk, hi, rt_imm hR, hl, decide_true, Bool.and_self]
    obtain ⟨r, hrr⟩ := rt_row hR
    have hm4 := rt_mode hR
    have hm0 := (isByte_iff.1 b7).1
    have e1 : rinstS i nm = condS i ++ flatS i nm (patS i.op) := by rw [rinstS, if_pos hR]
    generalize hQ : Fin _ _ = Q
    have KK : ∀ (s1 : St) (e : Env), Ext s s1 → opd e (.t 6) = .str (rinstS i nm) → Ret T Q [.seq rS3l1] .normal e s1 := by
      intro s1 e hE h6
      subst hQ
      simp only [ir9, h6, wk, wk1, wk2, Option.some.injEq, exists_eq_left', decide_true, decide_false, seval, go_regionPw, pw_normal]
      exact hE
    have LL := fun (s1 : St) (hE : Ext s s1) (id : Nat) (hbx : s1.heap.get id = some (.cells i.cells 0 0 false)) => rf_loop (T := T) (Q := Q) (s := s1) (id := id) (R := rinstS i nm) hput hbx hpo (rt_G hR) (pat_facts hrr).2 (fun e h6 => KK s1 e hE h6) (patS i.op).length 0
    have hmm : i.mode = 0 ∨ i.mode = 1 ∨ i.mode = 2 ∨ i.mode = 3 ∨ i.mode = 4 := by omega
    clear KK
    rcases hmm with hm | hm | hm | hm | hm
    all_goals
      simp only [hm] at q1 cells
      simp (disch := first | assumption | ((repeat (apply ps_add)); assumption) | ((try simp only [List.length_append, List.length_cons, List.length_nil]); omega)) only [ir9, cells, k1, k2, k3, q1, q2, q3, w6, hm, if_pos, goR_watch, watch_cons, watch_nil, wat_ptr, wat_map, sameObj_refl, Bool.and_self, true_and, wk, wk1, wk2, Option.some.injEq, exists_eq_left', decide_true, decide_false, seval, go_regionPw, pw_normal]
      refine LL _ (by (repeat (first | exact Ext.refl hs | refine Ext.add ?_ _))) s.next (by simp only [cells, hm, wk, wk1, wk2, Option.some.injEq, exists_eq_left', decide_true, decide_false, seval, go_regionPw, pw_normal]) (condS i) _ (by simp) (by rw [e1, List.drop_zero]) ?_ ?_ ?_ ?_ ?_ ?_
      · have := cond_len hi; omega
      all_goals (simp only [wk, wk1, wk2, Option.some.injEq, exists_eq_left', decide_true, decide_false, seval, go_regionPw, pw_normal])
      all_goals (try rfl)
      all_goals (try (simp [condS, predS, hm]; done))
  · simp only [hR] at q1
    simp (disch := first | assumption | ((repeat (apply ps_add)); assumption) | ((try simp only [List.length_append, List.length_cons, List.length_nil]); omega)) only [ir9, cells, k1, q1, if_pos, goR_watch, watch_cons, watch_nil, wat_ptr, wat_map, sameObj_refl, Bool.and_self, true_and, wk, wk1, wk2, Option.some.injEq, exists_eq_left', decide_true, decide_false, seval, go_regionPw, pw_normal]
    exact ⟨by rw [rinstS, if_neg hR], Ext.add (.refl hs) _⟩
end
end Go.V
/- show: what is printed is what the document's patterns say, op by op. -/
namespace Go.V
open Go
set_option linter.unusedSimpArgs false
set_option linter.unusedVariables false
theorem ch32 (i : In) (nm : List UInt8) : chS i nm 32 = [32] := by simp [chS, putS]
theorem ch40 (i : In) (nm : List UInt8) : chS i nm 40 = [40] := by simp [chS, putS]
theorem ch41 (i : In) (nm : List UInt8) : chS i nm 41 = [41] := by simp [chS, putS]
theorem ch43 (i : In) (nm : List UInt8) : chS i nm 43 = [43] := by simp [chS, putS]
theorem ch44 (i : In) (nm : List UInt8) : chS i nm 44 = [44] := by simp [chS, putS]
theorem ch46 (i : In) (nm : List UInt8) : chS i nm 46 = [46] := by simp [chS, putS]
theorem ch61 (i : In) (nm : List UInt8) : chS i nm 61 = [61] := by simp [chS, putS]
theorem ch67 (i : In) (nm : List UInt8) : chS i nm 67 = countS i.count := by simp [chS, putS]
theorem ch68 (i : In) (nm : List UInt8) : chS i nm 68 = regS i.d := by simp [chS, putS]
theorem ch71 (i : In) (nm : List UInt8) : chS i nm 71 = targetS i nm := by simp [chS, putS]
theorem ch73 (i : In) (nm : List UInt8) : chS i nm 73 = immS i := by simp [chS, putS]
theorem ch78 (i : In) (nm : List UInt8) : chS i nm 78 = Lib.itoa i.n := by simp [chS, putS]
theorem ch80 (i : In) (nm : List UInt8) : chS i nm 80 = predS i.pred := by simp [chS, putS]
theorem ch81 (i : In) (nm : List UInt8) : chS i nm 81 = predS i.d := by simp [chS, putS]
theorem ch83 (i : In) (nm : List UInt8) : chS i nm 83 = regS i.s := by simp [chS, putS]
theorem ch84 (i : In) (nm : List UInt8) : chS i nm 84 = regS i.t := by simp [chS, putS]
theorem ch87 (i : In) (nm : List UInt8) : chS i nm 87 = (if i.nw = true then [46, 110, 101, 119] else []) := by simp [chS, putS]
theorem ch97 (i : In) (nm : List UInt8) : chS i nm 97 = [97] := by simp [chS, putS]
theorem ch98 (i : In) (nm : List UInt8) : chS i nm 98 = [98] := by simp [chS, putS]
theorem ch99 (i : In) (nm : List UInt8) : chS i nm 99 = [99] := by simp [chS, putS]
theorem ch100 (i : In) (nm : List UInt8) : chS i nm 100 = [100] := by simp [chS, putS]
theorem ch101 (i : In) (nm : List UInt8) : chS i nm 101 = [101] := by simp [chS, putS]
theorem ch103 (i : In) (nm : List UInt8) : chS i nm 103 = [103] := by simp [chS, putS]
theorem ch104 (i : In) (nm : List UInt8) : chS i nm 104 = [104] := by simp [chS, putS]
theorem ch106 (i : In) (nm : List UInt8) : chS i nm 106 = [106] := by simp [chS, putS]
theorem ch108 (i : In) (nm : List UInt8) : chS i nm 108 = [108] := by simp [chS, putS]
theorem ch109 (i : In) (nm : List UInt8) : chS i nm 109 = [109] := by simp [chS, putS]
theorem ch110 (i : In) (nm : List UInt8) : chS i nm 110 = [110] := by simp [chS, putS]
theorem ch111 (i : In) (nm : List UInt8) : chS i nm 111 = [111] := by simp [chS, putS]
theorem ch112 (i : In) (nm : List UInt8) : chS i nm 112 = [112] := by simp [chS, putS]
theorem ch113 (i : In) (nm : List UInt8) : chS i nm 113 = [113] := by simp [chS, putS]
theorem ch114 (i : In) (nm : List UInt8) : chS i nm 114 = [114] := by simp [chS, putS]
theorem ch115 (i : In) (nm : List UInt8) : chS i nm 115 = [115] := by simp [chS, putS]
theorem ch116 (i : In) (nm : List UInt8) : chS i nm 116 = [116] := by simp [chS, putS]
theorem ch117 (i : In) (nm : List UInt8) : chS i nm 117 = [117] := by simp [chS, putS]
theorem ch119 (i : In) (nm : List UInt8) : chS i nm 119 = [119] := by simp [chS, putS]
theorem ch120 (i : In) (nm : List UInt8) : chS i nm 120 = [120] := by simp [chS, putS]
theorem ch121 (i : In) (nm : List UInt8) : chS i nm 121 = [121] := by simp [chS, putS]
theorem law1 {i : In} {nm : List UInt8} (hR : rightF i = true) (hk : i.op = 1) : bareS i (namedS i nm) = flatS i nm (patS i.op) := by
  have a1 : classF 1 = 1 := by decide +kernel
  have a2 : hasF 1 4 = false := by decide +kernel
  have a3 : hasF 1 10 = false := by decide +kernel
  have a4 : wordS 1 = [] := by decide +kernel
  have a5 : patS 1 = [110, 111, 112] := by decide +kernel
  simp [bareS, branchS, loopS, storeS, placeS, rightS, argS, namedS, writesPredF, flatS, hk, hR, a1, a2, a3, a4, a5, ch32, ch40, ch41, ch43, ch44, ch46, ch61, ch67, ch68, ch71, ch73, ch78, ch80, ch81, ch83, ch84, ch87, ch97, ch98, ch99, ch100, ch101, ch103, ch104, ch106, ch108, ch109, ch110, ch111, ch112, ch113, ch114, ch115, ch116, ch117, ch119, ch120, ch121]
theorem law2 {i : In} {nm : List UInt8} (hR : rightF i = true) (hk : i.op = 2) : bareS i (namedS i nm) = flatS i nm (patS i.op) := by
  have a1 : classF 2 = 1 := by decide +kernel
  have a2 : hasF 2 4 = false := by decide +kernel
  have a3 : hasF 2 10 = false := by decide +kernel
  have a4 : wordS 2 = [97, 100, 100] := by decide +kernel
  have a5 : patS 2 = [68, 32, 61, 32, 97, 100, 100, 40, 83, 44, 84, 41] := by decide +kernel
  simp [bareS, branchS, loopS, storeS, placeS, rightS, argS, namedS, writesPredF, flatS, hk, hR, a1, a2, a3, a4, a5, ch32, ch40, ch41, ch43, ch44, ch46, ch61, ch67, ch68, ch71, ch73, ch78, ch80, ch81, ch83, ch84, ch87, ch97, ch98, ch99, ch100, ch101, ch103, ch104, ch106, ch108, ch109, ch110, ch111, ch112, ch113, ch114, ch115, ch116, ch117, ch119, ch120, ch121]
theorem law3 {i : In} {nm : List UInt8} (hR : rightF i = true) (hk : i.op = 3) : bareS i (namedS i nm) = flatS i nm (patS i.op) := by
  have a1 : classF 3 = 1 := by decide +kernel
  have a2 : hasF 3 4 = false := by decide +kernel
  have a3 : hasF 3 10 = false := by decide +kernel
  have a4 : wordS 3 = [115, 117, 98] := by decide +kernel
  have a5 : patS 3 = [68, 32, 61, 32, 115, 117, 98, 40, 83, 44, 84, 41] := by decide +kernel
  simp [bareS, branchS, loopS, storeS, placeS, rightS, argS, namedS, writesPredF, flatS, hk, hR, a1, a2, a3, a4, a5, ch32, ch40, ch41, ch43, ch44, ch46, ch61, ch67, ch68, ch71, ch73, ch78, ch80, ch81, ch83, ch84, ch87, ch97, ch98, ch99, ch100, ch101, ch103, ch104, ch106, ch108, ch109, ch110, ch111, ch112, ch113, ch114, ch115, ch116, ch117, ch119, ch120, ch121]
theorem law4 {i : In} {nm : List UInt8} (hR : rightF i = true) (hk : i.op = 4) : bareS i (namedS i nm) = flatS i nm (patS i.op) := by
  have a1 : classF 4 = 1 := by decide +kernel
  have a2 : hasF 4 4 = false := by decide +kernel
  have a3 : hasF 4 10 = false := by decide +kernel
  have a4 : wordS 4 = [97, 110, 100] := by decide +kernel
  have a5 : patS 4 = [68, 32, 61, 32, 97, 110, 100, 40, 83, 44, 84, 41] := by decide +kernel
  simp [bareS, branchS, loopS, storeS, placeS, rightS, argS, namedS, writesPredF, flatS, hk, hR, a1, a2, a3, a4, a5, ch32, ch40, ch41, ch43, ch44, ch46, ch61, ch67, ch68, ch71, ch73, ch78, ch80, ch81, ch83, ch84, ch87, ch97, ch98, ch99, ch100, ch101, ch103, ch104, ch106, ch108, ch109, ch110, ch111, ch112, ch113, ch114, ch115, ch116, ch117, ch119, ch120, ch121]
theorem law5 {i : In} {nm : List UInt8} (hR : rightF i = true) (hk : i.op = 5) : bareS i (namedS i nm) = flatS i nm (patS i.op) := by
  have a1 : classF 5 = 1 := by decide +kernel
  have a2 : hasF 5 4 = false := by decide +kernel
  have a3 : hasF 5 10 = false := by decide +kernel
  have a4 : wordS 5 = [111, 114] := by decide +kernel
  have a5 : patS 5 = [68, 32, 61, 32, 111, 114, 40, 83, 44, 84, 41] := by decide +kernel
  simp [bareS, branchS, loopS, storeS, placeS, rightS, argS, namedS, writesPredF, flatS, hk, hR, a1, a2, a3, a4, a5, ch32, ch40, ch41, ch43, ch44, ch46, ch61, ch67, ch68, ch71, ch73, ch78, ch80, ch81, ch83, ch84, ch87, ch97, ch98, ch99, ch100, ch101, ch103, ch104, ch106, ch108, ch109, ch110, ch111, ch112, ch113, ch114, ch115, ch116, ch117, ch119, ch120, ch121]
theorem law6 {i : In} {nm : List UInt8} (hR : rightF i = true) (hk : i.op = 6) : bareS i (namedS i nm) = flatS i nm (patS i.op) := by
  have a1 : classF 6 = 1 := by decide +kernel
  have a2 : hasF 6 4 = false := by decide +kernel
  have a3 : hasF 6 10 = false := by decide +kernel
  have a4 : wordS 6 = [120, 111, 114] := by decide +kernel
  have a5 : patS 6 = [68, 32, 61, 32, 120, 111, 114, 40, 83, 44, 84, 41] := by decide +kernel
  simp [bareS, branchS, loopS, storeS, placeS, rightS, argS, namedS, writesPredF, flatS, hk, hR, a1, a2, a3, a4, a5, ch32, ch40, ch41, ch43, ch44, ch46, ch61, ch67, ch68, ch71, ch73, ch78, ch80, ch81, ch83, ch84, ch87, ch97, ch98, ch99, ch100, ch101, ch103, ch104, ch106, ch108, ch109, ch110, ch111, ch112, ch113, ch114, ch115, ch116, ch117, ch119, ch120, ch121]
theorem law7 {i : In} {nm : List UInt8} (hR : rightF i = true) (hk : i.op = 7) : bareS i (namedS i nm) = flatS i nm (patS i.op) := by
  have a1 : classF 7 = 1 := by decide +kernel
  have a2 : hasF 7 4 = false := by decide +kernel
  have a3 : hasF 7 10 = false := by decide +kernel
  have a4 : wordS 7 = [97, 100, 100] := by decide +kernel
  have a5 : patS 7 = [68, 32, 61, 32, 97, 100, 100, 40, 83, 44, 73, 41] := by decide +kernel
  simp [bareS, branchS, loopS, storeS, placeS, rightS, argS, namedS, writesPredF, flatS, hk, hR, a1, a2, a3, a4, a5, ch32, ch40, ch41, ch43, ch44, ch46, ch61, ch67, ch68, ch71, ch73, ch78, ch80, ch81, ch83, ch84, ch87, ch97, ch98, ch99, ch100, ch101, ch103, ch104, ch106, ch108, ch109, ch110, ch111, ch112, ch113, ch114, ch115, ch116, ch117, ch119, ch120, ch121]
theorem law8 {i : In} {nm : List UInt8} (hR : rightF i = true) (hk : i.op = 8) : bareS i (namedS i nm) = flatS i nm (patS i.op) := by
  have a1 : classF 8 = 1 := by decide +kernel
  have a2 : hasF 8 4 = false := by decide +kernel
  have a3 : hasF 8 10 = false := by decide +kernel
  have a4 : wordS 8 = [] := by decide +kernel
  have a5 : patS 8 = [68, 32, 61, 32, 73] := by decide +kernel
  simp [bareS, branchS, loopS, storeS, placeS, rightS, argS, namedS, writesPredF, flatS, hk, hR, a1, a2, a3, a4, a5, ch32, ch40, ch41, ch43, ch44, ch46, ch61, ch67, ch68, ch71, ch73, ch78, ch80, ch81, ch83, ch84, ch87, ch97, ch98, ch99, ch100, ch101, ch103, ch104, ch106, ch108, ch109, ch110, ch111, ch112, ch113, ch114, ch115, ch116, ch117, ch119, ch120, ch121]
theorem law9 {i : In} {nm : List UInt8} (hR : rightF i = true) (hk : i.op = 9) : bareS i (namedS i nm) = flatS i nm (patS i.op) := by
  have a1 : classF 9 = 1 := by decide +kernel
  have a2 : hasF 9 4 = false := by decide +kernel
  have a3 : hasF 9 10 = false := by decide +kernel
  have a4 : wordS 9 = [] := by decide +kernel
  have a5 : patS 9 = [68, 32, 61, 32, 83] := by decide +kernel
  simp [bareS, branchS, loopS, storeS, placeS, rightS, argS, namedS, writesPredF, flatS, hk, hR, a1, a2, a3, a4, a5, ch32, ch40, ch41, ch43, ch44, ch46, ch61, ch67, ch68, ch71, ch73, ch78, ch80, ch81, ch83, ch84, ch87, ch97, ch98, ch99, ch100, ch101, ch103, ch104, ch106, ch108, ch109, ch110, ch111, ch112, ch113, ch114, ch115, ch116, ch117, ch119, ch120, ch121]
theorem law10 {i : In} {nm : List UInt8} (hR : rightF i = true) (hk : i.op = 10) : bareS i (namedS i nm) = flatS i nm (patS i.op) := by
  have a1 : classF 10 = 1 := by decide +kernel
  have a2 : hasF 10 4 = true := by decide +kernel
  have a3 : hasF 10 10 = false := by decide +kernel
  have a4 : wordS 10 = [99, 109, 112, 46, 101, 113] := by decide +kernel
  have a5 : patS 10 = [81, 32, 61, 32, 99, 109, 112, 46, 101, 113, 40, 83, 44, 84, 41] := by decide +kernel
  simp [bareS, branchS, loopS, storeS, placeS, rightS, argS, namedS, writesPredF, flatS, hk, hR, a1, a2, a3, a4, a5, ch32, ch40, ch41, ch43, ch44, ch46, ch61, ch67, ch68, ch71, ch73, ch78, ch80, ch81, ch83, ch84, ch87, ch97, ch98, ch99, ch100, ch101, ch103, ch104, ch106, ch108, ch109, ch110, ch111, ch112, ch113, ch114, ch115, ch116, ch117, ch119, ch120, ch121]
theorem law11 {i : In} {nm : List UInt8} (hR : rightF i = true) (hk : i.op = 11) : bareS i (namedS i nm) = flatS i nm (patS i.op) := by
  have a1 : classF 11 = 1 := by decide +kernel
  have a2 : hasF 11 4 = true := by decide +kernel
  have a3 : hasF 11 10 = false := by decide +kernel
  have a4 : wordS 11 = [99, 109, 112, 46, 103, 116] := by decide +kernel
  have a5 : patS 11 = [81, 32, 61, 32, 99, 109, 112, 46, 103, 116, 40, 83, 44, 84, 41] := by decide +kernel
  simp [bareS, branchS, loopS, storeS, placeS, rightS, argS, namedS, writesPredF, flatS, hk, hR, a1, a2, a3, a4, a5, ch32, ch40, ch41, ch43, ch44, ch46, ch61, ch67, ch68, ch71, ch73, ch78, ch80, ch81, ch83, ch84, ch87, ch97, ch98, ch99, ch100, ch101, ch103, ch104, ch106, ch108, ch109, ch110, ch111, ch112, ch113, ch114, ch115, ch116, ch117, ch119, ch120, ch121]
theorem law12 {i : In} {nm : List UInt8} (hR : rightF i = true) (hk : i.op = 12) : bareS i (namedS i nm) = flatS i nm (patS i.op) := by
  have a1 : classF 12 = 1 := by decide +kernel
  have a2 : hasF 12 4 = true := by decide +kernel
  have a3 : hasF 12 10 = false := by decide +kernel
  have a4 : wordS 12 = [99, 109, 112, 46, 103, 116, 117] := by decide +kernel
  have a5 : patS 12 = [81, 32, 61, 32, 99, 109, 112, 46, 103, 116, 117, 40, 83, 44, 84, 41] := by decide +kernel
  simp [bareS, branchS, loopS, storeS, placeS, rightS, argS, namedS, writesPredF, flatS, hk, hR, a1, a2, a3, a4, a5, ch32, ch40, ch41, ch43, ch44, ch46, ch61, ch67, ch68, ch71, ch73, ch78, ch80, ch81, ch83, ch84, ch87, ch97, ch98, ch99, ch100, ch101, ch103, ch104, ch106, ch108, ch109, ch110, ch111, ch112, ch113, ch114, ch115, ch116, ch117, ch119, ch120, ch121]
theorem law13 {i : In} {nm : List UInt8} (hR : rightF i = true) (hk : i.op = 13) : bareS i (namedS i nm) = flatS i nm (patS i.op) := by
  have a1 : classF 13 = 1 := by decide +kernel
  have a2 : hasF 13 4 = true := by decide +kernel
  have a3 : hasF 13 10 = false := by decide +kernel
  have a4 : wordS 13 = [99, 109, 112, 46, 101, 113] := by decide +kernel
  have a5 : patS 13 = [81, 32, 61, 32, 99, 109, 112, 46, 101, 113, 40, 83, 44, 73, 41] := by decide +kernel
  simp [bareS, branchS, loopS, storeS, placeS, rightS, argS, namedS, writesPredF, flatS, hk, hR, a1, a2, a3, a4, a5, ch32, ch40, ch41, ch43, ch44, ch46, ch61, ch67, ch68, ch71, ch73, ch78, ch80, ch81, ch83, ch84, ch87, ch97, ch98, ch99, ch100, ch101, ch103, ch104, ch106, ch108, ch109, ch110, ch111, ch112, ch113, ch114, ch115, ch116, ch117, ch119, ch120, ch121]
theorem law14 {i : In} {nm : List UInt8} (hR : rightF i = true) (hk : i.op = 14) : bareS i (namedS i nm) = flatS i nm (patS i.op) := by
  have a1 : classF 14 = 1 := by decide +kernel
  have a2 : hasF 14 4 = false := by decide +kernel
  have a3 : hasF 14 10 = false := by decide +kernel
  have a4 : wordS 14 = [109, 117, 120] := by decide +kernel
  have a5 : patS 14 = [68, 32, 61, 32, 109, 117, 120, 40, 80, 44, 83, 44, 84, 41] := by decide +kernel
  simp [bareS, branchS, loopS, storeS, placeS, rightS, argS, namedS, writesPredF, flatS, hk, hR, a1, a2, a3, a4, a5, ch32, ch40, ch41, ch43, ch44, ch46, ch61, ch67, ch68, ch71, ch73, ch78, ch80, ch81, ch83, ch84, ch87, ch97, ch98, ch99, ch100, ch101, ch103, ch104, ch106, ch108, ch109, ch110, ch111, ch112, ch113, ch114, ch115, ch116, ch117, ch119, ch120, ch121]
theorem law15 {i : In} {nm : List UInt8} (hR : rightF i = true) (hk : i.op = 15) : bareS i (namedS i nm) = flatS i nm (patS i.op) := by
  have a1 : classF 15 = 2 := by decide +kernel
  have a2 : hasF 15 4 = false := by decide +kernel
  have a3 : hasF 15 10 = false := by decide +kernel
  have a4 : wordS 15 = [97, 115, 108] := by decide +kernel
  have a5 : patS 15 = [68, 32, 61, 32, 97, 115, 108, 40, 83, 44, 73, 41] := by decide +kernel
  simp [bareS, branchS, loopS, storeS, placeS, rightS, argS, namedS, writesPredF, flatS, hk, hR, a1, a2, a3, a4, a5, ch32, ch40, ch41, ch43, ch44, ch46, ch61, ch67, ch68, ch71, ch73, ch78, ch80, ch81, ch83, ch84, ch87, ch97, ch98, ch99, ch100, ch101, ch103, ch104, ch106, ch108, ch109, ch110, ch111, ch112, ch113, ch114, ch115, ch116, ch117, ch119, ch120, ch121]
theorem law16 {i : In} {nm : List UInt8} (hR : rightF i = true) (hk : i.op = 16) : bareS i (namedS i nm) = flatS i nm (patS i.op) := by
  have a1 : classF 16 = 2 := by decide +kernel
  have a2 : hasF 16 4 = false := by decide +kernel
  have a3 : hasF 16 10 = false := by decide +kernel
  have a4 : wordS 16 = [108, 115, 114] := by decide +kernel
  have a5 : patS 16 = [68, 32, 61, 32, 108, 115, 114, 40, 83, 44, 73, 41] := by decide +kernel
  simp [bareS, branchS, loopS, storeS, placeS, rightS, argS, namedS, writesPredF, flatS, hk, hR, a1, a2, a3, a4, a5, ch32, ch40, ch41, ch43, ch44, ch46, ch61, ch67, ch68, ch71, ch73, ch78, ch80, ch81, ch83, ch84, ch87, ch97, ch98, ch99, ch100, ch101, ch103, ch104, ch106, ch108, ch109, ch110, ch111, ch112, ch113, ch114, ch115, ch116, ch117, ch119, ch120, ch121]
theorem law17 {i : In} {nm : List UInt8} (hR : rightF i = true) (hk : i.op = 17) : bareS i (namedS i nm) = flatS i nm (patS i.op) := by
  have a1 : classF 17 = 2 := by decide +kernel
  have a2 : hasF 17 4 = false := by decide +kernel
  have a3 : hasF 17 10 = false := by decide +kernel
  have a4 : wordS 17 = [97, 115, 114] := by decide +kernel
  have a5 : patS 17 = [68, 32, 61, 32, 97, 115, 114, 40, 83, 44, 73, 41] := by decide +kernel
  simp [bareS, branchS, loopS, storeS, placeS, rightS, argS, namedS, writesPredF, flatS, hk, hR, a1, a2, a3, a4, a5, ch32, ch40, ch41, ch43, ch44, ch46, ch61, ch67, ch68, ch71, ch73, ch78, ch80, ch81, ch83, ch84, ch87, ch97, ch98, ch99, ch100, ch101, ch103, ch104, ch106, ch108, ch109, ch110, ch111, ch112, ch113, ch114, ch115, ch116, ch117, ch119, ch120, ch121]
theorem law18 {i : In} {nm : List UInt8} (hR : rightF i = true) (hk : i.op = 18) : bareS i (namedS i nm) = flatS i nm (patS i.op) := by
  have a1 : classF 18 = 2 := by decide +kernel
  have a2 : hasF 18 4 = false := by decide +kernel
  have a3 : hasF 18 10 = false := by decide +kernel
  have a4 : wordS 18 = [109, 112, 121] := by decide +kernel
  have a5 : patS 18 = [68, 32, 61, 32, 109, 112, 121, 40, 83, 44, 84, 41] := by decide +kernel
  simp [bareS, branchS, loopS, storeS, placeS, rightS, argS, namedS, writesPredF, flatS, hk, hR, a1, a2, a3, a4, a5, ch32, ch40, ch41, ch43, ch44, ch46, ch61, ch67, ch68, ch71, ch73, ch78, ch80, ch81, ch83, ch84, ch87, ch97, ch98, ch99, ch100, ch101, ch103, ch104, ch106, ch108, ch109, ch110, ch111, ch112, ch113, ch114, ch115, ch116, ch117, ch119, ch120, ch121]
theorem law19 {i : In} {nm : List UInt8} (hR : rightF i = true) (hk : i.op = 19) : bareS i (namedS i nm) = flatS i nm (patS i.op) := by
  have a1 : classF 19 = 2 := by decide +kernel
  have a2 : hasF 19 4 = false := by decide +kernel
  have a3 : hasF 19 10 = false := by decide +kernel
  have a4 : wordS 19 = [99, 109, 112, 121] := by decide +kernel
  have a5 : patS 19 = [68, 32, 61, 32, 99, 109, 112, 121, 40, 83, 44, 84, 41] := by decide +kernel
  simp [bareS, branchS, loopS, storeS, placeS, rightS, argS, namedS, writesPredF, flatS, hk, hR, a1, a2, a3, a4, a5, ch32, ch40, ch41, ch43, ch44, ch46, ch61, ch67, ch68, ch71, ch73, ch78, ch80, ch81, ch83, ch84, ch87, ch97, ch98, ch99, ch100, ch101, ch103, ch104, ch106, ch108, ch109, ch110, ch111, ch112, ch113, ch114, ch115, ch116, ch117, ch119, ch120, ch121]
theorem law20 {i : In} {nm : List UInt8} (hR : rightF i = true) (hk : i.op = 20) : bareS i (namedS i nm) = flatS i nm (patS i.op) := by
  have a1 : classF 20 = 2 := by decide +kernel
  have a2 : hasF 20 4 = false := by decide +kernel
  have a3 : hasF 20 10 = false := by decide +kernel
  have a4 : wordS 20 = [99, 109, 112, 121, 99] := by decide +kernel
  have a5 : patS 20 = [68, 32, 61, 32, 99, 109, 112, 121, 99, 40, 83, 44, 84, 41] := by decide +kernel
  simp [bareS, branchS, loopS, storeS, placeS, rightS, argS, namedS, writesPredF, flatS, hk, hR, a1, a2, a3, a4, a5, ch32, ch40, ch41, ch43, ch44, ch46, ch61, ch67, ch68, ch71, ch73, ch78, ch80, ch81, ch83, ch84, ch87, ch97, ch98, ch99, ch100, ch101, ch103, ch104, ch106, ch108, ch109, ch110, ch111, ch112, ch113, ch114, ch115, ch116, ch117, ch119, ch120, ch121]
theorem law21 {i : In} {nm : List UInt8} (hR : rightF i = true) (hk : i.op = 21) : bareS i (namedS i nm) = flatS i nm (patS i.op) := by
  have a1 : classF 21 = 3 := by decide +kernel
  have a2 : hasF 21 4 = false := by decide +kernel
  have a3 : hasF 21 10 = false := by decide +kernel
  have a4 : wordS 21 = [109, 101, 109, 119] := by decide +kernel
  have a5 : patS 21 = [68, 32, 61, 32, 109, 101, 109, 119, 40, 83, 43, 73, 41] := by decide +kernel
  simp [bareS, branchS, loopS, storeS, placeS, rightS, argS, namedS, writesPredF, flatS, hk, hR, a1, a2, a3, a4, a5, ch32, ch40, ch41, ch43, ch44, ch46, ch61, ch67, ch68, ch71, ch73, ch78, ch80, ch81, ch83, ch84, ch87, ch97, ch98, ch99, ch100, ch101, ch103, ch104, ch106, ch108, ch109, ch110, ch111, ch112, ch113, ch114, ch115, ch116, ch117, ch119, ch120, ch121]
theorem law22 {i : In} {nm : List UInt8} (hR : rightF i = true) (hk : i.op = 22) : bareS i (namedS i nm) = flatS i nm (patS i.op) := by
  have a1 : classF 22 = 3 := by decide +kernel
  have a2 : hasF 22 4 = false := by decide +kernel
  have a3 : hasF 22 10 = false := by decide +kernel
  have a4 : wordS 22 = [109, 101, 109, 104] := by decide +kernel
  have a5 : patS 22 = [68, 32, 61, 32, 109, 101, 109, 104, 40, 83, 43, 73, 41] := by decide +kernel
  simp [bareS, branchS, loopS, storeS, placeS, rightS, argS, namedS, writesPredF, flatS, hk, hR, a1, a2, a3, a4, a5, ch32, ch40, ch41, ch43, ch44, ch46, ch61, ch67, ch68, ch71, ch73, ch78, ch80, ch81, ch83, ch84, ch87, ch97, ch98, ch99, ch100, ch101, ch103, ch104, ch106, ch108, ch109, ch110, ch111, ch112, ch113, ch114, ch115, ch116, ch117, ch119, ch120, ch121]
theorem law23 {i : In} {nm : List UInt8} (hR : rightF i = true) (hk : i.op = 23) : bareS i (namedS i nm) = flatS i nm (patS i.op) := by
  have a1 : classF 23 = 3 := by decide +kernel
  have a2 : hasF 23 4 = false := by decide +kernel
  have a3 : hasF 23 10 = false := by decide +kernel
  have a4 : wordS 23 = [109, 101, 109, 98] := by decide +kernel
  have a5 : patS 23 = [68, 32, 61, 32, 109, 101, 109, 98, 40, 83, 43, 73, 41] := by decide +kernel
  simp [bareS, branchS, loopS, storeS, placeS, rightS, argS, namedS, writesPredF, flatS, hk, hR, a1, a2, a3, a4, a5, ch32, ch40, ch41, ch43, ch44, ch46, ch61, ch67, ch68, ch71, ch73, ch78, ch80, ch81, ch83, ch84, ch87, ch97, ch98, ch99, ch100, ch101, ch103, ch104, ch106, ch108, ch109, ch110, ch111, ch112, ch113, ch114, ch115, ch116, ch117, ch119, ch120, ch121]
theorem law24 {i : In} {nm : List UInt8} (hR : rightF i = true) (hk : i.op = 24) : bareS i (namedS i nm) = flatS i nm (patS i.op) := by
  have a1 : classF 24 = 4 := by decide +kernel
  have a2 : hasF 24 4 = false := by decide +kernel
  have a3 : hasF 24 10 = false := by decide +kernel
  have a4 : wordS 24 = [109, 101, 109, 119] := by decide +kernel
  have a5 : patS 24 = [109, 101, 109, 119, 40, 83, 43, 73, 41, 32, 61, 32, 84, 87] := by decide +kernel
  simp [bareS, branchS, loopS, storeS, placeS, rightS, argS, namedS, writesPredF, flatS, hk, hR, a1, a2, a3, a4, a5, ch32, ch40, ch41, ch43, ch44, ch46, ch61, ch67, ch68, ch71, ch73, ch78, ch80, ch81, ch83, ch84, ch87, ch97, ch98, ch99, ch100, ch101, ch103, ch104, ch106, ch108, ch109, ch110, ch111, ch112, ch113, ch114, ch115, ch116, ch117, ch119, ch120, ch121]
theorem law25 {i : In} {nm : List UInt8} (hR : rightF i = true) (hk : i.op = 25) : bareS i (namedS i nm) = flatS i nm (patS i.op) := by
  have a1 : classF 25 = 4 := by decide +kernel
  have a2 : hasF 25 4 = false := by decide +kernel
  have a3 : hasF 25 10 = false := by decide +kernel
  have a4 : wordS 25 = [109, 101, 109, 104] := by decide +kernel
  have a5 : patS 25 = [109, 101, 109, 104, 40, 83, 43, 73, 41, 32, 61, 32, 84, 87] := by decide +kernel
  simp [bareS, branchS, loopS, storeS, placeS, rightS, argS, namedS, writesPredF, flatS, hk, hR, a1, a2, a3, a4, a5, ch32, ch40, ch41, ch43, ch44, ch46, ch61, ch67, ch68, ch71, ch73, ch78, ch80, ch81, ch83, ch84, ch87, ch97, ch98, ch99, ch100, ch101, ch103, ch104, ch106, ch108, ch109, ch110, ch111, ch112, ch113, ch114, ch115, ch116, ch117, ch119, ch120, ch121]
theorem law26 {i : In} {nm : List UInt8} (hR : rightF i = true) (hk : i.op = 26) : bareS i (namedS i nm) = flatS i nm (patS i.op) := by
  have a1 : classF 26 = 4 := by decide +kernel
  have a2 : hasF 26 4 = false := by decide +kernel
  have a3 : hasF 26 10 = false := by decide +kernel
  have a4 : wordS 26 = [109, 101, 109, 98] := by decide +kernel
  have a5 : patS 26 = [109, 101, 109, 98, 40, 83, 43, 73, 41, 32, 61, 32, 84, 87] := by decide +kernel
  simp [bareS, branchS, loopS, storeS, placeS, rightS, argS, namedS, writesPredF, flatS, hk, hR, a1, a2, a3, a4, a5, ch32, ch40, ch41, ch43, ch44, ch46, ch61, ch67, ch68, ch71, ch73, ch78, ch80, ch81, ch83, ch84, ch87, ch97, ch98, ch99, ch100, ch101, ch103, ch104, ch106, ch108, ch109, ch110, ch111, ch112, ch113, ch114, ch115, ch116, ch117, ch119, ch120, ch121]
theorem law27 {i : In} {nm : List UInt8} (hR : rightF i = true) (hk : i.op = 27) : bareS i (namedS i nm) = flatS i nm (patS i.op) := by
  have a1 : classF 27 = 5 := by decide +kernel
  have a2 : hasF 27 4 = false := by decide +kernel
  have a3 : hasF 27 10 = true := by decide +kernel
  have a4 : wordS 27 = [] := by decide +kernel
  have a5 : patS 27 = [106, 117, 109, 112, 32, 71] := by decide +kernel
  simp [bareS, branchS, loopS, storeS, placeS, rightS, argS, namedS, writesPredF, flatS, hk, hR, a1, a2, a3, a4, a5, ch32, ch40, ch41, ch43, ch44, ch46, ch61, ch67, ch68, ch71, ch73, ch78, ch80, ch81, ch83, ch84, ch87, ch97, ch98, ch99, ch100, ch101, ch103, ch104, ch106, ch108, ch109, ch110, ch111, ch112, ch113, ch114, ch115, ch116, ch117, ch119, ch120, ch121]
theorem law28 {i : In} {nm : List UInt8} (hR : rightF i = true) (hk : i.op = 28) : bareS i (namedS i nm) = flatS i nm (patS i.op) := by
  have a1 : classF 28 = 5 := by decide +kernel
  have a2 : hasF 28 4 = false := by decide +kernel
  have a3 : hasF 28 10 = false := by decide +kernel
  have a4 : wordS 28 = [] := by decide +kernel
  have a5 : patS 28 = [106, 117, 109, 112, 114, 32, 83] := by decide +kernel
  simp [bareS, branchS, loopS, storeS, placeS, rightS, argS, namedS, writesPredF, flatS, hk, hR, a1, a2, a3, a4, a5, ch32, ch40, ch41, ch43, ch44, ch46, ch61, ch67, ch68, ch71, ch73, ch78, ch80, ch81, ch83, ch84, ch87, ch97, ch98, ch99, ch100, ch101, ch103, ch104, ch106, ch108, ch109, ch110, ch111, ch112, ch113, ch114, ch115, ch116, ch117, ch119, ch120, ch121]
theorem law29 {i : In} {nm : List UInt8} (hR : rightF i = true) (hk : i.op = 29) : bareS i (namedS i nm) = flatS i nm (patS i.op) := by
  have a1 : classF 29 = 5 := by decide +kernel
  have a2 : hasF 29 4 = false := by decide +kernel
  have a3 : hasF 29 10 = true := by decide +kernel
  have a4 : wordS 29 = [] := by decide +kernel
  have a5 : patS 29 = [99, 97, 108, 108, 32, 71] := by decide +kernel
  simp [bareS, branchS, loopS, storeS, placeS, rightS, argS, namedS, writesPredF, flatS, hk, hR, a1, a2, a3, a4, a5, ch32, ch40, ch41, ch43, ch44, ch46, ch61, ch67, ch68, ch71, ch73, ch78, ch80, ch81, ch83, ch84, ch87, ch97, ch98, ch99, ch100, ch101, ch103, ch104, ch106, ch108, ch109, ch110, ch111, ch112, ch113, ch114, ch115, ch116, ch117, ch119, ch120, ch121]
theorem law30 {i : In} {nm : List UInt8} (hR : rightF i = true) (hk : i.op = 30) : bareS i (namedS i nm) = flatS i nm (patS i.op) := by
  have a1 : classF 30 = 6 := by decide +kernel
  have a2 : hasF 30 4 = false := by decide +kernel
  have a3 : hasF 30 10 = true := by decide +kernel
  have a4 : wordS 30 = [] := by decide +kernel
  have a5 : patS 30 = [108, 111, 111, 112, 78, 40, 71, 44, 67, 41] := by decide +kernel
  simp [bareS, branchS, loopS, storeS, placeS, rightS, argS, namedS, writesPredF, flatS, hk, hR, a1, a2, a3, a4, a5, ch32, ch40, ch41, ch43, ch44, ch46, ch61, ch67, ch68, ch71, ch73, ch78, ch80, ch81, ch83, ch84, ch87, ch97, ch98, ch99, ch100, ch101, ch103, ch104, ch106, ch108, ch109, ch110, ch111, ch112, ch113, ch114, ch115, ch116, ch117, ch119, ch120, ch121]
theorem law31 {i : In} {nm : List UInt8} (hR : rightF i = true) (hk : i.op = 31) : bareS i (namedS i nm) = flatS i nm (patS i.op) := by
  have a1 : classF 31 = 6 := by decide +kernel
  have a2 : hasF 31 4 = false := by decide +kernel
  have a3 : hasF 31 10 = true := by decide +kernel
  have a4 : wordS 31 = [] := by decide +kernel
  have a5 : patS 31 = [108, 111, 111, 112, 78, 40, 71, 44, 83, 41] := by decide +kernel
  simp [bareS, branchS, loopS, storeS, placeS, rightS, argS, namedS, writesPredF, flatS, hk, hR, a1, a2, a3, a4, a5, ch32, ch40, ch41, ch43, ch44, ch46, ch61, ch67, ch68, ch71, ch73, ch78, ch80, ch81, ch83, ch84, ch87, ch97, ch98, ch99, ch100, ch101, ch103, ch104, ch106, ch108, ch109, ch110, ch111, ch112, ch113, ch114, ch115, ch116, ch117, ch119, ch120, ch121]
theorem laws {i : In} {nm : List UInt8} (hR : rightF i = true) : bareS i (namedS i nm) = flatS i nm (patS i.op) := by
  have h := rt_op hR
  have hc : i.op = 1 ∨ i.op = 2 ∨ i.op = 3 ∨ i.op = 4 ∨ i.op = 5 ∨ i.op = 6 ∨ i.op = 7 ∨ i.op = 8 ∨ i.op = 9 ∨ i.op = 10 ∨ i.op = 11 ∨ i.op = 12 ∨ i.op = 13 ∨ i.op = 14 ∨ i.op = 15 ∨ i.op = 16 ∨ i.op = 17 ∨ i.op = 18 ∨ i.op = 19 ∨ i.op = 20 ∨ i.op = 21 ∨ i.op = 22 ∨ i.op = 23 ∨ i.op = 24 ∨ i.op = 25 ∨ i.op = 26 ∨ i.op = 27 ∨ i.op = 28 ∨ i.op = 29 ∨ i.op = 30 ∨ i.op = 31 := by omega
  rcases hc with h | h | h | h | h | h | h | h | h | h | h | h | h | h | h | h | h | h | h | h | h | h | h | h | h | h | h | h | h | h | h
  · exact law1 hR h
  · exact law2 hR h
  · exact law3 hR h
  · exact law4 hR h
  · exact law5 hR h
  · exact law6 hR h
  · exact law7 hR h
  · exact law8 hR h
  · exact law9 hR h
  · exact law10 hR h
  · exact law11 hR h
  · exact law12 hR h
  · exact law13 hR h
  · exact law14 hR h
  · exact law15 hR h
  · exact law16 hR h
  · exact law17 hR h
  · exact law18 hR h
  · exact law19 hR h
  · exact law20 hR h
  · exact law21 hR h
  · exact law22 hR h
  · exact law23 hR h
  · exact law24 hR h
  · exact law25 hR h
  · exact law26 hR h
  · exact law27 hR h
  · exact law28 hR h
  · exact law29 hR h
  · exact law30 hR h
  · exact law31 hR h
theorem inst_eq (i : In) (nm : List UInt8) : instS i nm = rinstS i nm := by
  unfold instS rinstS
  split
  · rename_i h; rw [laws h]
  · rfl
end Go.V
