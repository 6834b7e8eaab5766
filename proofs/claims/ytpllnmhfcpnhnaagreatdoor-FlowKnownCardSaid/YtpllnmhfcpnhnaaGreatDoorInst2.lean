/- inst's functions over the table, as hooks; has, Cond, Class. -/
import Derived.Test.YtpllnmhfcpnhnaaGreatDoorInst1
set_option linter.unusedVariables false
set_option linter.unusedSimpArgs false
set_option linter.unusedSectionVars false
/- inst's functions over the table, as hooks; has, Cond, Class. -/
namespace Go.V
open Go
set_option linter.unusedSimpArgs false
set_option linter.unusedVariables false

-- coxless/inst.has
def ir272 : IFunc := ⟨17, [.tmp 4], (.seq (.region [⟨some 2, none, [], (.box (.t 0))⟩, ⟨some 4, none, [], (.move (.c (.bool false)))⟩] false)
 (.seq (.region [⟨some 9, none, [], (.fieldAddr 0 (.t 2))⟩, ⟨some 10, none, [], (.load false 1 (.t 9))⟩, ⟨some 11, none, [], (.move (.t 1))⟩, ⟨some 12, none, [], (.call 139 [(.t 10), (.t 11)])⟩, ⟨some 8, none, [], (.move (.t 12))⟩, ⟨some 13, none, [], (.extract (.t 8) 0)⟩, ⟨some 14, none, [], (.extract (.t 8) 1)⟩, ⟨some 15, none, [], (.extract (.t 8) 2)⟩, ⟨some 5, none, [], (.alloc [(.int .u8 0), (.int .i64 0), (.int .i64 0), (.bool false), (.bool false)])⟩, ⟨none, none, [], (.store 5 (.t 5) (.t 13))⟩, ⟨some 6, none, [], (.move (.t 14))⟩, ⟨some 7, none, [], (.move (.t 15))⟩] false)
 (.seq (.region [⟨some 16, none, [], (.move (.t 7))⟩, ⟨some 4, none, [], (.move (.t 16))⟩] false)
 .ret)))⟩
-- coxless/inst.Cond
def ir226 : IFunc := ⟨5, [.tmp 2], (.seq (.region [⟨some 1, none, [], (.box (.t 0))⟩, ⟨some 2, none, [], (.move (.c (.bool false)))⟩] false)
 (.seq (.region [⟨some 3, none, [], (.load true 11 (.t 1))⟩, ⟨some 4, none, [], (.call 272 [(.t 3), (.c (.int .u8 1))])⟩, ⟨some 2, none, [], (.move (.t 4))⟩] false)
 .ret))⟩
-- coxless/inst.Class
def ir201 : IFunc := ⟨13, [.tmp 2], (.seq (.region [⟨some 1, none, [], (.box (.t 0))⟩, ⟨some 2, none, [], (.move (.c (.int .u8 0)))⟩] false)
 (.seq (.region [⟨some 6, none, [], (.fieldAddr 0 (.t 1))⟩, ⟨some 7, none, [], (.load false 1 (.t 6))⟩, ⟨some 8, none, [], (.call 146 [(.t 7)])⟩, ⟨some 5, none, [], (.move (.t 8))⟩, ⟨some 9, none, [], (.extract (.t 5) 0)⟩, ⟨some 10, none, [], (.extract (.t 5) 1)⟩, ⟨some 3, none, [], (.alloc [(.int .u8 0), (.str []), (.int .u8 0), (.int .u8 0), .nilSlice])⟩, ⟨none, none, [], (.store 5 (.t 3) (.t 9))⟩, ⟨some 4, none, [], (.move (.t 10))⟩] false)
 (.seq (.region [⟨some 11, none, [], (.fieldAddr 2 (.t 3))⟩, ⟨some 12, none, [], (.load false 1 (.t 11))⟩, ⟨some 2, none, [], (.move (.t 12))⟩] false)
 .ret)))⟩
-- coxless/inst.Right
def ir187 : IFunc := ⟨54, [.tmp 2], (.seq (.region [⟨some 1, none, [], (.box (.t 0))⟩, ⟨some 2, none, [], (.move (.c (.bool false)))⟩] false)
 (.seq (.region [⟨some 9, none, [], (.fieldAddr 0 (.t 1))⟩, ⟨some 10, none, [], (.load false 1 (.t 9))⟩, ⟨some 11, none, [], (.call 146 [(.t 10)])⟩, ⟨some 8, none, [], (.move (.t 11))⟩, ⟨some 12, none, [], (.extract (.t 8) 0)⟩, ⟨some 13, none, [], (.extract (.t 8) 1)⟩, ⟨some 3, none, [], (.alloc [(.int .u8 0), (.str []), (.int .u8 0), (.int .u8 0), .nilSlice])⟩, ⟨none, none, [], (.store 5 (.t 3) (.t 12))⟩, ⟨some 4, none, [], (.move (.t 13))⟩] false)
 (.seq (.region [⟨some 14, none, [], (.load true 11 (.t 1))⟩, ⟨some 5, none, [], (.alloc [(.int .u8 0), (.int .u8 0), (.int .u8 0), (.int .u8 0), (.int .u8 0), (.int .u8 0), (.int .u8 0), (.bool false), (.bool false), (.int .u16 0), (.int .i64 0)])⟩, ⟨none, none, [], (.store 11 (.t 5) (.t 14))⟩] false)
 (.seq (.region [⟨some 15, none, [], (.fieldAddr 0 (.t 5))⟩, ⟨none, none, [], (.store 1 (.t 15) (.c (.int .u8 0)))⟩] false)
 (.seq (.seq (.region [⟨some 16, none, [], (.fieldAddr 4 (.t 3))⟩, ⟨some 17, none, [], (.load false 1 (.t 16))⟩, ⟨some 18, none, [], (.lenSl (.t 17))⟩, ⟨some 19, none, [], (.move (.c (.int .i64 0)))⟩] false)
 (.block 0 (.loop (.seq (.region [⟨some 20, none, [], (.bin .lss (.t 19) (.t 18))⟩] false)
 (.seq (.cond (.t 20) .skip (.exit 0))
 (.seq (.block 1 (.seq (.region [⟨some 21, none, [], (.idxSl 5 (.t 17) (.t 19))⟩, ⟨some 22, none, [], (.load true 5 (.t 21))⟩, ⟨some 7, none, [], (.alloc [(.int .u8 0), (.int .i64 0), (.int .i64 0), (.bool false), (.bool false)])⟩, ⟨none, none, [], (.store 5 (.t 7) (.t 22))⟩] false)
 (.seq (.region [⟨some 23, none, [], (.load true 11 (.t 5))⟩, ⟨some 24, none, [], (.load true 5 (.t 7))⟩, ⟨some 25, none, [], (.call 224 [(.t 23), (.t 24)])⟩, ⟨none, none, [], (.store 11 (.t 5) (.t 25))⟩] false)
 (.region [⟨some 26, none, [], (.move (.t 4))⟩, ⟨some 27, none, [], (.move (.t 26))⟩, ⟨some 28, some (27, true), [], (.load true 11 (.t 1))⟩, ⟨some 29, some (27, true), [], (.load true 5 (.t 7))⟩, ⟨some 30, some (27, true), [], (.call 225 [(.t 28), (.t 29)])⟩, ⟨some 31, none, [], (.pick (.t 27) (.t 30) (.c (.bool false)))⟩, ⟨some 4, none, [], (.move (.t 31))⟩] false))))
 (.region [⟨some 32, none, [], (.bin .add (.t 19) (.c (.int .i64 1)))⟩, ⟨some 19, none, [], (.move (.t 32))⟩] false)))))))
 (.seq (.region [⟨some 33, none, [], (.move (.t 4))⟩, ⟨some 34, none, [], (.move (.t 33))⟩, ⟨some 35, some (34, true), [], (.load true 11 (.t 5))⟩, ⟨some 36, some (34, true), [], (.build [(.int .u8 0), (.int .u8 0), (.int .u8 0), (.int .u8 0), (.int .u8 0), (.int .u8 0), (.int .u8 0), (.bool false), (.bool false), (.int .u16 0), (.int .i64 0)] [])⟩, ⟨some 37, some (34, true), [], (.eq false (.agg [(0, 1, false, (.prim .int)), (1, 1, false, (.prim .int)), (2, 1, false, (.prim .int)), (3, 1, false, (.prim .int)), (4, 1, false, (.prim .int)), (5, 1, false, (.prim .int)), (6, 1, false, (.prim .int)), (7, 1, false, (.prim .bool)), (8, 1, false, (.prim .bool)), (9, 1, false, (.prim .int)), (10, 1, false, (.prim .int))]) (.t 35) (.t 36))⟩, ⟨some 38, none, [], (.pick (.t 34) (.t 37) (.c (.bool false)))⟩, ⟨some 39, none, [], (.move (.t 38))⟩, ⟨some 40, some (39, true), [], (.load true 11 (.t 1))⟩, ⟨some 41, some (39, true), [], (.call 226 [(.t 40)])⟩, ⟨some 42, some (39, true), [], (.move (.t 41))⟩, ⟨some 43, some (42, true), [], (.fieldAddr 6 (.t 1))⟩, ⟨some 44, some (42, true), [], (.load false 1 (.t 43))⟩, ⟨some 45, some (42, true), [], (.bin .eql (.t 44) (.c (.int .u8 0)))⟩, ⟨some 46, some (39, true), [], (.pick (.t 42) (.t 45) (.c (.bool false)))⟩, ⟨some 47, some (39, true), [], (.move (.t 46))⟩, ⟨some 48, some (47, true), [], (.fieldAddr 5 (.t 1))⟩, ⟨some 49, some (47, true), [], (.load false 1 (.t 48))⟩, ⟨some 50, some (47, true), [], (.bin .neq (.t 49) (.c (.int .u8 0)))⟩, ⟨some 51, some (39, true), [], (.pick (.t 47) (.t 50) (.c (.bool false)))⟩, ⟨some 52, some (39, true), [], (.un .not (.t 51))⟩, ⟨some 53, none, [], (.pick (.t 39) (.t 52) (.c (.bool false)))⟩, ⟨some 2, none, [], (.move (.t 53))⟩] false)
 .ret))))))⟩

theorem goCall_hook {T : Tab} {f : FuncId} {h : List AV → St → Option (AV × St)} (hf : T f = some (.hook h)) (Q : Post) (d : Bool) (dst : Option Nat) (w : List Opd) (args : List AV) (l : List IOp) (fs : List Fr) (e : Env) (s : St) :
    GoCall T Q d dst w f args l fs e s ↔ GoR T Q d dst w (ofBoth (h args s)) l fs e s := by
  unfold GoCall
  have : ∀ n, callF T (evalN T n) f args s = ofBoth (h args s) := fun n => by simp only [callF, hf]
  constructor
  · rintro ⟨n, h⟩; rwa [this] at h
  · intro h; exact ⟨0, by rwa [this]⟩

def getIn : AV → Option In
  | .agg [.int .u8 a, .int .u8 b, .int .u8 c, .int .u8 d, .int .u8 e, .int .u8 f, .int .u8 g, .bool h, .bool i, .int .u16 j, .int .i64 k] => some ⟨a, b, c, d, e, f, g, h, i, j, k⟩
  | _ => none
def getFld : AV → Option Fld
  | .agg [.int .u8 a, .int .i64 b, .int .i64 c, .bool d, .bool e] => some ⟨a, b, c, d, e⟩
  | _ => none
theorem getIn_eq {v : AV} {i : In} (h : getIn v = some i) : v = .agg i.cells := by
  unfold getIn at h
  split at h
  · cases h; rfl
  · cases h
theorem getFld_eq {v : AV} {f : Fld} (h : getFld v = some f) : v = .agg f.cells := by
  unfold getFld at h
  split at h
  · cases h; rfl
  · cases h

/-- Every cell fits its kind. -/
def isI64 (n : Int) : Bool := decide (-9223372036854775808 ≤ n) && decide (n ≤ 9223372036854775807)
def In.ok (i : In) : Bool := isByte i.op && (isByte i.d && (isByte i.s && (isByte i.t && (isByte i.n && (isByte i.pred && (isByte i.mode && (decide (0 ≤ i.count) && (decide (i.count < 65536) && isI64 i.imm))))))))
def fldOk (f : Fld) : Bool := !decide (f.kind = 9) || decide ((f.bits, f.shift, f.signed) ∈ fitsKnown)

def atG (args : List AV) : Option AV := match args with
  | [.int .u8 op, .int .u8 kind] => match isByte op with
    | true => match atSpec kind (fieldsOf op) 24 with | (f, a, b) => some (.tuple [.agg f.cells, .int .i64 a, .bool b])
    | false => none
  | _ => none
def withoutG (args : List AV) : Option AV := match args with
  | [x, y] => match getIn x, getFld y with
    | some i, some f => some (.agg (withoutSpec i f).cells)
    | _, _ => none
  | _ => none
def holdsG (args : List AV) : Option AV := match args with
  | [x, y] => match getIn x, getFld y with
    | some i, some f => match isI64 i.imm && fldOk f with
      | true => some (.bool (holdsSpec i f))
      | false => none
    | _, _ => none
  | _ => none

theorem atG_ok {T : Tab} (hc : T 139 = some (.code ir139)) (hf : T 180 = some (.hook (litH rowG))) (args : List AV) (v : AV) (h : atG args = some v) :
    plain v = true ∧ ∀ s, WFS s → Ran T 139 args s fun v' s' => v' = v ∧ Ext s s' := by
  unfold atG at h
  split at h
  · rename_i op kind
    split at h
    · rename_i hb
      cases h
      exact ⟨rfl, fun s hs => at_ran hc hf s hs op kind hb⟩
    · cases h
  · cases h
theorem withoutG_ok {T : Tab} (hc : T 224 = some (.code ir224)) (args : List AV) (v : AV) (h : withoutG args = some v) :
    plain v = true ∧ ∀ s, WFS s → Ran T 224 args s fun v' s' => v' = v ∧ Ext s s' := by
  unfold withoutG at h
  split at h
  · split at h
    · rename_i i f hi hf
      rw [getIn_eq hi, getFld_eq hf]
      cases h
      exact ⟨rfl, fun s hs => without_ran hc s hs i f⟩
    · cases h
  · cases h
theorem holdsG_ok {T : Tab} (hc : T 225 = some (.code ir225)) (hf : T 141 = some (.code ir141)) (args : List AV) (v : AV) (h : holdsG args = some v) :
    plain v = true ∧ ∀ s, WFS s → Ran T 225 args s fun v' s' => v' = v ∧ Ext s s' := by
  unfold holdsG at h
  split at h
  · split at h
    · rename_i i f hi hf'
      rw [getIn_eq hi, getFld_eq hf']
      split at h
      · rename_i hk
        cases h
        simp only [isI64, fldOk, Bool.and_eq_true, decide_eq_true_eq, Bool.or_eq_true, Bool.not_eq_true', decide_eq_false_iff_not] at hk
        exact ⟨rfl, fun s hs => holds_ran hc hf s hs i f (fun h9 => hk.2.resolve_left (fun hn => hn h9)) hk.1.1 hk.1.2⟩
      · cases h
    · cases h
  · cases h

theorem atH_eq (op kind : Int) (s : St) (h : isByte op = true) : pureH atG [.int .u8 op, .int .u8 kind] s = some (.tuple [.agg (atSpec kind (fieldsOf op) 24).1.cells, .int .i64 (atSpec kind (fieldsOf op) 24).2.1, .bool (atSpec kind (fieldsOf op) 24).2.2], s) := by
  simp only [pureH, atG, h]
theorem withoutH_eq (i : In) (f : Fld) (s : St) : pureH withoutG [.agg i.cells, .agg f.cells] s = some (.agg (withoutSpec i f).cells, s) := rfl
theorem holdsH_eq (i : In) (f : Fld) (s : St) (h1 : isI64 i.imm = true) (h2 : fldOk f = true) : pureH holdsG [.agg i.cells, .agg f.cells] s = some (.bool (holdsSpec i f), s) := by
  have hi : getIn (.agg i.cells) = some i := rfl
  have hf : getFld (.agg f.cells) = some f := rfl
  simp only [pureH, holdsG, hi, hf, h1, h2, Bool.and_self]

def hasF (op kind : Int) : Bool := (fieldsOf op).any fun f => decide (f.kind = kind)
theorem atSpec_has (kind : Int) : ∀ (l : List Fld) (a : Int), (atSpec kind l a).2.2 = l.any fun f => decide (f.kind = kind)
  | [], a => rfl
  | f :: l, a => by
    simp only [atSpec, List.any_cons]
    by_cases h : f.kind = kind
    · simp [h]
    · simp [h, atSpec_has kind l]
section
variable {T : Tab}
theorem has_ran (hc : T 272 = some (.code ir272)) (hf : T 139 = some (.hook (pureH atG))) (s : St) (hs : WFS s) (i : In) (kind : Int) (hi : isByte i.op = true) :
    Ran T 272 [.agg i.cells, .int .u8 kind] s fun v s' => v = .bool (hasF i.op kind) ∧ Ext s s' := by
  refine ran_code hc (Nat.le_of_ble_eq_true rfl) ?_
  have h1 := goCall_hook hf
  simp only [ir272, In.cells, h1, atH_eq i.op kind _ hi, Fld.cells, w0, w1, w2, w3, w4, w5, w6, w7, w8, w9, w10, w11, w12, w13, w14, w15, w16, Nat.reduceAdd, Nat.reduceEqDiff, Nat.reduceLeDiff, Nat.reduceLT, Nat.reduceMul, Nat.add_zero, Nat.add_assoc, Nat.add_left_cancel_iff, Nat.reduceBEq, Int.reduceLT, Int.reduceLE, Int.reduceEq, Int.reduceAdd, Int.reduceSub, Int.cast_ofNat_Int, Int.reduceMul, Int.reduceMod, Int.reduceTMod, Int.reduceTDiv, Int.reduceNeg, Nat.reduceSub, Nat.reduceDiv, Nat.mul_one, Nat.one_mul, Int.lt_irrefl, decide_true, decide_false, reduceIte, reduceCtorEq, Nat.zero_add, Nat.le_refl, Nat.zero_le, and_self, and_true, true_and, List.length_cons, List.length_nil, List.drop_succ_cons, List.drop_zero, List.take_succ_cons, List.take_zero, List.getElem?_cons_succ, List.getElem?_cons_zero, List.cons_append, List.nil_append, List.append_nil, List.all_cons, List.all_nil, Bool.and_true, Nat.left_eq_add, Nat.add_eq_left, Nat.succ_ne_self, Bool.not_true, Bool.not_false, Option.some.injEq, exists_eq_left']
  exact ⟨by rw [atSpec_has]; rfl, by (repeat (first | exact Ext.refl hs | refine Ext.add ?_ _))⟩

def hasG (args : List AV) : Option AV := match args with
  | [x, .int .u8 kind] => match getIn x with
    | some i => match isByte i.op with
      | true => some (.bool (hasF i.op kind))
      | false => none
    | none => none
  | _ => none
theorem hasG_ok (hc : T 272 = some (.code ir272)) (hf : T 139 = some (.hook (pureH atG))) (args : List AV) (v : AV) (h : hasG args = some v) :
    plain v = true ∧ ∀ s, WFS s → Ran T 272 args s fun v' s' => v' = v ∧ Ext s s' := by
  unfold hasG at h
  split at h
  · split at h
    · rename_i i hi
      rw [getIn_eq hi]
      split at h
      · rename_i hb; cases h
        exact ⟨rfl, fun s hs => has_ran hc hf s hs i _ hb⟩
      · cases h
    · cases h
  · cases h
theorem hasH_eq (i : In) (kind : Int) (s : St) (h : isByte i.op = true) : pureH hasG [.agg i.cells, .int .u8 kind] s = some (.bool (hasF i.op kind), s) := by
  have hi : getIn (.agg i.cells) = some i := rfl
  simp only [pureH, hasG, hi, h]

theorem cond_ran (hc : T 226 = some (.code ir226)) (hf : T 272 = some (.hook (pureH hasG))) (s : St) (hs : WFS s) (i : In) (hi : isByte i.op = true) :
    Ran T 226 [.agg i.cells] s fun v s' => v = .bool (hasF i.op 1) ∧ Ext s s' := by
  refine ran_code hc (Nat.le_of_ble_eq_true rfl) ?_
  have h1 := goCall_hook hf
  have h2 := hasH_eq i
  simp only [In.cells] at h2
  simp only [ir226, In.cells, h1, h2, hi, w0, w1, w2, w3, w4, w5, w6, w7, w8, w9, w10, w11, w12, w13, w14, w15, w16, Nat.reduceAdd, Nat.reduceEqDiff, Nat.reduceLeDiff, Nat.reduceLT, Nat.reduceMul, Nat.add_zero, Nat.add_assoc, Nat.add_left_cancel_iff, Nat.reduceBEq, Int.reduceLT, Int.reduceLE, Int.reduceEq, Int.reduceAdd, Int.reduceSub, Int.cast_ofNat_Int, Int.reduceMul, Int.reduceMod, Int.reduceTMod, Int.reduceTDiv, Int.reduceNeg, Nat.reduceSub, Nat.reduceDiv, Nat.mul_one, Nat.one_mul, Int.lt_irrefl, decide_true, decide_false, reduceIte, reduceCtorEq, Nat.zero_add, Nat.le_refl, Nat.zero_le, and_self, and_true, true_and, List.length_cons, List.length_nil, List.drop_succ_cons, List.drop_zero, List.take_succ_cons, List.take_zero, List.getElem?_cons_succ, List.getElem?_cons_zero, List.cons_append, List.nil_append, List.append_nil, List.all_cons, List.all_nil, Bool.and_true, Nat.left_eq_add, Nat.add_eq_left, Nat.succ_ne_self, Bool.not_true, Bool.not_false, Option.some.injEq, exists_eq_left']
  (first | (refine ⟨rfl, ?_⟩; (repeat (first | exact Ext.refl hs | refine Ext.add ?_ _)); done) | ((repeat (first | exact Ext.refl hs | refine Ext.add ?_ _)); done))

def classF (op : Int) : Int := match isaRow op with | some r => r.cls | none => 0
theorem class_ran (hc : T 201 = some (.code ir201)) (hf : T 146 = some (.hook (litH rowG))) (s : St) (hs : WFS s) (i : In) (hi : isByte i.op = true) :
    Ran T 201 [.agg i.cells] s fun v s' => v = .int .u8 (classF i.op) ∧ Ext s s' := by
  refine ran_code hc (Nat.le_of_ble_eq_true rfl) ?_
  have h1 := goCall_hook hf
  simp only [ir201, In.cells, h1, litH, rowG, hi, rowAns, classF, w0, w1, w2, w3, w4, w5, w6, w7, w8, w9, w10, w11, w12, w13, w14, w15, w16, Nat.reduceAdd, Nat.reduceEqDiff, Nat.reduceLeDiff, Nat.reduceLT, Nat.reduceMul, Nat.add_zero, Nat.add_assoc, Nat.add_left_cancel_iff, Nat.reduceBEq, Int.reduceLT, Int.reduceLE, Int.reduceEq, Int.reduceAdd, Int.reduceSub, Int.cast_ofNat_Int, Int.reduceMul, Int.reduceMod, Int.reduceTMod, Int.reduceTDiv, Int.reduceNeg, Nat.reduceSub, Nat.reduceDiv, Nat.mul_one, Nat.one_mul, Int.lt_irrefl, decide_true, decide_false, reduceIte, reduceCtorEq, Nat.zero_add, Nat.le_refl, Nat.zero_le, and_self, and_true, true_and, List.length_cons, List.length_nil, List.drop_succ_cons, List.drop_zero, List.take_succ_cons, List.take_zero, List.getElem?_cons_succ, List.getElem?_cons_zero, List.cons_append, List.nil_append, List.append_nil, List.all_cons, List.all_nil, Bool.and_true, Nat.left_eq_add, Nat.add_eq_left, Nat.succ_ne_self, Bool.not_true, Bool.not_false, Option.some.injEq, exists_eq_left']
  cases hr : isaRow i.op with
  | none =>
    simp only [AV.sh, AV.shs, addAll, w0, w1, w2, w3, w4, w5, w6, w7, w8, w9, w10, w11, w12, w13, w14, w15, w16, Nat.reduceAdd, Nat.reduceEqDiff, Nat.reduceLeDiff, Nat.reduceLT, Nat.reduceMul, Nat.add_zero, Nat.add_assoc, Nat.add_left_cancel_iff, Nat.reduceBEq, Int.reduceLT, Int.reduceLE, Int.reduceEq, Int.reduceAdd, Int.reduceSub, Int.cast_ofNat_Int, Int.reduceMul, Int.reduceMod, Int.reduceTMod, Int.reduceTDiv, Int.reduceNeg, Nat.reduceSub, Nat.reduceDiv, Nat.mul_one, Nat.one_mul, Int.lt_irrefl, decide_true, decide_false, reduceIte, reduceCtorEq, Nat.zero_add, Nat.le_refl, Nat.zero_le, and_self, and_true, true_and, List.length_cons, List.length_nil, List.drop_succ_cons, List.drop_zero, List.take_succ_cons, List.take_zero, List.getElem?_cons_succ, List.getElem?_cons_zero, List.cons_append, List.nil_append, List.append_nil, List.all_cons, List.all_nil, Bool.and_true, Nat.left_eq_add, Nat.add_eq_left, Nat.succ_ne_self, Bool.not_true, Bool.not_false, Option.some.injEq, exists_eq_left']
    (first | (refine ⟨rfl, ?_⟩; (repeat (first | exact Ext.refl hs | refine Ext.add ?_ _)); done) | ((repeat (first | exact Ext.refl hs | refine Ext.add ?_ _)); done))
  | some r =>
    obtain ⟨nm, cl, sl, fs⟩ := r
    cases fs with
    | nil =>
      simp only [AV.sh, AV.shs, addAll, fldsV, fldsL, w0, w1, w2, w3, w4, w5, w6, w7, w8, w9, w10, w11, w12, w13, w14, w15, w16, Nat.reduceAdd, Nat.reduceEqDiff, Nat.reduceLeDiff, Nat.reduceLT, Nat.reduceMul, Nat.add_zero, Nat.add_assoc, Nat.add_left_cancel_iff, Nat.reduceBEq, Int.reduceLT, Int.reduceLE, Int.reduceEq, Int.reduceAdd, Int.reduceSub, Int.cast_ofNat_Int, Int.reduceMul, Int.reduceMod, Int.reduceTMod, Int.reduceTDiv, Int.reduceNeg, Nat.reduceSub, Nat.reduceDiv, Nat.mul_one, Nat.one_mul, Int.lt_irrefl, decide_true, decide_false, reduceIte, reduceCtorEq, Nat.zero_add, Nat.le_refl, Nat.zero_le, and_self, and_true, true_and, List.length_cons, List.length_nil, List.drop_succ_cons, List.drop_zero, List.take_succ_cons, List.take_zero, List.getElem?_cons_succ, List.getElem?_cons_zero, List.cons_append, List.nil_append, List.append_nil, List.all_cons, List.all_nil, Bool.and_true, Nat.left_eq_add, Nat.add_eq_left, Nat.succ_ne_self, Bool.not_true, Bool.not_false, Option.some.injEq, exists_eq_left']
      (first | (refine ⟨rfl, ?_⟩; (repeat (first | exact Ext.refl hs | refine Ext.add ?_ _)); done) | ((repeat (first | exact Ext.refl hs | refine Ext.add ?_ _)); done))
    | cons f0 fs0 =>
      simp only [AV.sh, AV.shs, addAll, fldsV, fldsL, AObj.sh, w0, w1, w2, w3, w4, w5, w6, w7, w8, w9, w10, w11, w12, w13, w14, w15, w16, Nat.reduceAdd, Nat.reduceEqDiff, Nat.reduceLeDiff, Nat.reduceLT, Nat.reduceMul, Nat.add_zero, Nat.add_assoc, Nat.add_left_cancel_iff, Nat.reduceBEq, Int.reduceLT, Int.reduceLE, Int.reduceEq, Int.reduceAdd, Int.reduceSub, Int.cast_ofNat_Int, Int.reduceMul, Int.reduceMod, Int.reduceTMod, Int.reduceTDiv, Int.reduceNeg, Nat.reduceSub, Nat.reduceDiv, Nat.mul_one, Nat.one_mul, Int.lt_irrefl, decide_true, decide_false, reduceIte, reduceCtorEq, Nat.zero_add, Nat.le_refl, Nat.zero_le, and_self, and_true, true_and, List.length_cons, List.length_nil, List.drop_succ_cons, List.drop_zero, List.take_succ_cons, List.take_zero, List.getElem?_cons_succ, List.getElem?_cons_zero, List.cons_append, List.nil_append, List.append_nil, List.all_cons, List.all_nil, Bool.and_true, Nat.left_eq_add, Nat.add_eq_left, Nat.succ_ne_self, Bool.not_true, Bool.not_false, Option.some.injEq, exists_eq_left']
      (first | (refine ⟨rfl, ?_⟩; (repeat (first | exact Ext.refl hs | refine Ext.add ?_ _)); done) | ((repeat (first | exact Ext.refl hs | refine Ext.add ?_ _)); done))

def condG (args : List AV) : Option AV := match args with
  | [x] => match getIn x with
    | some i => match isByte i.op with
      | true => some (.bool (hasF i.op 1))
      | false => none
    | none => none
  | _ => none
theorem condG_ok (hc : T 226 = some (.code ir226)) (hf : T 272 = some (.hook (pureH hasG))) (args : List AV) (v : AV) (h : condG args = some v) :
    plain v = true ∧ ∀ s, WFS s → Ran T 226 args s fun v' s' => v' = v ∧ Ext s s' := by
  unfold condG at h
  split at h
  · split at h
    · rename_i i hi
      rw [getIn_eq hi]
      split at h
      · rename_i hb; cases h
        exact ⟨rfl, fun s hs => cond_ran hc hf s hs i hb⟩
      · cases h
    · cases h
  · cases h
theorem condH_eq (i : In) (s : St) (h : isByte i.op = true) : pureH condG [.agg i.cells] s = some (.bool (hasF i.op 1), s) := by
  have hi : getIn (.agg i.cells) = some i := rfl
  simp only [pureH, condG, hi, h]
def classG (args : List AV) : Option AV := match args with
  | [x] => match getIn x with
    | some i => match isByte i.op with
      | true => some (.int .u8 (classF i.op))
      | false => none
    | none => none
  | _ => none
theorem classG_ok (hc : T 201 = some (.code ir201)) (hf : T 146 = some (.hook (litH rowG))) (args : List AV) (v : AV) (h : classG args = some v) :
    plain v = true ∧ ∀ s, WFS s → Ran T 201 args s fun v' s' => v' = v ∧ Ext s s' := by
  unfold classG at h
  split at h
  · split at h
    · rename_i i hi
      rw [getIn_eq hi]
      split at h
      · rename_i hb; cases h
        exact ⟨rfl, fun s hs => class_ran hc hf s hs i hb⟩
      · cases h
    · cases h
  · cases h
theorem classH_eq (i : In) (s : St) (h : isByte i.op = true) : pureH classG [.agg i.cells] s = some (.int .u8 (classF i.op), s) := by
  have hi : getIn (.agg i.cells) = some i := rfl
  simp only [pureH, classG, hi, h]

/- Right -/
def eqtIn : EqT := .agg [(0, 1, false, .prim .int), (1, 1, false, .prim .int), (2, 1, false, .prim .int), (3, 1, false, .prim .int), (4, 1, false, .prim .int), (5, 1, false, .prim .int), (6, 1, false, .prim .int), (7, 1, false, .prim .bool), (8, 1, false, .prim .bool), (9, 1, false, .prim .int), (10, 1, false, .prim .int)]
theorem eqIn (i j : In) : eqV eqtIn (.agg i.cells) (.agg j.cells) = some (decide (i = j)) := by
  obtain ⟨a1, a2, a3, a4, a5, a6, a7, a8, a9, a10, a11⟩ := i
  obtain ⟨b1, b2, b3, b4, b5, b6, b7, b8, b9, b10, b11⟩ := j
  simp only [eqtIn, eqV, eqParts, partAV, In.cells, List.getElem?_cons_succ, List.getElem?_cons_zero, primEq, if_true, In.mk.injEq]
  by_cases h1 : a1 = b1 <;> simp only [h1, decide_true, decide_false, true_and, false_and]
  by_cases h2 : a2 = b2 <;> simp only [h2, decide_true, decide_false, true_and, false_and]
  by_cases h3 : a3 = b3 <;> simp only [h3, decide_true, decide_false, true_and, false_and]
  by_cases h4 : a4 = b4 <;> simp only [h4, decide_true, decide_false, true_and, false_and]
  by_cases h5 : a5 = b5 <;> simp only [h5, decide_true, decide_false, true_and, false_and]
  by_cases h6 : a6 = b6 <;> simp only [h6, decide_true, decide_false, true_and, false_and]
  by_cases h7 : a7 = b7 <;> simp only [h7, decide_true, decide_false, true_and, false_and]
  by_cases h8 : a8 = b8 <;> by_cases h9 : a9 = b9 <;> by_cases h10 : a10 = b10 <;> by_cases h11 : a11 = b11 <;> simp [h8, h9, h10, h11]
theorem eqIn' (a1 a2 a3 a4 a5 a6 a7 : Int) (a8 a9 : Bool) (a10 a11 : Int) (b1 b2 b3 b4 b5 b6 b7 : Int) (b8 b9 : Bool) (b10 b11 : Int) : eqV (.agg [(0, 1, false, .prim .int), (1, 1, false, .prim .int), (2, 1, false, .prim .int), (3, 1, false, .prim .int), (4, 1, false, .prim .int), (5, 1, false, .prim .int), (6, 1, false, .prim .int), (7, 1, false, .prim .bool), (8, 1, false, .prim .bool), (9, 1, false, .prim .int), (10, 1, false, .prim .int)]) (.agg [.int .u8 a1, .int .u8 a2, .int .u8 a3, .int .u8 a4, .int .u8 a5, .int .u8 a6, .int .u8 a7, .bool a8, .bool a9, .int .u16 a10, .int .i64 a11]) (.agg [.int .u8 b1, .int .u8 b2, .int .u8 b3, .int .u8 b4, .int .u8 b5, .int .u8 b6, .int .u8 b7, .bool b8, .bool b9, .int .u16 b10, .int .i64 b11]) = some (decide ((⟨a1, a2, a3, a4, a5, a6, a7, a8, a9, a10, a11⟩ : In) = ⟨b1, b2, b3, b4, b5, b6, b7, b8, b9, b10, b11⟩)) := eqIn ⟨a1, a2, a3, a4, a5, a6, a7, a8, a9, a10, a11⟩ ⟨b1, b2, b3, b4, b5, b6, b7, b8, b9, b10, b11⟩
def leftF (i : In) (fs : List Fld) : In := fs.foldl withoutSpec i
def okF (i : In) (fs : List Fld) (b : Bool) : Bool := fs.foldl (fun b f => b && holdsSpec i f) b
def rightF (i : In) : Bool := okF i (fieldsOf i.op) (isaRow i.op).isSome && (decide (leftF { i with op := 0 } (fieldsOf i.op) = In.zero) && !(hasF i.op 1 && (decide (i.mode = 0) && !decide (i.pred = 0))))

theorem leftF_take (i : In) (fs : List Fld) (j : Nat) (h : j < fs.length) : leftF i (fs.take (j + 1)) = withoutSpec (leftF i (fs.take j)) fs[j] := by
  unfold leftF
  rw [List.take_succ_eq_append_getElem h, List.foldl_append]
  rfl
theorem okF_take (i : In) (fs : List Fld) (b : Bool) (j : Nat) (h : j < fs.length) : okF i (fs.take (j + 1)) b = (okF i (fs.take j) b && holdsSpec i fs[j]) := by
  unfold okF
  rw [List.take_succ_eq_append_getElem h, List.foldl_append]
  rfl
theorem isaRow_fldOk {op : Int} {r : IRow} (h : isaRow op = some r) : ∀ f ∈ r.fields, fldOk f = true := by
  have h1 : isaRows.all (fun r => r.fields.all fldOk) = true := by decide +kernel
  exact List.all_eq_true.1 (List.all_eq_true.1 h1 r (isaRow_mem h))

theorem right_tail (hcd : T 226 = some (.hook (pureH condG))) (K : AV → St → Prop) (i L : In) (ok : Bool) (hi : isByte i.op = true) (e : Env) (σ : St) (pi pl : Nat)
    (h4 : opd e (.t 4) = .bool ok) (h5 : opd e (.t 5) = .ptr ⟨pl, 0, 0, 11⟩) (h1 : opd e (.t 1) = .ptr ⟨pi, 0, 0, 11⟩) (ol : σ.heap.get pl = some (.cells L.cells 0 0 false)) (oi : σ.heap.get pi = some (.cells i.cells 0 0 false))
    (hK : K (.bool (ok && (decide (L = In.zero) && !(hasF i.op 1 && (decide (i.mode = 0) && !decide (i.pred = 0)))))) σ) :
    Ret T (Fin [.tmp 2] K) [.seq (.seq (.region [⟨some 33, none, [], (.move (.t 4))⟩, ⟨some 34, none, [], (.move (.t 33))⟩, ⟨some 35, some (34, true), [], (.load true 11 (.t 5))⟩, ⟨some 36, some (34, true), [], (.build [(.int .u8 0), (.int .u8 0), (.int .u8 0), (.int .u8 0), (.int .u8 0), (.int .u8 0), (.int .u8 0), (.bool false), (.bool false), (.int .u16 0), (.int .i64 0)] [])⟩, ⟨some 37, some (34, true), [], (.eq false (.agg [(0, 1, false, (.prim .int)), (1, 1, false, (.prim .int)), (2, 1, false, (.prim .int)), (3, 1, false, (.prim .int)), (4, 1, false, (.prim .int)), (5, 1, false, (.prim .int)), (6, 1, false, (.prim .int)), (7, 1, false, (.prim .bool)), (8, 1, false, (.prim .bool)), (9, 1, false, (.prim .int)), (10, 1, false, (.prim .int))]) (.t 35) (.t 36))⟩, ⟨some 38, none, [], (.pick (.t 34) (.t 37) (.c (.bool false)))⟩, ⟨some 39, none, [], (.move (.t 38))⟩, ⟨some 40, some (39, true), [], (.load true 11 (.t 1))⟩, ⟨some 41, some (39, true), [], (.call 226 [(.t 40)])⟩, ⟨some 42, some (39, true), [], (.move (.t 41))⟩, ⟨some 43, some (42, true), [], (.fieldAddr 6 (.t 1))⟩, ⟨some 44, some (42, true), [], (.load false 1 (.t 43))⟩, ⟨some 45, some (42, true), [], (.bin .eql (.t 44) (.c (.int .u8 0)))⟩, ⟨some 46, some (39, true), [], (.pick (.t 42) (.t 45) (.c (.bool false)))⟩, ⟨some 47, some (39, true), [], (.move (.t 46))⟩, ⟨some 48, some (47, true), [], (.fieldAddr 5 (.t 1))⟩, ⟨some 49, some (47, true), [], (.load false 1 (.t 48))⟩, ⟨some 50, some (47, true), [], (.bin .neq (.t 49) (.c (.int .u8 0)))⟩, ⟨some 51, some (39, true), [], (.pick (.t 47) (.t 50) (.c (.bool false)))⟩, ⟨some 52, some (39, true), [], (.un .not (.t 51))⟩, ⟨some 53, none, [], (.pick (.t 39) (.t 52) (.c (.bool false)))⟩, ⟨some 2, none, [], (.move (.t 53))⟩] false)
 .ret)] .normal e σ := by
  have k4 := goCall_hook hcd
  have q4 := condH_eq i
  simp only [In.cells] at q4
  generalize hQ : Fin _ _ = Q
  obtain ⟨l1, l2, l3, l4, l5, l6, l7, l8, l9, l10, l11⟩ := L
  simp only [h4, h5, h1, ol, oi, In.cells, eqIn', k4, q4, hi, w0, w1, w2, w3, w4, w5, w6, w7, w8, w9, w10, w11, w12, w13, w14, w15, w16, Nat.reduceAdd, Nat.reduceEqDiff, Nat.reduceLeDiff, Nat.reduceLT, Nat.reduceMul, Nat.add_zero, Nat.add_assoc, Nat.add_left_cancel_iff, Nat.reduceBEq, Int.reduceLT, Int.reduceLE, Int.reduceEq, Int.reduceAdd, Int.reduceSub, Int.cast_ofNat_Int, Int.reduceMul, Int.reduceMod, Int.reduceTMod, Int.reduceTDiv, Int.reduceNeg, Nat.reduceSub, Nat.reduceDiv, Nat.mul_one, Nat.one_mul, Int.lt_irrefl, decide_true, decide_false, reduceIte, reduceCtorEq, Nat.zero_add, Nat.le_refl, Nat.zero_le, and_self, and_true, true_and, List.length_cons, List.length_nil, List.drop_succ_cons, List.drop_zero, List.take_succ_cons, List.take_zero, List.getElem?_cons_succ, List.getElem?_cons_zero, List.cons_append, List.nil_append, List.append_nil, List.all_cons, List.all_nil, Bool.and_true, Nat.left_eq_add, Nat.add_eq_left, Nat.succ_ne_self, Bool.not_true, Bool.not_false, Option.some.injEq, exists_eq_left']
  repeat' ((first | refine goC_split (fun h => ?_) (fun h => ?_) | refine goG_split_t (fun h => ?_) (fun h => ?_) | refine goG_split_f (fun h => ?_) (fun h => ?_)) <;> (try simp only [Bool.not_eq_true', Bool.not_eq_false'] at h) <;> (try simp only [h, h4, h5, h1, ol, oi, In.cells, eqIn', k4, q4, hi, w0, w1, w2, w3, w4, w5, w6, w7, w8, w9, w10, w11, w12, w13, w14, w15, w16, Nat.reduceAdd, Nat.reduceEqDiff, Nat.reduceLeDiff, Nat.reduceLT, Nat.reduceMul, Nat.add_zero, Nat.add_assoc, Nat.add_left_cancel_iff, Nat.reduceBEq, Int.reduceLT, Int.reduceLE, Int.reduceEq, Int.reduceAdd, Int.reduceSub, Int.cast_ofNat_Int, Int.reduceMul, Int.reduceMod, Int.reduceTMod, Int.reduceTDiv, Int.reduceNeg, Nat.reduceSub, Nat.reduceDiv, Nat.mul_one, Nat.one_mul, Int.lt_irrefl, decide_true, decide_false, reduceIte, reduceCtorEq, Nat.zero_add, Nat.le_refl, Nat.zero_le, and_self, and_true, true_and, List.length_cons, List.length_nil, List.drop_succ_cons, List.drop_zero, List.take_succ_cons, List.take_zero, List.getElem?_cons_succ, List.getElem?_cons_zero, List.cons_append, List.nil_append, List.append_nil, List.all_cons, List.all_nil, Bool.and_true, Nat.left_eq_add, Nat.add_eq_left, Nat.succ_ne_self, Bool.not_true, Bool.not_false, Option.some.injEq, exists_eq_left']))
  all_goals subst hQ
  all_goals simp only [w0, w1, w2, w3, w4, w5, w6, w7, w8, w9, w10, w11, w12, w13, w14, w15, w16, Nat.reduceAdd, Nat.reduceEqDiff, Nat.reduceLeDiff, Nat.reduceLT, Nat.reduceMul, Nat.add_zero, Nat.add_assoc, Nat.add_left_cancel_iff, Nat.reduceBEq, Int.reduceLT, Int.reduceLE, Int.reduceEq, Int.reduceAdd, Int.reduceSub, Int.cast_ofNat_Int, Int.reduceMul, Int.reduceMod, Int.reduceTMod, Int.reduceTDiv, Int.reduceNeg, Nat.reduceSub, Nat.reduceDiv, Nat.mul_one, Nat.one_mul, Int.lt_irrefl, decide_true, decide_false, reduceIte, reduceCtorEq, Nat.zero_add, Nat.le_refl, Nat.zero_le, and_self, and_true, true_and, List.length_cons, List.length_nil, List.drop_succ_cons, List.drop_zero, List.take_succ_cons, List.take_zero, List.getElem?_cons_succ, List.getElem?_cons_zero, List.cons_append, List.nil_append, List.append_nil, List.all_cons, List.all_nil, Bool.and_true, Nat.left_eq_add, Nat.add_eq_left, Nat.succ_ne_self, Bool.not_true, Bool.not_false, Option.some.injEq, exists_eq_left']
  all_goals clear k4 q4
  all_goals refine cast (congrArg (fun b => K (AV.bool b) σ) ?_) hK
  all_goals simp_all [In.zero]
theorem right_loop (hcd : T 226 = some (.hook (pureH condG))) (hw : T 224 = some (.hook (pureH withoutG))) (hh : T 225 = some (.hook (pureH holdsG))) (s : St) (i : In) (hi : isByte i.op = true) (him : isI64 i.imm = true) (fs : List Fld) (hfs : ∀ f ∈ fs, fldOk f = true) (hn : fs.length < 1000) (ok0 : Bool) (pi pl fid : Nat) (hpi : s.next ≤ pi) (hpl : s.next ≤ pl) (hpil : pi ≠ pl) (hpf : fid ≠ pl) :
    ∀ (k j : Nat) (e : Env) (σ : St), k + j = fs.length → opd e (.t 4) = .bool (okF i (fs.take j) ok0) → opd e (.t 5) = .ptr ⟨pl, 0, 0, 11⟩ → opd e (.t 1) = .ptr ⟨pi, 0, 0, 11⟩ → opd e (.t 18) = .int .i64 fs.length → opd e (.t 19) = .int .i64 j →
      (0 < fs.length → opd e (.t 17) = .slice ⟨fid, 0, 0, 5 * fs.length⟩ fs.length fs.length false 5 ∧ fid < σ.next ∧ σ.heap.get fid = some (.cells (fs.flatMap Fld.cells) 0 0 false)) →
      pi < σ.next → pl < σ.next → σ.heap.get pl = some (.cells (leftF { i with op := 0 } (fs.take j)).cells 0 0 false) → σ.heap.get pi = some (.cells i.cells 0 0 false) → Ext s σ →
      Go T (Fin [.tmp 2] fun v s' => v = .bool (okF i fs ok0 && (decide (leftF { i with op := 0 } fs = In.zero) && !(hasF i.op 1 && (decide (i.mode = 0) && !decide (i.pred = 0))))) ∧ Ext s s') ((.loop (.seq (.region [⟨some 20, none, [], (.bin .lss (.t 19) (.t 18))⟩] false)
 (.seq (.cond (.t 20) .skip (.exit 0))
 (.seq (.block 1 (.seq (.region [⟨some 21, none, [], (.idxSl 5 (.t 17) (.t 19))⟩, ⟨some 22, none, [], (.load true 5 (.t 21))⟩, ⟨some 7, none, [], (.alloc [(.int .u8 0), (.int .i64 0), (.int .i64 0), (.bool false), (.bool false)])⟩, ⟨none, none, [], (.store 5 (.t 7) (.t 22))⟩] false)
 (.seq (.region [⟨some 23, none, [], (.load true 11 (.t 5))⟩, ⟨some 24, none, [], (.load true 5 (.t 7))⟩, ⟨some 25, none, [], (.call 224 [(.t 23), (.t 24)])⟩, ⟨none, none, [], (.store 11 (.t 5) (.t 25))⟩] false)
 (.region [⟨some 26, none, [], (.move (.t 4))⟩, ⟨some 27, none, [], (.move (.t 26))⟩, ⟨some 28, some (27, true), [], (.load true 11 (.t 1))⟩, ⟨some 29, some (27, true), [], (.load true 5 (.t 7))⟩, ⟨some 30, some (27, true), [], (.call 225 [(.t 28), (.t 29)])⟩, ⟨some 31, none, [], (.pick (.t 27) (.t 30) (.c (.bool false)))⟩, ⟨some 4, none, [], (.move (.t 31))⟩] false))))
 (.region [⟨some 32, none, [], (.bin .add (.t 19) (.c (.int .i64 1)))⟩, ⟨some 19, none, [], (.move (.t 32))⟩] false)))))) [.block 0, .seq (.seq (.region [⟨some 33, none, [], (.move (.t 4))⟩, ⟨some 34, none, [], (.move (.t 33))⟩, ⟨some 35, some (34, true), [], (.load true 11 (.t 5))⟩, ⟨some 36, some (34, true), [], (.build [(.int .u8 0), (.int .u8 0), (.int .u8 0), (.int .u8 0), (.int .u8 0), (.int .u8 0), (.int .u8 0), (.bool false), (.bool false), (.int .u16 0), (.int .i64 0)] [])⟩, ⟨some 37, some (34, true), [], (.eq false (.agg [(0, 1, false, (.prim .int)), (1, 1, false, (.prim .int)), (2, 1, false, (.prim .int)), (3, 1, false, (.prim .int)), (4, 1, false, (.prim .int)), (5, 1, false, (.prim .int)), (6, 1, false, (.prim .int)), (7, 1, false, (.prim .bool)), (8, 1, false, (.prim .bool)), (9, 1, false, (.prim .int)), (10, 1, false, (.prim .int))]) (.t 35) (.t 36))⟩, ⟨some 38, none, [], (.pick (.t 34) (.t 37) (.c (.bool false)))⟩, ⟨some 39, none, [], (.move (.t 38))⟩, ⟨some 40, some (39, true), [], (.load true 11 (.t 1))⟩, ⟨some 41, some (39, true), [], (.call 226 [(.t 40)])⟩, ⟨some 42, some (39, true), [], (.move (.t 41))⟩, ⟨some 43, some (42, true), [], (.fieldAddr 6 (.t 1))⟩, ⟨some 44, some (42, true), [], (.load false 1 (.t 43))⟩, ⟨some 45, some (42, true), [], (.bin .eql (.t 44) (.c (.int .u8 0)))⟩, ⟨some 46, some (39, true), [], (.pick (.t 42) (.t 45) (.c (.bool false)))⟩, ⟨some 47, some (39, true), [], (.move (.t 46))⟩, ⟨some 48, some (47, true), [], (.fieldAddr 5 (.t 1))⟩, ⟨some 49, some (47, true), [], (.load false 1 (.t 48))⟩, ⟨some 50, some (47, true), [], (.bin .neq (.t 49) (.c (.int .u8 0)))⟩, ⟨some 51, some (39, true), [], (.pick (.t 47) (.t 50) (.c (.bool false)))⟩, ⟨some 52, some (39, true), [], (.un .not (.t 51))⟩, ⟨some 53, none, [], (.pick (.t 39) (.t 52) (.c (.bool false)))⟩, ⟨some 2, none, [], (.move (.t 53))⟩] false)
 .ret)] e σ := by
  intro k
  induction k with
  | zero =>
    intro j e σ hj h4 h5 h1 h18 h19 h17 hlpi hlpl ol oi hx
    have hjj : j = fs.length := by omega
    subst hjj
    have hlt : ¬ ((fs.length : Int) < (fs.length : Int)) := by omega
    rw [List.take_length] at h4 ol
    generalize hQ : Fin _ _ = Q
    simp only [go_loop, h18, h19, hlt, w0, w1, w2, w3, w4, w5, w6, w7, w8, w9, w10, w11, w12, w13, w14, w15, w16, Nat.reduceAdd, Nat.reduceEqDiff, Nat.reduceLeDiff, Nat.reduceLT, Nat.reduceMul, Nat.add_zero, Nat.add_assoc, Nat.add_left_cancel_iff, Nat.reduceBEq, Int.reduceLT, Int.reduceLE, Int.reduceEq, Int.reduceAdd, Int.reduceSub, Int.cast_ofNat_Int, Int.reduceMul, Int.reduceMod, Int.reduceTMod, Int.reduceTDiv, Int.reduceNeg, Nat.reduceSub, Nat.reduceDiv, Nat.mul_one, Nat.one_mul, Int.lt_irrefl, decide_true, decide_false, reduceIte, reduceCtorEq, Nat.zero_add, Nat.le_refl, Nat.zero_le, and_self, and_true, true_and, List.length_cons, List.length_nil, List.drop_succ_cons, List.drop_zero, List.take_succ_cons, List.take_zero, List.getElem?_cons_succ, List.getElem?_cons_zero, List.cons_append, List.nil_append, List.append_nil, List.all_cons, List.all_nil, Bool.and_true, Nat.left_eq_add, Nat.add_eq_left, Nat.succ_ne_self, Bool.not_true, Bool.not_false, Option.some.injEq, exists_eq_left']
    subst hQ
    have := right_tail hcd (fun v s' => v = .bool (okF i fs ok0 && (decide (leftF { i with op := 0 } fs = In.zero) && !(hasF i.op 1 && (decide (i.mode = 0) && !decide (i.pred = 0))))) ∧ Ext s s') i (leftF { i with op := 0 } fs) (okF i fs ok0) hi (e.set 20 (.bool false)) σ pi pl (by simp only [h4, w0, w1, w2, w3, w4, w5, w6, w7, w8, w9, w10, w11, w12, w13, w14, w15, w16, Nat.reduceAdd, Nat.reduceEqDiff, Nat.reduceLeDiff, Nat.reduceLT, Nat.reduceMul, Nat.add_zero, Nat.add_assoc, Nat.add_left_cancel_iff, Nat.reduceBEq, Int.reduceLT, Int.reduceLE, Int.reduceEq, Int.reduceAdd, Int.reduceSub, Int.cast_ofNat_Int, Int.reduceMul, Int.reduceMod, Int.reduceTMod, Int.reduceTDiv, Int.reduceNeg, Nat.reduceSub, Nat.reduceDiv, Nat.mul_one, Nat.one_mul, Int.lt_irrefl, decide_true, decide_false, reduceIte, reduceCtorEq, Nat.zero_add, Nat.le_refl, Nat.zero_le, and_self, and_true, true_and, List.length_cons, List.length_nil, List.drop_succ_cons, List.drop_zero, List.take_succ_cons, List.take_zero, List.getElem?_cons_succ, List.getElem?_cons_zero, List.cons_append, List.nil_append, List.append_nil, List.all_cons, List.all_nil, Bool.and_true, Nat.left_eq_add, Nat.add_eq_left, Nat.succ_ne_self, Bool.not_true, Bool.not_false, Option.some.injEq, exists_eq_left']) (by simp only [h5, w0, w1, w2, w3, w4, w5, w6, w7, w8, w9, w10, w11, w12, w13, w14, w15, w16, Nat.reduceAdd, Nat.reduceEqDiff, Nat.reduceLeDiff, Nat.reduceLT, Nat.reduceMul, Nat.add_zero, Nat.add_assoc, Nat.add_left_cancel_iff, Nat.reduceBEq, Int.reduceLT, Int.reduceLE, Int.reduceEq, Int.reduceAdd, Int.reduceSub, Int.cast_ofNat_Int, Int.reduceMul, Int.reduceMod, Int.reduceTMod, Int.reduceTDiv, Int.reduceNeg, Nat.reduceSub, Nat.reduceDiv, Nat.mul_one, Nat.one_mul, Int.lt_irrefl, decide_true, decide_false, reduceIte, reduceCtorEq, Nat.zero_add, Nat.le_refl, Nat.zero_le, and_self, and_true, true_and, List.length_cons, List.length_nil, List.drop_succ_cons, List.drop_zero, List.take_succ_cons, List.take_zero, List.getElem?_cons_succ, List.getElem?_cons_zero, List.cons_append, List.nil_append, List.append_nil, List.all_cons, List.all_nil, Bool.and_true, Nat.left_eq_add, Nat.add_eq_left, Nat.succ_ne_self, Bool.not_true, Bool.not_false, Option.some.injEq, exists_eq_left']) (by simp only [h1, w0, w1, w2, w3, w4, w5, w6, w7, w8, w9, w10, w11, w12, w13, w14, w15, w16, Nat.reduceAdd, Nat.reduceEqDiff, Nat.reduceLeDiff, Nat.reduceLT, Nat.reduceMul, Nat.add_zero, Nat.add_assoc, Nat.add_left_cancel_iff, Nat.reduceBEq, Int.reduceLT, Int.reduceLE, Int.reduceEq, Int.reduceAdd, Int.reduceSub, Int.cast_ofNat_Int, Int.reduceMul, Int.reduceMod, Int.reduceTMod, Int.reduceTDiv, Int.reduceNeg, Nat.reduceSub, Nat.reduceDiv, Nat.mul_one, Nat.one_mul, Int.lt_irrefl, decide_true, decide_false, reduceIte, reduceCtorEq, Nat.zero_add, Nat.le_refl, Nat.zero_le, and_self, and_true, true_and, List.length_cons, List.length_nil, List.drop_succ_cons, List.drop_zero, List.take_succ_cons, List.take_zero, List.getElem?_cons_succ, List.getElem?_cons_zero, List.cons_append, List.nil_append, List.append_nil, List.all_cons, List.all_nil, Bool.and_true, Nat.left_eq_add, Nat.add_eq_left, Nat.succ_ne_self, Bool.not_true, Bool.not_false, Option.some.injEq, exists_eq_left']) ol oi ⟨rfl, hx⟩
    simp only [w0, w1, w2, w3, w4, w5, w6, w7, w8, w9, w10, w11, w12, w13, w14, w15, w16, Nat.reduceAdd, Nat.reduceEqDiff, Nat.reduceLeDiff, Nat.reduceLT, Nat.reduceMul, Nat.add_zero, Nat.add_assoc, Nat.add_left_cancel_iff, Nat.reduceBEq, Int.reduceLT, Int.reduceLE, Int.reduceEq, Int.reduceAdd, Int.reduceSub, Int.cast_ofNat_Int, Int.reduceMul, Int.reduceMod, Int.reduceTMod, Int.reduceTDiv, Int.reduceNeg, Nat.reduceSub, Nat.reduceDiv, Nat.mul_one, Nat.one_mul, Int.lt_irrefl, decide_true, decide_false, reduceIte, reduceCtorEq, Nat.zero_add, Nat.le_refl, Nat.zero_le, and_self, and_true, true_and, List.length_cons, List.length_nil, List.drop_succ_cons, List.drop_zero, List.take_succ_cons, List.take_zero, List.getElem?_cons_succ, List.getElem?_cons_zero, List.cons_append, List.nil_append, List.append_nil, List.all_cons, List.all_nil, Bool.and_true, Nat.left_eq_add, Nat.add_eq_left, Nat.succ_ne_self, Bool.not_true, Bool.not_false, Option.some.injEq, exists_eq_left'] at this
    exact this
  | succ k ih =>
    intro j e σ hj h4 h5 h1 h18 h19 h17 hlpi hlpl ol oi hx
    have hlt : ((j : Int) < (fs.length : Int)) := by omega
    have hj' : j < fs.length := by omega
    obtain ⟨h17, hfσ, ofi⟩ := h17 (by omega)
    have hrd : j * 5 + 5 ≤ 5 * fs.length := by omega
    have hfl : List.take 5 (List.drop (j * 5) (List.flatMap Fld.cells fs)) = fs[j].cells := flat_at Fld.len fs j hj'
    have hok := hfs fs[j] (List.getElem_mem hj')
    have k2 := goCall_hook hw
    have k3 := goCall_hook hh
    have q2 := withoutH_eq
    have q3 := fun s => holdsH_eq i fs[j] s him hok
    have n1 : ¬ (pl = σ.next) := by omega
    have n2 : ¬ (pi = σ.next) := by omega
    have n3 : ¬ (σ.next = pl) := by omega
    have n4 : ¬ (fid = σ.next) := by omega
    have n5 : ¬ (pl = pi) := fun h => hpil h.symm
    generalize hL : leftF { i with op := 0 } (fs.take j) = L at *
    generalize hO : okF i (fs.take j) ok0 = ok at *
    simp only [In.cells, Fld.cells] at q2 q3 ol oi hfl
    generalize hQ : Fin _ _ = Q at *
    simp only [go_loop, h4, h5, h1, h18, h19, h17, hlt, hj', hrd, hfl, ol, oi, ofi, n1, n2, n3, n4, n5, hpil, hpf, Fld.cells, In.cells, k2, k3, q2, q3, w0, w1, w2, w3, w4, w5, w6, w7, w8, w9, w10, w11, w12, w13, w14, w15, w16, Nat.reduceAdd, Nat.reduceEqDiff, Nat.reduceLeDiff, Nat.reduceLT, Nat.reduceMul, Nat.add_zero, Nat.add_assoc, Nat.add_left_cancel_iff, Nat.reduceBEq, Int.reduceLT, Int.reduceLE, Int.reduceEq, Int.reduceAdd, Int.reduceSub, Int.cast_ofNat_Int, Int.reduceMul, Int.reduceMod, Int.reduceTMod, Int.reduceTDiv, Int.reduceNeg, Nat.reduceSub, Nat.reduceDiv, Nat.mul_one, Nat.one_mul, Int.lt_irrefl, decide_true, decide_false, reduceIte, reduceCtorEq, Nat.zero_add, Nat.le_refl, Nat.zero_le, and_self, and_true, true_and, List.length_cons, List.length_nil, List.drop_succ_cons, List.drop_zero, List.take_succ_cons, List.take_zero, List.getElem?_cons_succ, List.getElem?_cons_zero, List.cons_append, List.nil_append, List.append_nil, List.all_cons, List.all_nil, Bool.and_true, Nat.left_eq_add, Nat.add_eq_left, Nat.succ_ne_self, Bool.not_true, Bool.not_false, Option.some.injEq, exists_eq_left']
    refine goG_split_t (fun h => ?_) (fun h => ?_)
    all_goals simp only [h, h4, h5, h1, h18, h19, h17, hlt, hj', hrd, hfl, ol, oi, ofi, n1, n2, n3, n4, n5, hpil, hpf, Fld.cells, In.cells, k2, k3, q2, q3, w0, w1, w2, w3, w4, w5, w6, w7, w8, w9, w10, w11, w12, w13, w14, w15, w16, Nat.reduceAdd, Nat.reduceEqDiff, Nat.reduceLeDiff, Nat.reduceLT, Nat.reduceMul, Nat.add_zero, Nat.add_assoc, Nat.add_left_cancel_iff, Nat.reduceBEq, Int.reduceLT, Int.reduceLE, Int.reduceEq, Int.reduceAdd, Int.reduceSub, Int.cast_ofNat_Int, Int.reduceMul, Int.reduceMod, Int.reduceTMod, Int.reduceTDiv, Int.reduceNeg, Nat.reduceSub, Nat.reduceDiv, Nat.mul_one, Nat.one_mul, Int.lt_irrefl, decide_true, decide_false, reduceIte, reduceCtorEq, Nat.zero_add, Nat.le_refl, Nat.zero_le, and_self, and_true, true_and, List.length_cons, List.length_nil, List.drop_succ_cons, List.drop_zero, List.take_succ_cons, List.take_zero, List.getElem?_cons_succ, List.getElem?_cons_zero, List.cons_append, List.nil_append, List.append_nil, List.all_cons, List.all_nil, Bool.and_true, Nat.left_eq_add, Nat.add_eq_left, Nat.succ_ne_self, Bool.not_true, Bool.not_false, Option.some.injEq, exists_eq_left']
    all_goals refine ih (j + 1) _ _ (by omega) ?_ ?_ ?_ ?_ ?_ ?_ ?_ ?_ ?_ ?_ ?_
    all_goals (try rw [okF_take _ _ _ _ hj', hO, h])
    all_goals (try rw [leftF_take _ _ _ hj', hL])
    all_goals (try simp only [h4, h5, h1, h18, h19, h17, hlt, hj', hrd, hfl, ol, oi, ofi, n1, n2, n3, n4, n5, hpil, hpf, Fld.cells, In.cells, k2, k3, q2, q3, w0, w1, w2, w3, w4, w5, w6, w7, w8, w9, w10, w11, w12, w13, w14, w15, w16, Nat.reduceAdd, Nat.reduceEqDiff, Nat.reduceLeDiff, Nat.reduceLT, Nat.reduceMul, Nat.add_zero, Nat.add_assoc, Nat.add_left_cancel_iff, Nat.reduceBEq, Int.reduceLT, Int.reduceLE, Int.reduceEq, Int.reduceAdd, Int.reduceSub, Int.cast_ofNat_Int, Int.reduceMul, Int.reduceMod, Int.reduceTMod, Int.reduceTDiv, Int.reduceNeg, Nat.reduceSub, Nat.reduceDiv, Nat.mul_one, Nat.one_mul, Int.lt_irrefl, decide_true, decide_false, reduceIte, reduceCtorEq, Nat.zero_add, Nat.le_refl, Nat.zero_le, and_self, and_true, true_and, List.length_cons, List.length_nil, List.drop_succ_cons, List.drop_zero, List.take_succ_cons, List.take_zero, List.getElem?_cons_succ, List.getElem?_cons_zero, List.cons_append, List.nil_append, List.append_nil, List.all_cons, List.all_nil, Bool.and_true, Nat.left_eq_add, Nat.add_eq_left, Nat.succ_ne_self, Bool.not_true, Bool.not_false, Option.some.injEq, exists_eq_left'])
    all_goals first
      | rfl
      | (rw [wrap_i64 _ (by omega) (by omega)]; rfl)
      | omega
      | exact (hx.put hpl hlpl _).add _
theorem right_ran (hc : T 187 = some (.code ir187)) (hof : T 146 = some (.hook (litH rowG))) (hw : T 224 = some (.hook (pureH withoutG))) (hh : T 225 = some (.hook (pureH holdsG)))
    (hcd : T 226 = some (.hook (pureH condG))) (s : St) (hs : WFS s) (i : In) (hi : isByte i.op = true) (him : isI64 i.imm = true) :
    Ran T 187 [.agg i.cells] s fun v s' => v = .bool (rightF i) ∧ Ext s s' := by
  refine ran_code hc (Nat.le_of_ble_eq_true rfl) ?_
  have k1 := goCall_hook hof
  have key := fun fs h1 h2 ok0 pi pl fid a b c d e σ => right_loop hcd hw hh s i hi him fs h1 h2 ok0 pi pl fid a b c d fs.length 0 e σ (by omega)
  unfold rightF fieldsOf
  cases hr : isaRow i.op with
  | none =>
    have key := key [] (by simp) (by simp) false s.next (s.next + 2) 0 (by omega) (by omega) (by omega) (by omega)
    generalize hQ : Fin _ _ = Q
    simp only [ir187, In.cells, k1, litH, rowG, hi, rowAns, hr, AV.sh, AV.shs, addAll, w0, w1, w2, w3, w4, w5, w6, w7, w8, w9, w10, w11, w12, w13, w14, w15, w16, Nat.reduceAdd, Nat.reduceEqDiff, Nat.reduceLeDiff, Nat.reduceLT, Nat.reduceMul, Nat.add_zero, Nat.add_assoc, Nat.add_left_cancel_iff, Nat.reduceBEq, Int.reduceLT, Int.reduceLE, Int.reduceEq, Int.reduceAdd, Int.reduceSub, Int.cast_ofNat_Int, Int.reduceMul, Int.reduceMod, Int.reduceTMod, Int.reduceTDiv, Int.reduceNeg, Nat.reduceSub, Nat.reduceDiv, Nat.mul_one, Nat.one_mul, Int.lt_irrefl, decide_true, decide_false, reduceIte, reduceCtorEq, Nat.zero_add, Nat.le_refl, Nat.zero_le, and_self, and_true, true_and, List.length_cons, List.length_nil, List.drop_succ_cons, List.drop_zero, List.take_succ_cons, List.take_zero, List.getElem?_cons_succ, List.getElem?_cons_zero, List.cons_append, List.nil_append, List.append_nil, List.all_cons, List.all_nil, Bool.and_true, Nat.left_eq_add, Nat.add_eq_left, Nat.succ_ne_self, Bool.not_true, Bool.not_false, Option.some.injEq, exists_eq_left']
    subst hQ
    refine key _ _ ?_ ?_ ?_ ?_ ?_ ?_ ?_ ?_ ?_ ?_ ?_
    all_goals (try simp only [okF, leftF, List.take_nil, List.foldl, In.cells, w0, w1, w2, w3, w4, w5, w6, w7, w8, w9, w10, w11, w12, w13, w14, w15, w16, Nat.reduceAdd, Nat.reduceEqDiff, Nat.reduceLeDiff, Nat.reduceLT, Nat.reduceMul, Nat.add_zero, Nat.add_assoc, Nat.add_left_cancel_iff, Nat.reduceBEq, Int.reduceLT, Int.reduceLE, Int.reduceEq, Int.reduceAdd, Int.reduceSub, Int.cast_ofNat_Int, Int.reduceMul, Int.reduceMod, Int.reduceTMod, Int.reduceTDiv, Int.reduceNeg, Nat.reduceSub, Nat.reduceDiv, Nat.mul_one, Nat.one_mul, Int.lt_irrefl, decide_true, decide_false, reduceIte, reduceCtorEq, Nat.zero_add, Nat.le_refl, Nat.zero_le, and_self, and_true, true_and, List.length_cons, List.length_nil, List.drop_succ_cons, List.drop_zero, List.take_succ_cons, List.take_zero, List.getElem?_cons_succ, List.getElem?_cons_zero, List.cons_append, List.nil_append, List.append_nil, List.all_cons, List.all_nil, Bool.and_true, Nat.left_eq_add, Nat.add_eq_left, Nat.succ_ne_self, Bool.not_true, Bool.not_false, Option.some.injEq, exists_eq_left'])
    all_goals first | rfl | omega | ((repeat (first | exact Ext.refl hs | refine Ext.add ?_ _)); done) | (intro h; exact absurd h (by decide))
  | some r =>
    obtain ⟨nm, cl, sl, fs⟩ := r
    have hok := isaRow_fldOk hr
    have hn := isaRow_len hr
    cases fs with
    | nil =>
      have key := key [] (by simp) (by simp) true s.next (s.next + 2) 0 (by omega) (by omega) (by omega) (by omega)
      generalize hQ : Fin _ _ = Q
      simp only [ir187, In.cells, k1, litH, rowG, hi, rowAns, hr, AV.sh, AV.shs, addAll, fldsV, fldsL, w0, w1, w2, w3, w4, w5, w6, w7, w8, w9, w10, w11, w12, w13, w14, w15, w16, Nat.reduceAdd, Nat.reduceEqDiff, Nat.reduceLeDiff, Nat.reduceLT, Nat.reduceMul, Nat.add_zero, Nat.add_assoc, Nat.add_left_cancel_iff, Nat.reduceBEq, Int.reduceLT, Int.reduceLE, Int.reduceEq, Int.reduceAdd, Int.reduceSub, Int.cast_ofNat_Int, Int.reduceMul, Int.reduceMod, Int.reduceTMod, Int.reduceTDiv, Int.reduceNeg, Nat.reduceSub, Nat.reduceDiv, Nat.mul_one, Nat.one_mul, Int.lt_irrefl, decide_true, decide_false, reduceIte, reduceCtorEq, Nat.zero_add, Nat.le_refl, Nat.zero_le, and_self, and_true, true_and, List.length_cons, List.length_nil, List.drop_succ_cons, List.drop_zero, List.take_succ_cons, List.take_zero, List.getElem?_cons_succ, List.getElem?_cons_zero, List.cons_append, List.nil_append, List.append_nil, List.all_cons, List.all_nil, Bool.and_true, Nat.left_eq_add, Nat.add_eq_left, Nat.succ_ne_self, Bool.not_true, Bool.not_false, Option.some.injEq, exists_eq_left']
      subst hQ
      refine key _ _ ?_ ?_ ?_ ?_ ?_ ?_ ?_ ?_ ?_ ?_ ?_
      all_goals (try simp only [okF, leftF, List.take_nil, List.foldl, In.cells, w0, w1, w2, w3, w4, w5, w6, w7, w8, w9, w10, w11, w12, w13, w14, w15, w16, Nat.reduceAdd, Nat.reduceEqDiff, Nat.reduceLeDiff, Nat.reduceLT, Nat.reduceMul, Nat.add_zero, Nat.add_assoc, Nat.add_left_cancel_iff, Nat.reduceBEq, Int.reduceLT, Int.reduceLE, Int.reduceEq, Int.reduceAdd, Int.reduceSub, Int.cast_ofNat_Int, Int.reduceMul, Int.reduceMod, Int.reduceTMod, Int.reduceTDiv, Int.reduceNeg, Nat.reduceSub, Nat.reduceDiv, Nat.mul_one, Nat.one_mul, Int.lt_irrefl, decide_true, decide_false, reduceIte, reduceCtorEq, Nat.zero_add, Nat.le_refl, Nat.zero_le, and_self, and_true, true_and, List.length_cons, List.length_nil, List.drop_succ_cons, List.drop_zero, List.take_succ_cons, List.take_zero, List.getElem?_cons_succ, List.getElem?_cons_zero, List.cons_append, List.nil_append, List.append_nil, List.all_cons, List.all_nil, Bool.and_true, Nat.left_eq_add, Nat.add_eq_left, Nat.succ_ne_self, Bool.not_true, Bool.not_false, Option.some.injEq, exists_eq_left'])
      all_goals first | rfl | omega | ((repeat (first | exact Ext.refl hs | refine Ext.add ?_ _)); done) | (intro h; exact absurd h (by decide))
    | cons f0 fs0 =>
      have key := key (f0 :: fs0) hok hn true s.next (s.next + 3) (s.next + 1) (by omega) (by omega) (by omega) (by omega)
      generalize hQ : Fin _ _ = Q
      simp only [ir187, In.cells, k1, litH, rowG, hi, rowAns, hr, AV.sh, AV.shs, addAll, fldsV, fldsL, AObj.sh, w0, w1, w2, w3, w4, w5, w6, w7, w8, w9, w10, w11, w12, w13, w14, w15, w16, Nat.reduceAdd, Nat.reduceEqDiff, Nat.reduceLeDiff, Nat.reduceLT, Nat.reduceMul, Nat.add_zero, Nat.add_assoc, Nat.add_left_cancel_iff, Nat.reduceBEq, Int.reduceLT, Int.reduceLE, Int.reduceEq, Int.reduceAdd, Int.reduceSub, Int.cast_ofNat_Int, Int.reduceMul, Int.reduceMod, Int.reduceTMod, Int.reduceTDiv, Int.reduceNeg, Nat.reduceSub, Nat.reduceDiv, Nat.mul_one, Nat.one_mul, Int.lt_irrefl, decide_true, decide_false, reduceIte, reduceCtorEq, Nat.zero_add, Nat.le_refl, Nat.zero_le, and_self, and_true, true_and, List.length_cons, List.length_nil, List.drop_succ_cons, List.drop_zero, List.take_succ_cons, List.take_zero, List.getElem?_cons_succ, List.getElem?_cons_zero, List.cons_append, List.nil_append, List.append_nil, List.all_cons, List.all_nil, Bool.and_true, Nat.left_eq_add, Nat.add_eq_left, Nat.succ_ne_self, Bool.not_true, Bool.not_false, Option.some.injEq, exists_eq_left']
      subst hQ
      refine key _ _ ?_ ?_ ?_ ?_ ?_ ?_ ?_ ?_ ?_ ?_ ?_
      all_goals (try simp only [okF, leftF, List.take_zero, List.foldl, In.cells, w0, w1, w2, w3, w4, w5, w6, w7, w8, w9, w10, w11, w12, w13, w14, w15, w16, Nat.reduceAdd, Nat.reduceEqDiff, Nat.reduceLeDiff, Nat.reduceLT, Nat.reduceMul, Nat.add_zero, Nat.add_assoc, Nat.add_left_cancel_iff, Nat.reduceBEq, Int.reduceLT, Int.reduceLE, Int.reduceEq, Int.reduceAdd, Int.reduceSub, Int.cast_ofNat_Int, Int.reduceMul, Int.reduceMod, Int.reduceTMod, Int.reduceTDiv, Int.reduceNeg, Nat.reduceSub, Nat.reduceDiv, Nat.mul_one, Nat.one_mul, Int.lt_irrefl, decide_true, decide_false, reduceIte, reduceCtorEq, Nat.zero_add, Nat.le_refl, Nat.zero_le, and_self, and_true, true_and, List.length_cons, List.length_nil, List.drop_succ_cons, List.drop_zero, List.take_succ_cons, List.take_zero, List.getElem?_cons_succ, List.getElem?_cons_zero, List.cons_append, List.nil_append, List.append_nil, List.all_cons, List.all_nil, Bool.and_true, Nat.left_eq_add, Nat.add_eq_left, Nat.succ_ne_self, Bool.not_true, Bool.not_false, Option.some.injEq, exists_eq_left'])
      all_goals first | rfl | omega | ((repeat (first | exact Ext.refl hs | refine Ext.add ?_ _)); done) | (intro h; exact absurd h (by decide)) | (intro h; exact ⟨by omega, by rw [plains_sh (plains_flatMap Fld.plain (f0 :: fs0))]⟩)
end
end Go.V
