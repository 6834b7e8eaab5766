/- FROM THE MODEL's CODE TO THE SMALL LANGUAGE. -/
import Derived.Test.YtpccibieeikllaaDoorV3
import GoSem.Core.Region
set_option linter.unusedVariables false
set_option linter.unusedSimpArgs false
set_option linter.unusedSectionVars false
/- FROM THE MODEL's CODE TO THE SMALL LANGUAGE. -/
namespace Go.V
open Go

/-- A program, and which of its package-level variables may be read. -/
structure Prog extends Program where
  G : List Nat

mutual
def constAV : Nat → Value → Option AV
  | 0, _ => none
  | n + 1, v => match v with
    | .bool b => some (.bool b)
    | .int k n => some (.int k n)
    | .float k n => some (.float k n)
    | .complex k a b => some (.complex k a b)
    | .string s => some (.str s.data.toList)
    | .pointer none => some .nilPtr
    | .slice none 0 0 => some .nilSlice
    | .map none => some .nilMap
    | .nilFunc => some .nilFunc
    | .nilIface => some .nilIface
    | .func (.func f) l m => match constAVs n l.toList, constAVs n m.toList with
      | some l, some m => some (.func f l m)
      | _, _ => none
    | .iface t v => match constAV n v with
      | some v => some (.iface t v)
      | none => none
    | .agg l => match constAVs n l.toList with
      | some l => some (.agg l)
      | none => none
    | .tuple l => match constAVs n l.toList with
      | some l => some (.tuple l)
      | none => none
    | _ => none
def constAVs : Nat → List Value → Option (List AV)
  | _, [] => some []
  | n, v :: l => match constAV n v, constAVs n l with
    | some v, some l => some (v :: l)
    | _, _ => none
end

def szOf (P : Prog) (t : TypeId) : Option Nat := match P.underlying t with
  | some _ => (P.info? t).map (·.size)
  | none => none
def bytesOfT (P : Prog) (t : TypeId) : Nat := ((P.info? t).map (·.bytes)).getD 0
def aggT (P : Prog) (t : TypeId) : Bool := match P.underlying t with
  | some (.struct _) => true
  | some (.array _ _) => true
  | _ => false
def zeroAV (P : Prog) (t : TypeId) : Option AV := match (P.info? t).bind (·.zero) with
  | some z => constAV 8 z
  | none => none
def zeroCellsV (P : Prog) (t : TypeId) : Option (List AV) := match (P.info? t).bind (·.zero) with
  | some z => constAVs 8 z.cells.toList
  | none => none

def ofOpd (P : Prog) : Operand → Option Opd
  | .tmp t => some (.t t)
  | .const v => (constAV 8 v).map .c
  | .global g => if P.G.contains g then match P.globals[g]? with
    | some x => match szOf P x.type with
      | some n => some (.c (.ptr ⟨g, 0, 0, n⟩))
      | none => none
    | none => none else none
  | .func f => some (.c (.func f [] []))

def ofOpds (P : Prog) : List Operand → Option (List Opd)
  | [] => some []
  | x :: l => match ofOpd P x, ofOpds P l with
    | some x, some l => some (x :: l)
    | _, _ => none

def ofOOpd (P : Prog) : Option Operand → Option (Option Opd)
  | none => some none
  | some x => (ofOpd P x).map some

def eqTs (f : TypeId → Option EqT) (P : Prog) : List (Nat × TypeId) → Option (List (Nat × Nat × Bool × EqT))
  | [] => some []
  | (off, t) :: l => match szOf P t, f t, eqTs f P l with
    | some n, some e, some r => some ((off, n, aggT P t, e) :: r)
    | _, _, _ => none

def eqT (P : Prog) : Nat → TypeId → Option EqT
  | 0, _ => none
  | d + 1, t => match P.underlying t with
    | some .bool => some (.prim .bool)
    | some (.int _) => some (.prim .int)
    | some .string => some (.prim .str)
    | some (.pointer e) => match szOf P e with
      | some n => if n = 0 then none else some (.nilable .ptr)
      | none => none
    | some (.slice _) => some (.nilable .sl)
    | some (.map _ _) => some (.nilable .map)
    | some (.func _ _ _) => some (.nilable .fn)
    | some (.interface _) => some (.nilable .ifc)
    | some (.struct fs) =>
      if P.stoodInHeld t then none else
      match eqTs (eqT P d) P ((fs.toList.filter fun f => f.name ≠ "_").map fun f => (f.offset, f.type)) with
      | some ps => some (.agg ps)
      | none => none
    | some (.array n e) => match szOf P e with
      | some k => match eqTs (eqT P d) P ((List.range n).map fun i => (i * k, e)) with
        | some ps => some (.agg ps)
        | none => none
      | none => none
    | _ => none

def isConstOpd : Operand → Bool
  | .const _ => true
  | _ => false

def eqGuardOk (P : Prog) (t : TypeId) (d : TypeDesc) (x y : Operand) : Bool := match d with
  | .interface _ => isConstOpd x || isConstOpd y
  | .struct _ => !P.eqGuardType P.depth t
  | .array _ _ => !P.eqGuardType P.depth t
  | _ => true

def kkOf (P : Prog) (t : TypeId) : Option KK := match P.underlying t with
  | some (.int k) => some (.int k)
  | some .string => some .str
  | some .bool => some .bool
  | _ => none

def partsIns (P : Prog) (place : Nat → Option (Nat × Nat)) : List (Nat × Operand) → Option (List (Nat × Nat × Opd))
  | [] => some []
  | (i, x) :: l => match place i, ofOpd P x, partsIns P place l with
    | some (o, n), some x, some r => some ((o, n, x) :: r)
    | _, _, _ => none

def structPlace (P : Prog) (fs : Array Field) (i : Nat) : Option (Nat × Nat) := match fs[i]? with
  | some f => match szOf P f.type with
    | some n => some (f.offset, n)
    | none => none
  | none => none

/-- Types of whole numbers. -/
def intTs (P : Prog) : List Nat := (List.range P.types.size).filter fun t => match P.info? t with
  | some i => i.comparable && (match P.underlying t with | some (.int _) => true | _ => false)
  | none => false

def orBad : Option Ins → Ins
  | some i => i
  | none => .bad

def map1 (P : Prog) (x : Operand) (f : Opd → Ins) : Ins := match ofOpd P x with
  | some x => f x
  | none => .bad
def map2 (P : Prog) (x y : Operand) (f : Opd → Opd → Ins) : Ins := match ofOpd P x, ofOpd P y with
  | some x, some y => f x y
  | _, _ => .bad

def convIns (P : Prog) (s d : TypeId) (x : Opd) : Ins :=
  match P.underlying s, P.underlying d with
  | some (.int _), some (.int k) => .conv (.intInt k) x
  | some (.int _), some (.float k) => .conv (.intFloat k) x
  | some (.float _), some (.int k) => .conv (.floatInt k) x
  | some .string, some .string => .conv .strStr x
  | some .string, some (.slice e) => match P.underlying e with
    | some (.int .u8) => if szOf P e = some 1 then .conv .strBytes x else .bad
    | _ => .bad
  | some (.slice e), some .string => match P.underlying e with
    | some (.int .u8) => .conv .bytesStr x
    | _ => .bad
  | _, _ => .bad

/-- The methods of a name that take the value itself. -/
def methT (P : Prog) (name : String) : List (Nat × Nat) := (List.range P.types.size).filterMap fun t => match P.info? t with
  | some i => match i.methods.find? (·.name == name) with
    | some m => match m.func, m.path.toList with
      | some (f, pr), [] => match P.underlying t, pr with
        | some (.pointer _), true => some (t, f)
        | some (.pointer _), false => none
        | some _, false => some (t, f)
        | _, _ => none
      | _, _ => none
    | none => none
  | none => none

def callIns (P : Prog) (ty : TypeId) (c : Call) : Ins :=
  match ofOpds P c.args.toList with
  | none => .bad
  | some args => match c.callee with
    | .value (.func f) => .call f args
    | .value x => map1 P x fun x => .callVal x args
    | .invoke x name => map1 P x fun x => .invoke (methT P name) x args
    | .builtin b => match b, args, c.argTypes.toList with
      | .len, [x], [t] => match P.underlying t with
        | some .string => .lenStr x
        | some (.slice _) => .lenSl x
        | some (.array n _) => .lenArr n
        | some (.pointer a) => match P.underlying a with
          | some (.array n _) => .lenArr n
          | _ => .bad
        | some (.map _ _) => .lenMap x
        | _ => .bad
      | .cap, [x], [t] => match P.underlying t with
        | some (.slice _) => .cap x
        | _ => .bad
      | .append, [x, y], [t, u] => match P.underlying t with
        | some (.slice e) => match szOf P e, zeroCellsV P e with
          | some n, some z => if z.length ≠ n then .bad else match P.underlying u with
            | some (.int _) => .appendZ n (bytesOfT P e) z x y
            | some (.slice _) => .append n (bytesOfT P e) x y
            | some .string => .append n (bytesOfT P e) x y
            | _ => .bad
          | _, _ => .bad
        | _ => .bad
      | .min, l, _ => .minmax false l
      | .max, l, _ => .minmax true l
      | .real, [x], _ => .realP x
      | .imag, [x], _ => .imagP x
      | .complex, [x, y], _ => .cplx x y
      | .clear, [x], [t] => match P.underlying t with
        | some (.slice e) => match szOf P e, zeroCellsV P e with
          | some n, some z => if z.length = n ∧ 0 < n then .clearSl n z x else .bad
          | _, _ => .bad
        | _ => .bad
      | .delete, [m, k], [t, _] => match P.underlying t with
        | some (.map k' _) => match kkOf P k' with
          | some kk => .delete kk m k
          | none => .bad
        | _ => .bad
      | _, _, _ => if ty = 0 then .bad else .bad

def ofOp (P : Prog) (o : Oper) : Ins :=
  match o.op with
  | .move x => map1 P x .move
  | .assign x => map1 P x .move
  | .pick c a b => match ofOpd P c, ofOpd P a, ofOpd P b with
    | some c, some a, some b => .pick c a b
    | _, _, _ => .bad
  | .alloc t => match zeroCellsV P t with
    | some z => .alloc z
    | none => .bad
  | .box _ x => map1 P x .box
  | .build t ps => match zeroCellsV P t with
    | none => .bad
    | some z => match P.underlying t with
      | some (.struct fs) => if (fs.toList.all fun f => (szOf P f.type).isSome) = false then .bad else match partsIns P (structPlace P fs) ps.toList with
        | some l => .build z l
        | none => .bad
      | some (.array _ e) => match szOf P e with
        | some n => match partsIns P (fun i => some (i * n, n)) ps.toList with
          | some l => .build z l
          | none => .bad
        | none => .bad
      | _ => .bad
  | .buildSlice t len ps => match P.underlying t with
    | some (.slice e) => match szOf P e, zeroCellsV P e with
      | some n, some z => if len * n ≤ 2 ^ 24 ∧ 0 < n ∧ z.length = n then
          match partsIns P (fun i => some (i * n, n)) ps.toList with
          | some l => .buildSlice len n z l
          | none => .bad
        else .bad
      | _, _ => .bad
    | _ => .bad
  | .load t x => match szOf P t with
    | some n => map1 P x (.load (aggT P t) n)
    | none => .bad
  | .store t x v => match szOf P t with
    | some n => map2 P x v (.store n)
    | none => .bad
  | .nilCheck x => map1 P x .nilCheck
  | .binOp op t x y _ =>
    match op with
    | .eql | .neq => match P.underlying t with
      | some (.int _) => map2 P x y (.bin op)
      | some .string => map2 P x y (.bin op)
      | some (.float _) => map2 P x y (.bin op)
      | some (.complex _) => map2 P x y (.bin op)
      | some d => match eqT P 6 t with
        | some e =>
          if eqGuardOk P t d x y then map2 P x y (.eq (op == .neq) e) else match d with
            | .interface _ => map2 P x y (.eq (op == .neq) (.ifc (intTs P)))
            | _ => .bad
        | none => .bad
      | none => .bad
    | _ => map2 P x y (.bin op)
  | .unOp op _ x => map1 P x (.un op)
  | .convert s d x => map1 P x (convIns P s d)
  | .makeInterface t x => match P.underlying t with
    | some (.interface _) => .bad
    | some _ => map1 P x (.mkIface t)
    | none => .bad
  | .makeFunc (.func f) l m => match ofOpds P l.toList, ofOpds P m.toList with
    | some l, some m => .mkFunc f l m
    | _, _ => .bad
  | .makeMap _ none => .mkMap
  | .makeSlice t l c => match P.underlying t with
    | some (.slice e) => match szOf P e, zeroCellsV P e with
      | some n, some z => if z.length = n then map2 P l c (.mkSlice n (bytesOfT P e) z) else .bad
      | _, _ => .bad
    | _ => .bad
  | .slice t x lo hi mx => match ofOpd P x, ofOOpd P lo, ofOOpd P hi, ofOOpd P mx with
    | some x, some lo, some hi, some mx => match P.underlying t with
      | some .string => if mx.isSome then .bad else .sliceStr x lo hi
      | some (.slice e) => match szOf P e with
        | some n => .sliceSl n x lo hi mx
        | none => .bad
      | some (.array k e) => match szOf P e with
        | some n => .sliceArr k n x lo hi mx
        | none => .bad
      | _ => .bad
    | _, _, _, _ => .bad
  | .fieldAddr t x i => match P.underlying t with
    | some (.struct fs) => match fs[i]? with
      | some f => match szOf P f.type with
        | some n => if n = 0 then .bad else map1 P x (.fieldAddr f.offset)
        | none => .bad
      | none => .bad
    | _ => .bad
  | .field t x i => match P.underlying t with
    | some (.struct fs) => match fs[i]? with
      | some f => match szOf P f.type with
        | some n => map1 P x (.field f.offset n (aggT P f.type))
        | none => .bad
      | none => .bad
    | _ => .bad
  | .indexAddr t x i => match P.underlying t with
    | some (.array n e) => match szOf P e with
      | some k => map2 P x i (.idxArr n k)
      | none => .bad
    | some (.slice e) => match szOf P e with
      | some k => map2 P x i (.idxSl k)
      | none => .bad
    | _ => .bad
  | .index t x i => match P.underlying t with
    | some .string => map2 P x i .idxStr
    | some (.array n e) => match szOf P e with
      | some k => map2 P x i (.idxAgg n k (aggT P e))
      | none => .bad
    | _ => .bad
  | .lookup t m k ok => match P.underlying t with
    | some (.map kt e) => match kkOf P kt, zeroAV P e with
      | some kk, some z => map2 P m k (.lookup kk z ok)
      | _, _ => .bad
    | _ => .bad
  | .mapUpdate t m k v => match P.underlying t with
    | some (.map kt _) => match kkOf P kt, ofOpd P m, ofOpd P k, ofOpd P v with
      | some kk, some m, some k, some v => .mapSet kk m k v
      | _, _, _, _ => .bad
    | _ => .bad
  | .insert t m k v => match P.underlying t with
    | some (.map kt _) => match kkOf P kt, ofOpd P m, ofOpd P k, ofOpd P v with
      | some kk, some m, some k, some v => .mapSet kk m k v
      | _, _, _, _ => .bad
    | _ => .bad
  | .extract x i => map1 P x fun x => .extract x i
  | .call c => callIns P o.type c
  | .panic x => map1 P x .panic
  | .typeAssert x _ t ok => match P.underlying t with
    | some (.interface _) => .bad
    | some _ => match zeroAV P t with
      | some z => map1 P x (.assertT t z ok)
      | none => .bad
    | none => .bad
  | _ => .bad

/- THE ORDER OF A REGION THAT DRAWS -/
inductive Cls where
  | N | A | R | W
  deriving DecidableEq

def clsIns : Ins → Cls
  | .move _ | .pick .. | .build .. | .nilCheck _ | .bin .. | .eq .. | .un .. | .mkIface .. | .mkFunc .. | .sliceStr .. | .sliceSl .. | .fieldAddr .. | .field .. | .idxArr .. | .idxSl .. | .idxStr .. | .idxAgg ..
  | .extract .. | .lenStr _ | .lenSl _ | .lenArr _ | .cap _ | .minmax .. | .realP _ | .imagP _ | .cplx .. | .assertT .. => .N
  | .conv .strBytes _ => .A
  | .conv .bytesStr _ => .R
  | .conv _ _ => .N
  | .box _ | .alloc _ | .buildSlice .. | .mkMap | .mkSlice .. => .A
  | .load .. | .lookup .. | .lenMap _ | .sliceArr .. => .R
  | _ => .W

/-- The operand through which an instruction of class R reads. -/
def watchOf : Ins → List Opd
  | .load _ _ x => [x]
  | .lookup _ _ _ m _ => [m]
  | .lenMap x => [x]
  | .conv .bytesStr x => [x]
  | .sliceArr _ _ x _ _ _ => [x]
  | _ => []

def insOpds : Ins → List Opd
  | .move x | .box x | .nilCheck x | .un _ x | .conv _ x | .mkIface _ x | .fieldAddr _ x | .field _ _ _ x | .extract x _ | .lenStr x | .lenSl x | .lenMap x | .cap x | .realP x | .imagP x | .panic x | .assertT _ _ _ x | .clearSl _ _ x | .load _ _ x => [x]
  | .pick a b c => [a, b, c]
  | .alloc _ | .mkMap | .lenArr _ | .bad => []
  | .build _ ps | .buildSlice _ _ _ ps => ps.map (·.2.2)
  | .store _ x v | .bin _ x v | .eq _ _ x v | .mkSlice _ _ _ x v | .idxArr _ _ x v | .idxSl _ x v | .idxStr x v | .idxAgg _ _ _ x v | .lookup _ _ _ x v | .append _ _ x v | .appendZ _ _ _ x v | .cplx x v | .delete _ x v => [x, v]
  | .mkFunc _ l m => l ++ m
  | .sliceStr x lo hi => x :: (lo.toList ++ hi.toList)
  | .sliceSl _ x lo hi mx | .sliceArr _ _ x lo hi mx => x :: (lo.toList ++ (hi.toList ++ mx.toList))
  | .mapSet _ m k v => [m, k, v]
  | .call _ l | .minmax _ l => l
  | .callVal x l => x :: l
  | .invoke _ x l => x :: l

def tmpsOf : List Opd → List Nat
  | [] => []
  | .t i :: l => i :: tmpsOf l
  | .c _ :: l => tmpsOf l

def opTmps (x : IOp) : List Nat := match x.guard with
  | some (t, _) => t :: tmpsOf (insOpds x.ins)
  | none => tmpsOf (insOpds x.ins)

structure DRow where
  i : Nat
  op : IOp
  tmps : List Nat
  cls : Cls
  bef : Nat

def isDst (d : Option Nat) (l : List Nat) : Bool := match d with
  | some d => l.contains d
  | none => false
def sameDst (d e : Option Nat) : Bool := match d, e with
  | some d, some e => d == e
  | _, _ => false

def clsOk : Cls → Cls → Bool
  | .N, _ => true
  | _, .N => true
  | .R, .R => true
  | .R, .A => true
  | .R, .W => true
  | .A, .A => true
  | .W, .A => true
  | _, _ => false

/-- A row and one behind it. -/
def pairOk (x y : DRow) : Bool := !sameDst x.op.dst y.op.dst && ((!isDst y.op.dst x.tmps && (y.bef.testBit x.i || (!isDst x.op.dst y.tmps && clsOk x.cls y.cls))) || (y.bef.testBit x.i && !decide (x.cls = .R)))
theorem pairOk_spec {x y : DRow} (h : pairOk x y = true) : sameDst x.op.dst y.op.dst = false ∧ (x.cls = .R → isDst y.op.dst x.tmps = false) ∧ (y.bef.testBit x.i = true ∨ (isDst y.op.dst x.tmps = false ∧ isDst x.op.dst y.tmps = false ∧ clsOk x.cls y.cls = true)) := by
  simp only [pairOk, Bool.and_eq_true, Bool.or_eq_true, Bool.not_eq_true', decide_eq_false_iff_not] at h
  obtain ⟨h1, h2 | h2⟩ := h
  · refine ⟨h1, fun _ => h2.1, ?_⟩
    rcases h2.2 with h | h
    · exact .inl h
    · exact .inr ⟨h2.1, h.1, h.2⟩
  · exact ⟨h1, fun hr => absurd hr h2.2, .inl h2.1⟩

def rowsOk : List DRow → Bool
  | [] => true
  | x :: l => !isDst x.op.dst x.tmps && l.all (pairOk x) && rowsOk l

def depsDone (o : Oper) (done : List Nat) : Bool := o.after.all fun e => !Region.binds .any e || done.contains e.on

def firstWith (p : Nat → Bool) : List Nat → Option Nat
  | [] => none
  | i :: l => if p i then some i else firstWith p l

/-- A row of a region's operations: what only looks first, what makes memory as late as can be. -/
def orderGo (ops : Array Oper) (cls : Nat → Cls) (bef : Array Nat) : Nat → List Nat → List Nat → List Nat
  | 0, _, done => done
  | f + 1, left, done =>
    let av := left.filter fun i => match ops[i]? with | some o => depsDone o done | none => false
    let w := firstWith (fun i => cls i == .W) left
    let pick :=
      match firstWith (fun i => cls i == .N || cls i == .R) av with
      | some i => some i
      | none => match firstWith (fun i => cls i == .W) av with
        | some i => some i
        | none => match firstWith (fun i => match w with | some j => (bef.getD j 0).testBit i | none => true) av with
          | some i => some i
          | none => av.head?
    match pick with
    | some i => orderGo ops cls bef f (left.filter (· != i)) (done ++ [i])
    | none => done

def ofGuard (ops : Array Oper) : Option (Nat × Bool) → Option (Option (Nat × Bool))
  | none => some none
  | some (j, b) => match (ops[j]?).bind (·.dst) with
    | some d => some (some (d, b))
    | none => none

def ofOper (P : Prog) (nt : Nat) (ops : Array Oper) (o : Oper) : Option IOp :=
  match ofGuard ops o.guard with
  | none => none
  | some g => if (match o.dst with | some d => decide (d < nt) | none => true) then some ⟨o.dst, g, [], ofOp P o⟩ else none

def opsFrom (P : Prog) (nt : Nat) (ops : Array Oper) : List Nat → Option (List IOp)
  | [] => some []
  | i :: l => match ops[i]? with
    | none => none
    | some o => match ofOper P nt ops o, opsFrom P nt ops l with
      | some x, some r => some (x :: r)
      | _, _ => none

def mkRow (P : Prog) (nt : Nat) (ops : Array Oper) (bef : Array Nat) (i : Nat) : Option DRow := match ops[i]? with
  | none => none
  | some o => match ofOper P nt ops o with
    | some x => some ⟨i, x, opTmps x, clsIns x.ins, bef.getD i 0⟩
    | none => none

def rowsOf (P : Prog) (nt : Nat) (ops : Array Oper) (bef : Array Nat) : List Nat → Option (List DRow)
  | [] => some []
  | i :: l => match mkRow P nt ops bef i, rowsOf P nt ops bef l with
    | some x, some r => some (x :: r)
    | _, _ => none

def watchFor (y : DRow) : List DRow → List Opd
  | [] => []
  | x :: l => if x.cls == .R && !y.bef.testBit x.i then watchOf x.op.ins ++ watchFor y l else watchFor y l

def watched : List DRow → List DRow → List IOp
  | _, [] => []
  | pre, y :: l => (match y.cls with | .W => { y.op with watch := watchFor y pre } | _ => y.op) :: watched (pre ++ [y]) l

def clsAt (P : Prog) (ops : Array Oper) (i : Nat) : Cls := match ops[i]? with
  | some o => clsIns (ofOp P o)
  | none => .W

def backOk (ops : Array Oper) : Bool := ops.toList.zipIdx.all fun (o, i) => o.after.all fun e => !Region.binds .any e || decide (e.on < i)

def nodupB : List Nat → Bool
  | [] => true
  | x :: l => !l.contains x && nodupB l
def isPerm (n : Nat) (l : List Nat) : Bool := decide (l.length = n) && ((List.range n).all fun i => l.contains i) && nodupB l

def ofRegion (P : Prog) (nt : Nat) (ops : Array Oper) (draw : Bool) : ICode :=
  match draw with
  | false => match opsFrom P nt ops (List.range ops.size) with
    | some l => .region l false
    | none => .bad
  | true =>
    let bef := Region.before ops
    let ord := orderGo ops (clsAt P ops) bef ops.size (List.range ops.size) []
    match rowsOf P nt ops bef ord with
    | some rs => if isPerm ops.size ord && rowsOk rs && backOk ops then .region (watched [] rs) true else .bad
    | none => .bad

def labelsIn : Code → List Nat
  | .seq a b => labelsIn a ++ labelsIn b
  | .label l => [l]
  | _ => []

def sizeC : Code → Nat
  | .seq a b => sizeC a + sizeC b + 1
  | .cond _ a b => sizeC a + sizeC b + 1
  | .block _ b => sizeC b + 1
  | .loop b => sizeC b + 1
  | .scope b => sizeC b + 1
  | _ => 1

def labsOf (g : Code → ICode) (b : Code) : List Nat → List (Nat × ICode)
  | [] => []
  | l :: r => match findLabel b l with
    | some c => (l, g c) :: labsOf g b r
    | none => labsOf g b r

def ofCode (P : Prog) (nt : Nat) : Nat → Code → ICode
  | 0, _ => .bad
  | f + 1, c => match c with
    | .skip => .skip
    | .region _ ops draw => ofRegion P nt ops draw
    | .seq a b => .seq (ofCode P nt f a) (ofCode P nt f b)
    | .cond c a b => match ofOpd P c with
      | some c => .cond c (ofCode P nt f a) (ofCode P nt f b)
      | none => .bad
    | .block id b => .block id (ofCode P nt f b)
    | .loop b => .loop (ofCode P nt f b)
    | .exit id => .exit id
    | .scope b => .scope (ofCode P nt f b) (labsOf (ofCode P nt f) b (labelsIn b))
    | .label _ => .label
    | .goto l => .goto l
    | .ret => .ret
    | _ => .bad

def ofResult (P : Prog) : ResultVar → Option RVar
  | .tmp t => some (.tmp t)
  | .cell a t => match szOf P t with
    | some n => some (.cell a (aggT P t) n)
    | none => none

def ofResults (P : Prog) : List ResultVar → Option (List RVar)
  | [] => some []
  | r :: l => match ofResult P r, ofResults P l with
    | some r, some l => some (r :: l)
    | _, _ => none

def ofFunc (P : Prog) (fn : Func) : Option IFunc :=
  match fn.body, ofResults P fn.results.toList with
  | some c, some rs => some ⟨fn.ntmps, rs, ofCode P fn.ntmps 400 c⟩
  | _, _ => none

def extNames : List (String × ExtK) := [("math.archFloor", .floor), ("math.archTrunc", .trunc), ("math.archMax", .fmax), ("math.archMin", .fmin), ("math.Float64bits", .f64bits), ("math.Float64frombits", .f64frombits), ("maps.clone", .mapsClone), ("internal/abi.NoEscape", .noEscape), ("internal/bytealg.IndexByteString", .indexByte)]
end Go.V
