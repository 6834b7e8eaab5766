/- FROM THE MODEL's CODE TO THE SMALL LANGUAGE. -/
import Derived.Test.YtoaakfgdebkkaaaGreatDoorV3
import GoSem.Core.Region
set_option linter.unusedVariables false
set_option linter.unusedSimpArgs false
set_option linter.unusedSectionVars false
/- FROM THE MODEL's CODE TO THE SMALL LANGUAGE. -/
namespace Go.V
open Go

/-- A program, and which of its package-level variables may be read. -/
structure Prog extends Program where
 G : List Nat
 B : List Nat := []

/-- A builder of strings, and a byte: the types whose variables are told. -/
def bldTypes (P : Program) : List Nat := match P.funcs.toList.find? (·.name == "(*strings.Builder).WriteString") with
 | some fn => match fn.params.toList with
  | p :: _ => match P.underlying p with
   | some (.pointer t) => match P.underlying t with
    | some (.struct fs) => match fs[1]? with
     | some f => match P.underlying f.type with
      | some (.slice e) => [t, e]
      | _ => []
     | none => []
    | _ => []
   | _ => []
  | [] => []
 | none => []

mutual
def constAV : Nat → Value → Option AV
 | 0, _ => none
 | n + 1, v => match v with
  | .bool b => some (.bool b)
  | .int k n => some (.int k n)
  | .float k n => some (.float k n)
  | .complex k a b => some (.complex k a b)
  | .string s => some (.str s.data.toList)
  | .pointer none => some .nilPtr
  | .slice none 0 0 => some .nilSlice
  | .map none => some .nilMap
  | .nilFunc => some .nilFunc
  | .nilIface => some .nilIface
  | .func (.func f) l m => match constAVs n l.toList, constAVs n m.toList with
   | some l, some m => some (.func f l m)
   | _, _ => none
  | .iface t v => match constAV n v with
   | some v => some (.iface t v)
   | none => none
  | .agg l => match constAVs n l.toList with
   | some l => some (.agg l)
   | none => none
  | .tuple l => match constAVs n l.toList with
   | some l => some (.tuple l)
   | none => none
  | _ => none
def constAVs : Nat → List Value → Option (List AV)
 | _, [] => some []
 | n, v :: l => match constAV n v, constAVs n l with
  | some v, some l => some (v :: l)
  | _, _ => none
end

def szOf (P : Prog) (t : TypeId) : Option Nat := match P.underlying t with
 | some _ => (P.info? t).map (·.size)
 | none => none
def bytesOfT (P : Prog) (t : TypeId) : Nat := ((P.info? t).map (·.bytes)).getD 0
def aggT (P : Prog) (t : TypeId) : Bool := match P.underlying t with
 | some (.struct _) => true
 | some (.array _ _) => true
 | _ => false
def zeroAV (P : Prog) (t : TypeId) : Option AV := match (P.info? t).bind (·.zero) with
 | some z => constAV 8 z
 | none => none
def zeroCellsV (P : Prog) (t : TypeId) : Option (List AV) := match (P.info? t).bind (·.zero) with
 | some z => constAVs 8 z.cells.toList
 | none => none

def ofOpd (P : Prog) : Operand → Option Opd
 | .tmp t => some (.t t)
 | .const v => (constAV 8 v).map .c
 | .global g => if P.G.contains g then match P.globals[g]? with
  | some x => match szOf P x.type with
   | some n => some (.c (.ptr ⟨g, 0, 0, n⟩))
   | none => none
  | none => none else none
 | .func f => some (.c (.func f [] []))

def ofOpds (P : Prog) : List Operand → Option (List Opd)
 | [] => some []
 | x :: l => match ofOpd P x, ofOpds P l with
  | some x, some l => some (x :: l)
  | _, _ => none

def ofOOpd (P : Prog) : Option Operand → Option (Option Opd)
 | none => some none
 | some x => (ofOpd P x).map some

def eqTs (f : TypeId → Option EqT) (P : Prog) : List (Nat × TypeId) → Option (List (Nat × Nat × Bool × EqT))
 | [] => some []
 | (off, t) :: l => match szOf P t, f t, eqTs f P l with
  | some n, some e, some r => some ((off, n, aggT P t, e) :: r)
  | _, _, _ => none

def eqT (P : Prog) : Nat → TypeId → Option EqT
 | 0, _ => none
 | d + 1, t => match P.underlying t with
  | some .bool => some (.prim .bool)
  | some (.int _) => some (.prim .int)
  | some .string => some (.prim .str)
  | some (.pointer e) => match szOf P e with
   | some n => if n = 0 then none else some (.nilable .ptr)
   | none => none
  | some (.slice _) => some (.nilable .sl)
  | some (.map _ _) => some (.nilable .map)
  | some (.func _ _ _) => some (.nilable .fn)
  | some (.interface _) => some (.nilable .ifc)
  | some (.struct fs) =>
   if P.stoodInHeld t then none else
   match eqTs (eqT P d) P ((fs.toList.filter fun f => f.name ≠ "_").map fun f => (f.offset, f.type)) with
   | some ps => some (.agg ps)
   | none => none
  | some (.array n e) => match szOf P e with
   | some k => match eqTs (eqT P d) P ((List.range n).map fun i => (i * k, e)) with
    | some ps => some (.agg ps)
    | none => none
   | none => none
  | _ => none

def isConstOpd : Operand → Bool
 | .const _ => true
 | _ => false

def eqGuardOk (P : Prog) (t : TypeId) (d : TypeDesc) (x y : Operand) : Bool := match d with
 | .interface _ => isConstOpd x || isConstOpd y
 | .struct _ => !P.eqGuardType P.depth t
 | .array _ _ => !P.eqGuardType P.depth t
 | _ => true

def kkOf (P : Prog) (t : TypeId) : Option KK := match P.underlying t with
 | some (.int k) => some (.int k)
 | some .string => some .str
 | some .bool => some .bool
 | _ => none

def partsIns (P : Prog) (place : Nat → Option (Nat × Nat)) : List (Nat × Operand) → Option (List (Nat × Nat × Opd))
 | [] => some []
 | (i, x) :: l => match place i, ofOpd P x, partsIns P place l with
  | some (o, n), some x, some r => some ((o, n, x) :: r)
  | _, _, _ => none

def structPlace (P : Prog) (fs : Array Field) (i : Nat) : Option (Nat × Nat) := match fs[i]? with
 | some f => match szOf P f.type with
  | some n => some (f.offset, n)
  | none => none
 | none => none

/-- Types of whole numbers. -/
def intTs (P : Prog) : List Nat := (List.range P.types.size).filter fun t => match P.info? t with
 | some i => i.comparable && (match P.underlying t with | some (.int _) => true | _ => false)
 | none => false

def orBad : Option Ins → Ins
 | some i => i
 | none => .bad

def map1 (P : Prog) (x : Operand) (f : Opd → Ins) : Ins := match ofOpd P x with
 | some x => f x
 | none => .bad
def map2 (P : Prog) (x y : Operand) (f : Opd → Opd → Ins) : Ins := match ofOpd P x, ofOpd P y with
 | some x, some y => f x y
 | _, _ => .bad

/-- A type whose variables are told by their number. -/
def bldT (P : Prog) (t : TypeId) : Bool := P.B.contains t

def convIns (P : Prog) (s d : TypeId) (x : Opd) : Ins :=
 match P.underlying s, P.underlying d with
 | some (.int _), some (.int k) => .conv (.intInt k) x
 | some (.int _), some (.float k) => .conv (.intFloat k) x
 | some (.float _), some (.int k) => .conv (.floatInt k) x
 | some .string, some .string => .conv .strStr x
 | some .string, some (.slice e) => match P.underlying e with
  | some (.int .u8) => if szOf P e = some 1 then .conv .strBytes x else .bad
  | _ => .bad
 | some (.slice e), some .string => match P.underlying e with
  | some (.int .u8) => .conv .bytesStr x
  | _ => .bad
 | some (.pointer t), some .unsafePointer => match szOf P t with
  | some (_ + 1) => .bld .toU x x
  | _ => .bad
 | some .unsafePointer, some (.pointer t) => match szOf P t with
  | some (n + 1) => if bldT P t then .bld (.ofU t (n + 1)) x x else .bad
  | _ => .bad
 | _, _ => .bad

/-- The methods of a name that take the value itself. -/
def methT (P : Prog) (name : String) : List (Nat × Nat) := (List.range P.types.size).filterMap fun t => match P.info? t with
 | some i => match i.methods.find? (·.name == name) with
  | some m => match m.func, m.path.toList with
   | some (f, pr), [] => match P.underlying t, pr with
    | some (.pointer _), true => some (t, f)
    | some (.pointer _), false => none
    | some _, false => some (t, f)
    | _, _ => none
   | _, _ => none
  | none => none
 | none => none

def appIns (P : Prog) (e : TypeId) (n : Nat) (x y : Opd) : Ins := if bldT P e = true ∧ n = 1 ∧ bytesOfT P e ≤ 65536 then .bld (.app e) x y else .append n (bytesOfT P e) x y

def callIns (P : Prog) (ty : TypeId) (c : Call) : Ins :=
 match ofOpds P c.args.toList with
 | none => .bad
 | some args => match c.callee with
  | .value (.func f) => .call f args
  | .value x => map1 P x fun x => .callVal x args
  | .invoke x name => map1 P x fun x => .invoke (methT P name) x args
  | .builtin b => match b, args, c.argTypes.toList with
   | .len, [x], [t] => match P.underlying t with
    | some .string => .lenStr x
    | some (.slice _) => .lenSl x
    | some (.array n _) => .lenArr n
    | some (.pointer a) => match P.underlying a with
     | some (.array n _) => .lenArr n
     | _ => .bad
    | some (.map _ _) => .lenMap x
    | _ => .bad
   | .cap, [x], [t] => match P.underlying t with
    | some (.slice _) => .cap x
    | _ => .bad
   | .append, [x, y], [t, u] => match P.underlying t with
    | some (.slice e) => match szOf P e, zeroCellsV P e with
     | some n, some z => if z.length ≠ n then .bad else match P.underlying u with
      | some (.int _) => .appendZ n (bytesOfT P e) z x y
      | some (.slice _) => appIns P e n x y
      | some .string => appIns P e n x y
      | _ => .bad
     | _, _ => .bad
    | _ => .bad
   | .unsafeSliceData, [x], _ => if P.B.isEmpty then .bad else .bld .data x x
   | .unsafeString, [x, y], t :: _ => match P.underlying t with
    | some (.pointer e) => if bldT P e = true ∧ szOf P e = some 1 then .bld (.str e) x y else .bad
    | _ => .bad
   | .min, l, _ => .minmax false l
   | .max, l, _ => .minmax true l
   | .real, [x], _ => .realP x
   | .imag, [x], _ => .imagP x
   | .complex, [x, y], _ => .cplx x y
   | .clear, [x], [t] => match P.underlying t with
    | some (.slice e) => match szOf P e, zeroCellsV P e with
     | some n, some z => if z.length = n ∧ 0 < n then .clearSl n z x else .bad
     | _, _ => .bad
    | _ => .bad
   | .delete, [m, k], [t, _] => match P.underlying t with
    | some (.map k' _) => match kkOf P k' with
     | some kk => .delete kk m k
     | none => .bad
    | _ => .bad
   | _, _, _ => if ty = 0 then .bad else .bad

def ofOp (P : Prog) (o : Oper) : Ins :=
 match o.op with
 | .move x => map1 P x .move
 | .assign x => map1 P x .move
 | .pick c a b => match ofOpd P c, ofOpd P a, ofOpd P b with
  | some c, some a, some b => .pick c a b
  | _, _, _ => .bad
 | .alloc t => match zeroCellsV P t with
  | some z => if bldT P t then .bld (.alloc t z) (.c .nilPtr) (.c .nilPtr) else .alloc z
  | none => .bad
 | .box _ x => map1 P x .box
 | .build t ps => match zeroCellsV P t with
  | none => .bad
  | some z => match P.underlying t with
   | some (.struct fs) => if (fs.toList.all fun f => (szOf P f.type).isSome) = false then .bad else match partsIns P (structPlace P fs) ps.toList with
    | some l => .build z l
    | none => .bad
   | some (.array _ e) => match szOf P e with
    | some n => match partsIns P (fun i => some (i * n, n)) ps.toList with
     | some l => .build z l
     | none => .bad
    | none => .bad
   | _ => .bad
 | .buildSlice t len ps => match P.underlying t with
  | some (.slice e) => match szOf P e, zeroCellsV P e with
   | some n, some z => if len * n ≤ 2 ^ 24 ∧ 0 < n ∧ z.length = n then
    match partsIns P (fun i => some (i * n, n)) ps.toList with
    | some l => .buildSlice len n z l
    | none => .bad
    else .bad
   | _, _ => .bad
  | _ => .bad
 | .load t x => match szOf P t with
  | some n => map1 P x (.load (aggT P t) n)
  | none => .bad
 | .store t x v => match szOf P t with
  | some n => map2 P x v (.store n)
  | none => .bad
 | .nilCheck x => map1 P x .nilCheck
 | .binOp op t x y _ =>
  match op with
  | .eql | .neq => match P.underlying t with
   | some (.int _) => map2 P x y (.bin op)
   | some .string => map2 P x y (.bin op)
   | some (.float _) => map2 P x y (.bin op)
   | some (.complex _) => map2 P x y (.bin op)
   | some d => match eqT P 6 t with
    | some e =>
     if eqGuardOk P t d x y then map2 P x y (.eq (op == .neq) e) else match d with
      | .interface _ => map2 P x y (.eq (op == .neq) (.ifc (intTs P)))
      | _ => .bad
    | none => .bad
   | none => .bad
  | _ => map2 P x y (.bin op)
 | .unOp op _ x => map1 P x (.un op)
 | .convert s d x => map1 P x (convIns P s d)
 | .makeInterface t x => match P.underlying t with
  | some (.interface _) => .bad
  | some _ => map1 P x (.mkIface t)
  | none => .bad
 | .makeFunc (.func f) l m => match ofOpds P l.toList, ofOpds P m.toList with
  | some l, some m => .mkFunc f l m
  | _, _ => .bad
 | .makeMap _ none => .mkMap
 | .makeSlice t l c => match P.underlying t with
  | some (.slice e) => match szOf P e, zeroCellsV P e with
   | some n, some z => if z.length = n then map2 P l c (.mkSlice n (bytesOfT P e) z) else .bad
   | _, _ => .bad
  | _ => .bad
 | .slice t x lo hi mx => match ofOpd P x, ofOOpd P lo, ofOOpd P hi, ofOOpd P mx with
  | some x, some lo, some hi, some mx => match P.underlying t with
   | some .string => if mx.isSome then .bad else .sliceStr x lo hi
   | some (.slice e) => match szOf P e with
    | some n => .sliceSl n x lo hi mx
    | none => .bad
   | some (.array k e) => match szOf P e with
    | some n => .sliceArr k n x lo hi mx
    | none => .bad
   | _ => .bad
  | _, _, _, _ => .bad
 | .fieldAddr t x i => match P.underlying t with
  | some (.struct fs) => match fs[i]? with
   | some f => match szOf P f.type with
    | some n => if n = 0 then .bad else map1 P x (.fieldAddr f.offset)
    | none => .bad
   | none => .bad
  | _ => .bad
 | .field t x i => match P.underlying t with
  | some (.struct fs) => match fs[i]? with
   | some f => match szOf P f.type with
    | some n => map1 P x (.field f.offset n (aggT P f.type))
    | none => .bad
   | none => .bad
  | _ => .bad
 | .indexAddr t x i => match P.underlying t with
  | some (.array n e) => match szOf P e with
   | some k => map2 P x i (.idxArr n k)
   | none => .bad
  | some (.slice e) => match szOf P e with
   | some k => map2 P x i (.idxSl k)
   | none => .bad
  | _ => .bad
 | .index t x i => match P.underlying t with
  | some .string => map2 P x i .idxStr
  | some (.array n e) => match szOf P e with
   | some k => map2 P x i (.idxAgg n k (aggT P e))
   | none => .bad
  | _ => .bad
 | .lookup t m k ok => match P.underlying t with
  | some (.map kt e) => match kkOf P kt, zeroAV P e with
   | some kk, some z => map2 P m k (.lookup kk z ok)
   | _, _ => .bad
  | _ => .bad
 | .mapUpdate t m k v => match P.underlying t with
  | some (.map kt _) => match kkOf P kt, ofOpd P m, ofOpd P k, ofOpd P v with
   | some kk, some m, some k, some v => .mapSet kk m k v
   | _, _, _, _ => .bad
  | _ => .bad
 | .insert t m k v => match P.underlying t with
  | some (.map kt _) => match kkOf P kt, ofOpd P m, ofOpd P k, ofOpd P v with
   | some kk, some m, some k, some v => .mapSet kk m k v
   | _, _, _, _ => .bad
  | _ => .bad
 | .extract x i => map1 P x fun x => .extract x i
 | .call c => callIns P o.type c
 | .panic x => map1 P x .panic
 | .typeAssert x _ t ok => match P.underlying t with
  | some (.interface _) => .bad
  | some _ => match zeroAV P t with
   | some z => map1 P x (.assertT t z ok)
   | none => .bad
  | none => .bad
 | _ => .bad

/- THE ORDER OF A REGION THAT DRAWS -/
inductive Cls where
 | N | A | R | W
 deriving DecidableEq

def clsIns : Ins → Cls
 | .move _ | .pick .. | .build .. | .nilCheck _ | .bin .. | .eq .. | .un .. | .mkIface .. | .mkFunc .. | .sliceStr .. | .sliceSl .. | .fieldAddr .. | .field .. | .idxArr .. | .idxSl .. | .idxStr .. | .idxAgg ..
 | .extract .. | .lenStr _ | .lenSl _ | .lenArr _ | .cap _ | .minmax .. | .realP _ | .imagP _ | .cplx .. | .assertT .. | .bld .data _ _ => .N
 | .conv .strBytes _ => .A
 | .conv .bytesStr _ => .R
 | .conv _ _ => .N
 | .box _ | .alloc _ | .buildSlice .. | .mkMap | .mkSlice .. => .A
 | .load .. | .lookup .. | .lenMap _ | .sliceArr .. => .R
 | _ => .W

/-- The operand through which an instruction of class R reads. -/
def watchOf : Ins → List Opd
 | .load _ _ x => [x]
 | .lookup _ _ _ m _ => [m]
 | .lenMap x => [x]
 | .conv .bytesStr x => [x]
 | .sliceArr _ _ x _ _ _ => [x]
 | _ => []

def insOpds : Ins → List Opd
 | .move x | .box x | .nilCheck x | .un _ x | .conv _ x | .mkIface _ x | .fieldAddr _ x | .field _ _ _ x | .extract x _ | .lenStr x | .lenSl x | .lenMap x | .cap x | .realP x | .imagP x | .panic x | .assertT _ _ _ x | .clearSl _ _ x | .load _ _ x => [x]
 | .pick a b c => [a, b, c]
 | .alloc _ | .mkMap | .lenArr _ | .bad => []
 | .build _ ps | .buildSlice _ _ _ ps => ps.map (·.2.2)
 | .store _ x v | .bin _ x v | .eq _ _ x v | .mkSlice _ _ _ x v | .idxArr _ _ x v | .idxSl _ x v | .idxStr x v | .idxAgg _ _ _ x v | .lookup _ _ _ x v | .append _ _ x v | .appendZ _ _ _ x v | .cplx x v | .delete _ x v | .bld _ x v => [x, v]
 | .mkFunc _ l m => l ++ m
 | .sliceStr x lo hi => x :: (lo.toList ++ hi.toList)
 | .sliceSl _ x lo hi mx | .sliceArr _ _ x lo hi mx => x :: (lo.toList ++ (hi.toList ++ mx.toList))
 | .mapSet _ m k v => [m, k, v]
 | .call _ l | .minmax _ l => l
 | .callVal x l => x :: l
 | .invoke _ x l => x :: l

def tmpsOf : List Opd → List Nat
 | [] => []
 | .t i :: l => i :: tmpsOf l
 | .c _ :: l => tmpsOf l

def opTmps (x : IOp) : List Nat := match x.guard with
 | some (t, _) => t :: tmpsOf (insOpds x.ins)
 | none => tmpsOf (insOpds x.ins)

structure DRow where
 i : Nat
 op : IOp
 tmps : List Nat
 cls : Cls
 bef : Nat

def isDst (d : Option Nat) (l : List Nat) : Bool := match d with
 | some d => l.contains d
 | none => false
def sameDst (d e : Option Nat) : Bool := match d, e with
 | some d, some e => d == e
 | _, _ => false

def clsOk : Cls → Cls → Bool
 | .N, _ => true
 | _, .N => true
 | .R, .R => true
 | .R, .A => true
 | .R, .W => true
 | .A, .A => true
 | .W, .A => true
 | _, _ => false

/-- A row and one behind it. -/
def pairOk (x y : DRow) : Bool := !sameDst x.op.dst y.op.dst && ((!isDst y.op.dst x.tmps && (y.bef.testBit x.i || (!isDst x.op.dst y.tmps && clsOk x.cls y.cls))) || (y.bef.testBit x.i && !decide (x.cls = .R)))
theorem pairOk_spec {x y : DRow} (h : pairOk x y = true) : sameDst x.op.dst y.op.dst = false ∧ (x.cls = .R → isDst y.op.dst x.tmps = false) ∧ (y.bef.testBit x.i = true ∨ (isDst y.op.dst x.tmps = false ∧ isDst x.op.dst y.tmps = false ∧ clsOk x.cls y.cls = true)) := by
 simp only [pairOk, Bool.and_eq_true, Bool.or_eq_true, Bool.not_eq_true', decide_eq_false_iff_not] at h
 obtain ⟨h1, h2 | h2⟩ := h
 · refine ⟨h1, fun _ => h2.1, ?_⟩
   rcases h2.2 with h | h
   · exact .inl h
   · exact .inr ⟨h2.1, h.1, h.2⟩
 · exact ⟨h1, fun hr => absurd hr h2.2, .inl h2.1⟩

def rowsOk : List DRow → Bool
 | [] => true
 | x :: l => !isDst x.op.dst x.tmps && l.all (pairOk x) && rowsOk l

def depsDone (o : Oper) (done : List Nat) : Bool := o.after.all fun e => !Region.binds .any e || done.contains e.on

def firstWith (p : Nat → Bool) : List Nat → Option Nat
 | [] => none
 | i :: l => if p i then some i else firstWith p l

/-- A row of a region's operations: what only looks first, what makes memory as late as can be. -/
def orderGo (ops : Array Oper) (cls : Nat → Cls) (bef : Array Nat) : Nat → List Nat → List Nat → List Nat
 | 0, _, done => done
 | f + 1, left, done =>
  let av := left.filter fun i => match ops[i]? with | some o => depsDone o done | none => false
  let w := firstWith (fun i => cls i == .W) left
  let pick :=
   match firstWith (fun i => cls i == .N || cls i == .R) av with
   | some i => some i
   | none => match firstWith (fun i => cls i == .W) av with
    | some i => some i
    | none => match firstWith (fun i => match w with | some j => (bef.getD j 0).testBit i | none => true) av with
     | some i => some i
     | none => av.head?
  match pick with
  | some i => orderGo ops cls bef f (left.filter (· != i)) (done ++ [i])
  | none => done

def ofGuard (ops : Array Oper) : Option (Nat × Bool) → Option (Option (Nat × Bool))
 | none => some none
 | some (j, b) => match (ops[j]?).bind (·.dst) with
  | some d => some (some (d, b))
  | none => none

def ofOper (P : Prog) (nt : Nat) (ops : Array Oper) (o : Oper) : Option IOp :=
 match ofGuard ops o.guard with
 | none => none
 | some g => if (match o.dst with | some d => decide (d < nt) | none => true) then some ⟨o.dst, g, [], ofOp P o⟩ else none

def opsFrom (P : Prog) (nt : Nat) (ops : Array Oper) : List Nat → Option (List IOp)
 | [] => some []
 | i :: l => match ops[i]? with
  | none => none
  | some o => match ofOper P nt ops o, opsFrom P nt ops l with
   | some x, some r => some (x :: r)
   | _, _ => none

def mkRow (P : Prog) (nt : Nat) (ops : Array Oper) (bef : Array Nat) (i : Nat) : Option DRow := match ops[i]? with
 | none => none
 | some o => match ofOper P nt ops o with
  | some x => some ⟨i, x, opTmps x, clsIns x.ins, bef.getD i 0⟩
  | none => none

def rowsOf (P : Prog) (nt : Nat) (ops : Array Oper) (bef : Array Nat) : List Nat → Option (List DRow)
 | [] => some []
 | i :: l => match mkRow P nt ops bef i, rowsOf P nt ops bef l with
  | some x, some r => some (x :: r)
  | _, _ => none

def watchFor (y : DRow) : List DRow → List Opd
 | [] => []
 | x :: l => if x.cls == .R && !y.bef.testBit x.i then watchOf x.op.ins ++ watchFor y l else watchFor y l

def watched : List DRow → List DRow → List IOp
 | _, [] => []
 | pre, y :: l => (match y.cls with | .W => { y.op with watch := watchFor y pre } | _ => y.op) :: watched (pre ++ [y]) l

def clsAt (P : Prog) (ops : Array Oper) (i : Nat) : Cls := match ops[i]? with
 | some o => clsIns (ofOp P o)
 | none => .W

def backOk (ops : Array Oper) : Bool := ops.toList.zipIdx.all fun (o, i) => o.after.all fun e => !Region.binds .any e || decide (e.on < i)

def nodupB : List Nat → Bool
 | [] => true
 | x :: l => !l.contains x && nodupB l
def isPerm (n : Nat) (l : List Nat) : Bool := decide (l.length = n) && ((List.range n).all fun i => l.contains i) && nodupB l

/- A MAP THAT IS WRITTEN OUT AND ASKED AT ONCE: the region's last two operations ask it, and hand on what is found. -/
structure Lit where
 im : Nat
 d : Nat
 ins : List (Nat × List UInt8 × Opd)
 iv : Nat
 d2 : Nat
 d3 : Nat
 key : Opd
 z : AV
 dl : Nat

def litIns (P : Prog) (d : Nat) (o : Oper) : Option (List UInt8 × Opd) := match o with
 | ⟨none, .insert t (.tmp d') (.const (.string k)) v, _, _, _, none⟩ => match P.underlying t with
  | some (.map kt _) => match P.underlying kt, ofOpd P v with
   | some .string, some v => match Nat.beq d' d with
    | true => some (k.data.toList, v)
    | false => none
   | _, _ => none
  | _ => none
 | _ => none

def idxWith (ops : Array Oper) (d : Nat) : Option Nat := firstWith (fun i => match ops[i]? with
 | some o => isDst o.dst [d]
 | none => false) (List.range ops.size)

def litAll (P : Prog) (ops : Array Oper) (d : Nat) : List Nat → List (Nat × List UInt8 × Opd)
 | [] => []
 | i :: l => match (ops[i]?).bind (litIns P d) with
  | some (k, v) => (i, k, v) :: litAll P ops d l
  | none => litAll P ops d l

def litOf (P : Prog) (ops : Array Oper) : Option Lit :=
 match ops[ops.size - 2]?, ops[ops.size - 1]? with
 | some ⟨some d3, .lookup mt (.tmp d2) key false, _, _, _, none⟩, some ⟨some dl, .assign (.tmp e3), _, _, _, none⟩ => match P.underlying mt with
  | some (.map kt et) => match P.underlying kt, zeroAV P et, ofOpd P key, idxWith ops d2 with
   | some .string, some z, some key, some iv => match ops[iv]? with
    | some ⟨some e2, .move (.tmp d), _, _, _, none⟩ => match idxWith ops d with
     | some im => match ops[im]? with
      | some ⟨some e1, .makeMap _ none, _, _, _, none⟩ => match Nat.beq e3 d3 && (Nat.beq e2 d2 && Nat.beq e1 d) with
       | true => some ⟨im, d, litAll P ops d (List.range (ops.size - 2)), iv, d2, d3, key, z, dl⟩
       | false => none
      | _ => none
     | none => none
    | _ => none
   | _, _, _, _ => none
  | _ => none
 | _, _ => none

def insAt (i : Nat) : List (Nat × List UInt8 × Opd) → Option (List UInt8 × Opd)
 | [] => none
 | (j, k, v) :: r => match Nat.beq j i with
  | true => some (k, v)
  | false => insAt i r

def litOper (P : Prog) (nt : Nat) (ops : Array Oper) (G : Lit) (i : Nat) (o : Oper) : Option IOp :=
 match Nat.beq i G.im with
 | true => some ⟨some G.d, none, [], .move (.c .anyMap)⟩
 | false => match insAt i G.ins with
  | some (_, v) => some ⟨none, none, [], .move v⟩
  | none => ofOper P nt ops o

def litRow (P : Prog) (nt : Nat) (ops : Array Oper) (G : Lit) (bef : Array Nat) (i : Nat) : Option DRow := match ops[i]? with
 | none => none
 | some o => match litOper P nt ops G i o with
  | some x => some ⟨i, x, opTmps x, clsIns x.ins, bef.getD i 0⟩
  | none => none

def litRows (P : Prog) (nt : Nat) (ops : Array Oper) (G : Lit) (bef : Array Nat) : List Nat → Option (List DRow)
 | [] => some []
 | i :: l => match litRow P nt ops G bef i, litRows P nt ops G bef l with
  | some x, some r => some (x :: r)
  | _, _ => none

def litPicks (G : Lit) : List (Nat × List UInt8 × Opd) → List IOp
 | [] => []
 | (_, k, v) :: r => ⟨some G.d, none, [], .bin .eql G.key (.c (.str k))⟩ :: ⟨some G.d3, none, [], .pick (.t G.d) v (.t G.d3)⟩ :: litPicks G r

def litTail (G : Lit) : List IOp := ⟨some G.d3, none, [], .move (.c G.z)⟩ :: (litPicks G G.ins ++ [⟨some G.d, none, [], .move (.c .anyMap)⟩, ⟨some G.dl, none, [], .move (.t G.d3)⟩])

def isT (t : Nat) : Opd → Bool
 | .t i => Nat.beq i t
 | .c _ => false

/-- Every operation that writes a number stands before another. -/
def dstBef (ops : Array Oper) (bef : Array Nat) (i : Nat) : Opd → Bool
 | .c _ => true
 | .t t => (List.range ops.size).all fun j => match ops[j]? with
  | some o => !isDst o.dst [t] || (bef.getD i 0).testBit j
  | none => true

def onlyDst (ops : Array Oper) (i t : Nat) : Bool := (List.range ops.size).all fun j => match ops[j]? with
 | some o => !isDst o.dst [t] || j == i
 | none => true

def keysOk : List (Nat × List UInt8 × Opd) → Bool
 | [] => true
 | (i, k, _) :: r => (r.all fun (j, k', _) => !bytesEq k k' && !bytesEq k' k && !Nat.beq i j) && keysOk r

def litOk (nt : Nat) (ops : Array Oper) (G : Lit) (bef : Array Nat) : Bool :=
 decide (2 ≤ ops.size) && ((List.range (ops.size - 2)).all fun i => (bef.getD (ops.size - 2) 0).testBit i) && ((List.range (ops.size - 1)).all fun i => (bef.getD (ops.size - 1) 0).testBit i) &&
 (G.ins.all fun (i, _, v) => (bef.getD i 0).testBit G.im && !isT G.d v && !isT G.d3 v && dstBef ops bef i v) && (bef.getD G.iv 0).testBit G.im &&
 onlyDst ops G.im G.d && onlyDst ops G.iv G.d2 && !isT G.d G.key && !isT G.d3 G.key && keysOk G.ins && decide (G.d < nt) && decide (G.d3 < nt) && decide (G.dl < nt) && decide (G.im < ops.size - 2) && decide (G.iv < ops.size - 2) && !Nat.beq G.d G.d3 && !G.ins.isEmpty

def litCls (P : Prog) (ops : Array Oper) (G : Lit) (i : Nat) : Cls := match Nat.beq i G.im, insAt i G.ins with
 | false, none => clsAt P ops i
 | _, _ => .N

def litRegion (P : Prog) (nt : Nat) (ops : Array Oper) : ICode := match litOf P ops with
 | none => .bad
 | some G =>
  let bef := Region.before ops
  let ord := orderGo ops (litCls P ops G) bef ops.size (List.range (ops.size - 2)) []
  match litRows P nt ops G bef ord with
  | some rs => if isPerm (ops.size - 2) ord && (ord.all fun i => decide (i < ops.size - 2)) && rowsOk rs && backOk ops && litOk nt ops G bef then .region (watched [] rs ++ litTail G) true else .bad
  | none => .bad

def canPan : Ins → Bool
 | .call .. | .callVal .. | .invoke .. | .panic _ => true
 | _ => false
/-- Where an operation may panic: of those before it each only looks, or is ordered before it; those behind it are ordered behind it. -/
def panAll : List DRow → List DRow → Bool
 | _, [] => true
 | pre, y :: l => (!canPan y.op.ins || ((pre.all fun x => x.cls == .N || x.cls == .R || y.bef.testBit x.i) && l.all fun z => z.bef.testBit y.i)) && panAll (pre ++ [y]) l
def anyPan (rs : List DRow) : Bool := rs.any fun y => canPan y.op.ins

def ofRegion (P : Prog) (nt : Nat) (ops : Array Oper) (draw : Bool) : ICode :=
 match draw with
 | false => match opsFrom P nt ops (List.range ops.size) with
  | some l => .region l false
  | none => .bad
 | true =>
  let bef := Region.before ops
  let ord := orderGo ops (clsAt P ops) bef ops.size (List.range ops.size) []
  match rowsOf P nt ops bef ord with
  | some rs => if isPerm ops.size ord && rowsOk rs && backOk ops then (if anyPan rs && panAll [] rs then .regionP (watched [] rs) else .region (watched [] rs) true) else litRegion P nt ops
  | none => litRegion P nt ops

def labelsIn : Code → List Nat
 | .seq a b => labelsIn a ++ labelsIn b
 | .label l => [l]
 | _ => []

def sizeC : Code → Nat
 | .seq a b => sizeC a + sizeC b + 1
 | .cond _ a b => sizeC a + sizeC b + 1
 | .block _ b => sizeC b + 1
 | .loop b => sizeC b + 1
 | .scope b => sizeC b + 1
 | _ => 1

def labsOf (g : Code → ICode) (b : Code) : List Nat → List (Nat × ICode)
 | [] => []
 | l :: r => match findLabel b l with
  | some c => (l, g c) :: labsOf g b r
  | none => labsOf g b r

def ofCode (P : Prog) (nt : Nat) : Nat → Code → ICode
 | 0, _ => .bad
 | f + 1, c => match c with
  | .skip => .skip
  | .region _ ops draw => ofRegion P nt ops draw
  | .seq a b => .seq (ofCode P nt f a) (ofCode P nt f b)
  | .cond c a b => match ofOpd P c with
   | some c => .cond c (ofCode P nt f a) (ofCode P nt f b)
   | none => .bad
  | .block id b => .block id (ofCode P nt f b)
  | .loop b => .loop (ofCode P nt f b)
  | .exit id => .exit id
  | .scope b => .scope (ofCode P nt f b) (labsOf (ofCode P nt f) b (labelsIn b))
  | .label _ => .label
  | .goto l => .goto l
  | .ret => .ret
  | _ => .bad

def ofResult (P : Prog) : ResultVar → Option RVar
 | .tmp t => some (.tmp t)
 | .cell a t => match szOf P t with
  | some n => some (.cell a (aggT P t) n)
  | none => none

def ofResults (P : Prog) : List ResultVar → Option (List RVar)
 | [] => some []
 | r :: l => match ofResult P r, ofResults P l with
  | some r, some l => some (r :: l)
  | _, _ => none

def ofFunc (P : Prog) (fn : Func) : Option IFunc :=
 match fn.body, ofResults P fn.results.toList with
 | some c, some rs => some ⟨fn.ntmps, rs, ofCode P fn.ntmps 400 c⟩
 | _, _ => none

def extNames : List (String × ExtK) := [("math.archFloor", .floor), ("math.archTrunc", .trunc), ("math.archMax", .fmax), ("math.archMin", .fmin), ("math.Float64bits", .f64bits), ("math.Float64frombits", .f64frombits), ("maps.clone", .mapsClone), ("internal/abi.NoEscape", .noEscape), ("internal/bytealg.IndexByteString", .indexByte)]
end Go.V
