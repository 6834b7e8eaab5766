/- THE SMALL LANGUAGE AND ITS EVALUATOR. -/
import Derived.Test.YtoaakfgdebkkaaaGreatDoorV2
import GoSem.Dispatch
set_option linter.unusedVariables false
set_option linter.unusedSimpArgs false
set_option linter.unusedSectionVars false
/- THE SMALL LANGUAGE AND ITS EVALUATOR. -/
namespace Go.V
open Go

inductive Opd where
 | t (i : Nat)
 | c (v : AV)

/-- How two values of a type are compared. -/
inductive NK where
 | ptr | sl | map | fn | ifc

inductive PK where
 | int | bool | str

inductive EqT where
 | prim (k : PK)
 | nilable (k : NK)
 | agg (ps : List (Nat × Nat × Bool × EqT))
 | ifc (ts : List Nat)

inductive KK where
 | int (k : IntKind)
 | str
 | bool

inductive CK where
 | intInt (k : IntKind)
 | intFloat (k : FloatKind)
 | floatInt (k : IntKind)
 | strStr
 | strBytes
 | bytesStr

/-- What a builder of strings asks of memory. -/
inductive BK where
 | alloc (t : Nat) (zero : List AV)
 | app (t : Nat)
 | toU
 | ofU (t n : Nat)
 | data
 | str (t : Nat)

inductive Ins where
 | move (x : Opd)
 | pick (c a b : Opd)
 | box (x : Opd)
 | alloc (zero : List AV)
 | build (zero : List AV) (parts : List (Nat × Nat × Opd))
 | buildSlice (n esz : Nat) (zero : List AV) (parts : List (Nat × Nat × Opd))
 | load (agg : Bool) (size : Nat) (x : Opd)
 | store (size : Nat) (x v : Opd)
 | nilCheck (x : Opd)
 | bin (op : BinOp) (x y : Opd)
 | eq (neg : Bool) (e : EqT) (x y : Opd)
 | un (op : UnOp) (x : Opd)
 | conv (k : CK) (x : Opd)
 | mkIface (t : TypeId) (x : Opd)
 | mkFunc (f : FuncId) (first cap : List Opd)
 | mkMap
 | mkSlice (esz bytes : Nat) (zero : List AV) (len cap : Opd)
 | sliceStr (x : Opd) (lo hi : Option Opd)
 | sliceSl (esz : Nat) (x : Opd) (lo hi mx : Option Opd)
 | sliceArr (n esz : Nat) (x : Opd) (lo hi mx : Option Opd)
 | fieldAddr (off : Nat) (x : Opd)
 | field (off size : Nat) (agg : Bool) (x : Opd)
 | idxArr (n esz : Nat) (x i : Opd)
 | idxSl (esz : Nat) (x i : Opd)
 | idxStr (x i : Opd)
 | idxAgg (n esz : Nat) (agg : Bool) (x i : Opd)
 | lookup (k : KK) (zero : AV) (ok : Bool) (m key : Opd)
 | mapSet (k : KK) (m key v : Opd)
 | extract (x : Opd) (i : Nat)
 | call (f : FuncId) (args : List Opd)
 | callVal (x : Opd) (args : List Opd)
 | invoke (tbl : List (Nat × Nat)) (x : Opd) (args : List Opd)
 | lenStr (x : Opd)
 | lenSl (x : Opd)
 | lenArr (n : Nat)
 | lenMap (x : Opd)
 | cap (x : Opd)
 | append (esz bytes : Nat) (s x : Opd)
 | appendZ (esz bytes : Nat) (zero : List AV) (s n : Opd)
 | minmax (isMax : Bool) (args : List Opd)
 | realP (x : Opd)
 | imagP (x : Opd)
 | cplx (x y : Opd)
 | delete (k : KK) (m key : Opd)
 | panic (x : Opd)
 | assertT (t : TypeId) (zero : AV) (ok : Bool) (x : Opd)
 | clearSl (esz : Nat) (zero : List AV) (x : Opd)
 | bld (k : BK) (x y : Opd)
 | bad

structure IOp where
 dst : Option Nat
 guard : Option (Nat × Bool)
 watch : List Opd
 ins : Ins

inductive ICode where
 | skip
 | region (ops : List IOp) (draw : Bool)
 | regionP (ops : List IOp)
 | seq (a b : ICode)
 | cond (c : Opd) (a b : ICode)
 | block (id : Nat) (b : ICode)
 | loop (b : ICode)
 | exit (id : Nat)
 | scope (cur : ICode) (labels : List (Nat × ICode))
 | label
 | goto (l : Nat)
 | ret
 | bad

inductive RVar where
 | tmp (t : Nat)
 | cell (t : Nat) (agg : Bool) (size : Nat)

structure IFunc where
 ntmps : Nat
 results : List RVar
 code : ICode

abbrev Env := Tree AV

/- EVALUATION -/
def opd (e : Env) : Opd → AV
 | .t i => match e.get i with | some v => v | none => .tuple []
 | .c v => v

def forceN {α : Type} (m : Nat) (f : Nat → α) : α := match m with | 0 => f 0 | k + 1 => f (k + 1)
def forceI {α : Type} (n : Int) (f : Int → α) : α := match n with
 | .ofNat m => forceN m fun m => f (.ofNat m)
 | .negSucc m => forceN m fun m => f (.negSucc m)
@[simp] theorem forceN_eq {α : Type} (m : Nat) (f : Nat → α) : forceN m f = f m := by cases m <;> rfl
@[simp] theorem forceI_eq {α : Type} (n : Int) (f : Int → α) : forceI n f = f n := by cases n <;> simp [forceI]

def AV.cells : AV → List AV
 | .agg cs => cs
 | v => [v]
def AV.isCell : AV → Bool
 | .agg _ | .tuple _ => false
 | _ => true

/- integers -/
def wrapBy (half full : Nat) (sg : Bool) (n : Int) : Int :=
 match n with
 | .ofNat m => match Nat.blt m (match sg with | true => half | false => full) with
  | true => .ofNat m
  | false => let r := m % full
   match sg && Nat.ble half r with
   | true => Int.subNatNat r full
   | false => .ofNat r
 | .negSucc m => match sg && Nat.blt m half with
  | true => .negSucc m
  | false => let r := full - 1 - m % full
   match sg && Nat.ble half r with
   | true => Int.subNatNat r full
   | false => .ofNat r
def wrapF (k : IntKind) (n : Int) : Int := match k with
 | .i8 => wrapBy 128 256 true n
 | .i16 => wrapBy 32768 65536 true n
 | .i32 => wrapBy 2147483648 4294967296 true n
 | .i64 => wrapBy 9223372036854775808 18446744073709551616 true n
 | .u8 => wrapBy 128 256 false n
 | .u16 => wrapBy 32768 65536 false n
 | .u32 => wrapBy 2147483648 4294967296 false n
 | .u64 => wrapBy 9223372036854775808 18446744073709551616 false n

def mkInt (k : IntKind) (n : Int) : AV := forceI n fun n => .int k n

def natBits (op : BinOp) (a b : Nat) : Option Nat := match op with
 | .and => some (Nat.land a b)
 | .or => some (Nat.lor a b)
 | .xor => some (Nat.xor a b)
 | _ => none

def pureAV (s : Sem Value) : Option AV := match s with
 | .pure (.int k n) => some (mkInt k n)
 | .pure (.bool b) => some (.bool b)
 | .pure (.float k n) => some (.float k n)
 | .pure (.complex k a b) => some (.complex k a b)
 | _ => none

def binInt (op : BinOp) (k : IntKind) (a : Int) (k' : IntKind) (b : Int) : Option AV :=
 match op with
 | .shl => match b with
  | .ofNat m => some (mkInt k (wrapF k (a * Int.ofNat (Nat.pow 2 (min m k.bits)))))
  | .negSucc _ => none
 | .shr => match b with
  | .ofNat m => some (mkInt k (Int.fdiv a (Int.ofNat (Nat.pow 2 (min m k.bits)))))
  | .negSucc _ => none
 | _ => if k = k' then
  match op with
  | .add => some (mkInt k (wrapF k (Int.add a b)))
  | .sub => some (mkInt k (wrapF k (Int.sub a b)))
  | .mul => some (mkInt k (wrapF k (Int.mul a b)))
  | .quo => if b = 0 then none else some (mkInt k (wrapF k (Int.tdiv a b)))
  | .rem => if b = 0 then none else some (mkInt k (Int.tmod a b))
  | .eql => some (.bool (decide (a = b)))
  | .neq => some (.bool (!decide (a = b)))
  | .lss => some (.bool (decide (a < b)))
  | .leq => some (.bool (decide (a ≤ b)))
  | .gtr => some (.bool (decide (b < a)))
  | .geq => some (.bool (decide (b ≤ a)))
  | _ => pureAV (Op.intBits op k a b)
  else none

def bytesEq : List UInt8 → List UInt8 → Bool
 | [], [] => true
 | a :: l, b :: m => match Nat.beq a.toNat b.toNat with | true => bytesEq l m | false => false
 | _, _ => false
def bytesLt : List UInt8 → List UInt8 → Bool
 | _, [] => false
 | [], _ :: _ => true
 | a :: x, b :: y => match Nat.blt a.toNat b.toNat with
  | true => true
  | false => match Nat.beq a.toNat b.toNat with | true => bytesLt x y | false => false

def maxStr : Nat := 1099511627776

def binStr (op : BinOp) (a b : List UInt8) : Option AV :=
 match op with
 | .add => if a.length + b.length ≤ maxStr then some (.str (a ++ b)) else none
 | .eql => some (.bool (bytesEq a b))
 | .neq => some (.bool (!bytesEq a b))
 | .lss => some (.bool (bytesLt a b))
 | .leq => some (.bool (bytesLt a b || bytesEq a b))
 | .gtr => some (.bool (!(bytesLt a b || bytesEq a b)))
 | .geq => some (.bool (!bytesLt a b))
 | _ => none

def binV (op : BinOp) (x y : AV) : Option AV :=
 match x, y with
 | .int k a, .int k' b => binInt op k a k' b
 | .str a, .str b => binStr op a b
 | .float k a, .float k' b => if k = k' then
  match op with
  | .add | .sub | .mul | .quo => pureAV (Op.floatArith op k a b)
  | _ => pureAV (Op.floatCmp op k a b)
  else none
 | .complex k a b, .complex k' c d => if k = k' then pureAV (Op.complexOp op k a b c d) else none
 | _, _ => none

def unV (op : UnOp) (x : AV) : Option AV :=
 match op, x with
 | .not, .bool b => some (.bool (!b))
 | .neg, .int k n => some (mkInt k (wrapF k (Int.neg n)))
 | .neg, .float k b => some (.float k (Op.negFloat k b))
 | .neg, .complex k a b => some (.complex k (Op.negFloat k a) (Op.negFloat k b))
 | .xor, .int k n => pureAV (Op.intBits .xor k (if k.signed then -1 else k.max) n)
 | _, _ => none

def primEq : PK → AV → AV → Option Bool
 | .int, .int k a, .int k' b => if k = k' then some (decide (a = b)) else none
 | .bool, .bool a, .bool b => some (a == b)
 | .str, .str a, .str b => some (bytesEq a b)
 | _, _, _ => none

def nilEq : NK → AV → AV → Option Bool
 | .ptr, .nilPtr, .nilPtr => some true
 | .ptr, .nilPtr, .ptr _ => some false
 | .ptr, .ptr _, .nilPtr => some false
 | .ptr, .ptr a, .ptr b => if a.id = b.id ∧ a.inc = b.inc then some (decide (a.off = b.off)) else none
 | .sl, .nilSlice, .nilSlice => some true
 | .sl, .nilSlice, .slice .. => some false
 | .sl, .nilSlice, .empty => some false
 | .sl, .slice .., .nilSlice => some false
 | .sl, .empty, .nilSlice => some false
 | .map, .nilMap, .nilMap => some true
 | .map, .nilMap, .map _ => some false
 | .map, .map _, .nilMap => some false
 | .fn, .nilFunc, .nilFunc => some true
 | .fn, .nilFunc, .func .. => some false
 | .fn, .func .., .nilFunc => some false
 | .ifc, .nilIface, .nilIface => some true
 | .ifc, .nilIface, .iface .. => some false
 | .ifc, .iface .., .nilIface => some false
 | _, _, _ => none

def partAV (agg : Bool) (cs : List AV) (off size : Nat) : Option AV := match agg with
 | true => some (.agg ((cs.drop off).take size))
 | false => cs[off]?

def hasT (t : Nat) : List Nat → Bool
 | [] => false
 | u :: l => match Nat.beq u t with
  | true => true
  | false => hasT t l
/-- Two values of an interface's type, neither of them the literal nil; 'ts': types of whole numbers. -/
def ifcEq (ts : List Nat) : AV → AV → Option Bool
 | .iface t a, .iface u b => match Nat.beq t u with
  | false => some false
  | true => match hasT t ts with
   | true => primEq .int a b
   | false => none
 | .nilIface, .iface .. => some false
 | .iface .., .nilIface => some false
 | _, _ => none

mutual
def eqV : EqT → AV → AV → Option Bool
 | .prim k, x, y => primEq k x y
 | .nilable k, x, y => nilEq k x y
 | .ifc ts, x, y => ifcEq ts x y
 | .agg ps, .agg xs, .agg ys => eqParts ps xs ys
 | .agg _, _, _ => none
def eqParts : List (Nat × Nat × Bool × EqT) → List AV → List AV → Option Bool
 | [], _, _ => some true
 | (off, size, ag, t) :: ps, xs, ys =>
  match partAV ag xs off size, partAV ag ys off size with
  | some x, some y => match eqV t x y with
   | some true => eqParts ps xs ys
   | r => r
  | _, _ => none
end

def convV (k : CK) (x : AV) : Option AV := match k, x with
 | .intInt k, .int _ n => some (mkInt k (wrapF k n))
 | .intFloat k, .int _ n => pureAV (Conv.intToFloat k n)
 | .floatInt k, .float s b => pureAV (Conv.floatToInt s b k)
 | .strStr, .str s => some (.str s)
 | _, _ => none

/- memory -/
def spliceAt (cs : List AV) (off : Nat) (vs : List AV) : List AV := cs.take off ++ (vs ++ cs.drop (off + vs.length))

/-- The cells that an address may read. -/
def St.readAt (s : St) (a : AAddr) (size : Nat) : Option (List AV) :=
 match s.heap.get a.id with
 | some (.cells cs lo inc _) =>
  if lo ≤ a.inc ∧ a.inc ≤ inc ∧ a.off + size ≤ a.lim then some ((cs.drop a.off).take size) else none
 | _ => none

def loadV (s : St) (agg : Bool) (size : Nat) (x : AV) : Option AV := match x with
 | .ptr a => match s.readAt a (match agg with | true => size | false => 1) with
  | some l => match agg with
   | true => some (.agg l)
   | false => l[0]?
  | none => none
 | _ => none

def storeV (s : St) (size : Nat) (x v : AV) : Option St := match x with
 | .ptr a => match s.heap.get a.id with
  | some (.cells cs _ inc false) =>
   if a.inc = inc ∧ a.off + size ≤ a.lim ∧ v.cells.length = size ∧ v.cells.all AV.isCell then
    some (s.put a.id (.cells (spliceAt cs a.off v.cells) inc inc false))
   else none
  | _ => none
 | _ => none

def boxV (s : St) (l : List AV) : AV × St := (.ptr ⟨s.next, 0, 0, l.length⟩, s.add (.cells l 0 0 false))

def fillV (cells : List AV) : List (Nat × Nat × AV) → Option (List AV)
 | [] => some cells
 | (off, size, v) :: rest =>
  if v.cells.length = size ∧ off + size ≤ cells.length then fillV (spliceAt cells off v.cells) rest else none

def zerosV (zero : List AV) : Nat → List AV
 | 0 => []
 | n + 1 => zero ++ zerosV zero n

def sliceBd (x : Option AV) (y : Nat) (dflt : Nat) : Option Nat := match x with
 | none => some dflt
 | some (.int _ (.ofNat n)) => if n ≤ y then some n else none
 | _ => none

def sliceStrV (x : AV) (lo hi : Option AV) : Option AV := match x with
 | .str s => match sliceBd hi s.length s.length with
  | some h => match sliceBd lo h 0 with
   | some l => some (.str ((s.take h).drop l))
   | none => none
  | none => none
 | _ => none

def sliceSlV (esz : Nat) (x : AV) (lo hi mx : Option AV) : Option AV := match x with
 | .nilSlice => match sliceBd mx 0 0, sliceBd hi 0 0, sliceBd lo 0 0 with
  | some _, some _, some _ => match mx, hi with
   | some _, none => none
   | _, _ => some .nilSlice
  | _, _, _ => none
 | .empty => match mx, sliceBd hi 0 0, sliceBd lo 0 0 with
  | none, some _, some _ => some .empty
  | _, _, _ => none
 | .slice a len cap exact es =>
  if es = esz then
   match mx, hi with
   | some _, none => none
   | _, _ => match sliceBd mx cap cap with
    | none => none
    | some m => match sliceBd hi m len with
     | none => none
     | some h => match sliceBd lo h 0 with
      | none => none
      | some l =>
       if a.off + h * esz ≤ a.lim then
        let ex := exact || mx.isSome
        if l < m then some (.slice { a with off := a.off + l * esz } (h - l) (m - l) ex esz)
        else if ex then some (.slice a 0 0 true esz)
        else some .empty
       else none
  else none
 | _ => none

def sliceArrV (s : St) (n esz : Nat) (x : AV) (lo hi mx : Option AV) : Option AV := match x with
 | .ptr a => match s.readAt a (n * esz) with
  | some _ => sliceSlV esz (.slice a n n true esz) lo hi mx
  | none => none
 | _ => none

def idxV (n esz : Nat) (a : AAddr) (i : AV) : Option AV := match i with
 | .int _ (.ofNat k) => if k < n then some (.ptr { a with off := a.off + k * esz }) else none
 | _ => none

def keyEq (k : KK) (a b : AV) : Option Bool := match k, a, b with
 | .int _, .int x n, .int y m => if x = y then some (decide (n = m)) else none
 | .str, .str x, .str y => some (bytesEq x y)
 | .bool, .bool x, .bool y => some (x == y)
 | _, _, _ => none

def findV (k : KK) (key : AV) : List AEntry → Nat → Option (Option (Nat × AV))
 | [], _ => some none
 | e :: es, i => match keyEq k key e.key with
  | some true => some (some (i, e.val))
  | some false => findV k key es (i + 1)
  | none => none

def lookRes (zero : AV) (ok : Bool) (r : Option (Nat × AV)) : AV := match ok with
 | true => .tuple [match r with | some (_, v) => v | none => zero, .bool r.isSome]
 | false => match r with | some (_, v) => v | none => zero

def lookIn (k : KK) (zero : AV) (ok : Bool) (key : AV) (es : List AEntry) : Option AV := match findV k key es 0 with
 | none => none
 | some r => some (lookRes zero ok r)

def lookupV (s : St) (k : KK) (zero : AV) (ok : Bool) (m key : AV) : Option AV := match m with
 | .nilMap => lookIn k zero ok key []
 | .map r => match s.heap.get r with
  | some (.map es _) => lookIn k zero ok key es
  | _ => none
 | _ => none

def setEnt (key v : AV) : List AEntry → Nat → List AEntry
 | [], _ => []
 | e :: es, 0 => { e with key := key, val := v } :: es
 | e :: es, i + 1 => e :: setEnt key v es i

def mapSetV (s : St) (k : KK) (m key v : AV) : Option St := match m with
 | .map r => match s.heap.get r with
  | some (.map es clock) => match findV k key es 0 with
   | some (some (i, _)) => some (s.put r (.map (setEnt key v es i) clock))
   | some none => some (s.put r (.map (es ++ [⟨key, v, clock⟩]) (clock + 1)))
   | none => none
  | _ => none
 | _ => none

def deleteV (s : St) (k : KK) (m key : AV) : Option St := match m with
 | .nilMap => some s
 | .map r => match s.heap.get r with
  | some (.map es clock) => match findV k key es 0 with
   | some (some (i, _)) => some (s.put r (.map (es.eraseIdx i) clock))
   | some none => some (s.put r (.map es clock))
   | none => none
  | _ => none
 | _ => none

/-- What append takes from its second argument. -/
def moreV (s : St) (esz : Nat) : AV → Option (List AV)
 | .nilSlice | .empty => some []
 | .slice a len _ _ es => if es = esz then s.readAt a (len * esz) else none
 | .str l => if esz = 1 then some (l.map fun b => .int .u8 b.toNat) else none
 | _ => none

def maxApp : Nat := 1099511627776

/-- append of 'k' elements, whose cells are given. -/
def appendG (ty : Nat) (s : St) (esz : Nat) (x : AV) (k : Nat) (more : List AV) : Option (AV × St) :=
 if more.length = k * esz ∧ more.all AV.isCell ∧ 0 < esz then
  if k = 0 then
   match x with
   | .nilSlice => some (x, s)
   | .empty => some (x, s)
   | .slice _ len _ _ es => if es = esz ∧ len * 65536 ≤ maxApp then some (x, s) else none
   | _ => none
  else match x with
  | .nilSlice => if k * 65536 ≤ maxApp then some (.slice ⟨s.next, 0, ty * tyBase, k * esz⟩ k k false esz, s.add (.cells more (ty * tyBase) (ty * tyBase) false)) else none
  | .slice a len cap exact es =>
   if es = esz ∧ (len + k) * 65536 ≤ maxApp then
    match s.heap.get a.id with
    | some (.cells cs lo inc ro) =>
     let p := a.off + len * esz
     if len + k ≤ cap then
      -- there is room
      if a.inc = inc ∧ ro = false ∧ p + more.length ≤ a.lim then
       some (.slice a (len + k) cap exact esz, s.put a.id (.cells (spliceAt cs p more) inc inc false))
      else none
     else if exact then
      -- there is none
      match s.readAt a (len * esz) with
      | some old => some (.slice ⟨s.next, 0, 0, old.length + more.length⟩ (len + k) (len + k) false esz, s.add (.cells (old ++ more) 0 0 false))
      | none => none
     else if a.inc = inc ∧ ro = false ∧ lo ≤ inc ∧ p ≤ a.lim ∧ ((inc + 1) / tyBase = 0 ∨ ((inc + 1) / tyBase = ty ∧ inc / tyBase = ty)) then
      some (.slice ⟨a.id, a.off, inc + 1, p + more.length⟩ (len + k) (len + k) false esz,
       s.put a.id (.cells (cs.take p ++ more) (if p = cs.length then lo else inc + 1) (inc + 1) false))
     else none
    | _ => none
   else none
  | _ => none
 else none

abbrev appendV (s : St) (esz : Nat) (x : AV) (k : Nat) (more : List AV) : Option (AV × St) := appendG 0 s esz x k more

def bitsNonneg (n : AV) : Option Nat := match n with
 | .int _ (.ofNat m) => some m
 | _ => none

def minmax2 (isMax : Bool) (x y : AV) : Option AV := match x, y with
 | .int k a, .int _ b => some (.int k (match isMax with | true => (if b > a then b else a) | false => (if b < a then b else a)))
 | .float k a, .float _ b => (match isMax with
  | true => pureAV (Builtin.max2 (.float k a) (.float k b))
  | false => pureAV (Builtin.min2 (.float k a) (.float k b)))
 | _, _ => none
def minmaxV (isMax : Bool) : AV → List AV → Option AV
 | x, [] => some x
 | x, y :: l => match minmax2 isMax x y with
  | some z => minmaxV isMax z l
  | none => none

def assertV (t : TypeId) (zero : AV) (ok : Bool) (x : AV) : Option AV := match x with
 | .iface u v => if u = t then some (match ok with | true => .tuple [v, .bool true] | false => v)
  else match ok with | true => some (.tuple [zero, .bool false]) | false => none
 | .nilIface => match ok with | true => some (.tuple [zero, .bool false]) | false => none
 | _ => none

def bytesAV : List AV → Option (List UInt8)
 | [] => some []
 | v :: l => match v with
  | .int .u8 (.ofNat n) => match bytesAV l with
   | some r => some (UInt8.ofNat n :: r)
   | none => none
  | _ => none

def typed (a : AAddr) (t : Nat) : Bool := Nat.beq (a.inc / tyBase) (t + 1)
def bldV (k : BK) (x y : AV) (s : St) : Option (AV × St) := match k with
 | .alloc t z => some (.ptr ⟨s.next, 0, (t + 1) * tyBase, z.length⟩, s.add (.cells z ((t + 1) * tyBase) ((t + 1) * tyBase) false))
 | .app t => match moreV s 1 y with
  | some l => appendG (t + 1) s 1 x l.length l
  | none => none
 | .toU => match x with
  | .ptr a => match s.readAt a 1 with
   | some _ => some (.ptr a, s)
   | none => none
  | .nilPtr => some (.nilPtr, s)
  | _ => none
 | .ofU t n => match x with
  | .ptr a => if typed a t = true ∧ a.off = 0 then (match s.readAt a n with
   | some _ => some (.ptr a, s)
   | none => none) else none
  | .nilPtr => some (.nilPtr, s)
  | _ => none
 | .data => match x with
  | .slice a _ cap _ _ => if 0 < cap then some (.ptr a, s) else none
  | .nilSlice => some (.nilPtr, s)
  | _ => none
 | .str t => match x, y with
  | .nilPtr, .int _ (.ofNat 0) => some (.str [], s)
  | .ptr a, .int _ (.ofNat n) => match s.heap.get a.id with
   | some (.cells cs lo inc false) => if typed a t = true ∧ a.inc = inc ∧ lo ≤ inc ∧ 0 < n ∧ a.off = 0 ∧ n ≤ a.lim ∧ n ≤ maxApp then
    match bytesAV (cs.take n) with
    | some bs => some (.str bs, s.put a.id (.cells cs lo inc true))
    | none => none
    else none
   | _ => none
  | _, _ => none

inductive Ex where
 | normal
 | exit (id : Nat)
 | goto (l : Nat)
 | ret
 | panic (v : AV)
 | panicW (v : AV)

inductive Out where
 | fail
 | ok (x : Ex) (e : Env) (s : St)

inductive Res where
 | fail
 | val (v : AV) (s : St)
 | panic (v : AV) (s : St)

abbrev Rec := ICode → Env → St → Out

def ofOpt (s : St) : Option AV → Res
 | some v => .val v s
 | none => .fail
def ofSt : Option St → Res
 | some s => .val .undef s
 | none => .fail
def ofBoth : Option (AV × St) → Res
 | some (v, s) => .val v s
 | none => .fail

def bind (args : List AV) : Nat → Env → Env
 | i, e => match args with
  | [] => e
  | v :: l => bind l (i + 1) (e.set i v)

def resultV (e : Env) (s : St) : RVar → Option AV
 | .tmp t => some (opd e (.t t))
 | .cell t agg size => loadV s agg size (opd e (.t t))

def resultsV (e : Env) (s : St) : List RVar → Option (List AV)
 | [] => some []
 | r :: l => match resultV e s r with
  | some v => match resultsV e s l with
   | some vs => some (v :: vs)
   | none => none
  | none => none

def tupled : List AV → AV
 | [v] => v
 | l => .tuple l

inductive ExtK where
 | floor | trunc | fmax | fmin | f64bits | f64frombits | mapsClone | noEscape | indexByte
 deriving DecidableEq

inductive FnImp where
 | code (f : IFunc)
 | ext (k : ExtK)
 | hook (h : List AV → St → Option (AV × St))

abbrev Tab := Nat → Option FnImp

def indexOf (c : Nat) : List UInt8 → Nat → Int
 | [], _ => -1
 | b :: l, i => match Nat.beq b.toNat c with | true => Int.ofNat i | false => indexOf c l (i + 1)

def idxByte (c : Nat) (l : List UInt8) : Option AV := match Nat.blt c 256 with
 | true => some (mkInt .i64 (indexOf c l 0))
 | false => none

def extV (k : ExtK) (args : List AV) (s : St) : Res :=
 match k, args with
 | .floor, [.float .f64 x] => ofOpt s (pureAV (Extern.MathFloor.toIntegral "math.archFloor" .down #[.float .f64 x]))
 | .trunc, [.float .f64 x] => ofOpt s (pureAV (Extern.MathFloor.toIntegral "math.archTrunc" .zero #[.float .f64 x]))
 | .fmax, [.float .f64 x, .float .f64 y] => ofOpt s (pureAV (Extern.MathDim.pick "math.archMax" false .gt #[.float .f64 x, .float .f64 y]))
 | .fmin, [.float .f64 x, .float .f64 y] => ofOpt s (pureAV (Extern.MathDim.pick "math.archMin" true .lt #[.float .f64 x, .float .f64 y]))
 | .f64bits, [.float .f64 x] => .val (.int .u64 x) s
 | .f64frombits, [.int .u64 n] => .val (.float .f64 n.toNat) s
 | .mapsClone, [.iface t (.map r)] => match s.heap.get r with
  | some (.map es clock) => .val (.iface t (.map s.next)) (s.add (.map es clock))
  | _ => .fail
 | .noEscape, [x] => .val x s
 | .indexByte, [.str l, .int .u8 (.ofNat c)] => ofOpt s (idxByte c l)
 | _, _ => .fail

def runFn (rec : Rec) (fn : IFunc) (args : List AV) (s : St) : Res :=
 if args.length ≤ fn.ntmps then
  match rec fn.code (bind args 0 .leaf) s with
  | .ok .normal e s' => match resultsV e s' fn.results with
   | some l => .val (tupled l) s'
   | none => .fail
  | .ok .ret e s' => match resultsV e s' fn.results with
   | some l => .val (tupled l) s'
   | none => .fail
  | .ok (.panic v) _ s' => .panic v s'
  | .ok (.panicW v) _ s' => .panic v s'
  | _ => .fail
 else .fail

def callF (T : Tab) (rec : Rec) (f : FuncId) (args : List AV) (s : St) : Res :=
 match T f with
 | some (.code fn) => runFn rec fn args s
 | some (.ext k) => extV k args s
 | some (.hook h) => ofBoth (h args s)
 | none => .fail

def partsOf (e : Env) : List (Nat × Nat × Opd) → List (Nat × Nat × AV)
 | [] => []
 | (o, n, x) :: l => (o, n, opd e x) :: partsOf e l

def opds (e : Env) : List Opd → List AV
 | [] => []
 | x :: l => opd e x :: opds e l

def oopd (e : Env) : Option Opd → Option AV
 | some x => some (opd e x)
 | none => none

/-- A method of a dynamic type. -/
def methOf (t : Nat) : List (Nat × Nat) → Option Nat
 | [] => none
 | (u, f) :: r => match Nat.beq u t with
  | true => some f
  | false => methOf t r

def evalIns (T : Tab) (rec : Rec) (e : Env) (s : St) : Ins → Res
 | .move x => .val (opd e x) s
 | .pick c a b => match opd e c with
  | .bool true => .val (opd e a) s
  | .bool false => .val (opd e b) s
  | _ => .fail
 | .box x => match boxV s (opd e x).cells with | (v, s) => .val v s
 | .alloc z => match boxV s z with | (v, s) => .val v s
 | .build z ps => match fillV z (partsOf e ps) with
  | some l => .val (.agg l) s
  | none => .fail
 | .buildSlice n esz z ps => match fillV (zerosV z n) (partsOf e ps) with
  | some l => .val (.slice ⟨s.next, 0, 0, l.length⟩ n n true esz) (s.add (.cells l 0 0 false))
  | none => .fail
 | .load agg size x => ofOpt s (loadV s agg size (opd e x))
 | .store size x v => ofSt (storeV s size (opd e x) (opd e v))
 | .nilCheck x => match opd e x with
  | .ptr a => .val (.ptr a) s
  | .func f l m => .val (.func f l m) s
  | .iface t v => .val (.iface t v) s
  | _ => .fail
 | .bin op x y => ofOpt s (binV op (opd e x) (opd e y))
 | .eq neg t x y => match eqV t (opd e x) (opd e y) with
  | some b => .val (.bool (match neg with | true => !b | false => b)) s
  | none => .fail
 | .un op x => ofOpt s (unV op (opd e x))
 | .conv k x => match k, opd e x with
  | .strBytes, .str l => if l.length * 65536 ≤ maxApp then .val (.slice ⟨s.next, 0, 0, l.length⟩ l.length l.length false 1) (s.add (.cells (l.map fun b => .int .u8 b.toNat) 0 0 false)) else .fail
  | .bytesStr, .nilSlice => .val (.str []) s
  | .bytesStr, .empty => .val (.str []) s
  | .bytesStr, .slice a len _ _ 1 => match s.readAt a len with
   | some l => match bytesAV l with
    | some bs => .val (.str bs) s
    | none => .fail
   | none => .fail
  | k, x => ofOpt s (convV k x)
 | .mkIface t x => .val (.iface t (opd e x)) s
 | .mkFunc f l m => .val (.func f (opds e l) (opds e m)) s
 | .mkMap => .val (.map s.next) (s.add (.map [] 0))
 | .mkSlice esz bytes z len cap => match bitsNonneg (opd e len), bitsNonneg (opd e cap) with
  | some l, some c => if l ≤ c ∧ c * 65536 ≤ maxApp ∧ bytes ≤ 65536 ∧ 0 < esz then .val (.slice ⟨s.next, 0, 0, c * esz⟩ l c true esz) (s.add (.cells (zerosV z c) 0 0 false)) else .fail
  | _, _ => .fail
 | .sliceStr x lo hi => ofOpt s (sliceStrV (opd e x) (oopd e lo) (oopd e hi))
 | .sliceSl esz x lo hi mx => ofOpt s (sliceSlV esz (opd e x) (oopd e lo) (oopd e hi) (oopd e mx))
 | .sliceArr n esz x lo hi mx => ofOpt s (sliceArrV s n esz (opd e x) (oopd e lo) (oopd e hi) (oopd e mx))
 | .fieldAddr off x => match opd e x with
  | .ptr a => .val (.ptr { a with off := a.off + off }) s
  | _ => .fail
 | .field off size agg x => match opd e x with
  | .agg cs => ofOpt s (partAV agg cs off size)
  | _ => .fail
 | .idxArr n esz x i => match opd e x with
  | .ptr a => ofOpt s (idxV n esz a (opd e i))
  | _ => .fail
 | .idxSl esz x i => match opd e x with
  | .slice a len _ _ es => if es = esz then ofOpt s (idxV len esz a (opd e i)) else .fail
  | _ => .fail
 | .idxStr x i => match opd e x, opd e i with
  | .str l, .int _ (.ofNat k) => match l[k]? with
   | some b => .val (mkInt .u8 b.toNat) s
   | none => .fail
  | _, _ => .fail
 | .idxAgg n esz agg x i => match opd e x, opd e i with
  | .agg cs, .int _ (.ofNat k) => if k < n then ofOpt s (partAV agg cs (k * esz) esz) else .fail
  | _, _ => .fail
 | .lookup k z ok m key => ofOpt s (lookupV s k z ok (opd e m) (opd e key))
 | .mapSet k m key v => ofSt (mapSetV s k (opd e m) (opd e key) (opd e v))
 | .extract x i => match opd e x with
  | .tuple l => ofOpt s l[i]?
  | _ => .fail
 | .call f args => callF T rec f (opds e args) s
 | .callVal x args => match opd e x with
  | .func f l m => callF T rec f (l ++ opds e args ++ m) s
  | _ => .fail
 | .invoke tbl x args => match opd e x with
  | .iface t v => match methOf t tbl with
   | some f => callF T rec f (v :: opds e args) s
   | none => .fail
  | _ => .fail
 | .lenStr x => match opd e x with
  | .str l => .val (mkInt .i64 l.length) s
  | _ => .fail
 | .lenSl x => match opd e x with
  | .slice _ len _ _ _ => .val (mkInt .i64 len) s
  | .nilSlice => .val (.int .i64 0) s
  | .empty => .val (.int .i64 0) s
  | _ => .fail
 | .lenArr n => .val (.int .i64 n) s
 | .lenMap x => match opd e x with
  | .nilMap => .val (.int .i64 0) s
  | .map r => match s.heap.get r with
   | some (.map es _) => .val (mkInt .i64 es.length) s
   | _ => .fail
  | _ => .fail
 | .cap x => match opd e x with
  | .slice _ _ cap true _ => .val (mkInt .i64 cap) s
  | .nilSlice => .val (.int .i64 0) s
  | _ => .fail
 | .append esz bytes x y => match moreV s esz (opd e y) with
  | some l => if bytes ≤ 65536 then ofBoth (appendV s esz (opd e x) (l.length / esz) l) else .fail
  | none => .fail
 | .appendZ esz bytes z x n => match bitsNonneg (opd e n) with
  | some n => if bytes ≤ 65536 ∧ n * 65536 ≤ maxApp then ofBoth (appendV s esz (opd e x) n (zerosV z n)) else .fail
  | none => .fail
 | .minmax b l => match opds e l with
  | x :: r => ofOpt s (minmaxV b x r)
  | [] => .fail
 | .realP x => match opd e x with
  | .complex k a _ => .val (.float k a) s
  | _ => .fail
 | .imagP x => match opd e x with
  | .complex k _ b => .val (.float k b) s
  | _ => .fail
 | .cplx x y => match opd e x, opd e y with
  | .float k a, .float k' b => if k = k' then .val (.complex k a b) s else .fail
  | _, _ => .fail
 | .delete k m key => match deleteV s k (opd e m) (opd e key) with
  | some s => .val (.tuple []) s
  | none => .fail
 | .panic x => match opd e x with
  | .iface t v => .panic (.iface t v) s
  | _ => .fail
 | .assertT t z ok x => ofOpt s (assertV t z ok (opd e x))
 | .clearSl esz z x => match opd e x with
  | .nilSlice => .val (.tuple []) s
  | .empty => .val (.tuple []) s
  | .slice a len _ _ es => if len = 0 then .val (.tuple []) s else if es = esz then (match storeV s (len * esz) (.ptr a) (.agg (zerosV z len)) with
   | some s => .val (.tuple []) s
   | none => .fail) else .fail
  | _ => .fail
 | .bld k x y => ofBoth (bldV k (opd e x) (opd e y) s)
 | .bad => .fail

def footId : AV → Option Nat
 | .ptr a => some a.id
 | .slice a _ _ _ _ => some a.id
 | .map r => some r
 | _ => none

mutual
def AV.beq : AV → AV → Bool
 | .bool a, .bool b => a == b
 | .int k n, .int k' n' => decide (k = k') && decide (n = n')
 | .float k n, .float k' n' => decide (k = k') && decide (n = n')
 | .complex k n m, .complex k' n' m' => decide (k = k') && decide (n = n') && decide (m = m')
 | .str s, .str t => bytesEq s t
 | .ptr a, .ptr b => decide (a = b)
 | .nilPtr, .nilPtr => true
 | .slice a b c d e, .slice a' b' c' d' e' => decide (a = a') && decide (b = b') && decide (c = c') && d == d' && decide (e = e')
 | .nilSlice, .nilSlice => true
 | .empty, .empty => true
 | .map a, .map b => decide (a = b)
 | .nilMap, .nilMap => true
 | .anyMap, .anyMap => true
 | .func f l m, .func f' l' m' => decide (f = f') && AV.beqs l l' && AV.beqs m m'
 | .nilFunc, .nilFunc => true
 | .iface t v, .iface t' v' => decide (t = t') && AV.beq v v'
 | .nilIface, .nilIface => true
 | .agg l, .agg l' => AV.beqs l l'
 | .tuple l, .tuple l' => AV.beqs l l'
 | _, _ => false
def AV.beqs : List AV → List AV → Bool
 | [], [] => true
 | a :: l, b :: m => AV.beq a b && AV.beqs l m
 | _, _ => false
end

def entsBeq : List AEntry → List AEntry → Bool
 | [], [] => true
 | a :: l, b :: m => AV.beq a.key b.key && AV.beq a.val b.val && decide (a.born = b.born) && entsBeq l m
 | _, _ => false
def AObj.beq : AObj → AObj → Bool
 | .cells a b c d, .cells a' b' c' d' => AV.beqs a a' && decide (b = b') && decide (c = c') && d == d'
 | .map l c, .map l' c' => entsBeq l l' && decide (c = c')
 | _, _ => false

def sameObj (a b : Option AObj) : Bool := match a, b with
 | some x, some y => AObj.beq x y
 | _, _ => false

def watchOk (e : Env) (s s' : St) : List Opd → Bool
 | [] => true
 | x :: l => (match footId (opd e x) with
  | some id => sameObj (s.heap.get id) (s'.heap.get id)
  | none => true) && watchOk e s s' l

def wantedV (e : Env) : Option (Nat × Bool) → Bool
 | none => true
 | some (t, want) => match opd e (.t t) with
  | .bool b => b == want
  | _ => false

def putV (e : Env) (dst : Option Nat) (v : AV) : Env := match dst with
 | some d => e.set d v
 | none => e

def evalOps (T : Tab) (rec : Rec) (draw : Bool) : List IOp → Env → St → Out
 | [], e, s => .ok .normal e s
 | o :: l, e, s =>
  match wantedV e o.guard with
  | true => match evalIns T rec e s o.ins with
   | .val v s' => match watchOk e s s' o.watch with
    | true => evalOps T rec draw l (putV e o.dst v) s'
    | false => .fail
   | .panic v s' => match draw with
    | true => .fail
    | false => .ok (.panic v) e s'
   | .fail => .fail
  | false => evalOps T rec draw l (putV e o.dst .undef) s

def labelOf (l : Nat) : List (Nat × ICode) → Option ICode
 | [] => none
 | (k, c) :: r => match Nat.beq k l with | true => some c | false => labelOf l r

def evalC (T : Tab) (rec : Rec) : Rec
 | .skip, e, s => .ok .normal e s
 | .region ops draw, e, s => evalOps T rec draw ops e s
 | .regionP ops, e, s => match evalOps T rec false ops e s with
  | .ok (.panic v) e s => .ok (.panicW v) e s
  | o => o
 | .seq a b, e, s => match rec a e s with
  | .ok .normal e s => rec b e s
  | o => o
 | .cond c a b, e, s => match opd e c with
  | .bool true => rec a e s
  | .bool false => rec b e s
  | _ => .fail
 | .block id b, e, s => match rec b e s with
  | .ok (.exit k) e s => match Nat.beq k id with
   | true => .ok .normal e s
   | false => .ok (.exit k) e s
  | o => o
 | .loop b, e, s => match rec b e s with
  | .ok .normal e s => rec (.loop b) e s
  | o => o
 | .exit id, e, s => .ok (.exit id) e s
 | .scope cur ls, e, s => match rec cur e s with
  | .ok (.goto l) e s => match labelOf l ls with
   | some c => rec (.scope c ls) e s
   | none => .fail
  | o => o
 | .label, e, s => .ok .normal e s
 | .goto l, e, s => .ok (.goto l) e s
 | .ret, e, s => .ok .ret e s
 | .bad, _, _ => .fail

def evalN (T : Tab) : Nat → Rec
 | 0 => fun _ _ _ => .fail
 | n + 1 => evalC T (evalN T n)

end Go.V
