/- THE DATA OF THE EVALUATOR: abstract values, a tree of objects, the relation to the model's world. -/
import Derived.Calls
import Derived.Laws.Cells
import Derived.Laws.Sem
set_option linter.unusedVariables false
set_option linter.unusedSimpArgs false
set_option linter.unusedSectionVars false
/- THE DATA OF THE EVALUATOR: abstract values, a tree of objects, the relation to the model's world. -/
namespace Go.V
open Go

structure AAddr where
 id : Nat
 off : Nat
 inc : Nat
 lim : Nat
 deriving DecidableEq

inductive AV where
 | bool (b : Bool)
 | int (k : IntKind) (n : Int)
 | float (k : FloatKind) (bits : Nat)
 | complex (k : FloatKind) (re im : Nat)
 | str (s : List UInt8)
 | ptr (a : AAddr)
 | nilPtr
 | slice (a : AAddr) (len cap : Nat) (exact : Bool) (esz : Nat)
 | nilSlice
 | empty
 | map (r : Nat)
 | nilMap
 | anyMap
 | func (f : FuncId) (first captured : List AV)
 | nilFunc
 | iface (t : TypeId) (v : AV)
 | nilIface
 | agg (cs : List AV)
 | tuple (vs : List AV)
 deriving Inhabited

def AV.undef : AV := .tuple []

/-- What an address stands for: a block, the cell of it that is cell 'sh' of the object, how many cells of the object it holds, how many cells the block has. -/
structure Inc where
 blk : Nat
 base : Nat
 sh : Nat
 n : Nat
 top : Nat

abbrev Phi := Nat → Nat → Option Inc

mutual
inductive VRel (φ : Phi) : AV → Value → Prop
 | bool (b : Bool) : VRel φ (.bool b) (.bool b)
 | int (k : IntKind) (n : Int) : VRel φ (.int k n) (.int k n)
 | float (k : FloatKind) (n : Nat) : VRel φ (.float k n) (.float k n)
 | complex (k : FloatKind) (n m : Nat) : VRel φ (.complex k n m) (.complex k n m)
 | str (s : ByteArray) : VRel φ (.str s.data.toList) (.string s)
 | ptr {a : AAddr} {x : Inc} : φ a.id a.inc = some x → x.sh ≤ a.off → a.lim ≤ x.n → VRel φ (.ptr a) (.pointer (some ⟨x.blk, x.base + (a.off - x.sh), none⟩))
 | nilPtr : VRel φ .nilPtr (.pointer none)
 | slice {a : AAddr} {x : Inc} {len cap : Nat} {exact : Bool} {esz cap' : Nat} : φ a.id a.inc = some x → x.sh ≤ a.off → a.lim ≤ x.n → a.off + len * esz ≤ a.lim → len ≤ cap → cap ≤ cap' → (exact = true → cap' = cap) →
  x.base + (a.off - x.sh) + cap' * esz ≤ x.top → VRel φ (.slice a len cap exact esz) (.slice (some ⟨x.blk, x.base + (a.off - x.sh), none⟩) len cap')
 | nilSlice : VRel φ .nilSlice (.slice none 0 0)
 | empty (a : Addr) (cap : Nat) : VRel φ .empty (.slice (some a) 0 cap)
 | map {r : Nat} {x : Inc} : φ r 0 = some x → VRel φ (.map r) (.map (some x.blk))
 | nilMap : VRel φ .nilMap (.map none)
 | anyMap (o : Option Nat) : VRel φ .anyMap (.map o)
 | func {f : FuncId} {l m : List AV} {l' m' : List Value} : VRels φ l l' → VRels φ m m' → VRel φ (.func f l m) (.func (.func f) ⟨l'⟩ ⟨m'⟩)
 | nilFunc : VRel φ .nilFunc .nilFunc
 | iface {t : TypeId} {v : AV} {c : Value} : VRel φ v c → VRel φ (.iface t v) (.iface t c)
 | nilIface : VRel φ .nilIface .nilIface
 | agg {l : List AV} {l' : List Value} : VRels φ l l' → VRel φ (.agg l) (.agg ⟨l'⟩)
 | tuple {l : List AV} {l' : List Value} : VRels φ l l' → VRel φ (.tuple l) (.tuple ⟨l'⟩)
inductive VRels (φ : Phi) : List AV → List Value → Prop
 | nil : VRels φ [] []
 | cons {v : AV} {c : Value} {l : List AV} {l' : List Value} : VRel φ v c → VRels φ l l' → VRels φ (v :: l) (c :: l')
end

def PhiLe (φ φ' : Phi) : Prop := ∀ id k x, φ id k = some x → φ' id k = some x

theorem PhiLe.refl (φ : Phi) : PhiLe φ φ := fun _ _ _ h => h
theorem PhiLe.trans {a b c : Phi} (h : PhiLe a b) (h' : PhiLe b c) : PhiLe a c := fun _ _ _ e => h' _ _ _ (h _ _ _ e)

mutual
theorem VRel.mono {φ φ' : Phi} (h : PhiLe φ φ') : ∀ {v : AV} {c : Value}, VRel φ v c → VRel φ' v c
 | _, _, .bool b => .bool b
 | _, _, .int k n => .int k n
 | _, _, .float k n => .float k n
 | _, _, .complex k n m => .complex k n m
 | _, _, .str s => .str s
 | _, _, .ptr a b c => .ptr (h _ _ _ a) b c
 | _, _, .nilPtr => .nilPtr
 | _, _, .slice a b c d e f g i => .slice (h _ _ _ a) b c d e f g i
 | _, _, .nilSlice => .nilSlice
 | _, _, .empty a c => .empty a c
 | _, _, .map a => .map (h _ _ _ a)
 | _, _, .nilMap => .nilMap
 | _, _, .anyMap o => .anyMap o
 | _, _, .func a b => .func (VRels.mono h a) (VRels.mono h b)
 | _, _, .nilFunc => .nilFunc
 | _, _, .iface a => .iface (VRel.mono h a)
 | _, _, .nilIface => .nilIface
 | _, _, .agg a => .agg (VRels.mono h a)
 | _, _, .tuple a => .tuple (VRels.mono h a)
theorem VRels.mono {φ φ' : Phi} (h : PhiLe φ φ') : ∀ {v : List AV} {c : List Value}, VRels φ v c → VRels φ' v c
 | _, _, .nil => .nil
 | _, _, .cons a b => .cons (VRel.mono h a) (VRels.mono h b)
end

theorem VRels.length {φ : Phi} : ∀ {l : List AV} {l' : List Value}, VRels φ l l' → l.length = l'.length
 | _, _, .nil => rfl
 | _, _, .cons _ b => by simp [VRels.length b]

theorem VRels.get {φ : Phi} : ∀ {l : List AV} {l' : List Value} {i : Nat} {v : AV}, VRels φ l l' → l[i]? = some v → ∃ c, l'[i]? = some c ∧ VRel φ v c
 | _, _, 0, _, .cons a _, h => by simp at h; exact ⟨_, by simp, h ▸ a⟩
 | _, _, i + 1, v, .cons _ b, h => by simp at h ⊢; exact VRels.get b h

theorem VRels.append {φ : Phi} : ∀ {l : List AV} {l' : List Value} {m : List AV} {m' : List Value}, VRels φ l l' → VRels φ m m' → VRels φ (l ++ m) (l' ++ m')
 | _, _, _, _, .nil, h => h
 | _, _, _, _, .cons a b, h => .cons a (VRels.append b h)

theorem VRels.take {φ : Phi} : ∀ {l : List AV} {l' : List Value} (n : Nat), VRels φ l l' → VRels φ (l.take n) (l'.take n)
 | _, _, 0, _ => by simp; exact .nil
 | _, _, _ + 1, .nil => by simp; exact .nil
 | _, _, n + 1, .cons a b => by simp; exact .cons a (VRels.take n b)

theorem VRels.drop {φ : Phi} : ∀ {l : List AV} {l' : List Value} (n : Nat), VRels φ l l' → VRels φ (l.drop n) (l'.drop n)
 | _, _, 0, h => by simpa using h
 | _, _, _ + 1, .nil => by simp; exact .nil
 | _, _, n + 1, .cons _ b => by simp; exact VRels.drop n b

theorem VRels.of_get {φ : Phi} : ∀ {l : List AV} {l' : List Value}, l.length = l'.length → (∀ (i : Nat) (v : AV) (c : Value), l[i]? = some v → l'[i]? = some c → VRel φ v c) → VRels φ l l'
 | [], [], _, _ => .nil
 | [], _ :: _, h, _ => by simp at h
 | _ :: _, [], h, _ => by simp at h
 | v :: l, c :: l', h, H => .cons (H 0 v c (by simp) (by simp)) (VRels.of_get (by simpa using h) fun i v c a b => H (i + 1) v c (by simpa using a) (by simpa using b))

/- THE TREE -/
inductive Tree (α : Type) where
 | leaf
 | node (v : Option α) (l r : Tree α)

namespace Tree
variable {α : Type}
def get : Tree α → Nat → Option α
 | leaf, _ => none
 | node v l r, i => match i with
  | 0 => v
  | j + 1 => match Nat.beq (j % 2) 0 with
   | true => get l (j / 2)
   | false => get r (j / 2)
def single (a : α) : Nat → Nat → Tree α
 | 0, _ => node (some a) leaf leaf
 | f + 1, i => match i with
  | 0 => node (some a) leaf leaf
  | j + 1 => match Nat.beq (j % 2) 0 with
   | true => node none (single a f (j / 2)) leaf
   | false => node none leaf (single a f (j / 2))
def set : Tree α → Nat → α → Tree α
 | leaf, i, a => single a i i
 | node v l r, i, a => match i with
  | 0 => node (some a) l r
  | j + 1 => match Nat.beq (j % 2) 0 with
   | true => node v (set l (j / 2) a) r
   | false => node v l (set r (j / 2) a)

theorem par (i : Nat) : Nat.beq (i % 2) 0 = decide (i % 2 = 0) := by
 rw [Bool.eq_iff_iff, Nat.beq_eq]; simp
theorem get_single (a : α) : ∀ (f i j : Nat), i ≤ f → (single a f i).get j = if j = i then some a else none
 | 0, i, j, h => by
  have : i = 0 := by omega
  subst this
  cases j with
  | zero => simp [single, get]
  | succ j => simp only [single, get]; cases Nat.beq (j % 2) 0 <;> simp
 | f + 1, 0, j, _ => by
  cases j with
  | zero => simp [single, get]
  | succ j => simp only [single, get]; cases Nat.beq (j % 2) 0 <;> simp
 | f + 1, i + 1, j, h => by
  have IH := fun j => get_single a f (i / 2) j (by omega)
  simp only [single, par]
  cases j with
  | zero => by_cases hi : i % 2 = 0 <;> simp [hi, get]
  | succ j =>
   by_cases hi : i % 2 = 0 <;> by_cases hj : j % 2 = 0 <;> simp only [hi, hj, get, par, IH, decide_true, decide_false]
   · by_cases e : j / 2 = i / 2
     · have : j = i := by omega
       simp [this]
     · have : j ≠ i := by intro e'; exact e (by rw [e'])
       simp [e, this]
   · have : j ≠ i := by omega
     simp [this]
   · have : j ≠ i := by omega
     simp [this]
   · by_cases e : j / 2 = i / 2
     · have : j = i := by omega
       simp [this]
     · have : j ≠ i := by intro e'; exact e (by rw [e'])
       simp [e, this]

theorem get_set : ∀ (t : Tree α) (i j : Nat) (a : α), (t.set i a).get j = if j = i then some a else t.get j
 | leaf, i, j, a => by simp only [set, get_single a i i j (Nat.le_refl _), get]
 | node v l r, i, j, a => by
  cases i with
  | zero =>
   cases j with
   | zero => simp [set, get]
   | succ j => simp [set, get]
  | succ i =>
   have IL := fun j => get_set l (i / 2) j a
   have IR := fun j => get_set r (i / 2) j a
   simp only [set, par]
   cases j with
   | zero => by_cases hi : i % 2 = 0 <;> simp [hi, get]
   | succ j =>
    by_cases hi : i % 2 = 0 <;> by_cases hj : j % 2 = 0 <;> simp only [hi, hj, get, par, IL, IR, decide_true, decide_false]
    · by_cases e : j / 2 = i / 2
      · have : j = i := by omega
        simp [this]
      · have : j ≠ i := by intro e'; exact e (by rw [e'])
        simp [e, this]
    · have : j ≠ i := by omega
      simp [this]
    · have : j ≠ i := by omega
      simp [this]
    · by_cases e : j / 2 = i / 2
      · have : j = i := by omega
        simp [this]
      · have : j ≠ i := by intro e'; exact e (by rw [e'])
        simp [e, this]
@[simp] theorem get_leaf (i : Nat) : (leaf : Tree α).get i = none := by simp [get]
theorem get_set_same (t : Tree α) (i : Nat) (a : α) : (t.set i a).get i = some a := by simp [get_set]
theorem get_set_ne (t : Tree α) {i j : Nat} (a : α) (h : j ≠ i) : (t.set i a).get j = t.get j := by simp [get_set, h]
end Tree
end Go.V
