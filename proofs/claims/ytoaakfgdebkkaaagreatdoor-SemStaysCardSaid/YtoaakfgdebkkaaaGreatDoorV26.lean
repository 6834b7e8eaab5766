/- THE EVALUATOR AGAIN, FOR THE KERNEL: the same, with a part for each instruction. -/
import Derived.Test.YtoaakfgdebkkaaaGreatDoorV25
set_option linter.unusedVariables false
set_option linter.unusedSimpArgs false
set_option linter.unusedSectionVars false
/- THE EVALUATOR AGAIN, FOR THE KERNEL: the same, with a part for each instruction. -/
namespace Go.V
open Go Go.RowKit
set_option linter.unusedVariables false
noncomputable section

/- the tree -/
def getF {α : Type} (t : Tree α) : Nat → Option α :=
 @Tree.rec α (fun _ => Nat → Option α) (fun _ => none) (fun v _ _ gl gr i => @Nat.rec (fun _ => Option α) v (fun j _ => @Bool.rec (fun _ => Option α) (gr (Nat.div j (nat_lit 2))) (gl (Nat.div j (nat_lit 2))) (Nat.beq (Nat.mod j (nat_lit 2)) (nat_lit 0))) i) t
def setF {α : Type} (t : Tree α) : Nat → α → Tree α :=
 @Tree.rec α (fun _ => Nat → α → Tree α) (fun i a => Tree.single a i i) (fun v l r sl sr i a => @Nat.rec (fun _ => Tree α) (.node (some a) l r) (fun j _ => @Bool.rec (fun _ => Tree α) (.node v l (sr (Nat.div j (nat_lit 2)) a)) (.node v (sl (Nat.div j (nat_lit 2)) a) r) (Nat.beq (Nat.mod j (nat_lit 2)) (nat_lit 0))) i) t

theorem getF_eq {α : Type} : ∀ (t : Tree α) (i : Nat), getF t i = t.get i
 | .leaf, _ => rfl
 | .node v l r, 0 => rfl
 | .node v l r, j + 1 => by
  have e : getF (.node v l r) (j + 1) = @Bool.rec (fun _ => Option α) (getF r (Nat.div j 2)) (getF l (Nat.div j 2)) (Nat.beq (Nat.mod j 2) 0) := rfl
  rw [e, getF_eq r, getF_eq l]
  show _ = Tree.get (.node v l r) (j + 1)
  simp only [Tree.get]
  show _ = match Nat.beq (Nat.mod j 2) 0 with | true => l.get (Nat.div j 2) | false => r.get (Nat.div j 2)
  cases Nat.beq (Nat.mod j 2) 0 <;> rfl
theorem setF_eq {α : Type} : ∀ (t : Tree α) (i : Nat) (a : α), setF t i a = t.set i a
 | .leaf, _, _ => rfl
 | .node v l r, 0, _ => rfl
 | .node v l r, j + 1, a => by
  have e : setF (.node v l r) (j + 1) a = @Bool.rec (fun _ => Tree α) (.node v l (setF r (Nat.div j 2) a)) (.node v (setF l (Nat.div j 2) a) r) (Nat.beq (Nat.mod j 2) 0) := rfl
  rw [e, setF_eq r, setF_eq l]
  show _ = Tree.set (.node v l r) (j + 1) a
  simp only [Tree.set]
  show _ = match Nat.beq (Nat.mod j 2) 0 with | true => Tree.node v (l.set (Nat.div j 2) a) r | false => Tree.node v l (r.set (Nat.div j 2) a)
  cases Nat.beq (Nat.mod j 2) 0 <;> rfl

def opdF (e : Env) (x : Opd) : AV := @Opd.rec (fun _ => AV) (fun i => @Option.rec AV (fun _ => AV) (.tuple []) (fun v => v) (getF e i)) (fun v => v) x
theorem opdF_eq (e : Env) (x : Opd) : opdF e x = opd e x := by
 cases x with
 | t i =>
  show @Option.rec AV (fun _ => AV) (.tuple []) (fun v => v) (getF e i) = _
  rw [getF_eq]
  simp only [opd]
  cases e.get i <;> rfl
 | c v => rfl
def putVF (e : Env) (dst : Option Nat) (v : AV) : Env := @Option.rec Nat (fun _ => Env) e (fun d => setF e d v) dst
theorem putVF_eq (e : Env) (dst : Option Nat) (v : AV) : putVF e dst v = putV e dst v := by
 cases dst with
 | none => rfl
 | some d => exact setF_eq e d v
/- lists -/
def tailF (l : List AV) : List AV := @List.rec AV (fun _ => List AV) [] (fun _ t _ => t) l
def overF (vs : List AV) : List AV → List AV := @List.rec AV (fun _ => List AV → List AV) (fun cs => cs) (fun v _ ih cs => v :: ih (tailF cs)) vs
def spliceF (cs : List AV) (vs : List AV) : Nat → List AV :=
 @List.rec AV (fun _ => Nat → List AV) (fun _ => vs) (fun c t ih off => @Nat.rec (fun _ => List AV) (overF vs (c :: t)) (fun o _ => c :: ih o) off) cs
theorem overF_eq : ∀ (vs cs : List AV), overF vs cs = vs ++ cs.drop vs.length
 | [], cs => rfl
 | v :: vs, cs => by
  show v :: overF vs (tailF cs) = _
  rw [overF_eq vs]
  cases cs with
  | nil => simp [tailF]
  | cons c cs => simp [tailF]
theorem spliceF_eq : ∀ (cs vs : List AV) (off : Nat), spliceF cs vs off = spliceAt cs off vs
 | [], vs, off => by simp [spliceF, spliceAt]
 | c :: cs, vs, 0 => by
  show overF vs (c :: cs) = _
  rw [overF_eq]; simp [spliceAt]
 | c :: cs, vs, o + 1 => by
  show c :: spliceF cs vs o = _
  rw [spliceF_eq cs vs o]
  have : o + 1 + vs.length = (o + vs.length) + 1 := by omega
  simp [spliceAt, this]
def dropF (cs : List AV) : Nat → List AV :=
 @List.rec AV (fun _ => Nat → List AV) (fun _ => []) (fun c t ih n => @Nat.rec (fun _ => List AV) (c :: t) (fun o _ => ih o) n) cs
def takeF (cs : List AV) : Nat → List AV :=
 @List.rec AV (fun _ => Nat → List AV) (fun _ => []) (fun c _ ih n => @Nat.rec (fun _ => List AV) [] (fun o _ => c :: ih o) n) cs
theorem dropF_eq : ∀ (cs : List AV) (n : Nat), dropF cs n = cs.drop n
 | [], n => by simp [dropF]
 | c :: cs, 0 => rfl
 | c :: cs, n + 1 => by
  show dropF cs n = _
  rw [dropF_eq cs n]; rfl
theorem takeF_eq : ∀ (cs : List AV) (n : Nat), takeF cs n = cs.take n
 | [], n => by simp [takeF]
 | c :: cs, 0 => rfl
 | c :: cs, n + 1 => by
  show c :: takeF cs n = _
  rw [takeF_eq cs n]; rfl
def headF (l : List AV) : Option AV := @List.rec AV (fun _ => Option AV) none (fun v _ _ => some v) l
theorem headF_eq (l : List AV) : headF l = l[0]? := by cases l <;> rfl

def fillF (n : Nat) (cells : List AV) (ps : List (Nat × Nat × AV)) : Option (List AV) := match ps with
 | [] => some cells
 | (off, size, v) :: rest => match Nat.beq v.cells.length size && Nat.ble (Nat.add off size) n with
  | true => fillF n (spliceF cells v.cells off) rest
  | false => none
theorem length_splice {cs vs : List AV} {off : Nat} (h : off + vs.length ≤ cs.length) : (spliceAt cs off vs).length = cs.length := by
 simp [spliceAt]; omega
theorem fillF_eq : ∀ (ps : List (Nat × Nat × AV)) (cells : List AV), fillF cells.length cells ps = fillV cells ps
 | [], cells => rfl
 | (off, size, v) :: rest, cells => by
  simp only [fillF, fillV]
  by_cases h : v.cells.length = size ∧ off + size ≤ cells.length
  · have h1 : (Nat.beq v.cells.length size && Nat.ble (Nat.add off size) cells.length) = true := by
     rw [Bool.and_eq_true]
     exact ⟨by rw [Nat.beq_eq]; exact h.1, Nat.ble_eq_true_of_le h.2⟩
    rw [h1, if_pos h, spliceF_eq]
    have := length_splice (cs := cells) (vs := v.cells) (off := off) (by omega)
    rw [← fillF_eq rest, this]
  · have h1 : (Nat.beq v.cells.length size && Nat.ble (Nat.add off size) cells.length) = false := by
     cases hb : (Nat.beq v.cells.length size && Nat.ble (Nat.add off size) cells.length) with
     | false => rfl
     | true =>
      rw [Bool.and_eq_true] at hb
      exact absurd ⟨Nat.eq_of_beq_eq_true hb.1, Nat.le_of_ble_eq_true hb.2⟩ h
    rw [h1, if_neg h]

def readF (s : St) (a : AAddr) (size : Nat) : Option (List AV) := match getF s.heap a.id with
 | some (.cells cs lo inc _) => match Nat.ble lo a.inc && Nat.ble a.inc inc && Nat.ble (Nat.add a.off size) a.lim with
  | true => some (takeF (dropF cs a.off) size)
  | false => none
 | _ => none
theorem and3 {a b c d e f : Nat} : (Nat.ble a b && Nat.ble c d && Nat.ble e f) = decide (a ≤ b ∧ c ≤ d ∧ e ≤ f) := by
 rw [Bool.eq_iff_iff]
 simp [and_assoc]
theorem readF_eq (s : St) (a : AAddr) (size : Nat) : readF s a size = s.readAt a size := by
 unfold readF St.readAt
 rw [getF_eq]
 cases hh : s.heap.get a.id with
 | none => rfl
 | some o =>
  cases o with
  | map es c => rfl
  | cells cs lo inc ro =>
   simp only []
   rw [and3, dropF_eq, takeF_eq]
   by_cases hc : lo ≤ a.inc ∧ a.inc ≤ inc ∧ a.off + size ≤ a.lim
   · rw [if_pos hc]
     have : decide (lo ≤ a.inc ∧ a.inc ≤ inc ∧ Nat.add a.off size ≤ a.lim) = true := decide_eq_true hc
     rw [this]
   · rw [if_neg hc]
     have : decide (lo ≤ a.inc ∧ a.inc ≤ inc ∧ Nat.add a.off size ≤ a.lim) = false := decide_eq_false hc
     rw [this]

def loadF (s : St) (agg : Bool) (size : Nat) (x : AV) : Option AV := match x with
 | .ptr a => match agg with
  | true => match readF s a size with
   | some l => some (.agg l)
   | none => none
  | false => match readF s a (nat_lit 1) with
   | some l => headF l
   | none => none
 | _ => none
theorem loadF_eq (s : St) (agg : Bool) (size : Nat) (x : AV) : loadF s agg size x = loadV s agg size x := by
 unfold loadF loadV
 cases x <;> try rfl
 cases agg <;> simp only [readF_eq]
 · show (match s.readAt _ 1 with | some l => headF l | none => none) = _
   cases s.readAt _ 1 <;> simp [headF_eq]
 · cases s.readAt _ size <;> rfl

def f_move (x : Opd) (T : Tab) (rec : Rec) (e : Env) (s : St) : Res := .val (opdF e x) s
def f_pick (c : Opd) (a : Opd) (b : Opd) (T : Tab) (rec : Rec) (e : Env) (s : St) : Res := match opdF e c with
 | .bool true => .val (opdF e a) s
 | .bool false => .val (opdF e b) s
 | _ => .fail
def f_box (x : Opd) (T : Tab) (rec : Rec) (e : Env) (s : St) : Res := match boxV s (opdF e x).cells with | (v, s) => .val v s
def f_alloc (z : List AV) (T : Tab) (rec : Rec) (e : Env) (s : St) : Res := match boxV s z with | (v, s) => .val v s
def f_build (z : List AV) (ps : List (Nat × Nat × Opd)) (T : Tab) (rec : Rec) (e : Env) (s : St) : Res := match fillF z.length z (partsOf e ps) with
 | some l => .val (.agg l) s
 | none => .fail
def f_buildSlice (n : Nat) (esz : Nat) (z : List AV) (ps : List (Nat × Nat × Opd)) (T : Tab) (rec : Rec) (e : Env) (s : St) : Res := match fillF (zerosV z n).length (zerosV z n) (partsOf e ps) with
 | some l => .val (.slice ⟨s.next, 0, 0, l.length⟩ n n true esz) (s.add (.cells l 0 0 false))
 | none => .fail
def f_load (agg : Bool) (size : Nat) (x : Opd) (T : Tab) (rec : Rec) (e : Env) (s : St) : Res := ofOpt s (loadF s agg size (opdF e x))
def f_store (size : Nat) (x : Opd) (v : Opd) (T : Tab) (rec : Rec) (e : Env) (s : St) : Res := ofSt (storeV s size (opdF e x) (opdF e v))
def f_nilCheck (x : Opd) (T : Tab) (rec : Rec) (e : Env) (s : St) : Res := match opdF e x with
 | .ptr a => .val (.ptr a) s
 | .func f l m => .val (.func f l m) s
 | .iface t v => .val (.iface t v) s
 | _ => .fail
def f_bin (op : BinOp) (x : Opd) (y : Opd) (T : Tab) (rec : Rec) (e : Env) (s : St) : Res := ofOpt s (binV op (opdF e x) (opdF e y))
def f_eq (neg : Bool) (t : EqT) (x : Opd) (y : Opd) (T : Tab) (rec : Rec) (e : Env) (s : St) : Res := match eqV t (opdF e x) (opdF e y) with
 | some b => .val (.bool (match neg with | true => !b | false => b)) s
 | none => .fail
def f_un (op : UnOp) (x : Opd) (T : Tab) (rec : Rec) (e : Env) (s : St) : Res := ofOpt s (unV op (opdF e x))
def f_conv (k : CK) (x : Opd) (T : Tab) (rec : Rec) (e : Env) (s : St) : Res := match k, opdF e x with
 | .strBytes, .str l => if l.length * 65536 ≤ maxApp then .val (.slice ⟨s.next, 0, 0, l.length⟩ l.length l.length false 1) (s.add (.cells (l.map fun b => .int .u8 b.toNat) 0 0 false)) else .fail
 | .bytesStr, .nilSlice => .val (.str []) s
 | .bytesStr, .empty => .val (.str []) s
 | .bytesStr, .slice a len _ _ 1 => match s.readAt a len with
  | some l => match bytesAV l with
   | some bs => .val (.str bs) s
   | none => .fail
  | none => .fail
 | k, x => ofOpt s (convV k x)
def f_mkIface (t : TypeId) (x : Opd) (T : Tab) (rec : Rec) (e : Env) (s : St) : Res := .val (.iface t (opdF e x)) s
def f_mkFunc (f : FuncId) (l : List Opd) (m : List Opd) (T : Tab) (rec : Rec) (e : Env) (s : St) : Res := .val (.func f (opds e l) (opds e m)) s
def f_mkMap (T : Tab) (rec : Rec) (e : Env) (s : St) : Res := .val (.map s.next) (s.add (.map [] 0))
def f_mkSlice (esz : Nat) (bytes : Nat) (z : List AV) (len : Opd) (cap : Opd) (T : Tab) (rec : Rec) (e : Env) (s : St) : Res := match bitsNonneg (opdF e len), bitsNonneg (opdF e cap) with
 | some l, some c => if l ≤ c ∧ c * 65536 ≤ maxApp ∧ bytes ≤ 65536 ∧ 0 < esz then .val (.slice ⟨s.next, 0, 0, c * esz⟩ l c true esz) (s.add (.cells (zerosV z c) 0 0 false)) else .fail
 | _, _ => .fail
def f_sliceStr (x : Opd) (lo : Option Opd) (hi : Option Opd) (T : Tab) (rec : Rec) (e : Env) (s : St) : Res := ofOpt s (sliceStrV (opdF e x) (oopd e lo) (oopd e hi))
def f_sliceSl (esz : Nat) (x : Opd) (lo : Option Opd) (hi : Option Opd) (mx : Option Opd) (T : Tab) (rec : Rec) (e : Env) (s : St) : Res := ofOpt s (sliceSlV esz (opdF e x) (oopd e lo) (oopd e hi) (oopd e mx))
def f_sliceArr (n : Nat) (esz : Nat) (x : Opd) (lo : Option Opd) (hi : Option Opd) (mx : Option Opd) (T : Tab) (rec : Rec) (e : Env) (s : St) : Res := ofOpt s (sliceArrV s n esz (opdF e x) (oopd e lo) (oopd e hi) (oopd e mx))
def f_fieldAddr (off : Nat) (x : Opd) (T : Tab) (rec : Rec) (e : Env) (s : St) : Res := match opdF e x with
 | .ptr a => .val (.ptr { a with off := a.off + off }) s
 | _ => .fail
def f_field (off : Nat) (size : Nat) (agg : Bool) (x : Opd) (T : Tab) (rec : Rec) (e : Env) (s : St) : Res := match opdF e x with
 | .agg cs => ofOpt s (partAV agg cs off size)
 | _ => .fail
def f_idxArr (n : Nat) (esz : Nat) (x : Opd) (i : Opd) (T : Tab) (rec : Rec) (e : Env) (s : St) : Res := match opdF e x with
 | .ptr a => ofOpt s (idxV n esz a (opdF e i))
 | _ => .fail
def f_idxSl (esz : Nat) (x : Opd) (i : Opd) (T : Tab) (rec : Rec) (e : Env) (s : St) : Res := match opdF e x with
 | .slice a len _ _ es => if es = esz then ofOpt s (idxV len esz a (opdF e i)) else .fail
 | _ => .fail
def f_idxStr (x : Opd) (i : Opd) (T : Tab) (rec : Rec) (e : Env) (s : St) : Res := match opdF e x, opdF e i with
 | .str l, .int _ (.ofNat k) => match l[k]? with
  | some b => .val (mkInt .u8 b.toNat) s
  | none => .fail
 | _, _ => .fail
def f_idxAgg (n : Nat) (esz : Nat) (agg : Bool) (x : Opd) (i : Opd) (T : Tab) (rec : Rec) (e : Env) (s : St) : Res := match opdF e x, opdF e i with
 | .agg cs, .int _ (.ofNat k) => if k < n then ofOpt s (partAV agg cs (k * esz) esz) else .fail
 | _, _ => .fail
def f_lookup (k : KK) (z : AV) (ok : Bool) (m : Opd) (key : Opd) (T : Tab) (rec : Rec) (e : Env) (s : St) : Res := ofOpt s (lookupV s k z ok (opdF e m) (opdF e key))
def f_mapSet (k : KK) (m : Opd) (key : Opd) (v : Opd) (T : Tab) (rec : Rec) (e : Env) (s : St) : Res := ofSt (mapSetV s k (opdF e m) (opdF e key) (opdF e v))
def f_extract (x : Opd) (i : Nat) (T : Tab) (rec : Rec) (e : Env) (s : St) : Res := match opdF e x with
 | .tuple l => ofOpt s l[i]?
 | _ => .fail
def f_call (f : FuncId) (args : List Opd) (T : Tab) (rec : Rec) (e : Env) (s : St) : Res := callF T rec f (opds e args) s
def f_callVal (x : Opd) (args : List Opd) (T : Tab) (rec : Rec) (e : Env) (s : St) : Res := match opdF e x with
 | .func f l m => callF T rec f (l ++ opds e args ++ m) s
 | _ => .fail
def f_invoke (tbl : List (Nat × Nat)) (x : Opd) (args : List Opd) (T : Tab) (rec : Rec) (e : Env) (s : St) : Res := match opdF e x with
 | .iface t v => match methOf t tbl with
  | some f => callF T rec f (v :: opds e args) s
  | none => .fail
 | _ => .fail
def f_lenStr (x : Opd) (T : Tab) (rec : Rec) (e : Env) (s : St) : Res := match opdF e x with
 | .str l => .val (mkInt .i64 l.length) s
 | _ => .fail
def f_lenSl (x : Opd) (T : Tab) (rec : Rec) (e : Env) (s : St) : Res := match opdF e x with
 | .slice _ len _ _ _ => .val (mkInt .i64 len) s
 | .nilSlice => .val (.int .i64 0) s
 | .empty => .val (.int .i64 0) s
 | _ => .fail
def f_lenArr (n : Nat) (T : Tab) (rec : Rec) (e : Env) (s : St) : Res := .val (.int .i64 n) s
def f_lenMap (x : Opd) (T : Tab) (rec : Rec) (e : Env) (s : St) : Res := match opdF e x with
 | .nilMap => .val (.int .i64 0) s
 | .map r => match s.heap.get r with
  | some (.map es _) => .val (mkInt .i64 es.length) s
  | _ => .fail
 | _ => .fail
def f_cap (x : Opd) (T : Tab) (rec : Rec) (e : Env) (s : St) : Res := match opdF e x with
 | .slice _ _ cap true _ => .val (mkInt .i64 cap) s
 | .nilSlice => .val (.int .i64 0) s
 | _ => .fail
def f_append (esz : Nat) (bytes : Nat) (x : Opd) (y : Opd) (T : Tab) (rec : Rec) (e : Env) (s : St) : Res := match moreV s esz (opdF e y) with
 | some l => if bytes ≤ 65536 then ofBoth (appendV s esz (opdF e x) (l.length / esz) l) else .fail
 | none => .fail
def f_appendZ (esz : Nat) (bytes : Nat) (z : List AV) (x : Opd) (n : Opd) (T : Tab) (rec : Rec) (e : Env) (s : St) : Res := match bitsNonneg (opdF e n) with
 | some n => if bytes ≤ 65536 ∧ n * 65536 ≤ maxApp then ofBoth (appendV s esz (opdF e x) n (zerosV z n)) else .fail
 | none => .fail
def f_minmax (b : Bool) (l : List Opd) (T : Tab) (rec : Rec) (e : Env) (s : St) : Res := match opds e l with
 | x :: r => ofOpt s (minmaxV b x r)
 | [] => .fail
def f_realP (x : Opd) (T : Tab) (rec : Rec) (e : Env) (s : St) : Res := match opdF e x with
 | .complex k a _ => .val (.float k a) s
 | _ => .fail
def f_imagP (x : Opd) (T : Tab) (rec : Rec) (e : Env) (s : St) : Res := match opdF e x with
 | .complex k _ b => .val (.float k b) s
 | _ => .fail
def f_cplx (x : Opd) (y : Opd) (T : Tab) (rec : Rec) (e : Env) (s : St) : Res := match opdF e x, opdF e y with
 | .float k a, .float k' b => if k = k' then .val (.complex k a b) s else .fail
 | _, _ => .fail
def f_delete (k : KK) (m : Opd) (key : Opd) (T : Tab) (rec : Rec) (e : Env) (s : St) : Res := match deleteV s k (opdF e m) (opdF e key) with
 | some s => .val (.tuple []) s
 | none => .fail
def f_panic (x : Opd) (T : Tab) (rec : Rec) (e : Env) (s : St) : Res := match opdF e x with
 | .iface t v => .panic (.iface t v) s
 | _ => .fail
def f_assertT (t : TypeId) (z : AV) (ok : Bool) (x : Opd) (T : Tab) (rec : Rec) (e : Env) (s : St) : Res := ofOpt s (assertV t z ok (opdF e x))
def f_clearSl (esz : Nat) (z : List AV) (x : Opd) (T : Tab) (rec : Rec) (e : Env) (s : St) : Res := match opdF e x with
 | .nilSlice => .val (.tuple []) s
 | .empty => .val (.tuple []) s
 | .slice a len _ _ es => if len = 0 then .val (.tuple []) s else if es = esz then (match storeV s (len * esz) (.ptr a) (.agg (zerosV z len)) with
  | some s => .val (.tuple []) s
  | none => .fail) else .fail
 | _ => .fail
def f_bld (k : BK) (x y : Opd) (T : Tab) (rec : Rec) (e : Env) (s : St) : Res := ofBoth (bldV k (opdF e x) (opdF e y) s)
def f_bad (T : Tab) (rec : Rec) (e : Env) (s : St) : Res := .fail

def insF (i : Ins) : Tab → Rec → Env → St → Res :=
 @Ins.rec (fun _ => Tab → Rec → Env → St → Res) f_move f_pick f_box f_alloc f_build f_buildSlice f_load f_store f_nilCheck f_bin f_eq f_un f_conv f_mkIface f_mkFunc f_mkMap f_mkSlice f_sliceStr f_sliceSl f_sliceArr f_fieldAddr f_field f_idxArr f_idxSl f_idxStr f_idxAgg f_lookup f_mapSet f_extract f_call f_callVal f_invoke f_lenStr f_lenSl f_lenArr f_lenMap f_cap f_append f_appendZ f_minmax f_realP f_imagP f_cplx f_delete f_panic f_assertT f_clearSl f_bld f_bad i

theorem insF_eq (i : Ins) (T : Tab) (rec : Rec) (e : Env) (s : St) : insF i T rec e s = evalIns T rec e s i := by
 cases i <;> first | rfl | (simp only [evalIns, ← opdF_eq, ← fillF_eq, ← loadF_eq]; rfl)

def stepF (T : Tab) (rec : Rec) (draw : Bool) (o : IOp) (next : Env → St → Out) (e : Env) (s : St) : Out :=
 match wantedV e o.guard with
 | true => match insF o.ins T rec e s with
  | .val v s' => match watchOk e s s' o.watch with
   | true => next (putVF e o.dst v) s'
   | false => .fail
  | .panic v s' => match draw with
   | true => .fail
   | false => .ok (.panic v) e s'
  | .fail => .fail
 | false => next (putVF e o.dst .undef) s

def opsF (T : Tab) (rec : Rec) (draw : Bool) (l : List IOp) : Env → St → Out :=
 @List.rec IOp (fun _ => Env → St → Out) (fun e s => .ok .normal e s) (fun o _ ih => stepF T rec draw o ih) l

theorem opsF_eq (T : Tab) (rec : Rec) (draw : Bool) : ∀ (l : List IOp) (e : Env) (s : St), opsF T rec draw l e s = evalOps T rec draw l e s
 | [], _, _ => rfl
 | o :: l, e, s => by
  show stepF T rec draw o (opsF T rec draw l) e s = _
  have h : opsF T rec draw l = evalOps T rec draw l := by
   funext e s
   exact opsF_eq T rec draw l e s
  rw [h]
  simp only [stepF, insF_eq, putVF_eq]
  rfl

def c_skip (_ : Tab) (_ : Rec) (e : Env) (s : St) : Out := .ok .normal e s
def c_region (ops : List IOp) (draw : Bool) (T : Tab) (rec : Rec) (e : Env) (s : St) : Out := opsF T rec draw ops e s
def c_regionP (ops : List IOp) (T : Tab) (rec : Rec) (e : Env) (s : St) : Out := match opsF T rec false ops e s with
 | .ok (.panic v) e s => .ok (.panicW v) e s
 | o => o
def c_seq (a b : ICode) (_ : Tab) (rec : Rec) (e : Env) (s : St) : Out := match rec a e s with
 | .ok .normal e s => rec b e s
 | o => o
def c_cond (c : Opd) (a b : ICode) (_ : Tab) (rec : Rec) (e : Env) (s : St) : Out := match opd e c with
 | .bool true => rec a e s
 | .bool false => rec b e s
 | _ => .fail
def c_block (id : Nat) (b : ICode) (_ : Tab) (rec : Rec) (e : Env) (s : St) : Out := match rec b e s with
 | .ok (.exit k) e s => match Nat.beq k id with
  | true => .ok .normal e s
  | false => .ok (.exit k) e s
 | o => o
def c_loop (b : ICode) (_ : Tab) (rec : Rec) (e : Env) (s : St) : Out := match rec b e s with
 | .ok .normal e s => rec (.loop b) e s
 | o => o
def c_exit (id : Nat) (_ : Tab) (_ : Rec) (e : Env) (s : St) : Out := .ok (.exit id) e s
def c_scope (cur : ICode) (ls : List (Nat × ICode)) (_ : Tab) (rec : Rec) (e : Env) (s : St) : Out := match rec cur e s with
 | .ok (.goto l) e s => match labelOf l ls with
  | some c => rec (.scope c ls) e s
  | none => .fail
 | o => o
def c_goto (l : Nat) (_ : Tab) (_ : Rec) (e : Env) (s : St) : Out := .ok (.goto l) e s
def c_ret (_ : Tab) (_ : Rec) (e : Env) (s : St) : Out := .ok .ret e s
def c_bad (_ : Tab) (_ : Rec) (_ : Env) (_ : St) : Out := .fail

def codeF (c : ICode) : Tab → Rec → Env → St → Out :=
 @ICode.rec (fun _ => Tab → Rec → Env → St → Out) (fun _ => Unit) (fun _ => Unit) c_skip c_region c_regionP (fun a b _ _ => c_seq a b) (fun c a b _ _ => c_cond c a b) (fun id b _ => c_block id b) (fun b _ => c_loop b) c_exit (fun cur ls _ _ => c_scope cur ls) c_skip c_goto c_ret c_bad
  () (fun _ _ _ _ => ()) (fun _ _ _ => ()) c

theorem codeF_eq (c : ICode) (T : Tab) (rec : Rec) (e : Env) (s : St) : codeF c T rec e s = evalC T rec c e s := by
 cases c with
 | region ops draw => show opsF T rec draw ops e s = _; rw [opsF_eq]; rfl
 | regionP ops => show c_regionP ops T rec e s = _; unfold c_regionP; rw [opsF_eq]; rfl
 | _ => rfl

def evalF (T : Tab) (n : Nat) : Rec := @Nat.rec (fun _ => Rec) (fun _ _ _ => .fail) (fun _ ih c e s => codeF c T ih e s) n

theorem evalF_eq (T : Tab) : ∀ n, evalF T n = evalN T n
 | 0 => rfl
 | n + 1 => by
  funext c e s
  show codeF c T (evalF T n) e s = _
  rw [codeF_eq, evalF_eq T n]
  rfl
end
end Go.V
