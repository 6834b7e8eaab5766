/- A function that defers a closure which recovers: as a hook. -/
import Derived.Test.YtoaakfgdebkkaaaGreatDoorV54
import Derived.Recover
set_option linter.unusedVariables false
set_option linter.unusedSimpArgs false
set_option linter.unusedSectionVars false
/- A function that defers a closure which recovers: as a hook. -/
/- A function that defers a closure which recovers: as a hook. -/
namespace Go.V
open Go

/-- A function whose code is: something; a closure made and deferred; the rest. The closure's code: recover; something. -/
structure DFn where
 nt : Nat
 pre : ICode
 cd : Nat
 caps : List Opd
 rest : ICode
 results : List RVar
 g : Nat
 gnt : Nat
 gd : Nat
 ginit : List IOp
 grest : ICode

def exitVal : Ex → Option AV
 | .normal => some .nilIface
 | .ret => some .nilIface
 | .panic v => some v
 | _ => none

def deferH (rec : Rec) (D : DFn) (args : List AV) (s : St) : Option (AV × St) :=
 match Nat.ble args.length D.nt with
 | false => none
 | true => match rec D.pre (bind args 0 .leaf) s with
  | .ok .normal e1 s1 => match Nat.ble (opds e1 D.caps).length D.gnt with
   | false => none
   | true => match rec D.rest (e1.set D.cd (.func D.g [] (opds e1 D.caps))) s1 with
    | .ok x e3 s2 => match exitVal x with
     | none => none
     | some v => match rec (.region D.ginit false) ((bind (opds e1 D.caps) 0 .leaf).set D.gd v) s2 with
      | .ok .normal eg s3 => match rec D.grest eg s3 with
       | .ok .normal _ s4 => match resultsV e3 s4 D.results with
        | some l => some (tupled l, s4)
        | none => none
       | .ok .ret _ s4 => match resultsV e3 s4 D.results with
        | some l => some (tupled l, s4)
        | none => none
       | _ => none
      | _ => none
    | _ => none
  | _ => none

/-- The parts of such a function, out of the program's code. -/
def dOf (P : Prog) (F G : Func) : Option DFn :=
 match F.body, G.body with
 | some (.seq pre (.seq (.region _ ops false) rest)), some (.seq (.region _ gops false) grest) =>
  match ops.toList, gops.toList with
  | [⟨some cd, .makeFunc (.func g) first cap, _, _, _, none⟩, ⟨none, .defer c, _, _, _, none⟩], ⟨some gd, .call rc, _, _, _, none⟩ :: _ =>
   match first.toList, c.callee, c.args.toList, rc.callee, ofOpds P cap.toList, ofResults P F.results.toList, opsFrom P G.ntmps gops ((List.range gops.size).tail) with
   | [], .value (.tmp cd'), [], .builtin .recover, some caps, some rs, some ginit =>
    if cd' = cd ∧ cd < F.ntmps ∧ gd < G.ntmps then some ⟨F.ntmps, ofCode P F.ntmps 400 pre, cd, caps, ofCode P F.ntmps 400 rest, rs, g, G.ntmps, gd, ginit, ofCode P G.ntmps 400 grest⟩ else none
   | _, _, _, _, _, _, _ => none
  | _, _ => none
 | _, _ => none
end Go.V
namespace Go.V
open Go

section
variable {P : Program} {Q : Exit → Act → List Frame → World → Prop} {a : Act} {cs : List Frame} {w : World}

def recd (cs : List Frame) : Value × List Frame := match recoverD cs with
 | some (v, cs') => (v, cs')
 | none => (.nilIface, cs)

end

/-- The mode behind a recover. -/
def afterRec : FrameMode → FrameMode
 | .panicking ({ v, recovered := false, goexit := false } :: older) => .panicking ({ v, recovered := true } :: older)
 | m => m
def recVal : FrameMode → Value
 | .panicking ({ v, recovered := false, goexit := false } :: _) => v
 | _ => .nilIface


section
variable {P : Prog} {T : Tab}


end
end Go.V
/- A function that defers a closure which recovers: the hook is right, and tame. -/
namespace Go.V
open Go




section
variable {P : Prog} {T : Tab}


end
end Go.V
/- MEMO HOOKS of calls whose arguments are addresses: a call in a state that holds just what the arguments reach, told beforehand. Definitions, and the parts of the state. -/
namespace Go.V
open Go Go.RowKit

/-- What is reached, each once; none where something is not there. -/
def reachK (h : Tree AObj) : Nat → List Nat → Tree Nat → Nat → List Nat → Option (List Nat)
 | 0, _, _, _, _ => none
 | f + 1, todo, kt, n, acc => match todo with
  | [] => some acc.reverse
  | i :: l => match kt.get i with
   | some _ => reachK h f l kt n acc
   | none => match h.get i with
    | some o => reachK h f (l ++ idsObj o) (kt.set i n) (n + 1) (i :: acc)
    | none => none

structure Ent where
 args : List AV
 objs : List AObj
 v : AV
 outs : List (Option AObj)
 news : List AObj

def mkI : List Nat → Nat → Tree Nat → Tree Nat
 | [], _, t => t
 | k :: l, i, t => mkI l (i + 1) (t.set i k)

def upFrom : Nat → Nat → List Nat
 | 0, _ => []
 | n + 1, k => k :: upFrom n (k + 1)

def putOuts (K : Tree Nat) : List Nat → List (Option AObj) → St → Option St
 | k :: ks, o :: os, s => match o with
  | none => putOuts K ks os s
  | some o => match AObj.ren K o with
   | some o' => putOuts K ks os (s.put k o')
   | none => none
 | [], [], s => some s
 | _, _, _ => none

def addNews (K : Tree Nat) : List AObj → St → Option St
 | [], s => some s
 | o :: l, s => match AObj.ren K o with
  | some o' => addNews K l (s.add o')
  | none => none

def applyE (E : Ent) (ks : List Nat) (s : St) : Option (AV × St) :=
 match AV.ren (mkI (ks ++ upFrom E.news.length s.next) 0 .leaf) E.v with
 | none => none
 | some v => match putOuts (mkI (ks ++ upFrom E.news.length s.next) 0 .leaf) ks E.outs s with
  | none => none
  | some s1 => match addNews (mkI (ks ++ upFrom E.news.length s.next) 0 .leaf) E.news s1 with
   | none => none
   | some s2 => some (v, s2)

def findE (a : List AV) (os : List AObj) : List Ent → Option Ent
 | [] => none
 | E :: l => match AV.beqs a E.args with
  | true => match compOk.objsBeq os E.objs with
   | true => some E
   | false => findE a os l
  | false => findE a os l

def prefB : List Nat → List Nat → Bool
 | [], _ => true
 | p :: l, k :: ks => match Nat.beq p k with
  | true => prefB l ks
  | false => false
 | _ :: _, [] => false

def memoAH (pre : List Nat) (tbl : List Ent) (args : List AV) (s : St) : Option (AV × St) :=
 match reachK s.heap 100000 (pre ++ idsOfs args) .leaf 0 [] with
 | none => none
 | some ks => match prefB pre ks with
  | false => none
  | true => match AV.rens (mkK ks 0 .leaf) args with
   | none => none
   | some a => match renList (mkK ks 0 .leaf) s.heap ks with
    | none => none
    | some os => match findE a os tbl with
     | none => none
     | some E => applyE E ks s

/-- The objects behind the call: the old ones, changed or not, and the new ones. -/
def fullE : List AObj → List (Option AObj) → List AObj
 | o :: l, q :: m => (match q with | some q => q | none => o) :: fullE l m
 | _, _ => []
def chgOk : List AObj → List (Option AObj) → Bool
 | o :: l, q :: m => (match q with | some q => notRo o && notRo q | none => true) && chgOk l m
 | [], [] => true
 | _, _ => false

def chkE (T : Tab) (rec : Rec) (f : FuncId) (E : Ent) : Bool :=
 match callF T rec f E.args (mkSt E.objs) with
 | .val v s1 => match reachK s1.heap 100000 (upFrom E.objs.length 0 ++ idsOf v) .leaf 0 [] with
  | none => false
  | some ks => prefB (upFrom E.objs.length 0) ks && (match AV.ren (mkK ks 0 .leaf) v with
   | none => false
   | some v' => AV.beq v' E.v && (match renList (mkK ks 0 .leaf) s1.heap ks with
    | none => false
    | some l => compOk.objsBeq l (fullE E.objs E.outs ++ E.news) && (chgOk E.objs E.outs && E.news.all notRo)))
 | _ => false

/- PARTS -/
theorem reachK_nodup {h : Tree AObj} : ∀ (f : Nat) {todo : List Nat} {kt : Tree Nat} {n : Nat} {acc ks : List Nat}, acc.Nodup → (∀ i, i ∈ acc → (kt.get i).isSome = true) → reachK h f todo kt n acc = some ks → ks.Nodup
 | 0, _, _, _, _, _, _, _, e => by cases e
 | f + 1, todo, kt, n, acc, ks, hn, hk, e => by
  simp only [reachK] at e
  split at e
  · cases e
    unfold List.Nodup
    rw [List.pairwise_reverse]
    exact hn.imp (fun h => h.symm)
  · rename_i i l
    split at e
    · exact reachK_nodup f hn hk e
    · rename_i hi
      split at e
      · refine reachK_nodup f (List.nodup_cons.2 ⟨fun hm => ?_, hn⟩) (fun j hj => ?_) e
        · have := hk i hm
          rw [hi] at this
          cases this
        · rw [Tree.get_set]
          split
          · rfl
          · rename_i hne
            rcases List.mem_cons.1 hj with rfl | hj
            · exact absurd rfl hne
            · exact hk j hj
      · cases e

theorem reachK_in {h : Tree AObj} : ∀ (f : Nat) {todo : List Nat} {kt : Tree Nat} {n : Nat} {acc ks : List Nat}, (∀ i, i ∈ acc → (h.get i).isSome = true) → reachK h f todo kt n acc = some ks → ∀ i, i ∈ ks → (h.get i).isSome = true
 | 0, _, _, _, _, _, _, e => by cases e
 | f + 1, todo, kt, n, acc, ks, hk, e => by
  simp only [reachK] at e
  split at e
  · cases e
    intro i hi
    exact hk i (List.mem_reverse.1 hi)
  · rename_i i l
    split at e
    · exact reachK_in f hk e
    · split at e
      · rename_i o ho
        refine reachK_in f (fun j hj => ?_) e
        rcases List.mem_cons.1 hj with rfl | hj
        · rw [ho]; rfl
        · exact hk j hj
      · cases e

/-- One more object that nothing reaches does not matter. -/
theorem reachK_put {s : St} {b : Nat} {o : AObj} (hb : s.heap.get b = none) : ∀ (f : Nat) {todo : List Nat} {kt : Tree Nat} {n : Nat} {acc ks : List Nat}, reachK s.heap f todo kt n acc = some ks → reachK (s.put b o).heap f todo kt n acc = some ks
 | 0, _, _, _, _, _, e => by cases e
 | f + 1, todo, kt, n, acc, ks, e => by
  simp only [reachK] at e ⊢
  cases todo with
  | nil => exact e
  | cons i l =>
   simp only [] at e ⊢
   cases hi : kt.get i with
   | some _ =>
    rw [hi] at e
    exact reachK_put hb f e
   | none =>
    rw [hi] at e
    simp only [] at e ⊢
    cases hq : s.heap.get i with
    | none => rw [hq] at e; cases e
    | some q =>
     rw [hq] at e
     have : (s.put b o).heap.get i = some q := by
      show (s.heap.set b o).get i = _
      rw [Tree.get_set_ne _ _ (by rintro rfl; rw [hb] at hq; cases hq)]
      exact hq
     rw [this]
     exact reachK_put hb f e

theorem mkI_get : ∀ (l : List Nat) (i : Nat) (t : Tree Nat) (j : Nat), (mkI l i t).get j = if i ≤ j ∧ j < i + l.length then l[j - i]? else t.get j
 | [], i, t, j => by
  simp only [mkI, List.length_nil, Nat.add_zero]
  rw [if_neg (by omega)]
 | k :: l, i, t, j => by
  simp only [mkI]
  rw [mkI_get l]
  simp only [Tree.get_set, List.length_cons]
  by_cases h1 : j = i
  · subst h1
    rw [if_neg (by omega), if_pos rfl, if_pos (by omega)]
    simp
  · by_cases h2 : i + 1 ≤ j ∧ j < i + 1 + l.length
    · rw [if_pos h2, if_pos (by omega)]
      have : j - i = (j - (i + 1)) + 1 := by omega
      rw [this, List.getElem?_cons_succ]
    · rw [if_neg h2, if_neg h1, if_neg (by omega)]

theorem upFrom_length : ∀ (n k : Nat), (upFrom n k).length = n
 | 0, _ => rfl
 | n + 1, k => by simp [upFrom, upFrom_length n]
theorem upFrom_get : ∀ (n k j : Nat), j < n → (upFrom n k)[j]? = some (k + j)
 | 0, _, _, h => by omega
 | n + 1, k, 0, _ => by simp [upFrom]
 | n + 1, k, j + 1, h => by
  simp only [upFrom, List.getElem?_cons_succ]
  rw [upFrom_get n (k + 1) j (by omega)]
  congr 1; omega

theorem prefB_get : ∀ {p ks : List Nat}, prefB p ks = true → ∀ (i k : Nat), p[i]? = some k → ks[i]? = some k
 | [], _, _, i, k, e => by simp at e
 | p :: l, [], h, _, _, _ => by cases h
 | p :: l, q :: ks, h, i, k, e => by
  simp only [prefB] at h
  split at h
  · rename_i hb
    have hpq : p = q := by simpa using hb
    cases i with
    | zero => simpa [hpq] using e
    | succ i => simpa using prefB_get h i k (by simpa using e)
  · cases h

theorem fullE_length : ∀ {l : List AObj} {m : List (Option AObj)}, chgOk l m = true → (fullE l m).length = l.length ∧ m.length = l.length
 | [], [], _ => ⟨rfl, rfl⟩
 | [], _ :: _, h => by cases h
 | _ :: _, [], h => by cases h
 | o :: l, q :: m, h => by
  simp only [chgOk, Bool.and_eq_true] at h
  have := fullE_length h.2
  exact ⟨by simp [fullE, this.1], by simp [this.2]⟩
theorem fullE_get : ∀ {l : List AObj} {m : List (Option AObj)}, chgOk l m = true → ∀ (i : Nat) (o : AObj), l[i]? = some o → ((m[i]? = some none ∧ (fullE l m)[i]? = some o) ∨ ∃ q, m[i]? = some (some q) ∧ (fullE l m)[i]? = some q ∧ notRo o = true ∧ notRo q = true)
 | [], [], _, i, o, e => by simp at e
 | [], _ :: _, h, _, _, _ => by cases h
 | _ :: _, [], h, _, _, _ => by cases h
 | o :: l, q :: m, h, i, o', e => by
  simp only [chgOk, Bool.and_eq_true] at h
  cases i with
  | zero =>
   simp at e
   subst e
   cases q with
   | none => exact .inl ⟨by simp, by simp [fullE]⟩
   | some q => exact .inr ⟨q, by simp, by simp [fullE], by simpa using h.1⟩
  | succ i =>
   have := fullE_get h.2 i o' (by simpa using e)
   simpa [fullE] using this
end Go.V
/- MEMO HOOKS of calls whose arguments are addresses: soundness. -/
namespace Go.V
open Go Go.RowKit

def UnPhi (K : Tree Nat) (φ ψ : Phi) : Prop := ∀ id i, K.get id = some i → ∀ j x, φ i j = some x → ψ id j = some x

mutual
theorem VRel.unren {K : Tree Nat} {φ ψ : Phi} (h : UnPhi K φ ψ) : ∀ {v u : AV} {c : Value}, AV.ren K v = some u → VRel φ u c → VRel ψ v c := by
 intro v u c e r
 cases v with
 | bool b => cases e; cases r; exact .bool b
 | int i n => cases e; cases r; exact .int i n
 | float i n => cases e; cases r; exact .float i n
 | complex i n m => cases e; cases r; exact .complex i n m
 | str s => cases e; cases r; exact .str _
 | ptr a =>
  simp only [AV.ren] at e
  split at e
  · rename_i i hi
    cases e
    cases r with
    | ptr q1 q2 q3 => exact .ptr (h _ _ hi _ _ q1) q2 q3
  · cases e
 | nilPtr => cases e; cases r; exact .nilPtr
 | slice a b c d f =>
  simp only [AV.ren] at e
  split at e
  · rename_i i hi
    cases e
    cases r with
    | slice q1 q2 q3 q4 q5 q6 q7 q8 => exact .slice (h _ _ hi _ _ q1) q2 q3 q4 q5 q6 q7 q8
  · cases e
 | nilSlice => cases e; cases r; exact .nilSlice
 | empty => cases e; cases r; exact .empty _ _
 | map a =>
  simp only [AV.ren] at e
  split at e
  · rename_i i hi
    cases e
    cases r with
    | map q1 => exact .map (h _ _ hi _ _ q1)
  · cases e
 | nilMap => cases e; cases r; exact .nilMap
 | anyMap => cases e; cases r; exact .anyMap _
 | func f l m =>
  simp only [AV.ren] at e
  split at e
  · rename_i l' m' hl hm
    cases e
    cases r with
    | func q1 q2 => exact .func (VRels.unren h hl q1) (VRels.unren h hm q2)
  · cases e
 | nilFunc => cases e; cases r; exact .nilFunc
 | iface t v =>
  simp only [AV.ren] at e
  split at e
  · rename_i q hq
    cases e
    cases r with
    | iface q1 => exact .iface (VRel.unren h hq q1)
  · cases e
 | nilIface => cases e; cases r; exact .nilIface
 | agg l =>
  simp only [AV.ren] at e
  split at e
  · rename_i q hq
    cases e
    cases r with
    | agg q1 => exact .agg (VRels.unren h hq q1)
  · cases e
 | tuple l =>
  simp only [AV.ren] at e
  split at e
  · rename_i q hq
    cases e
    cases r with
    | tuple q1 => exact .tuple (VRels.unren h hq q1)
  · cases e
theorem VRels.unren {K : Tree Nat} {φ ψ : Phi} (h : UnPhi K φ ψ) : ∀ {v u : List AV} {c : List Value}, AV.rens K v = some u → VRels φ u c → VRels ψ v c := by
 intro v u c e r
 cases v with
 | nil => cases e; cases r; exact .nil
 | cons v l =>
  simp only [AV.rens] at e
  split at e
  · rename_i u' l' hu hl
    cases e
    cases r with
    | cons q1 q2 => exact .cons (VRel.unren h hu q1) (VRels.unren h hl q2)
  · cases e
end

theorem EntsRel.unren {K : Tree Nat} {φ ψ : Phi} (h : UnPhi K φ ψ) : ∀ {l r : List AEntry} {l' : List MapEntry}, renEnts K l = some r → EntsRel φ r l' → EntsRel ψ l l'
 | [], r, l', e, g => by cases e; cases g; exact .nil
 | a :: l, r, l', e, g => by
  simp only [renEnts] at e
  split at e
  · rename_i k v r' hk hv hr
    cases e
    cases g with
    | cons q1 q2 q3 q4 => exact .cons (q1.unren h hk) (q2.unren h hv) q3 (EntsRel.unren h hr q4)
  · cases e

theorem rens_get' {K : Tree Nat} : ∀ {l r : List AV}, AV.rens K l = some r → ∀ (i : Nat) (v : AV), l[i]? = some v → ∃ u, r[i]? = some u ∧ AV.ren K v = some u
 | [], r, e, i, u, h => by simp at h
 | v :: l, r, e, i, u, h => by
  simp only [AV.rens] at e
  split at e
  · rename_i u' m hu hm
    cases e
    cases i with
    | zero => simp at h; subst h; exact ⟨u', by simp, hu⟩
    | succ i => simpa using rens_get' hm i u (by simpa using h)
  · cases e

/-- An object that stands as it stood, told in the part's numbers. 'hk': its incarnations. -/
theorem ObjRel.unren {K : Tree Nat} {φ ψ : Phi} {w : World} {id i : Nat} (hK : K.get id = some i) (h : UnPhi K φ ψ) {o q : AObj} (e : AObj.ren K o = some q) (ho : ObjRel φ w i q) : ObjRel ψ w id o := by
 cases o with
 | cells cs lo inc ro =>
  simp only [AObj.ren] at e
  split at e
  · rename_i cs' hcs
    cases e
    obtain ⟨h1, h2⟩ := ho
    refine ⟨h1, fun j a b => ?_⟩
    obtain ⟨x, hx, cc, el, fz, c1, c2, c3, c4, c5, c6, c7, c8⟩ := h2 j a b
    refine ⟨x, h _ _ hK _ _ hx, cc, el, fz, c1, c2, c3, c4, by rw [← rens_length hcs]; exact c5, fun hl => by rw [← rens_length hcs]; exact c6 hl, c7, fun j' v q1 q2 q3 => ?_⟩
    obtain ⟨u, u1, u2⟩ := rens_get' hcs j' v q3
    obtain ⟨c, d1, d2⟩ := c8 j' u q1 q2 u1
    exact ⟨c, d1, d2.unren h u2⟩
  · cases e
 | map es clock =>
  simp only [AObj.ren] at e
  split at e
  · rename_i es' hes
    cases e
    obtain ⟨x, es'', hx, he, hr⟩ := ho
    exact ⟨x, es'', h _ _ hK _ _ hx, he, hr.unren h hes⟩
  · cases e

def subPhi (ks : List Nat) (φ : Phi) : Phi := fun i k => match ks[i]? with | some id => φ id k | none => none

theorem subPhi_some {ks : List Nat} {φ : Phi} {i k : Nat} {x : Inc} (h : subPhi ks φ i k = some x) : ∃ id, ks[i]? = some id ∧ φ id k = some x := by
 unfold subPhi at h
 split at h
 · exact ⟨_, by assumption, h⟩
 · cases h

theorem AObj.ren_isRo {K : Tree Nat} {o q : AObj} (h : AObj.ren K o = some q) : notRo q = notRo o := by
 cases o with
 | cells cs lo inc ro => obtain ⟨_, rfl⟩ := AObj.ren_ro h; rfl
 | map es c =>
  simp only [AObj.ren] at h
  split at h
  · cases h; rfl
  · cases h

theorem not_isRo {s : St} {id : Nat} {o : AObj} (ho : s.heap.get id = some o) (h : notRo o = true) : ¬ isRo s id := by
 rintro ⟨cs, lo, inc, e⟩
 rw [ho] at e
 cases e
 cases h
theorem isRo_of {s : St} {id : Nat} {o : AObj} (ho : s.heap.get id = some o) (h : notRo o = false) : isRo s id := by
 cases o with
 | cells cs lo inc ro =>
  cases ro with
  | true => exact ⟨cs, lo, inc, ho⟩
  | false => cases h
 | map es c => cases h

structure Part (ks : List Nat) (s : St) (os : List AObj) : Prop where
 nodup : ks.Nodup
 ren : renList (mkK ks 0 .leaf) s.heap ks = some os

theorem Part.kt {ks : List Nat} {s : St} {os : List AObj} (h : Part ks s os) {i id : Nat} (e : ks[i]? = some id) : (mkK ks 0 .leaf).get id = some i := by
 have := mkK_at ks 0 .leaf h.nodup i id e
 simpa using this
theorem Part.tk {ks : List Nat} {s : St} {os : List AObj} (_h : Part ks s os) {i id : Nat} (e : (mkK ks 0 .leaf).get id = some i) : ks[i]? = some id := by
 have := mkK_get ks [] .leaf (by simp) id i (by simpa using e)
 simpa using this
theorem Part.inj {ks : List Nat} {s : St} {os : List AObj} (h : Part ks s os) {i j id : Nat} (e : ks[i]? = some id) (e' : ks[j]? = some id) : i = j := by
 have := h.kt e
 rw [h.kt e'] at this
 exact (Option.some.inj this).symm
theorem Part.length {ks : List Nat} {s : St} {os : List AObj} (h : Part ks s os) : os.length = ks.length := (renList_get h.ren).1
theorem Part.get {ks : List Nat} {s : St} {os : List AObj} (h : Part ks s os) {i : Nat} {o : AObj} (e : os[i]? = some o) : ∃ id q, ks[i]? = some id ∧ s.heap.get id = some q ∧ AObj.ren (mkK ks 0 .leaf) q = some o := (renList_get h.ren).2 i o e
theorem Part.at {ks : List Nat} {s : St} {os : List AObj} (h : Part ks s os) {i id : Nat} (e : ks[i]? = some id) : ∃ q o, s.heap.get id = some q ∧ os[i]? = some o ∧ AObj.ren (mkK ks 0 .leaf) q = some o := by
 have hi : i < os.length := by rw [h.length]; exact (List.getElem?_eq_some_iff.1 e).1
 obtain ⟨id', q, a, b, c⟩ := h.get (List.getElem?_eq_getElem hi)
 rw [e] at a
 cases a
 exact ⟨q, _, b, List.getElem?_eq_getElem hi, c⟩
theorem Part.isRo {ks : List Nat} {s : St} {os : List AObj} (h : Part ks s os) {i id : Nat} (e : ks[i]? = some id) : isRo (mkSt os) i ↔ Go.V.isRo s id := by
 obtain ⟨q, o, a, b, c⟩ := h.at e
 have hro := AObj.ren_isRo c
 have b' : (mkSt os).heap.get i = some o := by rw [mkSt_get]; exact b
 cases hq : notRo q with
 | true => exact ⟨fun x => absurd x (not_isRo b' (by rw [hro, hq])), fun x => absurd x (not_isRo a hq)⟩
 | false => exact ⟨fun _ => isRo_of a hq, fun _ => isRo_of b' (by rw [hro, hq])⟩

theorem Part.renPhi {ks : List Nat} {s : St} {os : List AObj} (h : Part ks s os) (φ : Phi) : RenPhi (mkK ks 0 .leaf) φ (subPhi ks φ) := by
 intro id i e j x ex
 simp only [subPhi, h.tk e]
 exact ex

theorem sub_rel {φ : Phi} {s : St} {w : World} {ks : List Nat} {os : List AObj} (hs : RelSt φ s w) (h : Part ks s os) : RelSt (subPhi ks φ) (mkSt os) w := by
 refine ⟨?_, ?_, ?_, ?_, ?_⟩
 · intro i o ho
   rw [mkSt_get] at ho
   obtain ⟨id, q, a, b, c⟩ := h.get ho
   exact (hs.obj id q b).ren (h.kt a) (h.renPhi φ) c
 · intro i k x e
   obtain ⟨id, a, e1⟩ := subPhi_some e
   obtain ⟨q, o, _, b, _⟩ := h.at a
   exact ⟨by rw [mkSt_get, b]; rfl, (hs.dom id k x e1).2⟩
 · intro i k x i' k' x' e e' hb
   obtain ⟨id, a, e1⟩ := subPhi_some e
   obtain ⟨id', a', e1'⟩ := subPhi_some e'
   rcases hs.inj _ _ _ _ _ _ e1 e1' hb with ⟨rfl, r⟩ | ⟨r, r'⟩
   · exact .inl ⟨h.inj a a', r⟩
   · exact .inr ⟨(h.isRo a).2 r, (h.isRo a').2 r'⟩
 · intro i k x cs lo inc ro e ho
   obtain ⟨id, a, e1⟩ := subPhi_some e
   rw [mkSt_get] at ho
   obtain ⟨id', q, a', b, c⟩ := h.get ho
   rw [a] at a'; cases a'
   obtain ⟨cs', rfl⟩ := AObj.ren_cells c
   exact hs.incs _ _ _ _ _ _ _ e1 b
 · intro i k x t e ht
   obtain ⟨id, a, e1⟩ := subPhi_some e
   exact hs.typ _ _ _ _ e1 ht

theorem putOuts_spec {K : Tree Nat} : ∀ {ks : List Nat} {os : List (Option AObj)} {s s' : St}, ks.Nodup → putOuts K ks os s = some s' →
 s'.next = s.next ∧ (∀ id, id ∉ ks → s'.heap.get id = s.heap.get id) ∧ ∀ (i id : Nat), ks[i]? = some id → (os[i]? = some none ∧ s'.heap.get id = s.heap.get id) ∨ ∃ o o', os[i]? = some (some o) ∧ AObj.ren K o = some o' ∧ s'.heap.get id = some o'
 | [], [], s, s', _, e => by cases e; exact ⟨rfl, fun _ _ => rfl, fun i id h => by simp at h⟩
 | [], _ :: _, _, _, _, e => by cases e
 | _ :: _, [], _, _, _, e => by cases e
 | k :: ks, o :: os, s, s', hn, e => by
  obtain ⟨h1, h2⟩ := List.nodup_cons.1 hn
  cases o with
  | none =>
   simp only [putOuts] at e
   obtain ⟨a, b, c⟩ := putOuts_spec h2 e
   refine ⟨a, fun id hid => b id (fun hm => hid (List.mem_cons_of_mem _ hm)), fun i id hi => ?_⟩
   cases i with
   | zero =>
    simp at hi
    subst hi
    exact .inl ⟨by simp, b k h1⟩
   | succ i => simpa using c i id (by simpa using hi)
  | some o =>
   simp only [putOuts] at e
   split at e
   · rename_i o' ho
     obtain ⟨a, b, c⟩ := putOuts_spec h2 e
     refine ⟨a, fun id hid => ?_, fun i id hi => ?_⟩
     · rw [b id (fun hm => hid (List.mem_cons_of_mem _ hm))]
       show (s.heap.set k o').get id = _
       rw [Tree.get_set_ne _ _ (by rintro rfl; exact hid (by simp))]
     · cases i with
       | zero =>
        simp at hi
        subst hi
        refine .inr ⟨o, o', by simp, ho, ?_⟩
        rw [b k h1]
        exact Tree.get_set_same _ _ _
       | succ i =>
        have hi' : ks[i]? = some id := by simpa using hi
        have hne : id ≠ k := by rintro rfl; exact h1 (List.mem_of_getElem? hi')
        rcases c i id hi' with ⟨x, y⟩ | ⟨q, q', x, y, z⟩
        · refine .inl ⟨by simpa using x, ?_⟩
          rw [y]
          exact Tree.get_set_ne _ _ hne
        · exact .inr ⟨q, q', by simpa using x, y, z⟩
   · cases e

theorem addNews_spec {K : Tree Nat} : ∀ {l : List AObj} {s s' : St}, addNews K l s = some s' → s'.next = s.next + l.length ∧ (∀ id, ¬ (s.next ≤ id ∧ id < s.next + l.length) → s'.heap.get id = s.heap.get id) ∧
 ∀ i o, l[i]? = some o → ∃ o', AObj.ren K o = some o' ∧ s'.heap.get (s.next + i) = some o'
 | [], s, s', e => by cases e; exact ⟨rfl, fun _ _ => rfl, fun i o h => by simp at h⟩
 | o :: l, s, s', e => by
  simp only [addNews] at e
  split at e
  · rename_i o' ho
    obtain ⟨a, b, c⟩ := addNews_spec e
    have hn : (s.add o').next = s.next + 1 := rfl
    rw [hn] at a b c
    refine ⟨by rw [a, List.length_cons]; omega, fun id hid => ?_, fun i q hq => ?_⟩
    · rw [List.length_cons] at hid
      rw [b id (by omega)]
      show (s.heap.set s.next o').get id = _
      exact Tree.get_set_ne _ _ (by omega)
    · cases i with
      | zero =>
       simp at hq
       subst hq
       refine ⟨o', ho, ?_⟩
       rw [b _ (by omega)]
       exact Tree.get_set_same _ _ _
      | succ i =>
       obtain ⟨q', h1, h2⟩ := c i q (by simpa using hq)
       refine ⟨q', h1, ?_⟩
       rw [← h2]
       congr 1; omega
  · cases e
end Go.V
/- MEMO HOOKS of calls whose arguments are addresses: a step of the part is a step of the whole. -/
namespace Go.V
open Go Go.RowKit

theorem merge_step {φ φ' : Phi} {s s1 s2 : St} {w w' : World} {ks : List Nat} {os : List AObj} {outs : List (Option AObj)} {news : List AObj} (hs : RelSt φ s w) (hp : Part ks s os) (hchg : chgOk os outs = true) (hnew : news.all notRo = true)
 (st : Step (subPhi ks φ) (mkSt os) w φ' (mkSt (fullE os outs ++ news)) w') (hput : putOuts (mkI (ks ++ upFrom news.length s.next) 0 .leaf) ks outs s = some s1) (hadd : addNews (mkI (ks ++ upFrom news.length s.next) 0 .leaf) news s1 = some s2)
 (hf : FreeIn s s.next (s.next + news.length)) : ∃ ψ, RenPhi (mkI (ks ++ upFrom news.length s.next) 0 .leaf) φ' ψ ∧ Step φ s w ψ s2 w' := by
 generalize hK2 : mkI (ks ++ upFrom news.length s.next) 0 .leaf = K2 at *
 have hlen : os.length = ks.length := hp.length
 have hfl := fullE_length hchg
 have ga : ∀ (i id : Nat), ks[i]? = some id → K2.get i = some id := by
  intro i id e
  have hi : i < ks.length := (List.getElem?_eq_some_iff.1 e).1
  rw [← hK2, mkI_get, if_pos (by simp; omega)]
  rw [Nat.sub_zero, List.getElem?_append_left hi]
  exact e
 have gb : ∀ j, j < news.length → K2.get (ks.length + j) = some (s.next + j) := by
  intro j hj
  rw [← hK2, mkI_get, if_pos (by simp [upFrom_length]; omega)]
  rw [Nat.sub_zero, List.getElem?_append_right (by omega)]
  have : ks.length + j - ks.length = j := by omega
  rw [this, upFrom_get _ _ _ hj]
 have gc : ∀ (i id : Nat), K2.get i = some id → (ks[i]? = some id) ∨ ∃ j, j < news.length ∧ i = ks.length + j ∧ id = s.next + j := by
  intro i id e
  rw [← hK2, mkI_get] at e
  split at e
  · rename_i h
    rw [Nat.sub_zero] at e
    by_cases hi : i < ks.length
    · rw [List.getElem?_append_left hi] at e
      exact .inl e
    · rw [List.getElem?_append_right (by omega)] at e
      have hlt : i - ks.length < news.length := by
       have := (List.getElem?_eq_some_iff.1 e).1
       rwa [upFrom_length] at this
      rw [upFrom_get _ _ _ hlt] at e
      exact .inr ⟨i - ks.length, hlt, by omega, by cases e; rfl⟩
  · simp at e
 have hex : ∀ (i id : Nat), ks[i]? = some id → ¬ (s.next ≤ id ∧ id < s.next + news.length) := by
  intro i id e h
  obtain ⟨q, _, a, _⟩ := hp.at e
  rw [hf id h.1 h.2] at a
  cases a
 obtain ⟨p1, p2, p3⟩ := putOuts_spec hp.nodup hput
 obtain ⟨a1, a2, a3⟩ := addNews_spec hadd
 rw [p1] at a1 a2 a3
 have hkn : ∀ id, (mkK ks 0 .leaf).get id = none → id ∉ ks := by
  intro id e hm
  obtain ⟨i, hi⟩ := List.mem_iff_getElem?.1 hm
  rw [hp.kt hi] at e
  cases e
 have G1 : ∀ (j : Nat) (o : AObj), news[j]? = some o → ∃ o', AObj.ren K2 o = some o' ∧ s2.heap.get (s.next + j) = some o' := a3
 have G2 : ∀ (i id : Nat), ks[i]? = some id → (outs[i]? = some none ∧ s2.heap.get id = s.heap.get id) ∨ ∃ o o', outs[i]? = some (some o) ∧ AObj.ren K2 o = some o' ∧ s2.heap.get id = some o' := by
  intro i id e
  have h := a2 id (hex i id e)
  rcases p3 i id e with ⟨x, y⟩ | ⟨o, o', x, y, z⟩
  · exact .inl ⟨x, h.trans y⟩
  · exact .inr ⟨o, o', x, y, h.trans z⟩
 have G3 : ∀ id, id ∉ ks → ¬ (s.next ≤ id ∧ id < s.next + news.length) → s2.heap.get id = s.heap.get id := by
  intro id h1 h2
  rw [a2 id h2, p2 id h1]
 have gF : ∀ i, i < ks.length → (mkSt (fullE os outs ++ news)).heap.get i = (fullE os outs)[i]? := by
  intro i hi
  rw [mkSt_get, List.getElem?_append_left (by omega)]
 have gN : ∀ j, (mkSt (fullE os outs ++ news)).heap.get (ks.length + j) = news[j]? := by
  intro j
  rw [mkSt_get, List.getElem?_append_right (by omega)]
  congr 1; omega
 let ψ : Phi := fun id k => if s.next ≤ id ∧ id < s.next + news.length then φ' (ks.length + (id - s.next)) k else match (mkK ks 0 .leaf).get id with | some i => φ' i k | none => φ id k
 have hψn : ∀ j k, j < news.length → ψ (s.next + j) k = φ' (ks.length + j) k := by
  intro j k hj
  simp only [ψ]
  rw [if_pos (by omega)]
  have : s.next + j - s.next = j := by omega
  rw [this]
 have hψk : ∀ (i id k : Nat), ks[i]? = some id → ψ id k = φ' i k := by
  intro i id k e
  simp only [ψ]
  rw [if_neg (hex i id e), hp.kt e]
 have hψo : ∀ id k, (mkK ks 0 .leaf).get id = none → ¬ (s.next ≤ id ∧ id < s.next + news.length) → ψ id k = φ id k := by
  intro id k e h
  simp only [ψ]
  rw [if_neg h, e]
 have hψ : ∀ id k x, ψ id k = some x → (∃ j, j < news.length ∧ id = s.next + j ∧ φ' (ks.length + j) k = some x) ∨ (∃ i : Nat, ks[i]? = some id ∧ φ' i k = some x) ∨ ((mkK ks 0 .leaf).get id = none ∧ ¬ (s.next ≤ id ∧ id < s.next + news.length) ∧ φ id k = some x) := by
  intro id k x e
  by_cases h : s.next ≤ id ∧ id < s.next + news.length
  · refine .inl ⟨id - s.next, by omega, by omega, ?_⟩
    simp only [ψ] at e
    rwa [if_pos h] at e
  · cases hk : (mkK ks 0 .leaf).get id with
    | some i =>
     refine .inr (.inl ⟨i, hp.tk hk, ?_⟩)
     rwa [hψk i id k (hp.tk hk)] at e
    | none =>
     refine .inr (.inr ⟨rfl, h, ?_⟩)
     rwa [hψo id k hk h] at e
 have hren : RenPhi K2 φ' ψ := by
  intro i id e j x ex
  rcases gc i id e with h | ⟨q, hq, rfl, rfl⟩
  · rw [hψk i id j h]; exact ex
  · rw [hψn q j hq]; exact ex
 have hun : UnPhi (mkK ks 0 .leaf) φ' ψ := by
  intro id i e j x ex
  rw [hψk i id j (hp.tk e)]
  exact ex
 have hsub : ∀ (i id k : Nat) (x : Inc), ks[i]? = some id → φ id k = some x → subPhi ks φ i k = some x := by
  intro i id k x e ex
  simp only [subPhi, e]
  exact ex
 have hnr : ∀ id k x, φ id k = some x → ¬ (s.next ≤ id ∧ id < s.next + news.length) := by
  intro id k x e h
  have := (hs.dom id k x e).1
  rw [hf id h.1 h.2] at this
  cases this
 have hle : PhiLe φ ψ := by
  intro id k x e
  cases hk : (mkK ks 0 .leaf).get id with
  | some i =>
   rw [hψk i id k (hp.tk hk)]
   exact st.le _ _ _ (hsub _ _ _ _ (hp.tk hk) e)
  | none => rw [hψo id k hk (hnr id k x e)]; exact e
 have hIm : ∀ b, InIm (subPhi ks φ) b → InIm φ b := by
  rintro b ⟨i, k, x, e, hb⟩
  obtain ⟨id, _, e1⟩ := subPhi_some e
  exact ⟨id, k, x, e1, hb⟩
 have H : ∀ id k x, φ id k = some x → (mkK ks 0 .leaf).get id = none → w'.heap[x.blk]? = w.heap[x.blk]? := by
  intro id k x e hk
  by_cases hin : InIm (subPhi ks φ) x.blk
  · obtain ⟨i, k', x', e', hb⟩ := hin
    obtain ⟨id', h1, e1⟩ := subPhi_some e'
    rcases hs.inj _ _ _ _ _ _ e1 e hb with ⟨rfl, _⟩ | ⟨r, _⟩
    · rw [hp.kt h1] at hk; cases hk
    · have := st.ro i k' x' e' ((hp.isRo h1).2 r)
      rwa [hb] at this
  · exact st.frame _ (hs.dom id k x e).2 hin
 have hkeep : ∀ id, isRo s id → s2.heap.get id = s.heap.get id := by
  intro id hr
  have hrg : ¬ (s.next ≤ id ∧ id < s.next + news.length) := by
   intro h
   obtain ⟨cs, lo, inc, e⟩ := hr
   rw [hf id h.1 h.2] at e
   cases e
  by_cases hm : id ∈ ks
  · obtain ⟨i, hi⟩ := List.mem_iff_getElem?.1 hm
    rcases G2 i id hi with ⟨_, h⟩ | ⟨o, o', h1, _, _⟩
    · exact h
    · exfalso
      obtain ⟨q, o1, _, b, _⟩ := hp.at hi
      rcases fullE_get hchg i o1 b with ⟨c, _⟩ | ⟨_, _, _, d, _⟩
      · rw [h1] at c; cases c
      · exact not_isRo (s := mkSt os) (by rw [mkSt_get]; exact b) d ((hp.isRo hi).2 hr)
  · exact G3 id hm hrg
 have hroN : ∀ id, isRo s id → isRo s2 id := by
  intro id hr
  obtain ⟨cs, lo, inc, e⟩ := hr
  exact ⟨cs, lo, inc, by rw [hkeep id ⟨cs, lo, inc, e⟩]; exact e⟩
 have hroF : ∀ (i id : Nat), ks[i]? = some id → isRo (mkSt (fullE os outs ++ news)) i → isRo s id := by
  intro i id hi hr
  have hlt : i < ks.length := (List.getElem?_eq_some_iff.1 hi).1
  obtain ⟨q, o1, a, b, c⟩ := hp.at hi
  rcases fullE_get hchg i o1 b with ⟨_, d⟩ | ⟨q', _, d, _, d'⟩
  · refine (hp.isRo hi).1 ?_
    obtain ⟨cs, lo, inc, e⟩ := hr
    rw [gF i hlt, d] at e
    cases e
    exact ⟨cs, lo, inc, by rw [mkSt_get]; exact b⟩
  · exact absurd hr (not_isRo (by rw [gF i hlt]; exact d) d')
 have hroNew : ∀ j, ¬ isRo (mkSt (fullE os outs ++ news)) (ks.length + j) := by
  rintro j ⟨cs, lo, inc, e⟩
  rw [gN] at e
  have := List.all_eq_true.1 hnew _ (List.mem_of_getElem? e)
  cases this
 have hfreshNew : ∀ j k x, φ' (ks.length + j) k = some x → w.heap.size ≤ x.blk := by
  intro j k x e
  rcases st.fresh _ _ _ e with ⟨i, k', x', e', hb⟩ | h
  · rcases st.rel.inj _ _ _ _ _ _ e (st.le _ _ _ e') hb.symm with ⟨h, _⟩ | ⟨h, _⟩
    · obtain ⟨id, h1, _⟩ := subPhi_some e'
      have := (List.getElem?_eq_some_iff.1 h1).1
      omega
    · exact absurd h (hroNew j)
  · exact h
 -- two of the part
 have inj1 : ∀ (i i' id id' k k' : Nat) (x x' : Inc), ks[i]? = some id → ks[i']? = some id' → φ' i k = some x → φ' i' k' = some x' → x.blk = x'.blk → (id = id' ∧ x.base = x'.base ∧ x.sh = x'.sh ∧ x.top = x'.top) ∨ (isRo s2 id ∧ isRo s2 id') := by
  intro i i' id id' k k' x x' e1 e2 h1 h2 hb
  rcases st.rel.inj _ _ _ _ _ _ h1 h2 hb with ⟨rfl, h⟩ | ⟨h, h'⟩
  · rw [e1] at e2; cases e2; exact .inl ⟨rfl, h⟩
  · exact .inr ⟨hroN _ (hroF _ _ e1 h), hroN _ (hroF _ _ e2 h')⟩
 -- one of the part, one that is not
 have inj2 : ∀ (i id id' k k' : Nat) (x x' : Inc), ks[i]? = some id → (mkK ks 0 .leaf).get id' = none → φ' i k = some x → φ id' k' = some x' → x.blk = x'.blk → isRo s2 id ∧ isRo s2 id' := by
  intro i id id' k k' x x' e1 e2 h1 h2 hb
  have hlt := (hs.dom _ _ _ h2).2
  rcases st.fresh _ _ _ h1 with ⟨i2, k2, x2, e3, hb2⟩ | h
  · obtain ⟨id2, e4, h4⟩ := subPhi_some e3
    rcases hs.inj _ _ _ _ _ _ h4 h2 (by omega) with ⟨rfl, _⟩ | ⟨r, r'⟩
    · rw [hp.kt e4] at e2; cases e2
    · rcases st.rel.inj _ _ _ _ _ _ h1 (st.le _ _ _ e3) hb2.symm with ⟨rfl, _⟩ | ⟨h, _⟩
      · rw [e1] at e4; cases e4
        exact ⟨hroN _ r, hroN _ r'⟩
      · exact ⟨hroN _ (hroF _ _ e1 h), hroN _ r'⟩
  · omega
 refine ⟨ψ, hren, hle, ⟨?_, ?_, ?_, ?_, ?_⟩, st.size, fun b hb hni => st.frame b hb (fun h => hni (hIm b h)), ?_, ?_, hkeep, ?_, st.os, st.tape, st.output⟩
 · intro id o ho
   by_cases hrg : s.next ≤ id ∧ id < s.next + news.length
   · have hj : id - s.next < news.length := by omega
     have hq : news[id - s.next]? = some news[id - s.next] := List.getElem?_eq_getElem hj
     obtain ⟨o', h1, h2⟩ := G1 _ _ hq
     have e : s.next + (id - s.next) = id := by omega
     rw [e, ho] at h2
     cases h2
     have h3 := st.rel.obj (ks.length + (id - s.next)) _ (by rw [gN]; exact hq)
     have h4 := gb _ hj
     rw [e] at h4
     exact h3.ren h4 hren h1
   · cases hk : (mkK ks 0 .leaf).get id with
     | some i =>
      have hi := hp.tk hk
      have hlt : i < ks.length := (List.getElem?_eq_some_iff.1 hi).1
      obtain ⟨q, o1, a, b, c⟩ := hp.at hi
      rcases G2 i id hi with ⟨h1, h2⟩ | ⟨u, u', h1, h2, h3⟩
      · rw [ho, a] at h2
        cases h2
        rcases fullE_get hchg i o1 b with ⟨_, d⟩ | ⟨_, d, _⟩
        · exact (st.rel.obj i o1 (by rw [gF i hlt]; exact d)).unren hk hun c
        · rw [h1] at d; cases d
      · rw [ho] at h3
        cases h3
        rcases fullE_get hchg i o1 b with ⟨d, _⟩ | ⟨q', d, d', _, _⟩
        · rw [h1] at d; cases d
        · rw [h1] at d; cases d
          exact (st.rel.obj i _ (by rw [gF i hlt]; exact d')).ren (ga i id hi) hren h2
     | none =>
      rw [G3 id (hkn id hk) hrg] at ho
      exact (hs.obj id o ho).mono hle fun k x e => H id k x e hk
 · intro id k x e
   rcases hψ id k x e with ⟨j, hj, rfl, e1⟩ | ⟨i, hi, e1⟩ | ⟨hk, hrg, e1⟩
   · obtain ⟨o', _, h2⟩ := G1 j _ (List.getElem?_eq_getElem hj)
     exact ⟨by rw [h2]; rfl, (st.rel.dom _ _ _ e1).2⟩
   · refine ⟨?_, (st.rel.dom _ _ _ e1).2⟩
     obtain ⟨q, _, a, _, _⟩ := hp.at hi
     rcases G2 i id hi with ⟨_, h⟩ | ⟨_, _, _, _, h⟩
     · rw [h, a]; rfl
     · rw [h]; rfl
   · rw [G3 id (hkn id hk) hrg]
     have := hs.dom _ _ _ e1
     exact ⟨this.1, Nat.lt_of_lt_of_le this.2 st.size⟩
 · intro id k x id' k' x' e e' hb
   rcases hψ id k x e with ⟨j, hj, rfl, e1⟩ | ⟨i, hi, e1⟩ | ⟨hk, hrg, e1⟩
   · rcases hψ id' k' x' e' with ⟨j', hj', rfl, e1'⟩ | ⟨i', hi', e1'⟩ | ⟨hk', hrg', e1'⟩
     · rcases st.rel.inj _ _ _ _ _ _ e1 e1' hb with ⟨h, h'⟩ | ⟨h, _⟩
       · exact .inl ⟨by omega, h'⟩
       · exact absurd h (hroNew j)
     · rcases st.rel.inj _ _ _ _ _ _ e1 e1' hb with ⟨h, h'⟩ | ⟨h, _⟩
       · have := (List.getElem?_eq_some_iff.1 hi').1
         omega
       · exact absurd h (hroNew j)
     · have h1 := hfreshNew _ _ _ e1
       have h2 := (hs.dom _ _ _ e1').2
       omega
   · rcases hψ id' k' x' e' with ⟨j', hj', rfl, e1'⟩ | ⟨i', hi', e1'⟩ | ⟨hk', hrg', e1'⟩
     · rcases st.rel.inj _ _ _ _ _ _ e1 e1' hb with ⟨h, h'⟩ | ⟨_, h⟩
       · have := (List.getElem?_eq_some_iff.1 hi).1
         omega
       · exact absurd h (hroNew j')
     · exact inj1 _ _ _ _ _ _ _ _ hi hi' e1 e1' hb
     · exact .inr (inj2 _ _ _ _ _ _ _ hi hk' e1 e1' hb)
   · rcases hψ id' k' x' e' with ⟨j', hj', rfl, e1'⟩ | ⟨i', hi', e1'⟩ | ⟨hk', hrg', e1'⟩
     · have h1 := hfreshNew _ _ _ e1'
       have h2 := (hs.dom _ _ _ e1).2
       omega
     · exact .inr (inj2 _ _ _ _ _ _ _ hi' hk e1' e1 hb.symm).symm
     · rcases hs.inj _ _ _ _ _ _ e1 e1' hb with h | ⟨h, h'⟩
       · exact .inl h
       · exact .inr ⟨hroN _ h, hroN _ h'⟩
 · intro id k x cs lo inc ro e ho
   rcases hψ id k x e with ⟨j, hj, rfl, e1⟩ | ⟨i, hi, e1⟩ | ⟨hk, hrg, e1⟩
   · obtain ⟨o', h1, h2⟩ := G1 j _ (List.getElem?_eq_getElem hj)
     rw [ho] at h2
     cases h2
     obtain ⟨cs', h3⟩ := AObj.ren_cells h1
     exact st.rel.incs _ _ _ _ _ _ _ e1 (by rw [gN, List.getElem?_eq_getElem hj, h3])
   · have hlt : i < ks.length := (List.getElem?_eq_some_iff.1 hi).1
     obtain ⟨q, o1, a, b, c⟩ := hp.at hi
     rcases G2 i id hi with ⟨h1, h2⟩ | ⟨u, u', h1, h2, h3⟩
     · rw [ho, a] at h2
       cases h2
       obtain ⟨cs', rfl⟩ := AObj.ren_ro c
       rcases fullE_get hchg i _ b with ⟨_, d⟩ | ⟨_, d, _⟩
       · exact st.rel.incs _ _ _ _ _ _ _ e1 (by rw [gF i hlt]; exact d)
       · rw [h1] at d; cases d
     · rw [ho] at h3
       cases h3
       obtain ⟨cs', rfl⟩ := AObj.ren_cells h2
       rcases fullE_get hchg i _ b with ⟨d, _⟩ | ⟨q', d, d', _, _⟩
       · rw [h1] at d; cases d
       · rw [h1] at d; cases d
         exact st.rel.incs _ _ _ _ _ _ _ e1 (by rw [gF i hlt]; exact d')
   · rw [G3 id (hkn id hk) hrg] at ho
     exact hs.incs _ _ _ _ _ _ _ e1 ho
 · intro id k x t e ht
   rcases hψ id k x e with ⟨j, hj, rfl, e1⟩ | ⟨i, hi, e1⟩ | ⟨hk, hrg, e1⟩
   · exact st.rel.typ _ _ _ _ e1 ht
   · exact st.rel.typ _ _ _ _ e1 ht
   · have h := hs.typ _ _ _ _ e1 ht
     exact ⟨(shape_of_same (H id k x e1 hk)).trans h.1, h.2⟩
 · intro id k x e hr
   cases hk : (mkK ks 0 .leaf).get id with
   | some i => exact st.ro i k x (hsub _ _ _ _ (hp.tk hk) e) ((hp.isRo (hp.tk hk)).2 hr)
   | none => exact H id k x e hk
 · intro id k x e
   rcases hψ id k x e with ⟨j, hj, rfl, e1⟩ | ⟨i, hi, e1⟩ | ⟨hk, hrg, e1⟩
   · exact .inr (hfreshNew _ _ _ e1)
   · rcases st.fresh _ _ _ e1 with h | h
     · exact .inl (hIm _ h)
     · exact .inr h
   · exact .inl ⟨id, k, x, e1, rfl⟩
 · intro id k x e hr
   rcases hψ id k x e with ⟨j, hj, rfl, e1⟩ | ⟨i, hi, e1⟩ | ⟨hk, hrg, e1⟩
   · obtain ⟨cs, lo, inc, h⟩ := hr
     rw [hf _ (by omega) (by omega)] at h
     cases h
   · have := st.roOld _ _ _ e1 ((hp.isRo hi).2 hr)
     obtain ⟨id', h1, h2⟩ := subPhi_some this
     rw [hi] at h1; cases h1
     exact h2
   · exact e1
end Go.V
/- MEMO HOOKS of calls whose arguments are addresses: the hook is right, and tame. -/
namespace Go.V
open Go Go.RowKit

theorem chkE_spec {T : Tab} {rec : Rec} {f : FuncId} {E : Ent} (h : chkE T rec f E = true) : chgOk E.objs E.outs = true ∧ E.news.all notRo = true ∧ ∃ v1 s1, callF T rec f E.args (mkSt E.objs) = .val v1 s1 ∧
 ∀ φ0 φ1 w w', RelSt φ0 (mkSt E.objs) w → Step φ0 (mkSt E.objs) w φ1 s1 w' → ∃ φ', Step φ0 (mkSt E.objs) w φ' (mkSt (fullE E.objs E.outs ++ E.news)) w' ∧ ∀ c, VRel φ1 v1 c → VRel φ' E.v c := by
 unfold chkE at h
 split at h
 · rename_i v1 s1 hcall
   split at h
   · cases h
   · rename_i ks hks
     simp only [Bool.and_eq_true] at h
     obtain ⟨h1, h⟩ := h
     split at h
     · cases h
     · rename_i v' hv
       simp only [Bool.and_eq_true] at h
       obtain ⟨h2, h⟩ := h
       split at h
       · cases h
       · rename_i l hl
         simp only [Bool.and_eq_true] at h
         obtain ⟨h3, h4, h5⟩ := h
         refine ⟨h4, h5, v1, s1, hcall, fun φ0 φ1 w w' hs st => ?_⟩
         have hv' := AV.beq_eq h2
         have hl' := objsBeq_eq h3
         subst hv'
         have hnd := reachK_nodup _ .nil (fun i hi => by cases hi) hks
         obtain ⟨g1, g2⟩ := renList_get hl
         rw [← hl']
         have hm := (fullE_length h4).1
         have hpre : ∀ id, id < E.objs.length → ks[id]? = some id := by
          intro id hid
          have := prefB_get h1 id (0 + id) (upFrom_get _ _ _ hid)
          rwa [Nat.zero_add] at this
         have hK : ∀ i id, ks[i]? = some id → (mkK ks 0 .leaf).get id = some i := by
          intro i id e
          have := mkK_at ks 0 .leaf hnd i id e
          simpa using this
         obtain ⟨φ', st', hr⟩ := gc_step (s' := mkSt l) hs st (mkK ks 0 .leaf) (fun i => ks[i]?) hK
          (fun id i e => by
           have := mkK_get ks [] .leaf (by simp) id i (by simpa using e)
           simpa using this)
          (fun id hid => by
           rw [mkSt_get] at hid
           cases hq : E.objs[id]? with
           | none => rw [hq] at hid; cases hid
           | some q => exact hK _ _ (hpre id (List.getElem?_eq_some_iff.1 hq).1))
          (fun i id e => by
           have hi : i < l.length := by rw [g1]; exact (List.getElem?_eq_some_iff.1 e).1
           have ho : l[i]? = some l[i] := List.getElem?_eq_getElem hi
           obtain ⟨id', q, e', hq, hren⟩ := g2 i l[i] ho
           rw [e] at e'; cases e'
           exact ⟨q, l[i], hq, by rw [mkSt_get]; exact ho, .inl hren⟩)
          (fun i o' ho => by
           rw [mkSt_get] at ho
           obtain ⟨id', q, e', hq, hren⟩ := g2 i o' ho
           exact ⟨id', e'⟩)
          (fun id ⟨cs, lo, inc, e⟩ => by
           rw [mkSt_get] at e
           have hlt := (List.getElem?_eq_some_iff.1 e).1
           rw [mkSt_get, mkSt_get, e, hl', List.getElem?_append_left (by omega)]
           rcases fullE_get h4 id _ e with ⟨_, d⟩ | ⟨_, _, _, d, _⟩
           · exact d
           · cases d)
         exact ⟨φ', st', fun c hc => hc.ren hr hv⟩
 · cases h

theorem findE_spec {a : List AV} {os : List AObj} : ∀ {l : List Ent} {E : Ent}, findE a os l = some E → E ∈ l ∧ a = E.args ∧ os = E.objs
 | [], _, h => by cases h
 | F :: l, E, h => by
  simp only [findE] at h
  split at h
  · rename_i h1
    split at h
    · rename_i h2
      cases h
      exact ⟨by simp, AV.beqs_eq h1, objsBeq_eq h2⟩
    · obtain ⟨x, y⟩ := findE_spec h
      exact ⟨List.mem_cons_of_mem _ x, y⟩
  · obtain ⟨x, y⟩ := findE_spec h
    exact ⟨List.mem_cons_of_mem _ x, y⟩

structure MemoA (pre : List Nat) (tbl : List Ent) (args : List AV) (s : St) (v : AV) (s' : St) where
 ks : List Nat
 E : Ent
 s1 : St
 hks : reachK s.heap 100000 (pre ++ idsOfs args) .leaf 0 [] = some ks
 hpre : prefB pre ks = true
 hargs : AV.rens (mkK ks 0 .leaf) args = some E.args
 hobjs : renList (mkK ks 0 .leaf) s.heap ks = some E.objs
 hfind : findE E.args E.objs tbl = some E
 hv : AV.ren (mkI (ks ++ upFrom E.news.length s.next) 0 .leaf) E.v = some v
 hput : putOuts (mkI (ks ++ upFrom E.news.length s.next) 0 .leaf) ks E.outs s = some s1
 hadd : addNews (mkI (ks ++ upFrom E.news.length s.next) 0 .leaf) E.news s1 = some s'

theorem memoAH_spec {pre : List Nat} {tbl : List Ent} {args : List AV} {s s' : St} {v : AV} (h : memoAH pre tbl args s = some (v, s')) : Nonempty (MemoA pre tbl args s v s') := by
 unfold memoAH at h
 cases h1 : reachK s.heap 100000 (pre ++ idsOfs args) .leaf 0 [] with
 | none => rw [h1] at h; cases h
 | some ks =>
  rw [h1] at h
  simp only [] at h
  cases h2 : prefB pre ks with
  | false => rw [h2] at h; cases h
  | true =>
   rw [h2] at h
   simp only [] at h
   cases h3 : AV.rens (mkK ks 0 .leaf) args with
   | none => rw [h3] at h; cases h
   | some a =>
    rw [h3] at h
    simp only [] at h
    cases h4 : renList (mkK ks 0 .leaf) s.heap ks with
    | none => rw [h4] at h; cases h
    | some os =>
     rw [h4] at h
     simp only [] at h
     cases h5 : findE a os tbl with
     | none => rw [h5] at h; cases h
     | some E =>
      rw [h5] at h
      simp only [] at h
      obtain ⟨_, rfl, rfl⟩ := findE_spec h5
      unfold applyE at h
      cases h6 : AV.ren (mkI (ks ++ upFrom E.news.length s.next) 0 .leaf) E.v with
      | none => rw [h6] at h; cases h
      | some v1 =>
       rw [h6] at h
       simp only [] at h
       cases h7 : putOuts (mkI (ks ++ upFrom E.news.length s.next) 0 .leaf) ks E.outs s with
       | none => rw [h7] at h; cases h
       | some s1 =>
        rw [h7] at h
        simp only [] at h
        cases h8 : addNews (mkI (ks ++ upFrom E.news.length s.next) 0 .leaf) E.news s1 with
        | none => rw [h8] at h; cases h
        | some s2 =>
         rw [h8] at h
         cases h
         exact ⟨⟨ks, E, s1, h1, h2, h3, h4, h5, h6, h7, h8⟩⟩

theorem memoAH_of {pre : List Nat} {tbl : List Ent} {args : List AV} {s s' : St} {v : AV} (h : MemoA pre tbl args s v s') : memoAH pre tbl args s = some (v, s') := by
 unfold memoAH applyE
 simp only [h.hks, h.hpre, h.hargs, h.hobjs, h.hfind, h.hv, h.hput, h.hadd]

theorem MemoA.part {pre : List Nat} {tbl : List Ent} {args : List AV} {s s' : St} {v : AV} (h : MemoA pre tbl args s v s') : Part h.ks s h.E.objs :=
 ⟨reachK_nodup _ .nil (fun i hi => by cases hi) h.hks, h.hobjs⟩

/-- The hook is right where each row told is what the call comes to in its own state. -/
theorem memoA_ok {P P0 : Prog} (hp : P0.toProgram = P.toProgram) {pre : List Nat} (hG : ∀ g, g ∈ P0.G → pre[g]? = some g ∧ g ∈ P.G) {T : Tab} {rec : Rec} (hF : FuncsOk P0 T rec) (f : FuncId) (tbl : List Ent)
 (h : ∀ E, E ∈ tbl → chkE T rec f E = true) : HookOk P f fun args s => ofBoth (memoAH pre tbl args s) := by
 intro args s r hres hne φ w cargs hgl hs ha hf
 obtain ⟨v, s2, hm, rfl⟩ := ofBoth_ne hres hne
 obtain ⟨m⟩ := memoAH_spec hm
 have hpart := m.part
 obtain ⟨hmem, _, _⟩ := findE_spec m.hfind
 obtain ⟨hchg, hnew, v1, s1, hcall, hspec⟩ := chkE_spec (h _ hmem)
 have hs0 := sub_rel hs hpart
 have hnext : s2.next = s.next + m.E.news.length := by
  have h1 := (putOuts_spec hpart.nodup m.hput).1
  have h2 := (addNews_spec m.hadd).1
  omega
 have hgl0 : GlobOk P0 (subPhi m.ks φ) := by
  intro g hg
  obtain ⟨h1, h2⟩ := hG g hg
  obtain ⟨x, e, h3, h4, h5, h6⟩ := hgl g h2
  refine ⟨x, ?_, h3, h4, h5, ?_, h6.2⟩
  · simp only [subPhi, prefB_get m.hpre g g h1]
    exact e
  · intro gl n q1 q2
    have e1 : P0.globals = P.globals := by rw [hp]
    have e2 : szOf P0 gl.type = szOf P gl.type := by unfold szOf; rw [hp]
    rw [e1] at q1
    rw [e2] at q2
    exact h6.1 gl n q1 q2
 have ha0 := VRels.ren (hpart.renPhi φ) ha m.hargs
 intro o a next Q hk
 have key := hF f m.E.args (mkSt m.E.objs) _ hcall (by simp) (subPhi m.ks φ) w cargs hgl0 hs0 ha0 (fun id h1 _ => by
  rw [mkSt_get]
  exact List.getElem?_eq_none h1) o a next Q (by
  intro c w' φ1 st hv
  obtain ⟨φ2, st2, hv2⟩ := hspec _ φ1 w w' hs0 st
  obtain ⟨ψ, hr, st3⟩ := merge_step hs hpart hchg hnew st2 m.hput m.hadd (fun id h1 h2 => hf id h1 (by show id < s2.next; omega))
  exact hk c w' ψ st3 ((hv2 c hv).ren hr m.hv))
 rw [hp] at key
 exact key

theorem renList_put {K : Tree Nat} {s : St} {b : Nat} {o : AObj} (hb : s.heap.get b = none) : ∀ {l : List Nat} {r : List AObj}, renList K s.heap l = some r → renList K (s.put b o).heap l = some r
 | [], _, e => e
 | k :: l, r, e => by
  simp only [renList] at e ⊢
  cases hk : s.heap.get k with
  | none => rw [hk] at e; cases e
  | some q =>
   rw [hk] at e
   have h1 : (s.put b o).heap.get k = some q := by
    show (s.heap.set b o).get k = _
    rw [Tree.get_set_ne _ _ (by rintro rfl; rw [hb] at hk; cases hk)]
    exact hk
   rw [h1]
   simp only [] at e ⊢
   cases h2 : AObj.ren K q with
   | none => rw [h2] at e; cases e
   | some q' =>
    rw [h2] at e
    cases h3 : renList K s.heap l with
    | none => rw [h3] at e; cases e
    | some r' => rw [h3] at e; rw [renList_put hb h3]; exact e

theorem putOuts_put {K : Tree Nat} {b : Nat} {o : AObj} : ∀ {ks : List Nat} {os : List (Option AObj)} {s s' : St}, b ∉ ks → putOuts K ks os s = some s' → putOuts K ks os (s.put b o) = some (s'.put b o)
 | [], [], s, s', _, e => by cases e; rfl
 | [], _ :: _, _, _, _, e => by cases e
 | _ :: _, [], _, _, _, e => by cases e
 | k :: ks, q :: os, s, s', hn, e => by
  have h1 : b ∉ ks := fun h => hn (List.mem_cons_of_mem _ h)
  have h2 : b ≠ k := fun h => hn (by simp [h])
  cases q with
  | none =>
   simp only [putOuts] at e ⊢
   exact putOuts_put h1 e
  | some q =>
   simp only [putOuts] at e ⊢
   cases hq : AObj.ren K q with
   | none => rw [hq] at e; cases e
   | some q' =>
    rw [hq] at e
    simp only [] at e ⊢
    have : (s.put b o).put k q' = (s.put k q').put b o := by
     simp only [St.put]
     rw [set_comm _ _ _ h2]
    rw [this]
    exact putOuts_put h1 e

theorem addNews_put {K : Tree Nat} {b : Nat} {o : AObj} : ∀ {l : List AObj} {s s' : St}, ¬ (s.next ≤ b ∧ b < s.next + l.length) → addNews K l s = some s' → addNews K l (s.put b o) = some (s'.put b o)
 | [], s, s', _, e => by cases e; rfl
 | q :: l, s, s', hn, e => by
  simp only [addNews] at e ⊢
  cases hq : AObj.ren K q with
  | none => rw [hq] at e; cases e
  | some q' =>
   rw [hq] at e
   simp only [List.length_cons] at e hn ⊢
   have : (s.put b o).add q' = (s.add q').put b o := by
    simp only [St.put, St.add]
    rw [set_comm _ _ _ (by omega)]
   rw [this]
   exact addNews_put (by show ¬ (s.next + 1 ≤ b ∧ b < s.next + 1 + l.length); omega) e

theorem memoA_tame (pre : List Nat) (tbl : List Ent) (args : List AV) (s : St) : Tame s (fun s => ofBoth (memoAH pre tbl args s)) := by
 intro hn
 cases hm : memoAH pre tbl args s with
 | none => simp [hm, ofBoth] at hn
 | some p =>
  obtain ⟨v, s2⟩ := p
  simp only [hm, ofBoth, Res.st, Res.to]
  obtain ⟨m⟩ := memoAH_spec hm
  have hpart := m.part
  obtain ⟨p1, p2, p3⟩ := putOuts_spec hpart.nodup m.hput
  obtain ⟨a1, a2, a3⟩ := addNews_spec m.hadd
  rw [p1] at a1 a2 a3
  have hin : ∀ k, k ∈ m.ks → (s.heap.get k).isSome = true := reachK_in _ (fun i hi => by cases hi) m.hks
  have old : ∀ id, ¬ (s.next ≤ id ∧ id < s.next + m.E.news.length) → ((s2.heap.get id).isSome = true ↔ (s.heap.get id).isSome = true) := by
   intro id h
   rw [a2 id h]
   by_cases hk : id ∈ m.ks
   · obtain ⟨i, hi⟩ := List.mem_iff_getElem?.1 hk
     rcases p3 i id hi with ⟨_, e⟩ | ⟨_, _, _, _, e⟩
     · rw [e]
     · rw [e]; simp [hin id hk]
   · rw [p2 id hk]
  refine ⟨⟨by omega, fun id hid => ?_, fun id hid => ?_⟩, fun b o hb hnb => ?_⟩
  · by_cases h : s.next ≤ id ∧ id < s.next + m.E.news.length
    · have hj : id - s.next < m.E.news.length := by omega
      obtain ⟨o', _, h2⟩ := a3 _ _ (List.getElem?_eq_getElem hj)
      have e : s.next + (id - s.next) = id := by omega
      rw [e] at h2
      rw [h2]; rfl
    · exact (old id h).2 hid
  · by_cases h : s.next ≤ id ∧ id < s.next + m.E.news.length
    · exact .inr ⟨h.1, by omega⟩
    · exact .inl ((old id h).1 hid)
  · have hbk : b ∉ m.ks := fun h => by have := hin b h; rw [hb] at this; cases this
    have : memoAH pre tbl args (s.put b o) = some (v, s2.put b o) := memoAH_of ⟨m.ks, m.E, m.s1.put b o, reachK_put hb _ m.hks, m.hpre, m.hargs, renList_put hb m.hobjs, m.hfind, m.hv, putOuts_put hbk m.hput, addNews_put (by rw [p1]; omega) m.hadd⟩
    rw [this]

theorem EntryOk2.memoA {P P0 : Prog} (hm : P0.follows .mixedOrders = true) (hp : P0.toProgram = P.toProgram) {pre : List Nat} (hG : ∀ g, g ∈ P0.G → pre[g]? = some g ∧ g ∈ P.G) {T : Tab} (h : TabFine P0 T) (n : Nat) (f : Nat) (tbl : List Ent)
 (hc : ∀ E, E ∈ tbl → chkE T (evalF T n) f E = true) : EntryOk2 P f (.hook (memoAH pre tbl)) :=
 .hook (memoA_ok hp hG (by rw [evalF_eq]; exact eval_sound hm h.ok h.tame n) f tbl hc) (fun args s => memoA_tame pre tbl args s)

theorem all_cons {p : Ent → Bool} {E : Ent} {l : List Ent} (h : p E = true) (k : ∀ F, F ∈ l → p F = true) : ∀ F, F ∈ E :: l → p F = true := fun F hF => by
 rcases List.mem_cons.1 hF with rfl | hF
 · exact h
 · exact k F hF
end Go.V
/- Tables as trees; a number at which nothing lies. -/
namespace Go.V
open Go Go.RowKit

def treeOf : List (Nat × FnImp) → Tree FnImp
 | [] => .leaf
 | (f, i) :: l => (treeOf l).set f i
theorem treeOf_get (f : Nat) : ∀ l : List (Nat × FnImp), (treeOf l).get f = lookT f l
 | [] => rfl
 | (g, i) :: l => by
  simp only [treeOf, lookT, Tree.get_set, treeOf_get f l]
  by_cases h : f = g
  · subst h; simp
  · rw [if_neg h]
    have : Nat.beq g f = false := by
     cases hb : Nat.beq g f with
     | false => rfl
     | true => exact absurd (by simpa using hb : g = f).symm h
    rw [this]
noncomputable def tabT (t : Tree FnImp) : Tab := fun f => getF t f
theorem tabT_eq {l : List (Nat × FnImp)} {t : Tree FnImp} (h : treeOf l = t) : tabT t = tabL l := by
 funext f
 simp only [tabT, tabL, getF_eq, ← h, treeOf_get]

def gdummy (d : Nat) (s : St) : St := s.put d (.cells [] 0 0 true)
theorem gdummy_step {W : World} {φ : Phi} {s : St} (h : RelSt φ s W) (hr : AllRo s) (hw : WFS s) {g d : Nat} {arr : Array Value} {el : TypeId} {fz : Nat × Nat} (hh : W.heap[g]? = some (.cells arr el fz)) (hd : Nat.blt d s.next = true) (hf : (match s.heap.get d with | none => true | some _ => false) = true) :
 ∃ φ', Imp W φ s φ' (gdummy d s) := by
 have hf' : s.heap.get d = none := by
  cases hh : s.heap.get d with
  | none => rfl
  | some _ => rw [hh] at hf; cases hf
 refine ⟨_, imp_put h hr hw (by simpa using hd) hf' [] ⟨g, 0, 0, 0, arr.size⟩ (Array.getElem?_eq_some_iff.1 hh).1 fun φ' hle hX => ?_⟩
 refine ⟨Nat.le_refl _, fun k hk hk' => ?_⟩
 obtain rfl : k = 0 := by omega
 exact ⟨_, hX, arr, el, fz, hh, rfl, (fun h => by cases h), Nat.le_refl _, Nat.le_refl _, fun _ => rfl, Nat.zero_le _, fun j v _ hj hv' => absurd hj (Nat.not_lt_zero _)⟩
end Go.V
/- A listed variable that holds an error's text. -/
namespace Go.V
open Go Go.RowKit Go.ChangeShapes Go.WideShapes Go.ChangeAt

def gsent (g tp : Nat) (text : List UInt8) (s : St) : St := (s.add (.cells [.str text] 0 0 true)).put g (.cells [.iface tp (.ptr ⟨s.next, 0, 0, 1⟩)] 0 0 true)

end Go.V
