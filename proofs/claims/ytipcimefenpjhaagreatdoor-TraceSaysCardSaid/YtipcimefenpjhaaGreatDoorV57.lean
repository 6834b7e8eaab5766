/- MEMO HOOKS of calls whose arguments are addresses: a call in a state that holds just what the arguments reach, told beforehand. Definitions, and the parts of the state. -/
import Derived.Test.YtipcimefenpjhaaGreatDoorV56
set_option linter.unusedVariables false
set_option linter.unusedSimpArgs false
set_option linter.unusedSectionVars false
/- MEMO HOOKS of calls whose arguments are addresses: a call in a state that holds just what the arguments reach, told beforehand. Definitions, and the parts of the state. -/
namespace Go.V
open Go Go.RowKit

/-- What is reached, each once; none where something is not there. -/
def reachK (h : Tree AObj) : Nat → List Nat → Tree Nat → Nat → List Nat → Option (List Nat)
  | 0, _, _, _, _ => none
  | f + 1, todo, kt, n, acc => match todo with
    | [] => some acc.reverse
    | i :: l => match kt.get i with
      | some _ => reachK h f l kt n acc
      | none => match h.get i with
        | some o => reachK h f (l ++ idsObj o) (kt.set i n) (n + 1) (i :: acc)
        | none => none

structure Ent where
  args : List AV
  objs : List AObj
  v : AV
  outs : List (Option AObj)
  news : List AObj

def mkI : List Nat → Nat → Tree Nat → Tree Nat
  | [], _, t => t
  | k :: l, i, t => mkI l (i + 1) (t.set i k)

def upFrom : Nat → Nat → List Nat
  | 0, _ => []
  | n + 1, k => k :: upFrom n (k + 1)

def putOuts (K : Tree Nat) : List Nat → List (Option AObj) → St → Option St
  | k :: ks, o :: os, s => match o with
    | none => putOuts K ks os s
    | some o => match AObj.ren K o with
      | some o' => putOuts K ks os (s.put k o')
      | none => none
  | [], [], s => some s
  | _, _, _ => none

def addNews (K : Tree Nat) : List AObj → St → Option St
  | [], s => some s
  | o :: l, s => match AObj.ren K o with
    | some o' => addNews K l (s.add o')
    | none => none

def applyE (E : Ent) (ks : List Nat) (s : St) : Option (AV × St) :=
  match AV.ren (mkI (ks ++ upFrom E.news.length s.next) 0 .leaf) E.v with
  | none => none
  | some v => match putOuts (mkI (ks ++ upFrom E.news.length s.next) 0 .leaf) ks E.outs s with
    | none => none
    | some s1 => match addNews (mkI (ks ++ upFrom E.news.length s.next) 0 .leaf) E.news s1 with
      | none => none
      | some s2 => some (v, s2)

def findE (a : List AV) (os : List AObj) : List Ent → Option Ent
  | [] => none
  | E :: l => match AV.beqs a E.args with
    | true => match compOk.objsBeq os E.objs with
      | true => some E
      | false => findE a os l
    | false => findE a os l

def prefB : List Nat → List Nat → Bool
  | [], _ => true
  | p :: l, k :: ks => match Nat.beq p k with
    | true => prefB l ks
    | false => false
  | _ :: _, [] => false

def memoAH (pre : List Nat) (tbl : List Ent) (args : List AV) (s : St) : Option (AV × St) :=
  match reachK s.heap 100000 (pre ++ idsOfs args) .leaf 0 [] with
  | none => none
  | some ks => match prefB pre ks with
    | false => none
    | true => match AV.rens (mkK ks 0 .leaf) args with
      | none => none
      | some a => match renList (mkK ks 0 .leaf) s.heap ks with
        | none => none
        | some os => match findE a os tbl with
          | none => none
          | some E => applyE E ks s

/-- The objects behind the call: the old ones, changed or not, and the new ones. -/
def fullE : List AObj → List (Option AObj) → List AObj
  | o :: l, q :: m => (match q with | some q => q | none => o) :: fullE l m
  | _, _ => []
def chgOk : List AObj → List (Option AObj) → Bool
  | o :: l, q :: m => (match q with | some q => notRo o && notRo q | none => true) && chgOk l m
  | [], [] => true
  | _, _ => false

def chkE (T : Tab) (rec : Rec) (f : FuncId) (E : Ent) : Bool :=
  match callF T rec f E.args (mkSt E.objs) with
  | .val v s1 => match reachK s1.heap 100000 (upFrom E.objs.length 0 ++ idsOf v) .leaf 0 [] with
    | none => false
    | some ks => prefB (upFrom E.objs.length 0) ks && (match AV.ren (mkK ks 0 .leaf) v with
      | none => false
      | some v' => AV.beq v' E.v && (match renList (mkK ks 0 .leaf) s1.heap ks with
        | none => false
        | some l => compOk.objsBeq l (fullE E.objs E.outs ++ E.news) && (chgOk E.objs E.outs && E.news.all notRo)))
  | _ => false

/- PARTS -/
theorem reachK_nodup {h : Tree AObj} : ∀ (f : Nat) {todo : List Nat} {kt : Tree Nat} {n : Nat} {acc ks : List Nat}, acc.Nodup → (∀ i, i ∈ acc → (kt.get i).isSome = true) → reachK h f todo kt n acc = some ks → ks.Nodup
  | 0, _, _, _, _, _, _, _, e => by cases e
  | f + 1, todo, kt, n, acc, ks, hn, hk, e => by
    simp only [reachK] at e
    split at e
    · cases e
      unfold List.Nodup
      rw [List.pairwise_reverse]
      exact hn.imp (fun h => h.symm)
    · rename_i i l
      split at e
      · exact reachK_nodup f hn hk e
      · rename_i hi
        split at e
        · refine reachK_nodup f (List.nodup_cons.2 ⟨fun hm => ?_, hn⟩) (fun j hj => ?_) e
          · have := hk i hm
            rw [hi] at this
            cases this
          · rw [Tree.get_set]
            split
            · rfl
            · rename_i hne
              rcases List.mem_cons.1 hj with rfl | hj
              · exact absurd rfl hne
              · exact hk j hj
        · cases e

theorem reachK_in {h : Tree AObj} : ∀ (f : Nat) {todo : List Nat} {kt : Tree Nat} {n : Nat} {acc ks : List Nat}, (∀ i, i ∈ acc → (h.get i).isSome = true) → reachK h f todo kt n acc = some ks → ∀ i, i ∈ ks → (h.get i).isSome = true
  | 0, _, _, _, _, _, _, e => by cases e
  | f + 1, todo, kt, n, acc, ks, hk, e => by
    simp only [reachK] at e
    split at e
    · cases e
      intro i hi
      exact hk i (List.mem_reverse.1 hi)
    · rename_i i l
      split at e
      · exact reachK_in f hk e
      · split at e
        · rename_i o ho
          refine reachK_in f (fun j hj => ?_) e
          rcases List.mem_cons.1 hj with rfl | hj
          · rw [ho]; rfl
          · exact hk j hj
        · cases e

/-- One more object that nothing reaches does not matter. -/
theorem reachK_put {s : St} {b : Nat} {o : AObj} (hb : s.heap.get b = none) : ∀ (f : Nat) {todo : List Nat} {kt : Tree Nat} {n : Nat} {acc ks : List Nat}, reachK s.heap f todo kt n acc = some ks → reachK (s.put b o).heap f todo kt n acc = some ks
  | 0, _, _, _, _, _, e => by cases e
  | f + 1, todo, kt, n, acc, ks, e => by
    simp only [reachK] at e ⊢
    cases todo with
    | nil => exact e
    | cons i l =>
      simp only [] at e ⊢
      cases hi : kt.get i with
      | some _ =>
        rw [hi] at e
        exact reachK_put hb f e
      | none =>
        rw [hi] at e
        simp only [] at e ⊢
        cases hq : s.heap.get i with
        | none => rw [hq] at e; cases e
        | some q =>
          rw [hq] at e
          have : (s.put b o).heap.get i = some q := by
            show (s.heap.set b o).get i = _
            rw [Tree.get_set_ne _ _ (by rintro rfl; rw [hb] at hq; cases hq)]
            exact hq
          rw [this]
          exact reachK_put hb f e

theorem mkI_get : ∀ (l : List Nat) (i : Nat) (t : Tree Nat) (j : Nat), (mkI l i t).get j = if i ≤ j ∧ j < i + l.length then l[j - i]? else t.get j
  | [], i, t, j => by
    simp only [mkI, List.length_nil, Nat.add_zero]
    rw [if_neg (by omega)]
  | k :: l, i, t, j => by
    simp only [mkI]
    rw [mkI_get l]
    simp only [Tree.get_set, List.length_cons]
    by_cases h1 : j = i
    · subst h1
      rw [if_neg (by omega), if_pos rfl, if_pos (by omega)]
      simp
    · by_cases h2 : i + 1 ≤ j ∧ j < i + 1 + l.length
      · rw [if_pos h2, if_pos (by omega)]
        have : j - i = (j - (i + 1)) + 1 := by omega
        rw [this, List.getElem?_cons_succ]
      · rw [if_neg h2, if_neg h1, if_neg (by omega)]

theorem upFrom_length : ∀ (n k : Nat), (upFrom n k).length = n
  | 0, _ => rfl
  | n + 1, k => by simp [upFrom, upFrom_length n]
theorem upFrom_get : ∀ (n k j : Nat), j < n → (upFrom n k)[j]? = some (k + j)
  | 0, _, _, h => by omega
  | n + 1, k, 0, _ => by simp [upFrom]
  | n + 1, k, j + 1, h => by
    simp only [upFrom, List.getElem?_cons_succ]
    rw [upFrom_get n (k + 1) j (by omega)]
    congr 1; omega

theorem prefB_get : ∀ {p ks : List Nat}, prefB p ks = true → ∀ (i k : Nat), p[i]? = some k → ks[i]? = some k
  | [], _, _, i, k, e => by simp at e
  | p :: l, [], h, _, _, _ => by cases h
  | p :: l, q :: ks, h, i, k, e => by
    simp only [prefB] at h
    split at h
    · rename_i hb
      have hpq : p = q := by simpa using hb
      cases i with
      | zero => simpa [hpq] using e
      | succ i => simpa using prefB_get h i k (by simpa using e)
    · cases h

theorem fullE_length : ∀ {l : List AObj} {m : List (Option AObj)}, chgOk l m = true → (fullE l m).length = l.length ∧ m.length = l.length
  | [], [], _ => ⟨rfl, rfl⟩
  | [], _ :: _, h => by cases h
  | _ :: _, [], h => by cases h
  | o :: l, q :: m, h => by
    simp only [chgOk, Bool.and_eq_true] at h
    have := fullE_length h.2
    exact ⟨by simp [fullE, this.1], by simp [this.2]⟩
theorem fullE_get : ∀ {l : List AObj} {m : List (Option AObj)}, chgOk l m = true → ∀ (i : Nat) (o : AObj), l[i]? = some o → ((m[i]? = some none ∧ (fullE l m)[i]? = some o) ∨ ∃ q, m[i]? = some (some q) ∧ (fullE l m)[i]? = some q ∧ notRo o = true ∧ notRo q = true)
  | [], [], _, i, o, e => by simp at e
  | [], _ :: _, h, _, _, _ => by cases h
  | _ :: _, [], h, _, _, _ => by cases h
  | o :: l, q :: m, h, i, o', e => by
    simp only [chgOk, Bool.and_eq_true] at h
    cases i with
    | zero =>
      simp at e
      subst e
      cases q with
      | none => exact .inl ⟨by simp, by simp [fullE]⟩
      | some q => exact .inr ⟨q, by simp, by simp [fullE], by simpa using h.1⟩
    | succ i =>
      have := fullE_get h.2 i o' (by simpa using e)
      simpa [fullE] using this
end Go.V
