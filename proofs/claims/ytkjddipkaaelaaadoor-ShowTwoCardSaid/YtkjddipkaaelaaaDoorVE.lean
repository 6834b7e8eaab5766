/- THE ROW's FRAME, for laws whose arguments are only read. -/
import Derived.Test.YtkjddipkaaelaaaDoorVD
import Derived.Test.YtkjddipkaaelaaaDoorV28
import Derived.Carry
import Derived.WideKeyArgs
import Derived.WalkKit
import Derived.ProofKit
import Derived.OpenShut
import GoSem.Extern.MapsClone
import Derived.Deep.Slices
set_option linter.unusedVariables false
set_option linter.unusedSimpArgs false
set_option linter.unusedSectionVars false
/- THE ROW's FRAME, for laws whose arguments are only read. -/
/- THE ROW's FRAME, for laws whose arguments are only read. -/
namespace Go.V
open Go Go.RowKit Go.ChangeShapes Go.WideShapes Go.ChangeAt

section
variable {H : Type} {enc : TypeId × Value → H} {P : Program}

theorem trodAll_stays (hl : laidOutB P = true) {W W' : World} (hb : Below W.heap.size W W') : ∀ {ts : List TypeId} {vs : List Value} {ds : List (DataW H)} {ps : List MemPlace}, (ts.all fun t => P.readableRec t && decide (t < P.types.size)) = true →
    DataW.TrodAll enc P W 0 (fun _ => true) true ts vs ds ps → (∀ x ∈ ps, x.block < W.heap.size) → ∀ sp : Nat → Bool, (∀ p ∈ ps, sp p.block = true) → DataW.TrodAll enc P W' 0 sp true ts vs ds ps
  | [], [], [], ps, _, h, _, _, _ => h
  | t :: ts, v :: vs, d :: ds, ps, ht, h, hlt, sp, hsp => by
    obtain ⟨p, q, h1, h2, rfl⟩ := h
    simp only [List.all_cons, Bool.and_eq_true, decide_eq_true_eq] at ht
    refine ⟨p, q, WideElems.Trod_stays hl ht.1.1 ht.1.2 h1 (fun x hx => hb.same (hlt x (by simp [hx]))) (fun x hx => hsp x (by simp [hx])), trodAll_stays hl hb ht.2 h2 (fun x hx => hlt x (by simp [hx])) sp (fun x hx => hsp x (by simp [hx])), rfl⟩
  | [], _ :: _, _, _, _, h, _, _, _ => h.elim
  | [], [], _ :: _, _, _, h, _, _, _ => h.elim
  | _ :: _, [], _, _, _, h, _, _, _ => h.elim
  | _ :: _, _ :: _, [], _, _, h, _, _, _ => h.elim

/-- A law that answered true and turned nothing that was there: the row's 'post'. -/
theorem law_post {f : Func} {s : ChangeSpec} {apart fresh handsOn again : Bool} {W W' : World} {args : Array Value} {ds gs : List (DataW H)} {before : List MemPlace} {tb : TypeId}
    (hl : laidOutB P = true) (hts : (f.params.toList.all fun t => P.readableRec t && decide (t < P.types.size)) = true) (hrt : f.resultTypes = #[tb]) (htb : P.underlying tb = some .bool)
    (hW : DataW.Whole enc P f.params.toList s.vars apart W args.toList ds gs before) (hv : s.vars = [])
    (hspec : s.fn H (ds ++ gs) = { results := [.lit (.bool true)], args := ds }) (hb : Below W.heap.size W W') :
    s.post enc P f apart fresh handsOn again W args (.bool true) W' := by
  have hW0 := hW
  obtain ⟨p, q, hA, hV, hpq, hfz, hnd⟩ := hW
  rw [hv] at hV
  have hq : q = [] := by
    cases gs with
    | nil => exact hV
    | cons _ _ => exact hV.elim
  subst hq
  have hlt : ∀ x ∈ before, x.block < W.heap.size := fun x hx => hW0.lt x hx
  have hp : before = p := by rw [hpq, List.append_nil]
  subst hp
  refine post_of_below (pa := before) (pv := []) hW0 hb ?_ ?_ ?_ (by simp) ?_
  · intro b sp hd
    rw [hspec, hrt]
    exact trodAll_cons_mk (shut_bool htb _) trodAll_mk0
  · intro sp hsp
    rw [hspec]
    exact trodAll_stays hl hb hts hA hlt sp hsp
  · intro sp _
    rw [hspec, hv]
    exact rfl
  · exact ok_one hrt rfl (okWide_bool_mk htb _)

theorem cell_int {W : World} {r : Reach} {base : Nat} {u : TypeId} {v : Value} {k : IntKind} (hu : P.underlying u = some (.int k)) (h : Cell.okWide P W r base u v) : ∃ n, v = .int k n ∧ k.min ≤ n ∧ n ≤ k.max := by
  unfold Cell.okWide at h
  rw [hu] at h
  have h : Cell.ok P W r base u v := by
    cases v <;> exact h
  unfold Cell.ok at h
  rw [hu] at h
  cases v <;> first | exact h.elim | skip
  obtain ⟨rfl, h1, h2⟩ := h
  exact ⟨_, rfl, h1, h2⟩
theorem cell_bool {W : World} {r : Reach} {base : Nat} {u : TypeId} {v : Value} (hu : P.underlying u = some .bool) (h : Cell.okWide P W r base u v) : ∃ b, v = .bool b := by
  unfold Cell.okWide at h
  rw [hu] at h
  have h : Cell.ok P W r base u v := by
    cases v <;> exact h
  unfold Cell.ok at h
  rw [hu] at h
  cases v <;> first | exact h.elim | skip
  exact ⟨_, rfl⟩
end

theorem wfs0 : WFS s0 := fun _ _ => rfl
end Go.V
/- SOUNDNESS: maps.clone. -/
namespace Go.V
open Go Go.RowKit
end Go.V
/- ARGUMENTS WITH DEPTH that are only read: what reads as data lies in an abstract state. -/
namespace Go.V
open Go Go.RowKit Go.ChangeShapes Go.WideShapes Go.ChangeAt

inductive Ty where
  | bool
  | int (k : IntKind)
  | str
  | slice (t : Ty)
  | struct (ts : List Ty)
  | arr (n : Nat) (t : Ty)

mutual
def tySize : Ty → Nat
  | .struct ts => tySizes ts
  | .arr n t => n * tySize t
  | _ => 1
def tySizes : List Ty → Nat
  | [] => 0
  | t :: ts => tySize t + tySizes ts
end

/-- The type's make, where it is of these; the fields stand one behind the other. -/
def tyOf (P : Program) : Nat → TypeId → Option Ty
  | 0, _ => none
  | n + 1, t => match P.underlying t with
    | some .bool => some .bool
    | some (.int k) => some (.int k)
    | some .string => some .str
    | some (.slice e) => match tyOf P n e with
      | some u => if P.cellsOf e = tySize u ∧ 0 < tySize u then some (.slice u) else none
      | none => none
    | some (.struct fs) => match go n fs.toList 0 with
      | some us => if P.cellsOf t = tySizes us then some (.struct us) else none
      | none => none
    | some (.array k e) => match tyOf P n e with
      | some u => if P.cellsOf e = tySize u ∧ P.cellsOf t = k * tySize u then some (.arr k u) else none
      | none => none
    | _ => none
where go (n : Nat) : List Field → Nat → Option (List Ty)
  | [], _ => some []
  | f :: fs, o => match tyOf P n f.type with
    | some u => if f.offset = o ∧ P.cellsOf f.type = tySize u then (match go n fs (o + tySize u) with | some us => some (u :: us) | none => none) else none
    | none => none

mutual
/-- What lies in the cells, by the make. -/
def Shape (s : St) : Ty → List AV → Prop
  | .bool, l => ∃ b, l = [.bool b]
  | .int k, l => ∃ n, l = [.int k n] ∧ k.min ≤ n ∧ n ≤ k.max
  | .str, l => ∃ b, l = [.str b] ∧ b.length ≤ 9223372036854775807
  | .slice t, l => l = [.nilSlice] ∨ l = [.empty] ∨ ∃ (id len cap : Nat) (cs : List (List AV)), l = [.slice ⟨id, 0, 0, len * tySize t⟩ len cap true (tySize t)] ∧ 0 < len ∧ len ≤ cap ∧ s.heap.get id = some (.cells cs.flatten 0 0 true) ∧ cs.length = len ∧ ∀ c ∈ cs, Shape s t c
  | .struct ts, l => Shapes s ts l
  | .arr n t, l => ∃ cs : List (List AV), l = cs.flatten ∧ cs.length = n ∧ ∀ c ∈ cs, Shape s t c
def Shapes (s : St) : List Ty → List AV → Prop
  | [], l => l = []
  | t :: ts, l => ∃ a b, l = a ++ b ∧ Shape s t a ∧ Shapes s ts b
end

theorem flatten_len {n : Nat} : ∀ {cs : List (List AV)}, (∀ c ∈ cs, c.length = n) → cs.flatten.length = cs.length * n
  | [], _ => by simp
  | c :: cs, h => by
    rw [List.flatten_cons, List.length_append, h c (by simp), flatten_len (fun x hx => h x (by simp [hx])), List.length_cons, Nat.add_mul]
    omega

mutual
theorem Shape.len {s : St} : ∀ {t : Ty} {l : List AV}, Shape s t l → l.length = tySize t
  | .bool, l, h => by simp only [Shape] at h; obtain ⟨b, rfl⟩ := h; rfl
  | .int k, l, h => by simp only [Shape] at h; obtain ⟨b, rfl, _⟩ := h; rfl
  | .str, l, h => by simp only [Shape] at h; obtain ⟨b, rfl, _⟩ := h; rfl
  | .slice t, l, h => by
    simp only [Shape] at h
    rcases h with rfl | rfl | ⟨_, _, _, _, rfl, _⟩ <;> rfl
  | .struct ts, l, h => by simp only [Shape] at h; simp only [tySize]; exact Shapes.len h
  | .arr n t, l, h => by
    simp only [Shape] at h
    obtain ⟨cs, rfl, h1, h2⟩ := h
    rw [flatten_len (fun c hc => Shape.len (h2 c hc)), h1]
    rfl
theorem Shapes.len {s : St} : ∀ {ts : List Ty} {l : List AV}, Shapes s ts l → l.length = tySizes ts
  | [], l, h => by simp only [Shapes] at h; subst h; rfl
  | t :: ts, l, h => by
    simp only [Shapes] at h
    obtain ⟨a, b, rfl, h1, h2⟩ := h
    rw [List.length_append, Shape.len h1, Shapes.len h2]
    rfl
end

mutual
theorem Shape.mono {s s' : St} (hs : ∀ id o, s.heap.get id = some o → s'.heap.get id = some o) : ∀ {t : Ty} {l : List AV}, Shape s t l → Shape s' t l
  | .bool, l, h => by simp only [Shape] at h ⊢; exact h
  | .int k, l, h => by simp only [Shape] at h ⊢; exact h
  | .str, l, h => by simp only [Shape] at h ⊢; exact h
  | .slice t, l, h => by
    simp only [Shape] at h ⊢
    rcases h with h | h | ⟨id, len, cap, cs, h1, h2, h2', h3, h4, h5⟩
    · exact .inl h
    · exact .inr (.inl h)
    · exact .inr (.inr ⟨id, len, cap, cs, h1, h2, h2', hs _ _ h3, h4, fun c hc => Shape.mono hs (h5 c hc)⟩)
  | .struct ts, l, h => by simp only [Shape] at h ⊢; exact Shapes.mono hs h
  | .arr n t, l, h => by
    simp only [Shape] at h ⊢
    obtain ⟨cs, h1, h2, h3⟩ := h
    exact ⟨cs, h1, h2, fun c hc => Shape.mono hs (h3 c hc)⟩
theorem Shapes.mono {s s' : St} (hs : ∀ id o, s.heap.get id = some o → s'.heap.get id = some o) : ∀ {ts : List Ty} {l : List AV}, Shapes s ts l → Shapes s' ts l
  | [], l, h => by simp only [Shapes] at h ⊢; exact h
  | t :: ts, l, h => by
    simp only [Shapes] at h ⊢
    obtain ⟨a, b, h1, h2, h3⟩ := h
    exact ⟨a, b, h1, Shape.mono hs h2, Shapes.mono hs h3⟩
end

/-- All that lies there is only read. -/
def AllRo (s : St) : Prop := ∀ id, (s.heap.get id).isSome = true → isRo s id

/-- A state beside the world that has grown by things that are only read. -/
structure Imp (W : World) (φ : Phi) (s : St) (φ' : Phi) (s' : St) : Prop where
  rel : RelSt φ' s' W
  ro : AllRo s'
  wfs : WFS s'
  le : PhiLe φ φ'
  keep : ∀ id o, s.heap.get id = some o → s'.heap.get id = some o
theorem Imp.trans {W : World} {φ φ1 φ2 : Phi} {s s1 s2 : St} (h : Imp W φ s φ1 s1) (h' : Imp W φ1 s1 φ2 s2) : Imp W φ s φ2 s2 :=
  ⟨h'.rel, h'.ro, h'.wfs, h.le.trans h'.le, fun id o e => h'.keep id o (h.keep id o e)⟩
theorem Imp.refl {W : World} {φ : Phi} {s : St} (h1 : RelSt φ s W) (h2 : AllRo s) (h3 : WFS s) : Imp W φ s φ s := ⟨h1, h2, h3, .refl φ, fun _ _ e => e⟩

/-- One thing more that is only read. -/
theorem imp_add {W : World} {φ : Phi} {s : St} (h : RelSt φ s W) (hr : AllRo s) (hw : WFS s) (cs : List AV) (x : Inc) (hx : x.blk < W.heap.size) (ho : ∀ φ', PhiLe φ φ' → φ' s.next 0 = some x → ObjRel φ' W s.next (.cells cs 0 0 true)) :
    Imp W φ s (φ.upd s.next 0 x) (s.add (.cells cs 0 0 true)) := by
  have hf := hw s.next (Nat.le_refl _)
  have hnk := free_phi h hf
  have hle : PhiLe φ (φ.upd s.next 0 x) := Phi.upd_le (hnk 0)
  have hroA : AllRo (s.add (.cells cs 0 0 true)) := by
    intro id hid
    rw [add_get] at hid
    unfold isRo
    simp only [add_get]
    split at hid
    · rename_i hc; rw [if_pos hc]; exact ⟨_, _, _, rfl⟩
    · rename_i hc; rw [if_neg hc]; exact hr id hid
  refine ⟨⟨?_, ?_, ?_, ?_, ?_⟩, hroA, hw.add _, hle, fun id o e => ?_⟩
  · intro id o e
    rw [add_get] at e
    split at e
    · rename_i hid; cases e; rw [hid]; exact ho _ hle (Phi.upd_same _ _ _ _)
    · exact (h.obj id o e).mono hle fun _ _ _ => rfl
  · intro id k y e
    rw [add_get]
    rcases Phi.upd_cases e with ⟨rfl, rfl, rfl⟩ | e'
    · simp [hx]
    · have := h.dom id k y e'
      split
      · simp; exact this.2
      · exact this
  · intro id k y id' k' y' e e' _
    refine .inr ⟨hroA id ?_, hroA id' ?_⟩
    · rw [add_get]
      rcases Phi.upd_cases e with ⟨rfl, rfl, rfl⟩ | e1
      · simp
      · split
        · rfl
        · exact (h.dom _ _ _ e1).1
    · rw [add_get]
      rcases Phi.upd_cases e' with ⟨rfl, rfl, rfl⟩ | e1
      · simp
      · split
        · rfl
        · exact (h.dom _ _ _ e1).1
  · intro id k y cs' lo inc ro e e2
    rw [add_get] at e2
    rcases Phi.upd_cases e with ⟨rfl, rfl, rfl⟩ | e1
    · exact Nat.zero_le _
    · split at e2
      · rename_i hid; rw [hid, hnk] at e1; cases e1
      · exact h.incs _ _ _ _ _ _ _ e1 e2
  · intro id k y t e ht
    rcases Phi.upd_cases e with ⟨rfl, rfl, rfl⟩ | e1
    · exact (ty_zero ht).elim
    · exact h.typ _ _ _ _ e1 ht
  · rw [add_get, if_neg]
    · exact e
    · intro hc; rw [hc, hf] at e; cases e
end Go.V
/- ARGUMENTS WITH DEPTH: the theorem. -/
namespace Go.V
open Go Go.RowKit Go.ChangeShapes Go.WideShapes Go.ChangeAt

theorem mapM_at {α β : Type} {f : α → Option β} : ∀ {l : List α} {r : List β}, l.mapM f = some r → r.length = l.length ∧ ∀ (i : Nat) (x : α), l[i]? = some x → ∃ y, r[i]? = some y ∧ f x = some y
  | [], r, h => by
    simp only [List.mapM_nil, Option.pure_def, Option.some.injEq] at h
    subst h
    exact ⟨rfl, fun i x hx => by simp at hx⟩
  | a :: l, r, h => by
    rw [List.mapM_cons] at h
    cases ha : f a with
    | none => rw [ha] at h; simp at h
    | some y =>
      rw [ha] at h
      cases hl : l.mapM f with
      | none => rw [hl] at h; simp at h
      | some r' =>
        rw [hl] at h
        simp only [Option.pure_def, Option.bind_eq_bind, Option.bind_some, Option.some.injEq] at h
        subst h
        obtain ⟨h1, h2⟩ := mapM_at hl
        refine ⟨by simp [h1], fun i x hx => ?_⟩
        cases i with
        | zero => simp at hx; subst hx; exact ⟨y, by simp, ha⟩
        | succ i => simp at hx ⊢; exact h2 i x hx

theorem flat_get {α : Type} {n : Nat} (hn : 0 < n) : ∀ {cs : List (List α)}, (∀ c ∈ cs, c.length = n) → ∀ j, cs.flatten[j]? = (cs[j / n]?).bind fun c => c[j % n]?
  | [], _, j => by simp
  | c :: cs, h, j => by
    have hc := h c (by simp)
    rw [List.flatten_cons]
    by_cases hj : j < n
    · rw [List.getElem?_append_left (by omega), Nat.div_eq_of_lt hj, Nat.mod_eq_of_lt hj]
      simp
    · rw [List.getElem?_append_right (by omega), flat_get hn (fun x hx => h x (by simp [hx])), hc]
      have h1 : j / n = (j - n) / n + 1 := by rw [Nat.div_eq_sub_div hn (by omega)]
      have h2 : j % n = (j - n) % n := by rw [Nat.mod_eq_sub_mod (by omega)]
      rw [h1, h2, List.getElem?_cons_succ]

section
variable {H : Type} {enc : TypeId × Value → H} {P : Program} {W : World} {held : Bool}

/-- What one type's reading gives. -/
def ImpAt (enc : TypeId × Value → H) (P : Program) (W : World) (held : Bool) (t : TypeId) (ty : Ty) : Prop :=
  ∀ m cs x, DataW.trod enc P W 0 (fun _ => true) held m t cs = some x → ∀ φ s, RelSt φ s W → AllRo s → WFS s → ∃ φ' s' l, Imp W φ s φ' s' ∧ VRels φ' l cs ∧ Shape s' ty l



theorem range_pieces (cs : List Value) (k : Nat) : ∀ n, cs.length = n * k → ((List.range n).map fun i => (cs.drop (i * k)).take k).flatten = cs
  | 0, h => by
    simp at h
    subst h; rfl
  | n + 1, h => by
    rw [List.range_succ, List.map_append, List.flatten_append]
    have h1 : cs.length = n * k + k := by rw [h, Nat.add_mul]; omega
    have := range_pieces (cs.take (n * k)) k n (by rw [List.length_take]; omega)
    have h2 : ((List.range n).map fun i => (cs.drop (i * k)).take k) = ((List.range n).map fun i => ((cs.take (n * k)).drop (i * k)).take k) := by
      apply List.map_congr_left
      intro i hi
      have hi : i < n := by simpa using hi
      have h3 : (i + 1) * k ≤ n * k := Nat.mul_le_mul_right k hi
      rw [List.drop_take, List.take_take, Nat.min_eq_left]
      rw [Nat.add_mul] at h3; omega
    rw [h2, this]
    simp only [List.map_cons, List.map_nil, List.flatten_cons, List.flatten_nil, List.append_nil]
    have : (cs.drop (n * k)).take k = cs.drop (n * k) := List.take_of_length_le (by rw [List.length_drop]; omega)
    rw [this, List.take_append_drop]

theorem inv_bool {m : Nat} {t : TypeId} {cs : List Value} {x : DataW H × List MemPlace} (hu : P.underlying t = some .bool) (hx : DataW.trod enc P W 0 (fun _ => true) held (m + 1) t cs = some x) : ∃ b, cs = [.bool b] := by
  match cs with
  | [v] => cases v <;> simp [DataW.trod, hu] at hx <;> exact ⟨_, rfl⟩
  | [] => simp [DataW.trod, hu] at hx
  | a :: b :: l => simp [DataW.trod, hu] at hx
theorem inv_int {m : Nat} {t : TypeId} {k : IntKind} {cs : List Value} {x : DataW H × List MemPlace} (hu : P.underlying t = some (.int k)) (hx : DataW.trod enc P W 0 (fun _ => true) held (m + 1) t cs = some x) : ∃ n, cs = [.int k n] ∧ k.min ≤ n ∧ n ≤ k.max := by
  match cs with
  | [v] =>
    cases v <;> simp [DataW.trod, hu] at hx
    obtain ⟨⟨rfl, hw⟩, _⟩ := hx
    simp only [Lit.wf, Bool.and_eq_true, decide_eq_true_eq] at hw
    exact ⟨_, rfl, hw.1, hw.2⟩
  | [] => simp [DataW.trod, hu] at hx
  | a :: b :: l => simp [DataW.trod, hu] at hx
theorem inv_str {m : Nat} {t : TypeId} {cs : List Value} {x : DataW H × List MemPlace} (hu : P.underlying t = some .string) (hx : DataW.trod enc P W 0 (fun _ => true) held (m + 1) t cs = some x) : ∃ b : ByteArray, cs = [.string b] ∧ b.size ≤ 9223372036854775807 := by
  match cs with
  | [v] =>
    cases v <;> simp [DataW.trod, hu] at hx
    exact ⟨_, rfl, by have := hx.1; unfold maxLen at this; omega⟩
  | [] => simp [DataW.trod, hu] at hx
  | a :: b :: l => simp [DataW.trod, hu] at hx

end
end Go.V
/- THE ROW's FRAME for laws whose arguments have depth. -/
namespace Go.V
open Go Go.RowKit Go.ChangeShapes Go.WideShapes Go.ChangeAt
theorem Step.below_ro {φ φ' : Phi} {s s' : St} {w w' : World} (st : Step φ s w φ' s' w') (hr : RelSt φ s w) (h : AllRo s) : Below w.heap.size w w' := by
  refine ⟨st.os, st.tape, st.output, st.size, fun k hk => ?_⟩
  by_cases hi : InIm φ k
  · obtain ⟨id, j, x, e, rfl⟩ := hi
    exact st.ro id j x e (h id (hr.dom _ _ _ e).1)
  · exact st.frame k hk hi
theorem allRo0 : AllRo s0 := fun _ h => by cases h

end Go.V
/- FIVE ARGUMENTS; tables joined. -/
namespace Go.V
open Go Go.RowKit Go.ChangeShapes Go.WideShapes Go.ChangeAt
theorem AllOk2.app {P : Prog} : ∀ {l m : List (Nat × FnImp)}, AllOk P l → AllOk2 P m → AllOk2 P (l ++ m)
  | _, _, .nil, h => h
  | _, _, .cons a b, h => .cons (.old a) (AllOk2.app b h)
end Go.V
/- WATCHES IN WALKS. -/
namespace Go.V
open Go

mutual
theorem AV.beq_refl : ∀ (a : AV), AV.beq a a = true
  | .bool b => by simp [AV.beq]
  | .int k n => by simp [AV.beq]
  | .float k n => by simp [AV.beq]
  | .complex k n m => by simp [AV.beq]
  | .str s => by
    simp only [AV.beq]
    rw [bytesEq_dec]; simp
  | .ptr a => by simp [AV.beq]
  | .nilPtr => by simp [AV.beq]
  | .slice a b c d e => by simp [AV.beq]
  | .nilSlice => by simp [AV.beq]
  | .empty => by simp [AV.beq]
  | .map a => by simp [AV.beq]
  | .nilMap => by simp [AV.beq]
  | .anyMap => by simp [AV.beq]
  | .func f l m => by simp [AV.beq, AV.beqs_refl l, AV.beqs_refl m]
  | .nilFunc => by simp [AV.beq]
  | .iface t v => by simp [AV.beq, AV.beq_refl v]
  | .nilIface => by simp [AV.beq]
  | .agg l => by simp [AV.beq, AV.beqs_refl l]
  | .tuple l => by simp [AV.beq, AV.beqs_refl l]
theorem AV.beqs_refl : ∀ (l : List AV), AV.beqs l l = true
  | [] => by simp [AV.beqs]
  | a :: l => by simp [AV.beqs, AV.beq_refl a, AV.beqs_refl l]
end
theorem entsBeq_refl : ∀ (l : List AEntry), entsBeq l l = true
  | [] => rfl
  | a :: l => by simp [entsBeq, AV.beq_refl, entsBeq_refl l]
theorem sameObj_refl (o : AObj) : sameObj (some o) (some o) = true := by
  cases o with
  | cells a b c d => simp [sameObj, AObj.beq, AV.beqs_refl]
  | map l c => simp [sameObj, AObj.beq, entsBeq_refl]

def wat (v : AV) (s s' : St) : Bool := match footId v with
  | some id => sameObj (s.heap.get id) (s'.heap.get id)
  | none => true
theorem watch_nil (e : Env) (s s' : St) : watchOk e s s' [] = true := rfl
theorem watch_cons (e : Env) (s s' : St) (x : Opd) (l : List Opd) : watchOk e s s' (x :: l) = (wat (opd e x) s s' && watchOk e s s' l) := rfl
theorem wat_ptr (a : AAddr) (s s' : St) : wat (.ptr a) s s' = sameObj (s.heap.get a.id) (s'.heap.get a.id) := rfl
theorem wat_map (r : Nat) (s s' : St) : wat (.map r) s s' = sameObj (s.heap.get r) (s'.heap.get r) := rfl
theorem goR_watch (T : Tab) (Q : Post) (d : Bool) (dst : Option Nat) (x : Opd) (w : List Opd) (v : AV) (s' : St) (l : List IOp) (fs : List Fr) (e : Env) (s : St) : GoR T Q d dst (x :: w) (.val v s') l fs e s ↔ (watchOk e s s' (x :: w) = true ∧ GoOps T Q d l fs (putV e dst v) s') := Iff.rfl
end Go.V
/- THE RULES OF THE WALK, in one row. -/
namespace Go.V
open Go
theorem wk1 : type_of% @Nat.add_zero ∧ type_of% @Nat.add_assoc ∧ type_of% @Nat.add_left_cancel_iff ∧ type_of% @Int.cast_ofNat_Int ∧ type_of% @Nat.mul_one ∧ type_of% @Nat.one_mul ∧ type_of% @Int.lt_irrefl ∧ type_of% @Nat.zero_add ∧ type_of% @Nat.le_refl ∧ type_of% @Nat.zero_le ∧ type_of% @and_self ∧ type_of% @and_true ∧ type_of% @true_and ∧ type_of% @Bool.and_true ∧ type_of% @Nat.left_eq_add ∧ type_of% @Nat.add_eq_left ∧ type_of% @Nat.succ_ne_self ∧ type_of% @Bool.not_true ∧ type_of% @Bool.not_false :=
  ⟨@Nat.add_zero, @Nat.add_assoc, @Nat.add_left_cancel_iff, @Int.cast_ofNat_Int, @Nat.mul_one, @Nat.one_mul, @Int.lt_irrefl, @Nat.zero_add, @Nat.le_refl, @Nat.zero_le, @and_self, @and_true, @true_and, @Bool.and_true, @Nat.left_eq_add, @Nat.add_eq_left, @Nat.succ_ne_self, @Bool.not_true, @Bool.not_false⟩
theorem wk2 : type_of% @List.length_cons.{0} ∧ type_of% @List.length_nil.{0} ∧ type_of% @List.drop_succ_cons.{0} ∧ type_of% @List.drop_zero.{0} ∧ type_of% @List.take_succ_cons.{0} ∧ type_of% @List.take_zero.{0} ∧ type_of% @List.getElem?_cons_succ.{0} ∧ type_of% @List.getElem?_cons_zero.{0} ∧ type_of% @List.cons_append.{0} ∧ type_of% @List.nil_append.{0} ∧ type_of% @List.append_nil.{0} ∧ type_of% @List.all_cons.{0} ∧ type_of% @List.all_nil.{0} :=
  ⟨@List.length_cons.{0}, @List.length_nil.{0}, @List.drop_succ_cons.{0}, @List.drop_zero.{0}, @List.take_succ_cons.{0}, @List.take_zero.{0}, @List.getElem?_cons_succ.{0}, @List.getElem?_cons_zero.{0}, @List.cons_append.{0}, @List.nil_append.{0}, @List.append_nil.{0}, @List.all_cons.{0}, @List.all_nil.{0}⟩
theorem wk : type_of% @w0 ∧ type_of% @w1 ∧ type_of% @w2 ∧ type_of% @w3 ∧ type_of% @w4 ∧ type_of% @w5 ∧ type_of% @w6 ∧ type_of% @w7 ∧ type_of% @w8 ∧ type_of% @w9 ∧ type_of% @w10 ∧ type_of% @w11 ∧ type_of% @w12 ∧ type_of% @w13 ∧ type_of% @w14 ∧ type_of% @w15 ∧ type_of% @w16 :=
  ⟨@w0, @w1, @w2, @w3, @w4, @w5, @w6, @w7, @w8, @w9, @w10, @w11, @w12, @w13, @w14, @w15, @w16⟩
end Go.V
