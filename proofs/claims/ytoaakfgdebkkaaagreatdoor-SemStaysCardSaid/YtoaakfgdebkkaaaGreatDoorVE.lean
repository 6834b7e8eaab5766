/- THE ROW's FRAME, for laws whose arguments are only read. -/
import Derived.Test.YtoaakfgdebkkaaaGreatDoorVD
import Derived.Test.YtoaakfgdebkkaaaGreatDoorV28
import Derived.Carry
import Derived.WideKeyArgs
import Derived.WalkKit
import Derived.ProofKit
import Derived.OpenShut
import GoSem.Extern.MapsClone
import Derived.Deep.Slices
set_option linter.unusedVariables false
set_option linter.unusedSimpArgs false
set_option linter.unusedSectionVars false
/- THE ROW's FRAME, for laws whose arguments are only read. -/
/- THE ROW's FRAME, for laws whose arguments are only read. -/
namespace Go.V
open Go Go.RowKit Go.ChangeShapes Go.WideShapes Go.ChangeAt

section
variable {H : Type} {enc : TypeId × Value → H} {P : Program}

theorem trodAll_stays (hl : laidOutB P = true) {W W' : World} (hb : Below W.heap.size W W') : ∀ {ts : List TypeId} {vs : List Value} {ds : List (DataW H)} {ps : List MemPlace}, (ts.all fun t => P.readableRec t && decide (t < P.types.size)) = true →
 DataW.TrodAll enc P W 0 (fun _ => true) true ts vs ds ps → (∀ x ∈ ps, x.block < W.heap.size) → ∀ sp : Nat → Bool, (∀ p ∈ ps, sp p.block = true) → DataW.TrodAll enc P W' 0 sp true ts vs ds ps
 | [], [], [], ps, _, h, _, _, _ => h
 | t :: ts, v :: vs, d :: ds, ps, ht, h, hlt, sp, hsp => by
  obtain ⟨p, q, h1, h2, rfl⟩ := h
  simp only [List.all_cons, Bool.and_eq_true, decide_eq_true_eq] at ht
  refine ⟨p, q, WideElems.Trod_stays hl ht.1.1 ht.1.2 h1 (fun x hx => hb.same (hlt x (by simp [hx]))) (fun x hx => hsp x (by simp [hx])), trodAll_stays hl hb ht.2 h2 (fun x hx => hlt x (by simp [hx])) sp (fun x hx => hsp x (by simp [hx])), rfl⟩
 | [], _ :: _, _, _, _, h, _, _, _ => h.elim
 | [], [], _ :: _, _, _, h, _, _, _ => h.elim
 | _ :: _, [], _, _, _, h, _, _, _ => h.elim
 | _ :: _, _ :: _, [], _, _, h, _, _, _ => h.elim

/-- A law that answered true and turned nothing that was there: the row's 'post'. -/
theorem law_post {f : Func} {s : ChangeSpec} {apart fresh handsOn again : Bool} {W W' : World} {args : Array Value} {ds gs : List (DataW H)} {before : List MemPlace} {tb : TypeId}
 (hl : laidOutB P = true) (hts : (f.params.toList.all fun t => P.readableRec t && decide (t < P.types.size)) = true) (hrt : f.resultTypes = #[tb]) (htb : P.underlying tb = some .bool)
 (hW : DataW.Whole enc P f.params.toList s.vars apart W args.toList ds gs before) (hv : s.vars = [])
 (hspec : s.fn H (ds ++ gs) = { results := [.lit (.bool true)], args := ds }) (hb : Below W.heap.size W W') :
 s.post enc P f apart fresh handsOn again W args (.bool true) W' := by
 have hW0 := hW
 obtain ⟨p, q, hA, hV, hpq, hfz, hnd⟩ := hW
 rw [hv] at hV
 have hq : q = [] := by
  cases gs with
  | nil => exact hV
  | cons _ _ => exact hV.elim
 subst hq
 have hlt : ∀ x ∈ before, x.block < W.heap.size := fun x hx => hW0.lt x hx
 have hp : before = p := by rw [hpq, List.append_nil]
 subst hp
 refine post_of_below (pa := before) (pv := []) hW0 hb ?_ ?_ ?_ (by simp) ?_
 · intro b sp hd
   rw [hspec, hrt]
   exact trodAll_cons_mk (shut_bool htb _) trodAll_mk0
 · intro sp hsp
   rw [hspec]
   exact trodAll_stays hl hb hts hA hlt sp hsp
 · intro sp _
   rw [hspec, hv]
   exact rfl
 · exact ok_one hrt rfl (okWide_bool_mk htb _)

theorem cell_int {W : World} {r : Reach} {base : Nat} {u : TypeId} {v : Value} {k : IntKind} (hu : P.underlying u = some (.int k)) (h : Cell.okWide P W r base u v) : ∃ n, v = .int k n ∧ k.min ≤ n ∧ n ≤ k.max := by
 unfold Cell.okWide at h
 rw [hu] at h
 have h : Cell.ok P W r base u v := by
  cases v <;> exact h
 unfold Cell.ok at h
 rw [hu] at h
 cases v <;> first | exact h.elim | skip
 obtain ⟨rfl, h1, h2⟩ := h
 exact ⟨_, rfl, h1, h2⟩
theorem cell_bool {W : World} {r : Reach} {base : Nat} {u : TypeId} {v : Value} (hu : P.underlying u = some .bool) (h : Cell.okWide P W r base u v) : ∃ b, v = .bool b := by
 unfold Cell.okWide at h
 rw [hu] at h
 have h : Cell.ok P W r base u v := by
  cases v <;> exact h
 unfold Cell.ok at h
 rw [hu] at h
 cases v <;> first | exact h.elim | skip
 exact ⟨_, rfl⟩
theorem val_int {W : World} {r : Reach} {base : Nat} {u : TypeId} {v : Value} {k : IntKind} (hu : P.underlying u = some (.int k)) (h : Value.okWide P W r base u v) : ∃ n, v = .int k n ∧ k.min ≤ n ∧ n ≤ k.max := by
 unfold Value.okWide at h
 rw [hu] at h
 exact cell_int hu h
end

theorem wfs0 : WFS s0 := fun _ _ => rfl
end Go.V
/- SOUNDNESS: maps.clone. -/
namespace Go.V
open Go Go.RowKit
end Go.V
/- ARGUMENTS WITH DEPTH that are only read: what reads as data lies in an abstract state. -/
namespace Go.V
open Go Go.RowKit Go.ChangeShapes Go.WideShapes Go.ChangeAt

inductive Ty where
 | bool
 | int (k : IntKind)
 | str
 | slice (t : Ty)
 | struct (ts : List Ty)
 | arr (n : Nat) (t : Ty)

mutual
def tySize : Ty → Nat
 | .struct ts => tySizes ts
 | .arr n t => n * tySize t
 | _ => 1
def tySizes : List Ty → Nat
 | [] => 0
 | t :: ts => tySize t + tySizes ts
end

/-- The type's make, where it is of these; the fields stand one behind the other. -/
def tyOf (P : Program) : Nat → TypeId → Option Ty
 | 0, _ => none
 | n + 1, t => match P.underlying t with
  | some .bool => some .bool
  | some (.int k) => some (.int k)
  | some .string => some .str
  | some (.slice e) => match tyOf P n e with
   | some u => if P.cellsOf e = tySize u ∧ 0 < tySize u then some (.slice u) else none
   | none => none
  | some (.struct fs) => match go n fs.toList 0 with
   | some us => if P.cellsOf t = tySizes us then some (.struct us) else none
   | none => none
  | some (.array k e) => match tyOf P n e with
   | some u => if P.cellsOf e = tySize u ∧ P.cellsOf t = k * tySize u then some (.arr k u) else none
   | none => none
  | _ => none
where go (n : Nat) : List Field → Nat → Option (List Ty)
 | [], _ => some []
 | f :: fs, o => match tyOf P n f.type with
  | some u => if f.offset = o ∧ P.cellsOf f.type = tySize u then (match go n fs (o + tySize u) with | some us => some (u :: us) | none => none) else none
  | none => none

mutual
/-- What lies in the cells, by the make. -/
def Shape (s : St) : Ty → List AV → Prop
 | .bool, l => ∃ b, l = [.bool b]
 | .int k, l => ∃ n, l = [.int k n] ∧ k.min ≤ n ∧ n ≤ k.max
 | .str, l => ∃ b, l = [.str b] ∧ b.length ≤ 9223372036854775807
 | .slice t, l => l = [.nilSlice] ∨ l = [.empty] ∨ ∃ (id len cap : Nat) (cs : List (List AV)), l = [.slice ⟨id, 0, 0, len * tySize t⟩ len cap true (tySize t)] ∧ 0 < len ∧ len ≤ cap ∧ s.heap.get id = some (.cells cs.flatten 0 0 true) ∧ cs.length = len ∧ ∀ c ∈ cs, Shape s t c
 | .struct ts, l => Shapes s ts l
 | .arr n t, l => ∃ cs : List (List AV), l = cs.flatten ∧ cs.length = n ∧ ∀ c ∈ cs, Shape s t c
def Shapes (s : St) : List Ty → List AV → Prop
 | [], l => l = []
 | t :: ts, l => ∃ a b, l = a ++ b ∧ Shape s t a ∧ Shapes s ts b
end

theorem flatten_len {n : Nat} : ∀ {cs : List (List AV)}, (∀ c ∈ cs, c.length = n) → cs.flatten.length = cs.length * n
 | [], _ => by simp
 | c :: cs, h => by
  rw [List.flatten_cons, List.length_append, h c (by simp), flatten_len (fun x hx => h x (by simp [hx])), List.length_cons, Nat.add_mul]
  omega

mutual
theorem Shape.len {s : St} : ∀ {t : Ty} {l : List AV}, Shape s t l → l.length = tySize t
 | .bool, l, h => by simp only [Shape] at h; obtain ⟨b, rfl⟩ := h; rfl
 | .int k, l, h => by simp only [Shape] at h; obtain ⟨b, rfl, _⟩ := h; rfl
 | .str, l, h => by simp only [Shape] at h; obtain ⟨b, rfl, _⟩ := h; rfl
 | .slice t, l, h => by
  simp only [Shape] at h
  rcases h with rfl | rfl | ⟨_, _, _, _, rfl, _⟩ <;> rfl
 | .struct ts, l, h => by simp only [Shape] at h; simp only [tySize]; exact Shapes.len h
 | .arr n t, l, h => by
  simp only [Shape] at h
  obtain ⟨cs, rfl, h1, h2⟩ := h
  rw [flatten_len (fun c hc => Shape.len (h2 c hc)), h1]
  rfl
theorem Shapes.len {s : St} : ∀ {ts : List Ty} {l : List AV}, Shapes s ts l → l.length = tySizes ts
 | [], l, h => by simp only [Shapes] at h; subst h; rfl
 | t :: ts, l, h => by
  simp only [Shapes] at h
  obtain ⟨a, b, rfl, h1, h2⟩ := h
  rw [List.length_append, Shape.len h1, Shapes.len h2]
  rfl
end

mutual
theorem Shape.mono {s s' : St} (hs : ∀ id o, s.heap.get id = some o → s'.heap.get id = some o) : ∀ {t : Ty} {l : List AV}, Shape s t l → Shape s' t l
 | .bool, l, h => by simp only [Shape] at h ⊢; exact h
 | .int k, l, h => by simp only [Shape] at h ⊢; exact h
 | .str, l, h => by simp only [Shape] at h ⊢; exact h
 | .slice t, l, h => by
  simp only [Shape] at h ⊢
  rcases h with h | h | ⟨id, len, cap, cs, h1, h2, h2', h3, h4, h5⟩
  · exact .inl h
  · exact .inr (.inl h)
  · exact .inr (.inr ⟨id, len, cap, cs, h1, h2, h2', hs _ _ h3, h4, fun c hc => Shape.mono hs (h5 c hc)⟩)
 | .struct ts, l, h => by simp only [Shape] at h ⊢; exact Shapes.mono hs h
 | .arr n t, l, h => by
  simp only [Shape] at h ⊢
  obtain ⟨cs, h1, h2, h3⟩ := h
  exact ⟨cs, h1, h2, fun c hc => Shape.mono hs (h3 c hc)⟩
theorem Shapes.mono {s s' : St} (hs : ∀ id o, s.heap.get id = some o → s'.heap.get id = some o) : ∀ {ts : List Ty} {l : List AV}, Shapes s ts l → Shapes s' ts l
 | [], l, h => by simp only [Shapes] at h ⊢; exact h
 | t :: ts, l, h => by
  simp only [Shapes] at h ⊢
  obtain ⟨a, b, h1, h2, h3⟩ := h
  exact ⟨a, b, h1, Shape.mono hs h2, Shapes.mono hs h3⟩
end

/-- All that lies there is only read. -/
def AllRo (s : St) : Prop := ∀ id, (s.heap.get id).isSome = true → isRo s id

/-- A state beside the world that has grown by things that are only read. -/
structure Imp (W : World) (φ : Phi) (s : St) (φ' : Phi) (s' : St) : Prop where
 rel : RelSt φ' s' W
 ro : AllRo s'
 wfs : WFS s'
 le : PhiLe φ φ'
 keep : ∀ id o, s.heap.get id = some o → s'.heap.get id = some o
theorem Imp.trans {W : World} {φ φ1 φ2 : Phi} {s s1 s2 : St} (h : Imp W φ s φ1 s1) (h' : Imp W φ1 s1 φ2 s2) : Imp W φ s φ2 s2 :=
 ⟨h'.rel, h'.ro, h'.wfs, h.le.trans h'.le, fun id o e => h'.keep id o (h.keep id o e)⟩
theorem Imp.refl {W : World} {φ : Phi} {s : St} (h1 : RelSt φ s W) (h2 : AllRo s) (h3 : WFS s) : Imp W φ s φ s := ⟨h1, h2, h3, .refl φ, fun _ _ e => e⟩

/-- One thing more that is only read. -/
theorem imp_add {W : World} {φ : Phi} {s : St} (h : RelSt φ s W) (hr : AllRo s) (hw : WFS s) (cs : List AV) (x : Inc) (hx : x.blk < W.heap.size) (ho : ∀ φ', PhiLe φ φ' → φ' s.next 0 = some x → ObjRel φ' W s.next (.cells cs 0 0 true)) :
 Imp W φ s (φ.upd s.next 0 x) (s.add (.cells cs 0 0 true)) := by
 have hf := hw s.next (Nat.le_refl _)
 have hnk := free_phi h hf
 have hle : PhiLe φ (φ.upd s.next 0 x) := Phi.upd_le (hnk 0)
 have hroA : AllRo (s.add (.cells cs 0 0 true)) := by
  intro id hid
  rw [add_get] at hid
  unfold isRo
  simp only [add_get]
  split at hid
  · rename_i hc; rw [if_pos hc]; exact ⟨_, _, _, rfl⟩
  · rename_i hc; rw [if_neg hc]; exact hr id hid
 refine ⟨⟨?_, ?_, ?_, ?_, ?_⟩, hroA, hw.add _, hle, fun id o e => ?_⟩
 · intro id o e
   rw [add_get] at e
   split at e
   · rename_i hid; cases e; rw [hid]; exact ho _ hle (Phi.upd_same _ _ _ _)
   · exact (h.obj id o e).mono hle fun _ _ _ => rfl
 · intro id k y e
   rw [add_get]
   rcases Phi.upd_cases e with ⟨rfl, rfl, rfl⟩ | e'
   · simp [hx]
   · have := h.dom id k y e'
     split
     · simp; exact this.2
     · exact this
 · intro id k y id' k' y' e e' _
   refine .inr ⟨hroA id ?_, hroA id' ?_⟩
   · rw [add_get]
     rcases Phi.upd_cases e with ⟨rfl, rfl, rfl⟩ | e1
     · simp
     · split
       · rfl
       · exact (h.dom _ _ _ e1).1
   · rw [add_get]
     rcases Phi.upd_cases e' with ⟨rfl, rfl, rfl⟩ | e1
     · simp
     · split
       · rfl
       · exact (h.dom _ _ _ e1).1
 · intro id k y cs' lo inc ro e e2
   rw [add_get] at e2
   rcases Phi.upd_cases e with ⟨rfl, rfl, rfl⟩ | e1
   · exact Nat.zero_le _
   · split at e2
     · rename_i hid; rw [hid, hnk] at e1; cases e1
     · exact h.incs _ _ _ _ _ _ _ e1 e2
 · intro id k y t e ht
   rcases Phi.upd_cases e with ⟨rfl, rfl, rfl⟩ | e1
   · exact (ty_zero ht).elim
   · exact h.typ _ _ _ _ e1 ht
 · rw [add_get, if_neg]
   · exact e
   · intro hc; rw [hc, hf] at e; cases e
end Go.V
/- ARGUMENTS WITH DEPTH: the theorem. -/
namespace Go.V
open Go Go.RowKit Go.ChangeShapes Go.WideShapes Go.ChangeAt

theorem mapM_at {α β : Type} {f : α → Option β} : ∀ {l : List α} {r : List β}, l.mapM f = some r → r.length = l.length ∧ ∀ (i : Nat) (x : α), l[i]? = some x → ∃ y, r[i]? = some y ∧ f x = some y
 | [], r, h => by
  simp only [List.mapM_nil, Option.pure_def, Option.some.injEq] at h
  subst h
  exact ⟨rfl, fun i x hx => by simp at hx⟩
 | a :: l, r, h => by
  rw [List.mapM_cons] at h
  cases ha : f a with
  | none => rw [ha] at h; simp at h
  | some y =>
   rw [ha] at h
   cases hl : l.mapM f with
   | none => rw [hl] at h; simp at h
   | some r' =>
    rw [hl] at h
    simp only [Option.pure_def, Option.bind_eq_bind, Option.bind_some, Option.some.injEq] at h
    subst h
    obtain ⟨h1, h2⟩ := mapM_at hl
    refine ⟨by simp [h1], fun i x hx => ?_⟩
    cases i with
    | zero => simp at hx; subst hx; exact ⟨y, by simp, ha⟩
    | succ i => simp at hx ⊢; exact h2 i x hx

theorem flat_get {α : Type} {n : Nat} (hn : 0 < n) : ∀ {cs : List (List α)}, (∀ c ∈ cs, c.length = n) → ∀ j, cs.flatten[j]? = (cs[j / n]?).bind fun c => c[j % n]?
 | [], _, j => by simp
 | c :: cs, h, j => by
  have hc := h c (by simp)
  rw [List.flatten_cons]
  by_cases hj : j < n
  · rw [List.getElem?_append_left (by omega), Nat.div_eq_of_lt hj, Nat.mod_eq_of_lt hj]
    simp
  · rw [List.getElem?_append_right (by omega), flat_get hn (fun x hx => h x (by simp [hx])), hc]
    have h1 : j / n = (j - n) / n + 1 := by rw [Nat.div_eq_sub_div hn (by omega)]
    have h2 : j % n = (j - n) % n := by rw [Nat.mod_eq_sub_mod (by omega)]
    rw [h1, h2, List.getElem?_cons_succ]

section
variable {H : Type} {enc : TypeId × Value → H} {P : Program} {W : World} {held : Bool}

/-- What one type's reading gives. -/
def ImpAt (enc : TypeId × Value → H) (P : Program) (W : World) (held : Bool) (t : TypeId) (ty : Ty) : Prop :=
 ∀ m cs x, DataW.trod enc P W 0 (fun _ => true) held m t cs = some x → ∀ φ s, RelSt φ s W → AllRo s → WFS s → ∃ φ' s' l, Imp W φ s φ' s' ∧ VRels φ' l cs ∧ Shape s' ty l

/-- Pieces, one behind the other. -/
theorem imp_many {t : TypeId} {u : Ty} (hu : ImpAt enc P W held t u) : ∀ (ps : List (List Value)), (∀ p ∈ ps, ∃ m x, DataW.trod enc P W 0 (fun _ => true) held m t p = some x) → ∀ φ s, RelSt φ s W → AllRo s → WFS s →
 ∃ (φ' : Phi) (s' : St) (cs : List (List AV)), Imp W φ s φ' s' ∧ VRels φ' cs.flatten ps.flatten ∧ cs.length = ps.length ∧ ∀ c ∈ cs, Shape s' u c
 | [], _, φ, s, h1, h2, h3 => ⟨φ, s, [], .refl h1 h2 h3, .nil, rfl, by simp⟩
 | p :: ps, hp, φ, s, h1, h2, h3 => by
  obtain ⟨m, x, hx⟩ := hp p (by simp)
  obtain ⟨φ1, s1, l, i1, v1, sh1⟩ := hu m p x hx φ s h1 h2 h3
  obtain ⟨φ2, s2, cs, i2, v2, l2, sh2⟩ := imp_many hu ps (fun q hq => hp q (by simp [hq])) φ1 s1 i1.rel i1.ro i1.wfs
  refine ⟨φ2, s2, l :: cs, i1.trans i2, ?_, by simp [l2], fun c hc => ?_⟩
  · rw [List.flatten_cons, List.flatten_cons]
    exact (v1.mono i2.le).append v2
  · rcases List.mem_cons.1 hc with rfl | hc
    · exact sh1.mono i2.keep
    · exact sh2 c hc

theorem imp_go {n : Nat} (ih : ∀ t ty, tyOf P n t = some ty → ImpAt enc P W held t ty) {m : Nat} {cs : List Value} : ∀ (fs : List Field) (o : Nat) (us : List Ty), tyOf.go P n fs o = some us → cs.length = o + tySizes us →
 ∀ xs, (fs.mapM fun f => DataW.trod enc P W 0 (fun _ => true) held m f.type ((cs.drop f.offset).take (P.cellsOf f.type))) = some xs → ∀ φ s, RelSt φ s W → AllRo s → WFS s → ∃ φ' s' l, Imp W φ s φ' s' ∧ VRels φ' l (cs.drop o) ∧ Shapes s' us l
 | [], o, us, hg, hl, xs, _, φ, s, h1, h2, h3 => by
  simp only [tyOf.go, Option.some.injEq] at hg
  subst hg
  refine ⟨φ, s, [], .refl h1 h2 h3, ?_, by simp only [Shapes]⟩
  rw [List.drop_eq_nil_of_le (by simp only [tySizes] at hl; omega)]
  exact .nil
 | f :: fs, o, us, hg, hl, xs, hx, φ, s, h1, h2, h3 => by
  simp only [tyOf.go] at hg
  split at hg
  · rename_i u hu
    split at hg
    · rename_i hc
      split at hg
      · rename_i us' hus
        cases hg
        rw [List.mapM_cons] at hx
        cases ha : DataW.trod enc P W 0 (fun _ => true) held m f.type ((cs.drop f.offset).take (P.cellsOf f.type)) with
        | none => rw [ha] at hx; simp at hx
        | some y =>
         rw [ha] at hx
         cases hr : (fs.mapM fun f => DataW.trod enc P W 0 (fun _ => true) held m f.type ((cs.drop f.offset).take (P.cellsOf f.type))) with
         | none => rw [hr] at hx; simp at hx
         | some ys =>
          rw [hc.1, hc.2] at ha
          obtain ⟨φ1, s1, l1, i1, v1, sh1⟩ := ih _ _ hu m _ y ha φ s h1 h2 h3
          obtain ⟨φ2, s2, l2, i2, v2, sh2⟩ := imp_go ih fs (o + tySize u) us' hus (by simp only [tySizes] at hl; omega) ys hr φ1 s1 i1.rel i1.ro i1.wfs
          refine ⟨φ2, s2, l1 ++ l2, i1.trans i2, ?_, by simp only [Shapes]; exact ⟨l1, l2, rfl, sh1.mono i2.keep, sh2⟩⟩
          have : cs.drop o = (cs.drop o).take (tySize u) ++ cs.drop (o + tySize u) := by
           rw [← List.drop_drop, List.take_append_drop]
          rw [this]
          exact (v1.mono i2.le).append v2
      · cases hg
    · cases hg
  · cases hg

theorem range_pieces (cs : List Value) (k : Nat) : ∀ n, cs.length = n * k → ((List.range n).map fun i => (cs.drop (i * k)).take k).flatten = cs
 | 0, h => by
  simp at h
  subst h; rfl
 | n + 1, h => by
  rw [List.range_succ, List.map_append, List.flatten_append]
  have h1 : cs.length = n * k + k := by rw [h, Nat.add_mul]; omega
  have := range_pieces (cs.take (n * k)) k n (by rw [List.length_take]; omega)
  have h2 : ((List.range n).map fun i => (cs.drop (i * k)).take k) = ((List.range n).map fun i => ((cs.take (n * k)).drop (i * k)).take k) := by
   apply List.map_congr_left
   intro i hi
   have hi : i < n := by simpa using hi
   have h3 : (i + 1) * k ≤ n * k := Nat.mul_le_mul_right k hi
   rw [List.drop_take, List.take_take, Nat.min_eq_left]
   rw [Nat.add_mul] at h3; omega
  rw [h2, this]
  simp only [List.map_cons, List.map_nil, List.flatten_cons, List.flatten_nil, List.append_nil]
  have : (cs.drop (n * k)).take k = cs.drop (n * k) := List.take_of_length_le (by rw [List.length_drop]; omega)
  rw [this, List.take_append_drop]

theorem inv_bool {m : Nat} {t : TypeId} {cs : List Value} {x : DataW H × List MemPlace} (hu : P.underlying t = some .bool) (hx : DataW.trod enc P W 0 (fun _ => true) held (m + 1) t cs = some x) : ∃ b, cs = [.bool b] := by
 match cs with
 | [v] => cases v <;> simp [DataW.trod, hu] at hx <;> exact ⟨_, rfl⟩
 | [] => simp [DataW.trod, hu] at hx
 | a :: b :: l => simp [DataW.trod, hu] at hx
theorem inv_int {m : Nat} {t : TypeId} {k : IntKind} {cs : List Value} {x : DataW H × List MemPlace} (hu : P.underlying t = some (.int k)) (hx : DataW.trod enc P W 0 (fun _ => true) held (m + 1) t cs = some x) : ∃ n, cs = [.int k n] ∧ k.min ≤ n ∧ n ≤ k.max := by
 match cs with
 | [v] =>
  cases v <;> simp [DataW.trod, hu] at hx
  obtain ⟨⟨rfl, hw⟩, _⟩ := hx
  simp only [Lit.wf, Bool.and_eq_true, decide_eq_true_eq] at hw
  exact ⟨_, rfl, hw.1, hw.2⟩
 | [] => simp [DataW.trod, hu] at hx
 | a :: b :: l => simp [DataW.trod, hu] at hx
theorem inv_str {m : Nat} {t : TypeId} {cs : List Value} {x : DataW H × List MemPlace} (hu : P.underlying t = some .string) (hx : DataW.trod enc P W 0 (fun _ => true) held (m + 1) t cs = some x) : ∃ b : ByteArray, cs = [.string b] ∧ b.size ≤ 9223372036854775807 := by
 match cs with
 | [v] =>
  cases v <;> simp [DataW.trod, hu] at hx
  exact ⟨_, rfl, by have := hx.1; unfold maxLen at this; omega⟩
 | [] => simp [DataW.trod, hu] at hx
 | a :: b :: l => simp [DataW.trod, hu] at hx
theorem inv_struct {m : Nat} {t : TypeId} {fs : Array Field} {cs : List Value} {x : DataW H × List MemPlace} (hu : P.underlying t = some (.struct fs)) (hx : DataW.trod enc P W 0 (fun _ => true) held (m + 1) t cs = some x) :
 cs.length = P.cellsOf t ∧ ∃ xs, (fs.toList.mapM fun f => DataW.trod enc P W 0 (fun _ => true) held m f.type ((cs.drop f.offset).take (P.cellsOf f.type))) = some xs := by
 simp only [DataW.trod, hu] at hx
 split at hx
 · rename_i hc
   refine ⟨hc, ?_⟩
   cases hm : (fs.toList.mapM fun f => DataW.trod enc P W 0 (fun _ => true) held m f.type ((cs.drop f.offset).take (P.cellsOf f.type))) with
   | none => rw [hm] at hx; simp at hx
   | some xs => exact ⟨xs, rfl⟩
 · cases hx
theorem inv_arr {m n : Nat} {t e : TypeId} {cs : List Value} {x : DataW H × List MemPlace} (hu : P.underlying t = some (.array n e)) (hx : DataW.trod enc P W 0 (fun _ => true) held (m + 1) t cs = some x) :
 cs.length = P.cellsOf t ∧ ∃ xs, ((List.range n).mapM fun i => DataW.trod enc P W 0 (fun _ => true) held m e ((cs.drop (i * P.cellsOf e)).take (P.cellsOf e))) = some xs := by
 simp only [DataW.trod, hu] at hx
 split at hx
 · rename_i hc
   refine ⟨hc, ?_⟩
   cases hm : ((List.range n).mapM fun i => DataW.trod enc P W 0 (fun _ => true) held m e ((cs.drop (i * P.cellsOf e)).take (P.cellsOf e))) with
   | none => rw [hm] at hx; simp at hx
   | some xs => exact ⟨xs, rfl⟩
 · cases hx

set_option maxHeartbeats 1000000 in
theorem imp_trod : ∀ n t ty, tyOf P n t = some ty → ImpAt enc P W held t ty
 | 0, t, ty, h => by simp [tyOf] at h
 | n + 1, t, ty, h => by
  have ih := imp_trod n
  intro m cs x hx φ s h1 h2 h3
  cases m with
  | zero => simp [DataW.trod] at hx
  | succ m =>
  simp only [tyOf] at h
  split at h
  · -- bool
    rename_i hu
    cases h
    obtain ⟨b, rfl⟩ := inv_bool hu hx
    exact ⟨φ, s, [.bool b], .refl h1 h2 h3, .cons (.bool b) .nil, by simp only [Shape]; exact ⟨b, rfl⟩⟩
  · -- int
    rename_i k hu
    cases h
    obtain ⟨v, rfl, b1, b2⟩ := inv_int hu hx
    exact ⟨φ, s, [.int k v], .refl h1 h2 h3, .cons (.int k v) .nil, by simp only [Shape]; exact ⟨v, rfl, b1, b2⟩⟩
  · -- string
    rename_i hu
    cases h
    obtain ⟨b, rfl, hb⟩ := inv_str hu hx
    exact ⟨φ, s, [.str b.data.toList], .refl h1 h2 h3, .cons (.str b) .nil, by simp only [Shape]; exact ⟨_, rfl, by simpa using hb⟩⟩
  · -- slice
    rename_i e hu
    split at h
    · rename_i u hte
      split at h
      · rename_i hc
        cases h
        obtain ⟨hc1, hpos⟩ := hc
        rcases Go.Deep.open_slice hu hx with ⟨rfl, _⟩ | ⟨a, len, cap, mm, k, D, Pl, rfl, _, hlc, _, hmm, _, hel⟩
        · exact ⟨φ, s, [.nilSlice], .refl h1 h2 h3, .cons .nilSlice .nil, by unfold Shape; exact .inl rfl⟩
        · simp only [if_true] at hmm
          subst hmm
          by_cases hl0 : len = 0
          · subst hl0
            exact ⟨φ, s, [.empty], .refl h1 h2 h3, .cons (.empty a mm) .nil, by unfold Shape; exact .inr (.inl rfl)⟩
          · rw [hc1] at hel
            -- the elements' cells
            have hpc : ∀ i, i < mm → ∃ p : List Value, W.cells? 0 (a.add (i * tySize u)) (tySize u) = some p ∧ p.length = tySize u ∧ (∃ m' x', DataW.trod enc P W 0 (fun _ => true) held m' e p = some x') ∧ ∀ r v, p[r]? = some v → W.cell? ((a.add (i * tySize u)).add r) = some v := by
             intro i hi
             obtain ⟨p, q1, q2⟩ := hel i hi
             refine ⟨p, q1, ?_, ⟨_, _, q2⟩, ?_⟩
             · unfold World.cells? at q1
               rw [if_pos (Nat.zero_le _)] at q1
               have := (mapM_at q1).1
               simpa using this
             · intro r v hv
               unfold World.cells? at q1
               rw [if_pos (Nat.zero_le _)] at q1
               obtain ⟨z1, z2⟩ := mapM_at q1
               have hr : r < tySize u := by
                have := (List.getElem?_eq_some_iff.1 hv).1
                simp at z1; omega
               obtain ⟨y, y1, y2⟩ := z2 r r (by simp [hr])
               rw [hv] at y1
               cases y1
               exact y2
            let pc : Nat → List Value := fun i => if hi : i < mm then Classical.choose (hpc i hi) else []
            have hpc' : ∀ i, i < mm → (pc i).length = tySize u ∧ (∃ m' x', DataW.trod enc P W 0 (fun _ => true) held m' e (pc i) = some x') ∧ ∀ r v, (pc i)[r]? = some v → W.cell? ((a.add (i * tySize u)).add r) = some v := by
             intro i hi
             have := Classical.choose_spec (hpc i hi)
             simp only [pc, dif_pos hi]
             exact this.2
            have hspot : a.spot = none := by
             obtain ⟨z1, _, z3⟩ := hpc' 0 (by omega)
             have hv : (pc 0)[0]? = some ((pc 0)[0]'(by omega)) := List.getElem?_eq_getElem _
             have := z3 0 _ hv
             unfold World.cell? at this
             have e1 : (a.add (0 * tySize u)).add 0 = a := by simp [Addr.add]
             rw [e1] at this
             split at this
             · split at this
               · cases this
               · rename_i hs; cases hsp : a.spot with
                 | none => rfl
                 | some q => rw [hsp] at hs; exact absurd rfl hs
             · cases this
            have hcell : ∀ i, i < mm → ∀ r v, (pc i)[r]? = some v → W.cell? ⟨a.block, a.off + (i * tySize u + r), none⟩ = some v := by
             intro i hi r v hv
             have := (hpc' i hi).2.2 r v hv
             obtain ⟨ab, ao, as⟩ := a
             simp only at hspot
             subst hspot
             rw [addr_add, addr_add] at this
             rw [← this]
             congr 2
             exact (Nat.add_assoc _ _ _).symm
            obtain ⟨φ1, s1, css, i1, v1, l1, sh1⟩ := imp_many (ih e u hte) ((List.range len).map pc) (fun p hp => by
             obtain ⟨i, hi, rfl⟩ := List.mem_map.1 hp
             exact (hpc' i (by have : i < len := by simpa using hi
                               omega)).2.1) φ s h1 h2 h3
            have hcl : css.length = len := by rw [l1]; simp
            have hfl : css.flatten.length = len * tySize u := by rw [flatten_len (fun c hc => (sh1 c hc).len), hcl]
            -- the block
            have hblk : ∃ cc el fz, W.heap[a.block]? = some (.cells cc el fz) ∧ ∀ j v, j < mm * tySize u → (W.cell? ⟨a.block, a.off + j, none⟩ = some v ↔ cc[a.off + j]? = some v) := by
             have hz := hpc' 0 (by omega)
             have hv : (pc 0)[0]? = some ((pc 0)[0]'(by omega)) := List.getElem?_eq_getElem _
             have := hcell 0 (by omega) 0 _ hv
             unfold World.cell? at this
             split at this
             · rename_i cc el fz hh
               refine ⟨cc, el, fz, hh, fun j v _ => ?_⟩
               unfold World.cell?
               simp only [hh, Option.isSome_none, Bool.false_eq_true, if_false]
             · cases this
            obtain ⟨cc, el, fz, hh, hcc⟩ := hblk
            have hsize : a.off + mm * tySize u ≤ cc.size := by
             have hz := hpc' (mm - 1) (by omega)
             have hv : (pc (mm - 1))[tySize u - 1]? = some ((pc (mm - 1))[tySize u - 1]'(by omega)) := List.getElem?_eq_getElem _
             have hm1 : (mm - 1) * tySize u + tySize u = mm * tySize u := by
              have : mm = (mm - 1) + 1 := by omega
              rw [this, Nat.add_sub_cancel, Nat.add_mul]; omega
             have := (hcc _ _ (by omega)).1 (hcell (mm - 1) (by omega) (tySize u - 1) _ hv)
             have := (Array.getElem?_eq_some_iff.1 this).1
             omega
            have hlt : a.block < W.heap.size := (Array.getElem?_eq_some_iff.1 hh).1
            let X : Inc := ⟨a.block, a.off, 0, len * tySize u, cc.size⟩
            have hlm : len * tySize u ≤ mm * tySize u := Nat.mul_le_mul_right _ hlc
            have hadd := imp_add i1.rel i1.ro i1.wfs css.flatten X hlt (fun φ' hle hX => by
             refine ⟨Nat.le_refl _, fun k hk hk' => ?_⟩
             obtain rfl : k = 0 := by omega
             refine ⟨X, hX, cc, el, fz, hh, rfl, (fun h => by cases h), Nat.zero_le _, by show len * tySize u ≤ _; omega, fun _ => hfl.symm, by show a.off + (len * tySize u - 0) ≤ cc.size; omega, fun j v _ hj hv => ?_⟩
             have hj : j < len * tySize u := hj
             obtain ⟨c, hc, hvr⟩ := v1.get hv
             refine ⟨c, ?_, hvr.mono hle⟩
             have hj' : j / tySize u < len := (Nat.div_lt_iff_lt_mul hpos).2 hj
             rw [flat_get hpos (fun p hp => by
              obtain ⟨i, hi, rfl⟩ := List.mem_map.1 hp
              exact (hpc' i (by have : i < len := by simpa using hi
                                omega)).1)] at hc
             have hget : ((List.range len).map pc)[j / tySize u]? = some (pc (j / tySize u)) := by simp [hj']
             rw [hget] at hc
             have hc2 : (pc (j / tySize u))[j % tySize u]? = some c := hc
             have := hcell (j / tySize u) (by omega) _ _ hc2
             rw [Nat.div_add_mod' ] at this
             have := (hcc j c (by omega)).1 this
             show cc[a.off + (j - 0)]? = some c
             rw [Nat.sub_zero]; exact this)
            refine ⟨_, _, [.slice ⟨s1.next, 0, 0, len * tySize u⟩ len mm true (tySize u)], i1.trans hadd, ?_, ?_⟩
            · have hval : Value.slice (some a) len mm = .slice (some ⟨X.blk, X.base + (0 - X.sh), none⟩) len mm := by
               obtain ⟨ab, ao, as⟩ := a
               simp only at hspot
               subst hspot
               rfl
              rw [hval]
              refine .cons (.slice (x := X) (Phi.upd_same _ _ _ _) (Nat.le_refl _) (Nat.le_refl _) (by simp) hlc (Nat.le_refl _) (fun _ => rfl) ?_) .nil
              show a.off + 0 + mm * tySize u ≤ cc.size
              omega
            · simp only [Shape]
              refine .inr (.inr ⟨s1.next, len, mm, css, rfl, by omega, hlc, by rw [add_get, if_pos rfl], hcl, fun c hc => (sh1 c hc).mono hadd.keep⟩)
      · cases h
    · cases h
  · -- struct
    rename_i fs hu
    split at h
    · rename_i us hgo
      split at h
      · rename_i hc
        cases h
        obtain ⟨hlen, xs, hxs⟩ := inv_struct hu hx
        obtain ⟨φ', s', l, i1, v1, sh1⟩ := imp_go ih fs.toList 0 us hgo (by rw [hlen, hc]; omega) xs hxs φ s h1 h2 h3
        exact ⟨φ', s', l, i1, by simpa using v1, by simp only [Shape]; exact sh1⟩
      · cases h
    · cases h
  · -- array
    rename_i k e hu
    split at h
    · rename_i u hte
      split at h
      · rename_i hc
        cases h
        obtain ⟨hc1, hc2⟩ := hc
        obtain ⟨hlen, xs, hxs⟩ := inv_arr hu hx
        rw [hc1] at hxs
        obtain ⟨φ', s', css, i1, v1, l1, sh1⟩ := imp_many (ih e u hte) ((List.range k).map fun i => (cs.drop (i * tySize u)).take (tySize u)) (fun p hp => by
         obtain ⟨i, hi, rfl⟩ := List.mem_map.1 hp
         obtain ⟨y, _, hy⟩ := (mapM_at hxs).2 i i (by have : i < k := by simpa using hi
                                                      simp [this])
         exact ⟨_, _, hy⟩) φ s h1 h2 h3
        refine ⟨φ', s', css.flatten, i1, ?_, by simp only [Shape]; exact ⟨css, rfl, by rw [l1]; simp, sh1⟩⟩
        rwa [range_pieces cs (tySize u) k (by rw [hlen, hc2])] at v1
      · cases h
    · cases h
  · cases h
end
end Go.V
/- THE ROW's FRAME for laws whose arguments have depth. -/
namespace Go.V
open Go Go.RowKit Go.ChangeShapes Go.WideShapes Go.ChangeAt
theorem Step.below_ro {φ φ' : Phi} {s s' : St} {w w' : World} (st : Step φ s w φ' s' w') (hr : RelSt φ s w) (h : AllRo s) : Below w.heap.size w w' := by
 refine ⟨st.os, st.tape, st.output, st.size, fun k hk => ?_⟩
 by_cases hi : InIm φ k
 · obtain ⟨id, j, x, e, rfl⟩ := hi
   exact st.ro id j x e (h id (hr.dom _ _ _ e).1)
 · exact st.frame k hk hi
theorem allRo0 : AllRo s0 := fun _ h => by cases h

/-- A slice that came in. -/
theorem slice_cell {P : Program} {W : World} {base : Nat} {t e : TypeId} {v : Value} (hu : P.underlying t = some (.slice e)) (h : Value.okWide P W .any base t v) : v.cells.toList = [v] := by
 unfold Value.okWide at h
 rw [hu] at h
 unfold Cell.okWide at h
 rw [hu] at h
 have h : Cell.ok P W .any base t v := by
  cases v <;> exact h
 unfold Cell.ok at h
 rw [hu] at h
 cases v <;> first | exact h.elim | rfl
theorem vrels_one {φ : Phi} {l : List AV} {v : Value} (h : VRels φ l [v]) : ∃ a, l = [a] ∧ VRel φ a v := by
 cases h with
 | cons a b => cases b; exact ⟨_, rfl, a⟩
end Go.V
/- FIVE ARGUMENTS; tables joined. -/
namespace Go.V
open Go Go.RowKit Go.ChangeShapes Go.WideShapes Go.ChangeAt
theorem AllOk2.app {P : Prog} : ∀ {l m : List (Nat × FnImp)}, AllOk P l → AllOk2 P m → AllOk2 P (l ++ m)
 | _, _, .nil, h => h
 | _, _, .cons a b, h => .cons (.old a) (AllOk2.app b h)
end Go.V
/- WATCHES IN WALKS. -/
namespace Go.V
open Go

mutual
theorem AV.beq_refl : ∀ (a : AV), AV.beq a a = true
 | .bool b => by simp [AV.beq]
 | .int k n => by simp [AV.beq]
 | .float k n => by simp [AV.beq]
 | .complex k n m => by simp [AV.beq]
 | .str s => by
  simp only [AV.beq]
  rw [bytesEq_dec]; simp
 | .ptr a => by simp [AV.beq]
 | .nilPtr => by simp [AV.beq]
 | .slice a b c d e => by simp [AV.beq]
 | .nilSlice => by simp [AV.beq]
 | .empty => by simp [AV.beq]
 | .map a => by simp [AV.beq]
 | .nilMap => by simp [AV.beq]
 | .anyMap => by simp [AV.beq]
 | .func f l m => by simp [AV.beq, AV.beqs_refl l, AV.beqs_refl m]
 | .nilFunc => by simp [AV.beq]
 | .iface t v => by simp [AV.beq, AV.beq_refl v]
 | .nilIface => by simp [AV.beq]
 | .agg l => by simp [AV.beq, AV.beqs_refl l]
 | .tuple l => by simp [AV.beq, AV.beqs_refl l]
theorem AV.beqs_refl : ∀ (l : List AV), AV.beqs l l = true
 | [] => by simp [AV.beqs]
 | a :: l => by simp [AV.beqs, AV.beq_refl a, AV.beqs_refl l]
end
theorem entsBeq_refl : ∀ (l : List AEntry), entsBeq l l = true
 | [] => rfl
 | a :: l => by simp [entsBeq, AV.beq_refl, entsBeq_refl l]
theorem sameObj_refl (o : AObj) : sameObj (some o) (some o) = true := by
 cases o with
 | cells a b c d => simp [sameObj, AObj.beq, AV.beqs_refl]
 | map l c => simp [sameObj, AObj.beq, entsBeq_refl]

def wat (v : AV) (s s' : St) : Bool := match footId v with
 | some id => sameObj (s.heap.get id) (s'.heap.get id)
 | none => true
theorem watch_nil (e : Env) (s s' : St) : watchOk e s s' [] = true := rfl
theorem watch_cons (e : Env) (s s' : St) (x : Opd) (l : List Opd) : watchOk e s s' (x :: l) = (wat (opd e x) s s' && watchOk e s s' l) := rfl
theorem wat_ptr (a : AAddr) (s s' : St) : wat (.ptr a) s s' = sameObj (s.heap.get a.id) (s'.heap.get a.id) := rfl
theorem wat_map (r : Nat) (s s' : St) : wat (.map r) s s' = sameObj (s.heap.get r) (s'.heap.get r) := rfl
theorem goR_watch (T : Tab) (Q : Post) (d : Bool) (dst : Option Nat) (x : Opd) (w : List Opd) (v : AV) (s' : St) (l : List IOp) (fs : List Fr) (e : Env) (s : St) : GoR T Q d dst (x :: w) (.val v s') l fs e s ↔ (watchOk e s s' (x :: w) = true ∧ GoOps T Q d l fs (putV e dst v) s') := Iff.rfl
end Go.V
/- THE RULES OF THE WALK, in one row. -/
namespace Go.V
open Go
theorem wk1 : type_of% @Nat.add_zero ∧ type_of% @Nat.add_assoc ∧ type_of% @Nat.add_left_cancel_iff ∧ type_of% @Int.cast_ofNat_Int ∧ type_of% @Nat.mul_one ∧ type_of% @Nat.one_mul ∧ type_of% @Int.lt_irrefl ∧ type_of% @Nat.zero_add ∧ type_of% @Nat.le_refl ∧ type_of% @Nat.zero_le ∧ type_of% @and_self ∧ type_of% @and_true ∧ type_of% @true_and ∧ type_of% @Bool.and_true ∧ type_of% @Nat.left_eq_add ∧ type_of% @Nat.add_eq_left ∧ type_of% @Nat.succ_ne_self ∧ type_of% @Bool.not_true ∧ type_of% @Bool.not_false :=
 ⟨@Nat.add_zero, @Nat.add_assoc, @Nat.add_left_cancel_iff, @Int.cast_ofNat_Int, @Nat.mul_one, @Nat.one_mul, @Int.lt_irrefl, @Nat.zero_add, @Nat.le_refl, @Nat.zero_le, @and_self, @and_true, @true_and, @Bool.and_true, @Nat.left_eq_add, @Nat.add_eq_left, @Nat.succ_ne_self, @Bool.not_true, @Bool.not_false⟩
theorem wk2 : type_of% @List.length_cons.{0} ∧ type_of% @List.length_nil.{0} ∧ type_of% @List.drop_succ_cons.{0} ∧ type_of% @List.drop_zero.{0} ∧ type_of% @List.take_succ_cons.{0} ∧ type_of% @List.take_zero.{0} ∧ type_of% @List.getElem?_cons_succ.{0} ∧ type_of% @List.getElem?_cons_zero.{0} ∧ type_of% @List.cons_append.{0} ∧ type_of% @List.nil_append.{0} ∧ type_of% @List.append_nil.{0} ∧ type_of% @List.all_cons.{0} ∧ type_of% @List.all_nil.{0} :=
 ⟨@List.length_cons.{0}, @List.length_nil.{0}, @List.drop_succ_cons.{0}, @List.drop_zero.{0}, @List.take_succ_cons.{0}, @List.take_zero.{0}, @List.getElem?_cons_succ.{0}, @List.getElem?_cons_zero.{0}, @List.cons_append.{0}, @List.nil_append.{0}, @List.append_nil.{0}, @List.all_cons.{0}, @List.all_nil.{0}⟩
theorem wk : type_of% @w0 ∧ type_of% @w1 ∧ type_of% @w2 ∧ type_of% @w3 ∧ type_of% @w4 ∧ type_of% @w5 ∧ type_of% @w6 ∧ type_of% @w7 ∧ type_of% @w8 ∧ type_of% @w9 ∧ type_of% @w10 ∧ type_of% @w11 ∧ type_of% @w12 ∧ type_of% @w13 ∧ type_of% @w14 ∧ type_of% @w15 ∧ type_of% @w16 :=
 ⟨@w0, @w1, @w2, @w3, @w4, @w5, @w6, @w7, @w8, @w9, @w10, @w11, @w12, @w13, @w14, @w15, @w16⟩
theorem wq : type_of% @wk ∧ type_of% @wk1 ∧ type_of% @wk2 ∧ type_of% @Option.some.injEq.{0} ∧ type_of% @exists_eq_left'.{1} ∧ type_of% @decide_true ∧ type_of% @decide_false :=
 ⟨@wk, @wk1, @wk2, @Option.some.injEq.{0}, @exists_eq_left'.{1}, @decide_true, @decide_false⟩
end Go.V
