/- SOUNDNESS: one operation. -/
import Derived.Test.YtlpdekocilhciaaV12
/- SOUNDNESS: one operation. -/
namespace Go.V
open Go

def Free (s : St) (n : Nat) : Prop := ∀ id, s.next ≤ id → id < n → s.heap.get id = none

def Res.nextId : Res → Nat
  | .val _ s => s.next
  | .panic _ s => s.next
  | .fail => 0

/-- What is to hold behind an operation's result. -/
def Cont (φ : Phi) (s : St) (w : World) (r : Res) (next pan : Value → World → Prop) : Prop := match r with
  | .val v s' => ∀ c w' φ', Step φ s w φ' s' w' → VRel φ' v c → next c w'
  | .panic v s' => ∀ c w' φ', Step φ s w φ' s' w' → VRel φ' v c → pan c w'
  | .fail => False

def CallOk (P : Prog) (φ : Phi) (s : St) (w : World) (f : FuncId) (cargs : Array Value) (r : Res) : Prop :=
  ∀ (o : Oper) (a : Act) (next : Act → World → Prop) (Q : Exit → Act → World → Prop),
    Cont φ s w r (fun c w' => next (a.put o.dst c) w') (fun c w' => Q (.panic [{ v := c, recovered := false }]) a w') →
    o.upon P.toProgram a next Q ((callFunc f cargs).run P.toProgram w)

def FuncsOk (P : Prog) (T : Tab) (rec : Rec) : Prop :=
  ∀ f args s r, callF T rec f args s = r → r ≠ .fail → ∀ φ w cargs, GlobOk P φ → RelSt φ s w → VRels φ args cargs → Free s r.nextId → CallOk P φ s w f cargs.toArray r

section
variable {P : Prog} {T : Tab} {rec : Rec} {φ : Phi} {s : St} {w : World} {o : Oper} {a : Act} {next : Act → World → Prop} {Q : Exit → Act → World → Prop}

theorem wp_val {c : Value} {w' : World} (hrun : (execOp a.eval o).run P.toProgram w = .ok (.value c) w') (h : next (a.put o.dst c) w') : o.wp P.toProgram a w next Q := by
  unfold Oper.wp; rw [hrun]; exact h

theorem wp_unit {w' : World} (hrun : (execOp a.eval o).run P.toProgram w = .ok .skip w') (h : next (a.put o.dst undef) w') : o.wp P.toProgram a w next Q := by
  unfold Oper.wp; rw [hrun]; exact h

theorem ofOpt_ne {r : Option AV} {q : Res} (h : ofOpt s r = q) (hn : q ≠ .fail) : ∃ v, r = some v ∧ q = .val v s := by
  cases r with
  | none => simp [ofOpt] at h; exact absurd h.symm hn
  | some v => exact ⟨v, rfl, h.symm⟩

theorem ofSt_ne {r : Option St} {q : Res} (h : ofSt r = q) (hn : q ≠ .fail) : ∃ s', r = some s' ∧ q = .val .undef s' := by
  cases r with
  | none => simp [ofSt] at h; exact absurd h.symm hn
  | some v => exact ⟨v, rfl, h.symm⟩

theorem ofBoth_ne {r : Option (AV × St)} {q : Res} (h : ofBoth r = q) (hn : q ≠ .fail) : ∃ v s', r = some (v, s') ∧ q = .val v s' := by
  cases r with
  | none => simp [ofBoth] at h; exact absurd h.symm hn
  | some v => exact ⟨v.1, v.2, rfl, h.symm⟩

theorem map1_ne {x : Operand} {f : Opd → Ins} {e : Env} {r : Res} (h : evalIns T rec e s (map1 P x f) = r) (hn : r ≠ .fail) : ∃ y, ofOpd P x = some y ∧ evalIns T rec e s (f y) = r := by
  unfold map1 at h
  split at h
  · exact ⟨_, by assumption, h⟩
  · simp [evalIns] at h; exact absurd h.symm hn

theorem map2_ne {x y : Operand} {f : Opd → Opd → Ins} {e : Env} {r : Res} (h : evalIns T rec e s (map2 P x y f) = r) (hn : r ≠ .fail) : ∃ x' y', ofOpd P x = some x' ∧ ofOpd P y = some y' ∧ evalIns T rec e s (f x' y') = r := by
  unfold map2 at h
  split at h
  · exact ⟨_, _, by assumption, by assumption, h⟩
  · simp [evalIns] at h; exact absurd h.symm hn

theorem bad_ne {e : Env} {r : Res} (h : evalIns T rec e s .bad = r) (hn : r ≠ .fail) : False := by
  simp [evalIns] at h; exact hn h.symm

/-- What is to be shown of each operation. -/
def OpOk (P : Prog) (T : Tab) (rec : Rec) (o : Oper) : Prop :=
  ∀ {φ : Phi} {s : St} {w : World} {a : Act} {nt : Nat} {e : Env} {r : Res} {next : Act → World → Prop} {Q : Exit → Act → World → Prop}, GlobOk P φ → RelEnv nt φ e a → RelSt φ s w → evalIns T rec e s (ofOp P o) = r → r ≠ .fail → Free s r.nextId →
    Cont φ s w r (fun c w' => next (a.put o.dst c) w') (fun c w' => Q (.panic [{ v := c, recovered := false }]) a w') → o.wp P.toProgram a w next Q

theorem op_move {dst : Option Tmp} {x : Operand} {ty : TypeId} {pos : String} {after : Array Edge} {g : Option (Nat × Bool)} : OpOk P T rec ⟨dst, .move x, ty, pos, after, g⟩ := by
  intro φ s w a nt e r next Q hg he hs hev hn hf hk
  obtain ⟨y, hy, h⟩ := map1_ne hev hn
  simp only [evalIns] at h; subst h
  exact wp_val (c := a.eval x) rfl (hk _ _ _ (.refl hs) (opd_rel hg he hy))

theorem op_assign {dst : Option Tmp} {x : Operand} {ty : TypeId} {pos : String} {after : Array Edge} {g : Option (Nat × Bool)} : OpOk P T rec ⟨dst, .assign x, ty, pos, after, g⟩ := by
  intro φ s w a nt e r next Q hg he hs hev hn hf hk
  obtain ⟨y, hy, h⟩ := map1_ne hev hn
  simp only [evalIns] at h; subst h
  exact wp_val (c := a.eval x) rfl (hk _ _ _ (.refl hs) (opd_rel hg he hy))

theorem op_pick {dst : Option Tmp} {c x y : Operand} {ty : TypeId} {pos : String} {after : Array Edge} {g : Option (Nat × Bool)} : OpOk P T rec ⟨dst, .pick c x y, ty, pos, after, g⟩ := by
  intro φ s w a nt e r next Q hg he hs hev hn hf hk
  simp only [ofOp] at hev
  split at hev
  · rename_i c' x' y' h1 h2 h3
    have r1 := opd_rel hg he h1
    simp only [evalIns] at hev
    split at hev
    · rename_i hc
      subst hev
      rw [hc] at r1
      cases hcc : a.eval c <;> rw [hcc] at r1 <;> cases r1
      exact wp_val (c := a.eval x) (by simp [execOp, hcc, asBool]) (hk _ _ _ (.refl hs) (opd_rel hg he h2))
    · rename_i hc
      subst hev
      rw [hc] at r1
      cases hcc : a.eval c <;> rw [hcc] at r1 <;> cases r1
      exact wp_val (c := a.eval y) (by simp [execOp, hcc, asBool]) (hk _ _ _ (.refl hs) (opd_rel hg he h3))
    · exact absurd hev.symm hn
  · exact (bad_ne hev hn).elim

theorem free_next {n : Nat} (h : Free s n) (hn : s.next < n) : s.heap.get s.next = none := h _ (Nat.le_refl _) hn

theorem op_alloc {dst : Option Tmp} {t ty : TypeId} {pos : String} {after : Array Edge} {g : Option (Nat × Bool)} : OpOk P T rec ⟨dst, .alloc t, ty, pos, after, g⟩ := by
  intro φ s w a nt e r next Q hg he hs hev hn hf hk
  simp only [ofOp] at hev
  split at hev
  · rename_i z hz
    simp only [evalIns, boxV] at hev
    subst hev
    obtain ⟨cz, z1, z2⟩ := zeroCells_rel hz
    obtain ⟨φ', w', h1, h2, h3⟩ := box_ok (P := P) (el := t) (v := cz) hs (free_next hf (by simp [Res.nextId, St.add])) (z2 φ)
    refine wp_val (c := .pointer (some ⟨w.heap.size, 0, none⟩)) (w' := w') ?_ (hk _ _ _ h2 h3)
    simp only [Instr.box, Sem.run_bind] at h1
    simp only [execOp, Instr.alloc, Sem.run_bind, z1, Result.andThen_ok]
    rw [h1]
    rfl
  · exact (bad_ne hev hn).elim

theorem op_box {dst : Option Tmp} {t ty : TypeId} {x : Operand} {pos : String} {after : Array Edge} {g : Option (Nat × Bool)} : OpOk P T rec ⟨dst, .box t x, ty, pos, after, g⟩ := by
  intro φ s w a nt e r next Q hg he hs hev hn hf hk
  obtain ⟨y, hy, h⟩ := map1_ne hev hn
  simp only [evalIns, boxV] at h
  subst h
  obtain ⟨φ', w', h1, h2, h3⟩ := box_ok (P := P) (el := t) (v := a.eval x) hs (free_next hf (by simp [Res.nextId, St.add])) (opd_rel hg he hy).cells
  refine wp_val (c := .pointer (some ⟨w.heap.size, 0, none⟩)) (w' := w') ?_ (hk _ _ _ h2 h3)
  simp only [execOp, Sem.run_bind, h1, Result.andThen_ok, Sem.run_pure]

theorem op_load {dst : Option Tmp} {t ty : TypeId} {x : Operand} {pos : String} {after : Array Edge} {g : Option (Nat × Bool)} : OpOk P T rec ⟨dst, .load t x, ty, pos, after, g⟩ := by
  intro φ s w a nt e r next Q hg he hs hev hn hf hk
  simp only [ofOp] at hev
  split at hev
  · rename_i n hsz
    obtain ⟨y, hy, h⟩ := map1_ne hev hn
    simp only [evalIns] at h
    obtain ⟨v, h1, rfl⟩ := ofOpt_ne h hn
    obtain ⟨c, c1, c2⟩ := load_ok (P := P) hs (opd_rel hg he hy) hsz h1
    exact wp_val (by simp only [execOp, Sem.run_bind, c1, Result.andThen_ok, Sem.run_pure]) (hk _ _ _ (.refl hs) c2)
  · exact (bad_ne hev hn).elim

theorem op_store {dst : Option Tmp} {t ty : TypeId} {x y : Operand} {pos : String} {after : Array Edge} {g : Option (Nat × Bool)} : OpOk P T rec ⟨dst, .store t x y, ty, pos, after, g⟩ := by
  intro φ s w a nt e r next Q hg he hs hev hn hf hk
  simp only [ofOp] at hev
  split at hev
  · rename_i n hsz
    obtain ⟨x', y', hx, hy, h⟩ := map2_ne hev hn
    simp only [evalIns] at h
    obtain ⟨s', h1, rfl⟩ := ofSt_ne h hn
    obtain ⟨w', c1, c2⟩ := store_ok (P := P) hs (opd_rel hg he hx) (opd_rel hg he hy) hsz h1
    exact wp_unit (by simp only [execOp, Sem.run_bind, c1, Result.andThen_ok, Sem.run_pure]) (hk _ _ _ c2 (.tuple (l' := []) .nil))
  · exact (bad_ne hev hn).elim

theorem op_nilCheck {dst : Option Tmp} {x : Operand} {ty : TypeId} {pos : String} {after : Array Edge} {g : Option (Nat × Bool)} : OpOk P T rec ⟨dst, .nilCheck x, ty, pos, after, g⟩ := by
  intro φ s w a nt e r next Q hg he hs hev hn hf hk
  obtain ⟨y, hy, h⟩ := map1_ne hev hn
  have hx := opd_rel hg he hy
  simp only [evalIns] at h
  split at h
  · rename_i ad hc
    subst h
    rw [hc] at hx
    cases hcx : a.eval x <;> rw [hcx] at hx <;> cases hx
    rename_i q1 q2 q3
    exact wp_val (c := a.eval x) (by simp only [execOp, hcx]; rfl) (hk _ _ _ (.refl hs) (by rw [hcx]; exact .ptr q1 q2 q3))
  · rename_i f l m hc
    subst h
    rw [hc] at hx
    cases hcx : a.eval x <;> rw [hcx] at hx <;> cases hx
    rename_i q1 q2
    exact wp_val (c := a.eval x) (by simp only [execOp, hcx]; rfl) (hk _ _ _ (.refl hs) (by rw [hcx]; exact .func q1 q2))
  · rename_i t v hc
    subst h
    rw [hc] at hx
    cases hcx : a.eval x <;> rw [hcx] at hx <;> cases hx
    rename_i q1
    exact wp_val (c := a.eval x) (by simp only [execOp, hcx]; rfl) (hk _ _ _ (.refl hs) (by rw [hcx]; exact .iface q1))
  · exact absurd h.symm hn

theorem binV_guard {op : BinOp} {t : TypeId} {xo yo : Operand} {x y v : AV} {cx cy : Value} (hx : VRel φ x cx) (h : binV op x y = some v) (w : World) : (eqGuard op t xo yo cx cy).run P.toProgram w = .ok () w := by
  unfold binV at h
  split at h
  · cases hx; unfold eqGuard; cases op <;> simp
  · cases hx; unfold eqGuard; cases op <;> simp
  · cases hx; unfold eqGuard; cases op <;> simp
  · cases hx; unfold eqGuard; cases op <;> simp
  · cases h

structure EqShape (P : Prog) (t : TypeId) (cx cy : Value) : Prop where
  eql : binOp .eql t cx cy = (do pure (.bool (← Op.equal t cx cy)))
  neq : binOp .neq t cx cy = (do pure (.bool (!(← Op.equal t cx cy))))
  guard : ∀ (op : BinOp) (xo yo : Operand) (w : World), (∀ a b, cx = .agg a → cy = .agg b → P.eqGuardType P.depth t = false) → (cx = .nilIface → cy = .nilIface → (isConstOpd xo || isConstOpd yo) = true) → (eqGuard op t xo yo cx cy).run P.toProgram w = .ok () w

theorem eqShape {eT : EqT} {x y : AV} {b : Bool} {cx cy : Value} {t : TypeId} (h : eqV eT x y = some b) (hni : eT ≠ .prim .int) (hns : eT ≠ .prim .str) (hx : VRel φ x cx) (hy : VRel φ y cy) : EqShape P t cx cy := by
  cases eT with
  | prim k =>
    cases k
    · exact absurd rfl hni
    · cases x <;> cases y <;> simp [eqV, primEq] at h
      cases hx; cases hy
      exact ⟨rfl, rfl, fun op xo yo w _ _ => by unfold eqGuard; cases op <;> simp⟩
    · exact absurd rfl hns
  | nilable k =>
    cases k <;> cases x <;> cases y <;> simp [eqV, nilEq] at h <;> cases hx <;> cases hy
    all_goals
      refine ⟨rfl, rfl, fun op xo yo w _ hc => ?_⟩
      unfold eqGuard
      cases op <;> simp
    all_goals
      have := hc rfl rfl
      cases xo <;> cases yo <;> simp [isConstOpd] at this ⊢
  | agg ps =>
    obtain ⟨_, _, rfl, rfl, _⟩ := eqV_agg h
    cases hx; cases hy
    exact ⟨rfl, rfl, fun op xo yo w hg _ => run_eqGuard_agg w op t xo yo _ _ (hg _ _ rfl rfl)⟩

theorem op_bin {dst : Option Tmp} {op : BinOp} {t yt : TypeId} {x y : Operand} {ty : TypeId} {pos : String} {after : Array Edge} {g : Option (Nat × Bool)} : OpOk P T rec ⟨dst, .binOp op t x y yt, ty, pos, after, g⟩ := by
  intro φ s w a nt e r next Q hg he hs hev hn hf hk
  have plain : evalIns T rec e s (map2 P x y (.bin op)) = r → Oper.wp P.toProgram ⟨dst, .binOp op t x y yt, ty, pos, after, g⟩ a w next Q := by
    intro hev
    obtain ⟨x', y', hx, hy, h⟩ := map2_ne hev hn
    simp only [evalIns] at h
    obtain ⟨v, h1, rfl⟩ := ofOpt_ne h hn
    have rx := opd_rel hg he hx
    have ry := opd_rel hg he hy
    obtain ⟨c, c1, c2⟩ := binV_ok (P := P) rx ry h1 t
    exact wp_val (by simp only [execOp, Sem.run_bind, binV_guard (P := P) rx h1, Result.andThen_ok, c1, Sem.run_pure]) (hk _ _ _ (.refl hs) c2)
  have equal : ∀ (neg : Bool) (d : TypeDesc) (eT : EqT), op = (if neg then .neq else .eql) → P.underlying t = some d → (∀ k, d ≠ .int k) → d ≠ .string → eqT P 6 t = some eT →
      eqGuardOk P t d x y = true →
      evalIns T rec e s (map2 P x y (.eq neg eT)) = r → Oper.wp P.toProgram ⟨dst, .binOp op t x y yt, ty, pos, after, g⟩ a w next Q := by
    intro neg d eT hop hu n1 n2 heT hgd hev
    obtain ⟨x', y', hx, hy, h⟩ := map2_ne hev hn
    simp only [evalIns] at h
    split at h
    · rename_i b hb
      subst h
      have rx := opd_rel hg he hx
      have ry := opd_rel hg he hy
      have heq := eq_ok 6 10000 t eT heT (by omega) rx ry hb w
      have hne1 : eT ≠ .prim .int := by
        rintro rfl
        simp only [eqT, hu] at heT
        cases d <;> simp at heT n1 <;> (repeat' split at heT) <;> simp at heT
      have hne2 : eT ≠ .prim .str := by
        rintro rfl
        simp only [eqT, hu] at heT
        cases d <;> simp at heT n2 <;> (repeat' split at heT) <;> simp at heT
      have sh := eqShape (P := P) (t := t) hb hne1 hne2 rx ry
      have hguard : (eqGuard op t x y (a.eval x) (a.eval y)).run P.toProgram w = .ok () w := by
        refine sh.guard op x y w ?_ ?_
        · intro p q hp hq
          cases d <;> simp [eqGuardOk] at hgd <;> first | exact hgd | skip
          all_goals
            exfalso
            rw [hp] at rx
            cases hox : opd e x' <;> rw [hox] at rx hb <;> cases rx
            simp only [eqT, hu] at heT
            (repeat' split at heT) <;> simp at heT <;> subst heT <;> simp [eqV, primEq] at hb <;> (cases hoy : opd e y' <;> rw [hoy] at hb <;> simp [nilEq] at hb)
        · intro hp hq
          cases d <;> simp [eqGuardOk] at hgd <;> first | (simp; exact hgd) | skip
          all_goals
            exfalso
            rw [hp] at rx
            cases hox : opd e x' <;> rw [hox] at rx hb <;> cases rx
            simp only [eqT, hu] at heT
            (repeat' split at heT) <;> simp at heT <;> subst heT <;> simp [eqV, primEq] at hb <;> (cases hoy : opd e y' <;> rw [hoy] at hb <;> simp [nilEq] at hb)
      cases neg with
      | false =>
        simp only [Bool.false_eq_true, if_false] at hop
        subst hop
        exact wp_val (c := .bool b) (by simp only [execOp, Sem.run_bind, hguard, Result.andThen_ok, sh.eql, Op.equal, Op.maxDepth, heq, Sem.run_pure]) (hk _ _ _ (.refl hs) (.bool _))
      | true =>
        simp only [if_true] at hop
        subst hop
        exact wp_val (c := .bool (!b)) (by simp only [execOp, Sem.run_bind, hguard, Result.andThen_ok, sh.neq, Op.equal, Op.maxDepth, heq, Sem.run_pure]) (hk _ _ _ (.refl hs) (.bool _))
    · exact absurd h.symm hn
  simp only [ofOp] at hev
  cases op
  case eql =>
    simp only [] at hev
    split at hev
    · exact plain hev
    · exact plain hev
    · exact plain hev
    · exact plain hev
    · rename_i d d1 d2 d3 d4 hu
      split at hev
      · rename_i eT heT
        split at hev
        · rename_i hgd
          exact equal false d eT rfl hu d1 d2 heT hgd hev
        · exact (bad_ne hev hn).elim
      · exact (bad_ne hev hn).elim
    · exact (bad_ne hev hn).elim
  case neq =>
    simp only [] at hev
    split at hev
    · exact plain hev
    · exact plain hev
    · exact plain hev
    · exact plain hev
    · rename_i d d1 d2 d3 d4 hu
      split at hev
      · rename_i eT heT
        split at hev
        · rename_i hgd
          exact equal true d eT rfl hu d1 d2 heT hgd hev
        · exact (bad_ne hev hn).elim
      · exact (bad_ne hev hn).elim
    · exact (bad_ne hev hn).elim
  all_goals exact plain hev
end
end Go.V
