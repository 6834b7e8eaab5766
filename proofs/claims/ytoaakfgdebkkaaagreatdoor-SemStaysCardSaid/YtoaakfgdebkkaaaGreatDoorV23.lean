/- REGIONS WHOSE ORDER IS DRAWN: any row. -/
import Derived.Test.YtoaakfgdebkkaaaGreatDoorVC
import Derived.Orders
set_option linter.unusedVariables false
set_option linter.unusedSimpArgs false
set_option linter.unusedSectionVars false
set_option linter.unusedSimpArgs false
/- REGIONS WHOSE ORDER IS DRAWN: any row. -/
namespace Go.V
open Go

section
variable {P : Prog} {T : Tab} {rec : Rec}

theorem good_freeR {H : Tree AObj} {b : Nat} {s' : St} (hg : Good ⟨H, b⟩ s') {q : BOp} (hf : FreeR H q) (hd : s'.next ≤ q.b ∨ q.n ≤ b) : FreeR s'.heap q := by
 intro id h1 h2
 refine hg.none (hf id h1 h2) ?_
 show ¬ (b ≤ id ∧ id < s'.next)
 omega

/-- A step that none of the ones in front must precede may be made first. -/
theorem move (hT : TameHooks T) (hr : TameRec rec) {y : BOp} {B : List BOp} {e' : Env} {H' : Tree AObj} : ∀ (A : List BOp) {e : Env} {H : Tree AObj},
 (∀ a ∈ A, Rel2 a y) → (∀ a ∈ A, Own a) → Own y → A.Pairwise Rel2 → (∀ a ∈ A, y.row.bef.testBit a.row.i = false) → (∀ a ∈ A, FreeR H a) → FreeR H y →
 evalB T rec (A ++ y :: B) e H = some (e', H') →
 ∃ v sy, stepB T rec y.op y.b e H = some (v, sy) ∧ sy.next = y.n ∧ evalB T rec (A ++ B) (putV e y.dst v) sy.heap = some (e', H') ∧
  (wantedV e y.op.guard = true → y.row.cls = .W → ∀ o ∈ y.watch, (∀ a ∈ A, isDst a.dst (tmpsOf [o]) = false) → ∀ id, footId (opd e o) = some id → sy.heap.get id = H.get id)
 | [], e, H, _, _, _, _, _, _, _, hev => by
  simp only [List.nil_append, evalB] at hev ⊢
  split at hev
  · rename_i v sy h1
    split at hev
    · rename_i hc
      refine ⟨v, sy, h1, hc.1, hev, fun hw _ o ho _ id hid => ?_⟩
      have h2 := hc.2
      unfold watchB at h2
      rw [hw] at h2
      exact watch_same h2 o ho id hid
    · cases hev
  · cases hev
 | a :: A, e, H, hrel, hown, oy, hpw, hbef, hfree, fy, hev => by
  simp only [List.cons_append, evalB] at hev
  split at hev
  · rename_i va s1 h1
    split at hev
    · rename_i hc
      obtain ⟨n1, w1⟩ := hc
      have hg := step_good hT hr h1
      have hra := hrel a (by simp)
      have hoa := hown a (by simp)
      have hpa := List.pairwise_cons.1 hpw
      obtain ⟨v, sy, g1, g2, g3, g4⟩ := move hT hr A (e := putV e a.dst va) (H := s1.heap) (fun x hx => hrel x (by simp [hx])) (fun x hx => hown x (by simp [hx])) oy hpa.2
       (fun x hx => hbef x (by simp [hx])) (fun x hx => good_freeR hg (hfree x (by simp [hx])) (.inl (by rw [n1]; exact (hpa.1 x hx).le))) (good_freeR hg fy (.inl (by rw [n1]; exact hra.le))) hev
      have hyl : isDst a.dst y.row.tmps = false := by
       rcases hra.free with h | h
       · rw [hbef a (by simp)] at h; cases h
       · exact h.1
      have hyl' : isDst a.dst (opTmps y.op) = false := by rw [← oy.tmps]; exact hyl
      have hwy : wantedV (putV e a.dst va) y.op.guard = wantedV e y.op.guard := wanted_putV hyl'
      have look : ∀ o, o ∈ watchOf a.op.ins → ∀ q : BOp, isDst q.dst a.row.tmps = false → isDst q.dst (tmpsOf [o]) = false := by
       intro o ho q hq
       cases hqd : q.dst with
       | none => rfl
       | some d =>
        rw [hqd] at hq
        rw [hoa.tmps] at hq
        simp only [isDst, List.contains_eq_mem, decide_eq_false_iff_not] at hq ⊢
        intro hmem
        refine hq ?_
        have hin : o ∈ insOpds a.op.ins := by
         cases hi : a.op.ins <;> rw [hi] at ho <;> simp only [watchOf, List.mem_singleton, List.not_mem_nil] at ho
         case conv k x =>
          cases k <;> simp only [watchOf, List.mem_singleton, List.not_mem_nil] at ho
          subst ho; simp [insOpds]
         all_goals (subst ho; simp [insOpds])
        have hsub : ∀ (l : List Opd), o ∈ l → d ∈ tmpsOf l := by
         intro l
         induction l with
         | nil => intro h; cases h
         | cons z l ih =>
          intro h
          rcases List.mem_cons.1 h with rfl | hl
          · cases o with
            | t i => simp only [tmpsOf, List.mem_singleton] at hmem ⊢; subst hmem; simp
            | c v => simp [tmpsOf] at hmem
          · cases z with
            | t i => simp only [tmpsOf]; exact List.mem_cons_of_mem _ (ih hl)
            | c v => simp only [tmpsOf]; exact ih hl
        unfold opTmps
        split
        · exact List.mem_cons_of_mem _ (hsub _ hin)
        · exact hsub _ hin
      have keep : ∀ o, isDst a.dst (tmpsOf [o]) = false → opd (putV e a.dst va) o = opd e o := fun o ho => opd_of_tmp (l := [o]) (fun t ht => opd_putV ho ht) o (by simp)
      obtain ⟨sy', sx, k1, k2, k3, k4, k5, k6, k7⟩ := swap hT hr hoa oy hra (hbef a (by simp)) fy h1 n1 w1 g1 g2 (by
       intro hcR hcW hwant o ho id hid
       have hwl : o ∈ y.watch := by
        rcases hra.free with h | h
        · rw [hbef a (by simp)] at h; cases h
        · exact h.2.2 hcR hcW o ho
       refine g4 (by rw [hwy]; exact hwant) hcW o hwl (fun x hx => look o ho x ((hpa.1 x hx).lookR hcR)) id ?_
       rw [keep o (look o ho a hoa.self)]
       exact hid)
      refine ⟨v, sy', k1, k2, ?_, ?_⟩
      · simp only [List.cons_append, evalB, k3]
        rw [if_pos ⟨k5, k6⟩, k4, putV_comm (e := e) (d := y.dst) (d' := a.dst)]
        · exact g3
        · have := hra.dst
          unfold sameDst at this ⊢
          cases h : y.dst <;> cases h' : a.dst <;> simp_all
          intro h; exact this h.symm
      · intro hwant hcW o ho hno id hid
        have hna := hno a (by simp)
        have := g4 (by rw [hwy]; exact hwant) hcW o ho (fun x hx => hno x (by simp [hx])) id (by rw [keep o hna]; exact hid)
        have hcls : a.row.cls = .N ∨ a.row.cls = .R := by
         rcases hra.free with h | h
         · rw [hbef a (by simp)] at h; cases h
         · have h2 := h.2.1
           rw [hcW] at h2
           cases hac : a.row.cls
           · exact .inl rfl
           · rw [hac] at h2; cases h2
           · exact .inr rfl
           · rw [hac] at h2; cases h2
        obtain ⟨q1, q2⟩ := k7 hcls
        rw [q2, this, q1]
    · cases hev
  · cases hev

/- from the evaluator's row -/
theorem mem_tmpsOf {t : Nat} : ∀ {l : List Opd}, t ∈ tmpsOf l → ∃ o ∈ l, t ∈ tmpsOf [o]
 | [], h => by cases h
 | .t i :: l, h => by
  simp only [tmpsOf] at h
  rcases List.mem_cons.1 h with rfl | h
  · exact ⟨_, List.mem_cons_self, by simp [tmpsOf]⟩
  · obtain ⟨o, ho, h2⟩ := mem_tmpsOf h
    exact ⟨o, List.mem_cons_of_mem _ ho, h2⟩
 | .c v :: l, h => by
  simp only [tmpsOf] at h
  obtain ⟨o, ho, h2⟩ := mem_tmpsOf h
  exact ⟨o, List.mem_cons_of_mem _ ho, h2⟩

theorem tmpsOf_mem {t : Nat} {o : Opd} : ∀ {l : List Opd}, o ∈ l → t ∈ tmpsOf [o] → t ∈ tmpsOf l
 | [], h, _ => by cases h
 | z :: l, h, ht => by
  rcases List.mem_cons.1 h with rfl | hl
  · cases o with
    | t i => simp only [tmpsOf, List.mem_singleton] at ht ⊢; subst ht; simp
    | c v => simp [tmpsOf] at ht
  · have := tmpsOf_mem hl ht
    cases z with
    | t i => simp only [tmpsOf]; exact List.mem_cons_of_mem _ this
    | c v => simp only [tmpsOf]; exact this

theorem watch_opds {o : Opd} {i : Ins} (h : o ∈ watchOf i) : o ∈ insOpds i := by
 cases i <;> simp only [watchOf, List.mem_singleton, List.not_mem_nil] at h
 case conv k x =>
  cases k <;> simp only [watchOf, List.mem_singleton, List.not_mem_nil] at h
  subst h; simp [insOpds]
 all_goals (subst h; simp [insOpds])

theorem watch_tmps {o : Opd} {x : IOp} {t : Nat} (h : o ∈ watchOf x.ins) (ht : t ∈ tmpsOf [o]) : t ∈ opTmps x := by
 have := tmpsOf_mem (watch_opds h) ht
 unfold opTmps
 split
 · exact List.mem_cons_of_mem _ this
 · exact this

theorem mem_watchFor {y : DRow} {o : Opd} : ∀ {l : List DRow}, o ∈ watchFor y l ↔ ∃ p ∈ l, p.cls = .R ∧ y.bef.testBit p.i = false ∧ o ∈ watchOf p.op.ins
 | [] => by simp [watchFor]
 | x :: l => by
  have ih := mem_watchFor (y := y) (o := o) (l := l)
  simp only [watchFor]
  split
  · rename_i h
    simp only [Bool.and_eq_true, beq_iff_eq, Bool.not_eq_true'] at h
    rw [List.mem_append, ih]
    constructor
    · rintro (h' | ⟨p, hp, h'⟩)
      · exact ⟨x, List.mem_cons_self, h.1, h.2, h'⟩
      · exact ⟨p, List.mem_cons_of_mem _ hp, h'⟩
    · rintro ⟨p, hp, h'⟩
      rcases List.mem_cons.1 hp with rfl | hp
      · exact .inl h'.2.2
      · exact .inr ⟨p, hp, h'⟩
  · rename_i h
    rw [ih]
    constructor
    · rintro ⟨p, hp, h'⟩
      exact ⟨p, List.mem_cons_of_mem _ hp, h'⟩
    · rintro ⟨p, hp, h'⟩
      rcases List.mem_cons.1 hp with rfl | hp
      · exact absurd (by simp [h'.1, h'.2.1]) h
      · exact ⟨p, hp, h'⟩

def wl (pre : List DRow) (y : DRow) : List Opd := match y.cls with
 | .W => watchFor y pre
 | _ => []

structure RowOk (r : DRow) : Prop where
 self : isDst r.op.dst r.tmps = false
 cls : r.cls = clsIns r.op.ins
 tmps : r.tmps = opTmps r.op
 watch : r.op.watch = []

theorem evalB_of (hT : TameHooks T) (hr : TameRec rec) : ∀ (rs pre : List DRow) {e : Env} {s : St} {x : Ex} {e' : Env} {s' : St}, evalOps T rec true (watched pre rs) e s = .ok x e' s' →
 (∀ r ∈ rs, RowOk r) → rs.Pairwise (fun a b => pairOk a b = true) → (∀ p ∈ pre, p.cls = .R → ∀ r ∈ rs, isDst r.op.dst p.tmps = false) → (∀ p ∈ pre, p.tmps = opTmps p.op) →
 x = .normal ∧ ∃ L : List BOp, L.map (·.row) = rs ∧ L.Pairwise Rel2 ∧ (∀ q ∈ L, Own q ∧ s.next ≤ q.b ∧ q.n ≤ s'.next) ∧
  (∀ q ∈ L, q.row.cls = .W → ∀ p ∈ pre, p.cls = .R → q.row.bef.testBit p.i = false → ∀ o ∈ watchOf p.op.ins, o ∈ q.watch) ∧ evalB T rec L e s.heap = some (e', s'.heap)
 | [], pre, e, s, x, e', s', hev, _, _, _, _ => by
  simp only [watched, evalOps] at hev
  cases hev
  exact ⟨rfl, [], rfl, .nil, by simp, by simp, rfl⟩
 | y :: l, pre, e, s, x, e', s', hev, hrow, hpw, hpre, hpt => by
  have hy := hrow y (by simp)
  have hpw' := List.pairwise_cons.1 hpw
  -- the instruction
  have hop : watched pre (y :: l) = ⟨y.op.dst, y.op.guard, wl pre y, y.op.ins⟩ :: watched (pre ++ [y]) l := by
   have h0 : y.op = ⟨y.op.dst, y.op.guard, [], y.op.ins⟩ := by
    have := hy.watch
    cases h : y.op with
    | mk a b c d => rw [h] at this; simp only [] at this; subst this; rfl
   unfold wl
   conv => lhs; unfold watched
   cases hc : y.cls with
   | W => rfl
   | _ => simp only []; rw [← h0]
  rw [hop] at hev
  simp only [evalOps] at hev
  -- what is to be shown of the head, given the tail
  have finish : ∀ (v : AV) (s1 : St), s.next ≤ s1.next → stepB T rec y.op s.next e s.heap = some (v, s1) → watchB ⟨y, wl pre y, s.next, s1.next⟩ e s.heap s1.heap = true → evalOps T rec true (watched (pre ++ [y]) l) (putV e y.op.dst v) s1 = .ok x e' s' →
   x = .normal ∧ ∃ L : List BOp, L.map (·.row) = y :: l ∧ L.Pairwise Rel2 ∧ (∀ q ∈ L, Own q ∧ s.next ≤ q.b ∧ q.n ≤ s'.next) ∧
    (∀ q ∈ L, q.row.cls = .W → ∀ p ∈ pre, p.cls = .R → q.row.bef.testBit p.i = false → ∀ o ∈ watchOf p.op.ins, o ∈ q.watch) ∧ evalB T rec L e s.heap = some (e', s'.heap) := by
   intro v s1 hle hst hwb hrest
   have hg2 := (ops_tame hT hr _ _ _ hrest).1.next
   obtain ⟨hx, L, i1, i2, i3, i4, i5⟩ := evalB_of hT hr l (pre ++ [y]) hrest (fun r hr => hrow r (by simp [hr])) hpw'.2
    (fun p hp hcR r hr => by
     rcases List.mem_append.1 hp with hp | hp
     · exact hpre p hp hcR r (by simp [hr])
     · simp only [List.mem_singleton] at hp
       subst hp
       exact (pairOk_spec (hpw'.1 r hr)).2.1 hcR)
    (fun p hp => by
     rcases List.mem_append.1 hp with hp | hp
     · exact hpt p hp
     · simp only [List.mem_singleton] at hp
       subst hp
       exact hy.tmps)
   refine ⟨hx, ⟨y, wl pre y, s.next, s1.next⟩ :: L, by simp [i1], List.pairwise_cons.2 ⟨fun q hq => ?_, i2⟩, ?_, ?_, ?_⟩
   · have hql : q.row ∈ l := by rw [← i1]; exact List.mem_map_of_mem hq
     have hp := hpw'.1 q.row hql
     obtain ⟨p1, p2, p3⟩ := pairOk_spec hp
     refine ⟨p2, p3.imp id (·.1), ?_, p1, (i3 q hq).2.1, ?_⟩
     · show isDst q.dst (tmpsOf (wl pre y)) = false
       cases hd : q.dst with
       | none => rfl
       | some d =>
        simp only [isDst, List.contains_eq_mem, decide_eq_false_iff_not]
        intro hm
        obtain ⟨o, ho, hdo⟩ := mem_tmpsOf hm
        unfold wl at ho
        split at ho
        · obtain ⟨p, hp1, hpR, _, hp4⟩ := mem_watchFor.1 ho
          have h1 := hpre p hp1 hpR q.row (by simp [hql])
          have hd' : q.row.op.dst = some d := hd
          rw [hd', hpt p hp1] at h1
          simp only [isDst, List.contains_eq_mem, decide_eq_false_iff_not] at h1
          exact h1 (watch_tmps hp4 hdo)
        · cases ho
     · cases hb : q.row.bef.testBit y.i with
       | true => exact .inl rfl
       | false =>
        rw [hb] at p3
        rcases p3 with h | h
        · cases h
        · exact .inr ⟨h.2.1, h.2.2, fun hR hW o ho => i4 q hq hW y (by simp) hR hb o ho⟩
   · intro q hq
     rcases List.mem_cons.1 hq with rfl | hq
     · refine ⟨⟨hy.self, hle, ?_, hy.cls, hy.tmps⟩, Nat.le_refl _, hg2⟩
       intro hne
       show wl pre y = []
       unfold wl
       split
       · rename_i h; exact absurd h hne
       · rfl
     · have := i3 q hq
       exact ⟨this.1, by omega, this.2.2⟩
   · intro q hq hW p hp hR hb o ho
     rcases List.mem_cons.1 hq with rfl | hq
     · show o ∈ wl pre y
       unfold wl
       rw [show y.cls = .W from hW]
       exact mem_watchFor.2 ⟨p, hp, hR, hb, ho⟩
     · exact i4 q hq hW p (by simp [hp]) hR hb o ho
   · simp only [evalB, BOp.op, hst]
     rw [if_pos (by first | exact ⟨rfl, hwb⟩ | exact ⟨trivial, hwb⟩)]
     exact i5
  cases hw : wantedV e y.op.guard with
  | false =>
   rw [hw] at hev
   exact finish .undef s (Nat.le_refl _) (step_not hw) (by simp [watchB, BOp.op, hw]) hev
  | true =>
   rw [hw] at hev
   simp only [] at hev
   have tm := ins_tame hT hr (e := e) (s := s) (i := y.op.ins)
   cases hi : evalIns T rec e s y.op.ins with
   | fail => rw [hi] at hev; cases hev
   | panic v s1 => rw [hi] at hev; cases hev
   | val v s1 =>
    rw [hi] at hev
    simp only [] at hev
    unfold Tame at tm
    simp only [hi, Res.st] at tm
    cases hwt : watchOk e s s1 (wl pre y) with
    | false => rw [hwt] at hev; cases hev
    | true =>
     rw [hwt] at hev
     exact finish v s1 (tm (by simp)).1.next (step_yes hw hi) (by simp only [watchB, BOp.op, hw]; rw [← hwt]; exact watch_congr (s := ⟨s.heap, 0⟩) (t := s) (s' := ⟨s1.heap, 0⟩) (t' := s1) rfl rfl fun _ _ => rfl) hev
end
end Go.V
