/- slices.partitionEqualOrdered, partitionOrdered over the small language: whole. -/
import Derived.Test.YteepeacefpkmbaaGreatDoorVZ
import Derived.Test.YteepeacefpkmbaaGreatDoorPA
set_option linter.unusedVariables false
set_option linter.unusedSimpArgs false
set_option linter.unusedSectionVars false
/- slices.partitionEqualOrdered, partitionOrdered over the small language: whole. -/
/- slices.partitionEqualOrdered, partitionOrdered over the small language: whole. -/
namespace Go.V
open Go
set_option linter.unusedSimpArgs false
set_option linter.unusedVariables false
section
open Z
abbrev pdqQl0 : ICode := .loop pdqPl7
abbrev pdqQl1 : ICode := .loop pdqPl13
end
section
variable {α : Type} {en : α → AV} {lt : α → α → Bool} {T : Tab}
set_option maxHeartbeats 8000000 in
theorem pe_outer (hL : LessOk T 57 en lt) {Q : Post} {s0 : St} {B inc n cap : Nat} {ex : Bool} (hB : B < s0.next) (hn : n ≤ 1000000000) (a b : Nat) (hab : a < b) (hbn : b ≤ n) (f0 : Nat → α) (pv : α)
    (K : ∀ (e : Env) (s : St) (g : Nat → α) (i : Nat), a < i → i ≤ b → (∀ x, a < x → x < i → lt (g a) (g x) = false) → (∀ x, i ≤ x → x < b → lt (g a) (g x) = true) → Aft en s0 B inc n g s → PermR a b f0 g → opd e (.t 9) = .int .i64 (i : Int) → g a = pv → Ret T Q [.seq pdqPl8] .normal e s) :
    ∀ (k i j : Nat) (e : Env) (s : St) (g : Nat → α), k = j + 1 - i → a < i → i ≤ j + 1 → j < b → (∀ x, a < x → x < i → lt (g a) (g x) = false) → (∀ x, j < x → x < b → lt (g a) (g x) = true) → opd e (.t 0) = dsl B inc n cap ex → opd e (.t 1) = .int .i64 (a : Int) → opd e (.t 9) = .int .i64 (i : Int) → opd e (.t 10) = .int .i64 (j : Int) → Aft en s0 B inc n g s → PermR a b f0 g → g a = pv →
      Go T Q (pdqQl0) [.block 0, .seq pdqPl8] e s := by
  have kc := hL.cells
  have ki := hL.cell
  intro k
  induction k using Nat.strongRecOn with
  | _ k ih =>
    intro i j e s g hk hai hij hjb hlo hhi h0 h1 h9 h10 hA hP hpv
    rw [go_loop]
    simp only [wk, wk1, wk2, Option.some.injEq, exists_eq_left', decide_true, decide_false, seval, go_regionPw, pw_normal]
    refine pe_up (cap := cap) (ex := ex) hL hn a g hA e i j (by omega) (by omega) ?_ (j + 1 - i) i e (by omega) (Nat.le_refl _) (fun x x1 x2 => by omega) h0 h1 rfl h9 h10
    intro e m m1 m2 hs1 hst1 h0 h1 h2 h9 h10
    simp only [wk, wk1, wk2, Option.some.injEq, exists_eq_left', decide_true, decide_false, seval, go_regionPw, pw_normal]
    refine pe_dn (cap := cap) (ex := ex) hL hn a g hA e m j (by omega) (by omega) (by omega) ?_ (j + 1 - m) j e (by omega) (Nat.le_refl _) (fun x x1 x2 => by omega) h0 h1 rfl h9 h10
    intro e l l1 l2 hs2 hst2 h0 h1 h2' h9 h10
    have lowr : ∀ x, a < x → x < m → lt (g a) (g x) = false := fun x x1 x2 => by
      by_cases hx : x < i
      · exact hlo x x1 hx
      · exact hs1 x (by omega) x2
    have highr : ∀ x, l < x → x < b → lt (g a) (g x) = true := fun x x1 x2 => by
      by_cases hx : j < x
      · exact hhi x hx x2
      · exact hs2 x x1 (by omega)
    by_cases hml : m ≤ l
    · have hc : ¬ ((l : Int) < (m : Int)) := by omega
      have q1 := hst1 (by omega)
      have q2 := hst2 hml
      have hne : m ≠ l := by intro he; subst he; rw [q1] at q2; cases q2
      have u1 : wrapF .i64 ((m : Int) + 1) = ((m + 1 : Nat) : Int) := i64_add1 (by omega)
      have u2 : wrapF .i64 ((l : Int) - 1) = ((l - 1 : Nat) : Int) := i64_sub1 (by omega) (by omega)
      have hmn : m < n := by omega
      have hln : l < n := by omega
      have hm1 : m + 1 ≤ n := hmn
      have hl1 : l + 1 ≤ n := hln
      obtain ⟨lo', hlo', hrow⟩ := hA.row
      have r1 := mp_take (en := en) (f := g) hmn
      have r2 := mp_take (en := en) (f := g) hln
      have sp1 := fun f y => mp_splice (en := en) (f := f) (x := y) hmn
      have sp2 := fun f y => mp_splice (en := en) (f := f) (x := y) hln
      have hA1 := hA.put hB (swp g m l)
      have hP1 := hP.trans (PermR.swap (f := g) (i := m) (j := l) (a := a) (b := b) (by omega) (by omega) (by omega) (by omega))
      have ga : swp g m l a = g a := by unfold swp; rw [if_neg (by omega), if_neg (by omega)]
      simp only [h0, h1, h9, h10, hc, u1, u2, hmn, hln, hm1, hl1, hrow, hlo', r1, r2, kc, ki, sp1, sp2, upd_swp, wk, wk1, wk2, Option.some.injEq, exists_eq_left', decide_true, decide_false, seval, go_regionPw, pw_normal]
      refine ih (l - 1 + 1 - (m + 1)) (by omega) (m + 1) (l - 1) _ _ _ rfl (by omega) (by omega) (by omega) ?_ ?_ ?_ ?_ ?_ ?_ hA1 hP1 (ga.trans hpv)
      · intro x x1 x2
        rw [ga]; unfold swp
        by_cases e1 : x = m
        · rw [if_pos e1]; exact q2
        · rw [if_neg e1, if_neg (by omega)]; exact lowr x x1 (by omega)
      · intro x x1 x2
        rw [ga]; unfold swp
        by_cases e1 : x = l
        · rw [if_neg (by omega), if_pos e1]; exact q1
        · rw [if_neg (by omega), if_neg e1]; exact highr x (by omega) x2
      all_goals simp only [h0, h1, h9, h10, u1, u2, wk, wk1, Nat.reduceEqDiff, reduceIte, decide_true]
    · have hc : ((l : Int) < (m : Int)) := by omega
      have hK := fun e h9 => K e s g m (by omega) (by omega) lowr (fun x x1 x2 => highr x (by omega) x2) hA hP h9 hpv
      generalize ([.seq pdqPl8] : List Fr) = FF at *
      simp only [h0, h1, h9, h10, hc, wk, wk1, wk2, Option.some.injEq, exists_eq_left', decide_true, decide_false, seval, go_regionPw, pw_normal]
      refine hK _ ?_
      simp only [h9, wk, wk1, wk2, Option.some.injEq, exists_eq_left', decide_true, decide_false, seval, go_regionPw, pw_normal]

set_option maxHeartbeats 8000000 in
theorem pe_ran (hc : T 58 = some (.code ir58)) (hL : LessOk T 57 en lt) (s : St) (B inc n cap : Nat) (ex : Bool) (hB : B < s.next) (hn : n ≤ 1000000000) (a b p : Nat) (hap : a ≤ p) (hpb : p < b) (hbn : b ≤ n) (f : Nat → α) (hA : Aft en s B inc n f s) :
    Ran T 58 [dsl B inc n cap ex, .int .i64 (a : Int), .int .i64 (b : Int), .int .i64 (p : Int)] s fun v s' => ∃ (m : Nat) (g : Nat → α), v = .int .i64 (m : Int) ∧ Aft en s B inc n g s' ∧ PermR a b f g ∧ a < m ∧ m ≤ b ∧ g a = f p ∧ (∀ x, a < x → x < m → lt (g a) (g x) = false) ∧ ∀ x, m ≤ x → x < b → lt (g a) (g x) = true := by
  refine ran_code hc (Nat.le_of_ble_eq_true rfl) ?_
  have kc := hL.cells
  have ki := hL.cell
  have u1 : wrapF .i64 ((a : Int) + 1) = ((a + 1 : Nat) : Int) := i64_add1 (by omega)
  have u2 : wrapF .i64 ((b : Int) - 1) = ((b - 1 : Nat) : Int) := i64_sub1 (by omega) (by omega)
  have han : a < n := by omega
  have hpn : p < n := by omega
  have ha1 : a + 1 ≤ n := han
  have hp1 : p + 1 ≤ n := hpn
  obtain ⟨lo', hlo', hrow⟩ := hA.row
  have r1 := mp_take (en := en) (f := f) han
  have r2 := mp_take (en := en) (f := f) hpn
  have sp1 := fun f y => mp_splice (en := en) (f := f) (x := y) han
  have sp2 := fun f y => mp_splice (en := en) (f := f) (x := y) hpn
  have hA1 := hA.put hB (swp f a p)
  have hP1 := PermR.swap (f := f) (i := a) (j := p) (a := a) (b := b) (Nat.le_refl _) (by omega) hap hpb
  have ga : swp f a p a = f p := by unfold swp; rw [if_pos rfl]
  generalize hQ : Fin _ _ = Q
  simp only [ir58, u1, u2, han, hpn, ha1, hp1, hrow, hlo', r1, r2, kc, ki, sp1, sp2, upd_swp, wk, wk1, wk2, Option.some.injEq, exists_eq_left', decide_true, decide_false, seval, go_regionPw, pw_normal]
  refine pe_outer (s0 := s) (cap := cap) (ex := ex) hL hB hn a b (by omega) hbn (swp f a p) (f p) ?_ (b - 1 + 1 - (a + 1)) (a + 1) (b - 1) _ _ (swp f a p) rfl (by omega) (by omega) (by omega) (fun x x1 x2 => by omega) (fun x x1 x2 => by omega) ?_ ?_ ?_ ?_ hA1 (PermR.refl _ _ _) ga
  · intro e s' g i i1 i2 q1 q2 hA2 hP2 h9 hpv
    subst hQ
    simp only [ir58, h9, wk, wk1, wk2, Option.some.injEq, exists_eq_left', decide_true, decide_false, seval, go_regionPw, pw_normal]
    refine ⟨i, g, rfl, hA2, hP1.trans hP2, i1, i2, hpv, q1, q2⟩
  all_goals simp only [u1, u2, wk, wk1, Nat.reduceEqDiff, reduceIte, decide_true]
set_option maxHeartbeats 8000000 in
theorem po_outer (hL : LessOk T 57 en lt) {Q : Post} {s0 : St} {B inc n cap : Nat} {ex : Bool} (hB : B < s0.next) (hn : n ≤ 1000000000) (a b : Nat) (hab : a < b) (hbn : b ≤ n) (f0 : Nat → α) (pv : α)
    (K : ∀ (e : Env) (s : St) (g : Nat → α) (i : Nat), a < i → i ≤ b → (∀ x, a < x → x < i → lt (g x) (g a) = true) → (∀ x, i ≤ x → x < b → lt (g x) (g a) = false) → Aft en s0 B inc n g s → PermR a b f0 g → opd e (.t 0) = dsl B inc n cap ex → opd e (.t 1) = .int .i64 (a : Int) → opd e (.t 11) = .int .i64 ((i - 1 : Nat) : Int) → g a = pv → Ret T Q [.seq pdqPl14] .normal e s) :
    ∀ (k i j : Nat) (e : Env) (s : St) (g : Nat → α), k = j + 1 - i → a < i → i ≤ j + 1 → j < b → (∀ x, a < x → x < i → lt (g x) (g a) = true) → (∀ x, j < x → x < b → lt (g x) (g a) = false) → opd e (.t 0) = dsl B inc n cap ex → opd e (.t 1) = .int .i64 (a : Int) → opd e (.t 10) = .int .i64 (i : Int) → opd e (.t 11) = .int .i64 (j : Int) → Aft en s0 B inc n g s → PermR a b f0 g → g a = pv →
      Go T Q (pdqQl1) [.block 4, .seq pdqPl14] e s := by
  have kc := hL.cells
  have ki := hL.cell
  intro k
  induction k using Nat.strongRecOn with
  | _ k ih =>
    intro i j e s g hk hai hij hjb hlo hhi h0 h1 h9 h10 hA hP hpv
    rw [go_loop]
    simp only [wk, wk1, wk2, Option.some.injEq, exists_eq_left', decide_true, decide_false, seval, go_regionPw, pw_normal]
    refine po_up2 (cap := cap) (ex := ex) hL hn a g hA e i j (by omega) (by omega) ?_ (j + 1 - i) i e (by omega) (Nat.le_refl _) (fun x x1 x2 => by omega) h0 h1 rfl h9 h10
    intro e m m1 m2 hs1 hst1 h0 h1 h2 h9 h10
    simp only [wk, wk1, wk2, Option.some.injEq, exists_eq_left', decide_true, decide_false, seval, go_regionPw, pw_normal]
    refine po_dn2 (cap := cap) (ex := ex) hL hn a g hA e m j (by omega) (by omega) (by omega) ?_ (j + 1 - m) j e (by omega) (Nat.le_refl _) (fun x x1 x2 => by omega) h0 h1 rfl h9 h10
    intro e l l1 l2 hs2 hst2 h0 h1 h2' h9 h10
    have lowr : ∀ x, a < x → x < m → lt (g x) (g a) = true := fun x x1 x2 => by
      by_cases hx : x < i
      · exact hlo x x1 hx
      · exact hs1 x (by omega) x2
    have highr : ∀ x, l < x → x < b → lt (g x) (g a) = false := fun x x1 x2 => by
      by_cases hx : j < x
      · exact hhi x hx x2
      · exact hs2 x x1 (by omega)
    by_cases hml : m ≤ l
    · have hc : ¬ ((l : Int) < (m : Int)) := by omega
      have q1 := hst1 (by omega)
      have q2 := hst2 hml
      have hne : m ≠ l := by intro he; subst he; rw [q1] at q2; cases q2
      have u1 : wrapF .i64 ((m : Int) + 1) = ((m + 1 : Nat) : Int) := i64_add1 (by omega)
      have u2 : wrapF .i64 ((l : Int) - 1) = ((l - 1 : Nat) : Int) := i64_sub1 (by omega) (by omega)
      have hmn : m < n := by omega
      have hln : l < n := by omega
      have hm1 : m + 1 ≤ n := hmn
      have hl1 : l + 1 ≤ n := hln
      obtain ⟨lo', hlo', hrow⟩ := hA.row
      have r1 := mp_take (en := en) (f := g) hmn
      have r2 := mp_take (en := en) (f := g) hln
      have sp1 := fun f y => mp_splice (en := en) (f := f) (x := y) hmn
      have sp2 := fun f y => mp_splice (en := en) (f := f) (x := y) hln
      have hA1 := hA.put hB (swp g m l)
      have hP1 := hP.trans (PermR.swap (f := g) (i := m) (j := l) (a := a) (b := b) (by omega) (by omega) (by omega) (by omega))
      have ga : swp g m l a = g a := by unfold swp; rw [if_neg (by omega), if_neg (by omega)]
      simp only [h0, h1, h9, h10, hc, u1, u2, hmn, hln, hm1, hl1, hrow, hlo', r1, r2, kc, ki, sp1, sp2, upd_swp, wk, wk1, wk2, Option.some.injEq, exists_eq_left', decide_true, decide_false, seval, go_regionPw, pw_normal]
      refine ih (l - 1 + 1 - (m + 1)) (by omega) (m + 1) (l - 1) _ _ _ rfl (by omega) (by omega) (by omega) ?_ ?_ ?_ ?_ ?_ ?_ hA1 hP1 (ga.trans hpv)
      · intro x x1 x2
        rw [ga]; unfold swp
        by_cases e1 : x = m
        · rw [if_pos e1]; exact q2
        · rw [if_neg e1, if_neg (by omega)]; exact lowr x x1 (by omega)
      · intro x x1 x2
        rw [ga]; unfold swp
        by_cases e1 : x = l
        · rw [if_neg (by omega), if_pos e1]; exact q1
        · rw [if_neg (by omega), if_neg e1]; exact highr x (by omega) x2
      all_goals simp only [h0, h1, h9, h10, u1, u2, wk, wk1, Nat.reduceEqDiff, reduceIte, decide_true]
    · have hc : ((l : Int) < (m : Int)) := by omega
      have hlm : l = m - 1 := by omega
      have hK := fun e h0 h1 h9 => K e s g m (by omega) (by omega) lowr (fun x x1 x2 => highr x (by omega) x2) hA hP h0 h1 h9 hpv
      generalize ([.seq pdqPl14] : List Fr) = false at *
      simp only [h0, h1, h9, h10, hc, wk, wk1, wk2, Option.some.injEq, exists_eq_left', decide_true, decide_false, seval, go_regionPw, pw_normal]
      refine hK _ ?_ ?_ ?_ <;> simp only [h0, h1, h10, hlm, wk, wk1, Nat.reduceEqDiff, reduceIte, decide_true]


/-- The last swap: the pivot comes between. -/
theorem po_end {a b i : Nat} {g : Nat → α} (hai : a < i) (hib : i ≤ b) (h1 : ∀ x, a < x → x < i → lt (g x) (g a) = true) (h2 : ∀ x, i ≤ x → x < b → lt (g x) (g a) = false) :
    swp g (i - 1) a (i - 1) = g a ∧ (∀ x, a ≤ x → x < i - 1 → lt (swp g (i - 1) a x) (g a) = true) ∧ ∀ x, i - 1 < x → x < b → lt (swp g (i - 1) a x) (g a) = false := by
  refine ⟨by unfold swp; rw [if_pos rfl], fun x x1 x2 => ?_, fun x x1 x2 => ?_⟩
  · unfold swp
    rw [if_neg (by omega)]
    by_cases e : x = a
    · rw [if_pos e]; exact h1 (i - 1) (by omega) (by omega)
    · rw [if_neg e]; exact h1 x (by omega) (by omega)
  · unfold swp
    rw [if_neg (by omega), if_neg (by omega)]
    exact h2 x (by omega) x2
set_option maxHeartbeats 16000000 in
theorem po_ran (hc : T 59 = some (.code ir59)) (hL : LessOk T 57 en lt) (s : St) (B inc n cap : Nat) (ex : Bool) (hB : B < s.next) (hn : n ≤ 1000000000) (a b p : Nat) (hap : a ≤ p) (hpb : p < b) (hbn : b ≤ n) (f : Nat → α) (hA : Aft en s B inc n f s) :
    Ran T 59 [dsl B inc n cap ex, .int .i64 (a : Int), .int .i64 (b : Int), .int .i64 (p : Int)] s fun v s' => ∃ (m : Nat) (g : Nat → α) (al : Bool), v = .tuple [.int .i64 (m : Int), .bool al] ∧ Aft en s B inc n g s' ∧ PermR a b f g ∧ a ≤ m ∧ m < b ∧ (∀ x, a ≤ x → x < m → lt (g x) (g m) = true) ∧ ∀ x, m < x → x < b → lt (g x) (g m) = false := by
  refine ran_code hc (Nat.le_of_ble_eq_true rfl) ?_
  have kc := hL.cells
  have ki := hL.cell
  have u1 : wrapF .i64 ((a : Int) + 1) = ((a + 1 : Nat) : Int) := i64_add1 (by omega)
  have u2 : wrapF .i64 ((b : Int) - 1) = ((b - 1 : Nat) : Int) := i64_sub1 (by omega) (by omega)
  have han : a < n := by omega
  have hpn : p < n := by omega
  have ha1 : a + 1 ≤ n := han
  have hp1 : p + 1 ≤ n := hpn
  obtain ⟨lo', hlo', hrow⟩ := hA.row
  have r1 := mp_take (en := en) (f := f) han
  have r2 := mp_take (en := en) (f := f) hpn
  have sp1 := fun f y => mp_splice (en := en) (f := f) (x := y) han
  have sp2 := fun f y => mp_splice (en := en) (f := f) (x := y) hpn
  have hA1 := hA.put hB (swp f a p)
  have hP1 := PermR.swap (f := f) (i := a) (j := p) (a := a) (b := b) (Nat.le_refl _) (by omega) hap hpb
  generalize hQ : Fin _ _ = Q
  simp only [ir59, u1, u2, han, hpn, ha1, hp1, hrow, hlo', r1, r2, kc, ki, sp1, sp2, upd_swp, wk, wk1, wk2, Option.some.injEq, exists_eq_left', decide_true, decide_false, seval, go_regionPw, pw_normal]
  refine po_up (s0 := s) (cap := cap) (ex := ex) hL hn a (swp f a p) hA1 _ (a + 1) (b - 1) (by omega) (by omega) ?_ (b - 1 + 1 - (a + 1)) (a + 1) _ (by omega) (Nat.le_refl _) (fun x x1 x2 => by omega) ?_ ?_ rfl ?_ ?_
  · intro e m m1 m2 hs1 hst1 h0 h1 h2 h10 h11
    simp only [wk, wk1, wk2, Option.some.injEq, exists_eq_left', decide_true, decide_false, seval, go_regionPw, pw_normal]
    refine po_dn (s0 := s) (cap := cap) (ex := ex) hL hn a (swp f a p) hA1 e m (b - 1) (by omega) (by omega) (by omega) ?_ (b - 1 + 1 - m) (b - 1) e (by omega) (Nat.le_refl _) (fun x x1 x2 => by omega) h0 h1 rfl h10 h11
    intro e l l1 l2 hs2 hst2 h0 h1 h2' h10 h11
    generalize swp f a p = g at *
    have lowr : ∀ x, a < x → x < m → lt (g x) (g a) = true := fun x x1 x2 => hs1 x (by omega) x2
    have highr : ∀ x, l < x → x < b → lt (g x) (g a) = false := fun x x1 x2 => hs2 x x1 (by omega)
    by_cases hml : m ≤ l
    · have hc : ¬ ((l : Int) < (m : Int)) := by omega
      have q1 := hst1 (by omega)
      have q2 := hst2 hml
      have hne : m ≠ l := by intro he; subst he; rw [q1] at q2; cases q2
      have v1 : wrapF .i64 ((m : Int) + 1) = ((m + 1 : Nat) : Int) := i64_add1 (by omega)
      have v2 : wrapF .i64 ((l : Int) - 1) = ((l - 1 : Nat) : Int) := i64_sub1 (by omega) (by omega)
      have hmn : m < n := by omega
      have hln : l < n := by omega
      have hm1 : m + 1 ≤ n := hmn
      have hl1 : l + 1 ≤ n := hln
      obtain ⟨lo2, hlo2, hrow2⟩ := hA1.row
      have t1 := mp_take (en := en) (f := g) hmn
      have t2 := mp_take (en := en) (f := g) hln
      have tp1 := fun f y => mp_splice (en := en) (f := f) (x := y) hmn
      have tp2 := fun f y => mp_splice (en := en) (f := f) (x := y) hln
      have hA2 := hA1.put hB (swp g m l)
      have hP2 := hP1.trans (PermR.swap (f := g) (i := m) (j := l) (a := a) (b := b) (by omega) (by omega) (by omega) (by omega))
      have ga : swp g m l a = g a := by unfold swp; rw [if_neg (by omega), if_neg (by omega)]
      obtain ⟨σ, hσ⟩ : ∃ σ : St, σ = s.put B (.cells (mp en n g) inc inc false) := ⟨_, rfl⟩
      rw [← hσ] at hA1 hA2 hrow2 ⊢
      simp only [h0, h1, h10, h11, hc, v1, v2, hmn, hln, hm1, hl1, hrow2, hlo2, t1, t2, kc, ki, tp1, tp2, upd_swp, wk, wk1, wk2, Option.some.injEq, exists_eq_left', decide_true, decide_false, seval, go_regionPw, pw_normal]
      refine po_outer (s0 := s) (cap := cap) (ex := ex) hL hB hn a b (by omega) hbn f (g a) ?_ (l - 1 + 1 - (m + 1)) (m + 1) (l - 1) _ _ (swp g m l) rfl (by omega) (by omega) (by omega) ?_ ?_ ?_ ?_ ?_ ?_ hA2 hP2 ga
      · intro e s' g2 i i1 i2 q1 q2 hA3 hP3 h0 h1 h11 hpv
        obtain ⟨z1, z2, z3⟩ := po_end (a := a) (b := b) (i := i) (g := g2) (lt := lt) i1 i2 q1 q2
        have hin : i - 1 < n := by omega
        have hi1 : i - 1 + 1 ≤ n := hin
        obtain ⟨lo3, hlo3, hrow3⟩ := hA3.row
        have w1' := mp_take (en := en) (f := g2) hin
        have w2' := mp_take (en := en) (f := g2) han
        have wp1 := fun f y => mp_splice (en := en) (f := f) (x := y) hin
        have hA4 := hA3.put hB (swp g2 (i - 1) a)
        have hP4 := hP3.trans (PermR.swap (f := g2) (i := i - 1) (j := a) (a := a) (b := b) (by omega) (by omega) (by omega) (by omega))
        simp only [h0, h1, h11, han, ha1, hin, hi1, hrow3, hlo3, w1', w2', kc, ki, sp1, wp1, upd_swp, wk, wk1, wk2, Option.some.injEq, exists_eq_left', decide_true, decide_false, seval, go_regionPw, pw_normal]
        subst hQ
        simp only [ir59, h11, wk, wk1, wk2, Option.some.injEq, exists_eq_left', decide_true, decide_false, seval, go_regionPw, pw_normal]
        refine ⟨i - 1, _, false, rfl, hA4, hP4, by omega, by omega, ?_, ?_⟩
        · intro x x1 x2; rw [z1]; exact z2 x x1 x2
        · intro x x1 x2; rw [z1]; exact z3 x x1 x2
      · intro x x1 x2
        rw [ga]; unfold swp
        by_cases e1 : x = m
        · rw [if_pos e1]; exact q2
        · rw [if_neg e1, if_neg (by omega)]; exact lowr x x1 (by omega)
      · intro x x1 x2
        rw [ga]; unfold swp
        by_cases e1 : x = l
        · rw [if_neg (by omega), if_pos e1]; exact q1
        · rw [if_neg (by omega), if_neg e1]; exact highr x (by omega) x2
      all_goals simp only [h0, h1, h10, h11, v1, v2, wk, wk1, Nat.reduceEqDiff, reduceIte, decide_true]
    · have hc : ((l : Int) < (m : Int)) := by omega
      have hlm : l = m - 1 := by omega
      subst hlm
      obtain ⟨z1, z2, z3⟩ := po_end (a := a) (b := b) (i := m) (g := g) (lt := lt) (by omega) (by omega) lowr (fun x x1 x2 => highr x (by omega) x2)
      have hin : m - 1 < n := by omega
      have hi1 : m - 1 + 1 ≤ n := hin
      obtain ⟨lo2, hlo2, hrow2⟩ := hA1.row
      obtain ⟨σ, hσ⟩ : ∃ σ : St, σ = s.put B (.cells (mp en n g) inc inc false) := ⟨_, rfl⟩
      rw [← hσ] at hA1 hrow2 ⊢
      have w1' := mp_take (en := en) (f := g) hin
      have w2' := mp_take (en := en) (f := g) han
      have wp1 := fun f y => mp_splice (en := en) (f := f) (x := y) hin
      have hA4 := hA1.put hB (swp g (m - 1) a)
      have hP4 := hP1.trans (PermR.swap (f := g) (i := m - 1) (j := a) (a := a) (b := b) (by omega) (by omega) (by omega) (by omega))
      simp only [h0, h1, h10, h11, hc, han, ha1, hin, hi1, hrow2, hlo2, w1', w2', kc, ki, sp1, wp1, upd_swp, wk, wk1, wk2, Option.some.injEq, exists_eq_left', decide_true, decide_false, seval, go_regionPw, pw_normal]
      subst hQ
      simp only [ir59, h11, wk, wk1, wk2, Option.some.injEq, exists_eq_left', decide_true, decide_false, seval, go_regionPw, pw_normal]
      refine ⟨m - 1, _, true, rfl, hA4, hP4, by omega, by omega, ?_, ?_⟩
      · intro x x1 x2; rw [z1]; exact z2 x x1 x2
      · intro x x1 x2; rw [z1]; exact z3 x x1 x2
  all_goals simp only [u1, u2, wk, wk1, Nat.reduceEqDiff, reduceIte, decide_true]
end
end Go.V
/- slices.partialInsertionSortOrdered over the small language. -/
namespace Go.V
open Go
set_option linter.unusedSimpArgs false
set_option linter.unusedVariables false
-- slices.partialInsertionSortOrdered[uint32]
def ir56c1 : ICode := (.region [⟨some 33, none, [], (.move (.t 7))⟩, ⟨some 34, none, [], (.bin .add (.t 33) (.c (.int .i64 1)))⟩, ⟨some 7, none, [], (.move (.t 34))⟩] false)
def ir56c2 : ICode := (.block 3 ir56c1)
def ir56c3 : ICode := (.seq (.seq (.regionP [⟨some 17, none, [], (.move (.t 7))⟩, ⟨some 18, none, [], (.move (.t 2))⟩, ⟨some 19, none, [], (.bin .lss (.t 17) (.t 18))⟩, ⟨some 20, none, [], (.move (.t 19))⟩, ⟨some 21, some (20, true), [], (.move (.t 0))⟩, ⟨some 22, some (20, true), [], (.move (.t 7))⟩, ⟨some 23, some (20, true), [], (.idxSl 1 (.t 21) (.t 22))⟩, ⟨some 24, some (20, true), [], (.load false 1 (.t 23))⟩, ⟨some 25, some (20, true), [], (.move (.t 0))⟩, ⟨some 26, some (20, true), [], (.move (.t 7))⟩, ⟨some 27, some (20, true), [], (.bin .sub (.t 26) (.c (.int .i64 1)))⟩, ⟨some 28, some (20, true), [], (.idxSl 1 (.t 25) (.t 27))⟩, ⟨some 29, some (20, true), [], (.load false 1 (.t 28))⟩, ⟨some 30, some (20, true), [], (.call 57 [(.t 24), (.t 29)])⟩, ⟨some 31, some (20, true), [], (.un .not (.t 30))⟩, ⟨some 32, none, [], (.pick (.t 20) (.t 31) (.c (.bool false)))⟩]) (.cond (.t 32) .skip (.exit 2))) ir56c2)
def ir56c4 : ICode := (.loop ir56c3)
def ir56c5 : ICode := (.cond (.t 37) (.seq (.region [⟨some 6, none, [], (.move (.c (.bool true)))⟩] false) .ret) .skip)
def ir56c6 : ICode := (.cond (.t 41) (.seq (.region [⟨some 6, none, [], (.move (.c (.bool false)))⟩] false) .ret) .skip)
def ir56c7 : ICode := (.region [⟨some 79, none, [], (.move (.t 0))⟩, ⟨some 80, none, [], (.move (.t 9))⟩, ⟨some 81, none, [], (.move (.t 0))⟩, ⟨some 82, none, [], (.move (.t 9))⟩, ⟨some 83, none, [], (.bin .sub (.t 82) (.c (.int .i64 1)))⟩, ⟨some 84, none, [], (.move (.t 0))⟩, ⟨some 85, none, [], (.move (.t 9))⟩, ⟨some 86, none, [], (.bin .sub (.t 85) (.c (.int .i64 1)))⟩, ⟨some 87, none, [], (.idxSl 1 (.t 84) (.t 86))⟩, ⟨some 88, none, [], (.load false 1 (.t 87))⟩, ⟨some 89, none, [], (.move (.t 0))⟩, ⟨some 90, none, [], (.move (.t 9))⟩, ⟨some 91, none, [], (.idxSl 1 (.t 89) (.t 90))⟩, ⟨some 92, none, [], (.load false 1 (.t 91))⟩, ⟨some 93, none, [], (.idxSl 1 (.t 79) (.t 80))⟩, ⟨none, none, [], (.store 1 (.t 93) (.t 88))⟩, ⟨some 94, none, [], (.idxSl 1 (.t 81) (.t 83))⟩, ⟨none, none, [], (.store 1 (.t 94) (.t 92))⟩] true)
def ir56c8 : ICode := (.seq (.seq (.regionP [⟨some 68, none, [], (.move (.t 0))⟩, ⟨some 69, none, [], (.move (.t 9))⟩, ⟨some 70, none, [], (.idxSl 1 (.t 68) (.t 69))⟩, ⟨some 71, none, [], (.load false 1 (.t 70))⟩, ⟨some 72, none, [], (.move (.t 0))⟩, ⟨some 73, none, [], (.move (.t 9))⟩, ⟨some 74, none, [], (.bin .sub (.t 73) (.c (.int .i64 1)))⟩, ⟨some 75, none, [], (.idxSl 1 (.t 72) (.t 74))⟩, ⟨some 76, none, [], (.load false 1 (.t 75))⟩, ⟨some 77, none, [], (.call 57 [(.t 71), (.t 76)])⟩, ⟨some 78, none, [], (.un .not (.t 77))⟩]) (.cond (.t 78) (.exit 4) .skip)) ir56c7)
def ir56c9 : ICode := (.region [⟨some 66, none, [], (.move (.t 9))⟩, ⟨some 67, none, [], (.bin .sub (.t 66) (.c (.int .i64 1)))⟩, ⟨some 9, none, [], (.move (.t 67))⟩] false)
def ir56c10 : ICode := (.seq (.block 5 ir56c8) ir56c9)
def ir56c11 : ICode := (.seq (.seq (.region [⟨some 64, none, [], (.move (.t 9))⟩, ⟨some 65, none, [], (.bin .geq (.t 64) (.c (.int .i64 1)))⟩] false) (.cond (.t 65) .skip (.exit 4))) ir56c10)
def ir56c12 : ICode := (.loop ir56c11)
def ir56c13 : ICode := (.block 4 ir56c12)
def ir56c14 : ICode := (.seq (.region [⟨some 62, none, [], (.move (.t 7))⟩, ⟨some 63, none, [], (.bin .sub (.t 62) (.c (.int .i64 1)))⟩, ⟨some 9, none, [], (.move (.t 63))⟩] false) ir56c13)
def ir56c15 : ICode := (.cond (.t 61) ir56c14 .skip)
def ir56c16 : ICode := (.region [⟨some 117, none, [], (.move (.t 0))⟩, ⟨some 118, none, [], (.move (.t 10))⟩, ⟨some 119, none, [], (.move (.t 0))⟩, ⟨some 120, none, [], (.move (.t 10))⟩, ⟨some 121, none, [], (.bin .sub (.t 120) (.c (.int .i64 1)))⟩, ⟨some 122, none, [], (.move (.t 0))⟩, ⟨some 123, none, [], (.move (.t 10))⟩, ⟨some 124, none, [], (.bin .sub (.t 123) (.c (.int .i64 1)))⟩, ⟨some 125, none, [], (.idxSl 1 (.t 122) (.t 124))⟩, ⟨some 126, none, [], (.load false 1 (.t 125))⟩, ⟨some 127, none, [], (.move (.t 0))⟩, ⟨some 128, none, [], (.move (.t 10))⟩, ⟨some 129, none, [], (.idxSl 1 (.t 127) (.t 128))⟩, ⟨some 130, none, [], (.load false 1 (.t 129))⟩, ⟨some 131, none, [], (.idxSl 1 (.t 117) (.t 118))⟩, ⟨none, none, [], (.store 1 (.t 131) (.t 126))⟩, ⟨some 132, none, [], (.idxSl 1 (.t 119) (.t 121))⟩, ⟨none, none, [], (.store 1 (.t 132) (.t 130))⟩] true)
def ir56c17 : ICode := (.seq (.seq (.regionP [⟨some 106, none, [], (.move (.t 0))⟩, ⟨some 107, none, [], (.move (.t 10))⟩, ⟨some 108, none, [], (.idxSl 1 (.t 106) (.t 107))⟩, ⟨some 109, none, [], (.load false 1 (.t 108))⟩, ⟨some 110, none, [], (.move (.t 0))⟩, ⟨some 111, none, [], (.move (.t 10))⟩, ⟨some 112, none, [], (.bin .sub (.t 111) (.c (.int .i64 1)))⟩, ⟨some 113, none, [], (.idxSl 1 (.t 110) (.t 112))⟩, ⟨some 114, none, [], (.load false 1 (.t 113))⟩, ⟨some 115, none, [], (.call 57 [(.t 109), (.t 114)])⟩, ⟨some 116, none, [], (.un .not (.t 115))⟩]) (.cond (.t 116) (.exit 6) .skip)) ir56c16)
def ir56c18 : ICode := (.region [⟨some 104, none, [], (.move (.t 10))⟩, ⟨some 105, none, [], (.bin .add (.t 104) (.c (.int .i64 1)))⟩, ⟨some 10, none, [], (.move (.t 105))⟩] false)
def ir56c19 : ICode := (.seq (.block 7 ir56c17) ir56c18)
def ir56c20 : ICode := (.seq (.seq (.region [⟨some 101, none, [], (.move (.t 10))⟩, ⟨some 102, none, [], (.move (.t 2))⟩, ⟨some 103, none, [], (.bin .lss (.t 101) (.t 102))⟩] false) (.cond (.t 103) .skip (.exit 6))) ir56c19)
def ir56c21 : ICode := (.loop ir56c20)
def ir56c22 : ICode := (.block 6 ir56c21)
def ir56c23 : ICode := (.seq (.region [⟨some 99, none, [], (.move (.t 7))⟩, ⟨some 100, none, [], (.bin .add (.t 99) (.c (.int .i64 1)))⟩, ⟨some 10, none, [], (.move (.t 100))⟩] false) ir56c22)
def ir56c24 : ICode := (.cond (.t 98) ir56c23 .skip)
def ir56c25 : ICode := (.seq (.region [⟨some 95, none, [], (.move (.t 2))⟩, ⟨some 96, none, [], (.move (.t 7))⟩, ⟨some 97, none, [], (.bin .sub (.t 95) (.t 96))⟩, ⟨some 98, none, [], (.bin .geq (.t 97) (.c (.int .i64 2)))⟩] false) ir56c24)
def ir56c26 : ICode := (.seq (.seq (.region [⟨some 58, none, [], (.move (.t 7))⟩, ⟨some 59, none, [], (.move (.t 1))⟩, ⟨some 60, none, [], (.bin .sub (.t 58) (.t 59))⟩, ⟨some 61, none, [], (.bin .geq (.t 60) (.c (.int .i64 2)))⟩] false) ir56c15) ir56c25)
def ir56c27 : ICode := (.seq (.region [⟨some 42, none, [], (.move (.t 0))⟩, ⟨some 43, none, [], (.move (.t 7))⟩, ⟨some 44, none, [], (.move (.t 0))⟩, ⟨some 45, none, [], (.move (.t 7))⟩, ⟨some 46, none, [], (.bin .sub (.t 45) (.c (.int .i64 1)))⟩, ⟨some 47, none, [], (.move (.t 0))⟩, ⟨some 48, none, [], (.move (.t 7))⟩, ⟨some 49, none, [], (.bin .sub (.t 48) (.c (.int .i64 1)))⟩, ⟨some 50, none, [], (.idxSl 1 (.t 47) (.t 49))⟩, ⟨some 51, none, [], (.load false 1 (.t 50))⟩, ⟨some 52, none, [], (.move (.t 0))⟩, ⟨some 53, none, [], (.move (.t 7))⟩, ⟨some 54, none, [], (.idxSl 1 (.t 52) (.t 53))⟩, ⟨some 55, none, [], (.load false 1 (.t 54))⟩, ⟨some 56, none, [], (.idxSl 1 (.t 42) (.t 43))⟩, ⟨none, none, [], (.store 1 (.t 56) (.t 51))⟩, ⟨some 57, none, [], (.idxSl 1 (.t 44) (.t 46))⟩, ⟨none, none, [], (.store 1 (.t 57) (.t 55))⟩] true) ir56c26)
def ir56c28 : ICode := (.seq (.seq (.region [⟨some 38, none, [], (.move (.t 2))⟩, ⟨some 39, none, [], (.move (.t 1))⟩, ⟨some 40, none, [], (.bin .sub (.t 38) (.t 39))⟩, ⟨some 41, none, [], (.bin .lss (.t 40) (.c (.int .i64 50)))⟩] false) ir56c6) ir56c27)
def ir56c29 : ICode := (.seq (.seq (.region [⟨some 35, none, [], (.move (.t 7))⟩, ⟨some 36, none, [], (.move (.t 2))⟩, ⟨some 37, none, [], (.bin .eql (.t 35) (.t 36))⟩] false) ir56c5) ir56c28)
def ir56c30 : ICode := (.seq (.block 2 ir56c4) ir56c29)
def ir56c31 : ICode := (.region [⟨some 15, none, [], (.move (.t 8))⟩, ⟨some 16, none, [], (.bin .add (.t 15) (.c (.int .i64 1)))⟩, ⟨some 8, none, [], (.move (.t 16))⟩] false)
def ir56c32 : ICode := (.seq (.block 1 ir56c30) ir56c31)
def ir56c33 : ICode := (.seq (.seq (.region [⟨some 13, none, [], (.move (.t 8))⟩, ⟨some 14, none, [], (.bin .lss (.t 13) (.c (.int .i64 5)))⟩] false) (.cond (.t 14) .skip (.exit 0))) ir56c32)
def ir56c34 : ICode := (.loop ir56c33)
def ir56c35 : ICode := (.block 0 ir56c34)
def ir56c36 : ICode := (.seq (.seq (.region [⟨some 8, none, [], (.move (.c (.int .i64 0)))⟩] false) ir56c35) (.seq (.region [⟨some 6, none, [], (.move (.c (.bool false)))⟩] false) .ret))
def ir56c37 : ICode := (.seq (.region [⟨some 11, none, [], (.move (.t 1))⟩, ⟨some 12, none, [], (.bin .add (.t 11) (.c (.int .i64 1)))⟩, ⟨some 7, none, [], (.move (.t 12))⟩] false) ir56c36)
open Z in def ir56 : IFunc := ⟨133,[.tmp 6],(q (R [(o 6 (.move F))]) ir56c37)⟩
theorem g56c1 (T : Tab) (Q : Post) (fs : List Fr) (e : Env) (s : St) : Go T Q ir56c1 fs e s ↔ Go T Q (.region [⟨some 33, none, [], (.move (.t 7))⟩, ⟨some 34, none, [], (.bin .add (.t 33) (.c (.int .i64 1)))⟩, ⟨some 7, none, [], (.move (.t 34))⟩] false) fs e s := Iff.rfl
theorem g56c2 (T : Tab) (Q : Post) (fs : List Fr) (e : Env) (s : St) : Go T Q ir56c2 fs e s ↔ Go T Q (.block 3 ir56c1) fs e s := Iff.rfl
theorem g56c3 (T : Tab) (Q : Post) (fs : List Fr) (e : Env) (s : St) : Go T Q ir56c3 fs e s ↔ Go T Q (.seq (.seq (.regionP [⟨some 17, none, [], (.move (.t 7))⟩, ⟨some 18, none, [], (.move (.t 2))⟩, ⟨some 19, none, [], (.bin .lss (.t 17) (.t 18))⟩, ⟨some 20, none, [], (.move (.t 19))⟩, ⟨some 21, some (20, true), [], (.move (.t 0))⟩, ⟨some 22, some (20, true), [], (.move (.t 7))⟩, ⟨some 23, some (20, true), [], (.idxSl 1 (.t 21) (.t 22))⟩, ⟨some 24, some (20, true), [], (.load false 1 (.t 23))⟩, ⟨some 25, some (20, true), [], (.move (.t 0))⟩, ⟨some 26, some (20, true), [], (.move (.t 7))⟩, ⟨some 27, some (20, true), [], (.bin .sub (.t 26) (.c (.int .i64 1)))⟩, ⟨some 28, some (20, true), [], (.idxSl 1 (.t 25) (.t 27))⟩, ⟨some 29, some (20, true), [], (.load false 1 (.t 28))⟩, ⟨some 30, some (20, true), [], (.call 57 [(.t 24), (.t 29)])⟩, ⟨some 31, some (20, true), [], (.un .not (.t 30))⟩, ⟨some 32, none, [], (.pick (.t 20) (.t 31) (.c (.bool false)))⟩]) (.cond (.t 32) .skip (.exit 2))) ir56c2) fs e s := Iff.rfl
theorem g56c4 (T : Tab) (Q : Post) (fs : List Fr) (e : Env) (s : St) : Go T Q ir56c4 fs e s ↔ Go T Q (.loop ir56c3) fs e s := Iff.rfl
theorem g56c5 (T : Tab) (Q : Post) (fs : List Fr) (e : Env) (s : St) : Go T Q ir56c5 fs e s ↔ Go T Q (.cond (.t 37) (.seq (.region [⟨some 6, none, [], (.move (.c (.bool true)))⟩] false) .ret) .skip) fs e s := Iff.rfl
theorem g56c6 (T : Tab) (Q : Post) (fs : List Fr) (e : Env) (s : St) : Go T Q ir56c6 fs e s ↔ Go T Q (.cond (.t 41) (.seq (.region [⟨some 6, none, [], (.move (.c (.bool false)))⟩] false) .ret) .skip) fs e s := Iff.rfl
theorem g56c7 (T : Tab) (Q : Post) (fs : List Fr) (e : Env) (s : St) : Go T Q ir56c7 fs e s ↔ Go T Q (.region [⟨some 79, none, [], (.move (.t 0))⟩, ⟨some 80, none, [], (.move (.t 9))⟩, ⟨some 81, none, [], (.move (.t 0))⟩, ⟨some 82, none, [], (.move (.t 9))⟩, ⟨some 83, none, [], (.bin .sub (.t 82) (.c (.int .i64 1)))⟩, ⟨some 84, none, [], (.move (.t 0))⟩, ⟨some 85, none, [], (.move (.t 9))⟩, ⟨some 86, none, [], (.bin .sub (.t 85) (.c (.int .i64 1)))⟩, ⟨some 87, none, [], (.idxSl 1 (.t 84) (.t 86))⟩, ⟨some 88, none, [], (.load false 1 (.t 87))⟩, ⟨some 89, none, [], (.move (.t 0))⟩, ⟨some 90, none, [], (.move (.t 9))⟩, ⟨some 91, none, [], (.idxSl 1 (.t 89) (.t 90))⟩, ⟨some 92, none, [], (.load false 1 (.t 91))⟩, ⟨some 93, none, [], (.idxSl 1 (.t 79) (.t 80))⟩, ⟨none, none, [], (.store 1 (.t 93) (.t 88))⟩, ⟨some 94, none, [], (.idxSl 1 (.t 81) (.t 83))⟩, ⟨none, none, [], (.store 1 (.t 94) (.t 92))⟩] true) fs e s := Iff.rfl
theorem g56c8 (T : Tab) (Q : Post) (fs : List Fr) (e : Env) (s : St) : Go T Q ir56c8 fs e s ↔ Go T Q (.seq (.seq (.regionP [⟨some 68, none, [], (.move (.t 0))⟩, ⟨some 69, none, [], (.move (.t 9))⟩, ⟨some 70, none, [], (.idxSl 1 (.t 68) (.t 69))⟩, ⟨some 71, none, [], (.load false 1 (.t 70))⟩, ⟨some 72, none, [], (.move (.t 0))⟩, ⟨some 73, none, [], (.move (.t 9))⟩, ⟨some 74, none, [], (.bin .sub (.t 73) (.c (.int .i64 1)))⟩, ⟨some 75, none, [], (.idxSl 1 (.t 72) (.t 74))⟩, ⟨some 76, none, [], (.load false 1 (.t 75))⟩, ⟨some 77, none, [], (.call 57 [(.t 71), (.t 76)])⟩, ⟨some 78, none, [], (.un .not (.t 77))⟩]) (.cond (.t 78) (.exit 4) .skip)) ir56c7) fs e s := Iff.rfl
theorem g56c9 (T : Tab) (Q : Post) (fs : List Fr) (e : Env) (s : St) : Go T Q ir56c9 fs e s ↔ Go T Q (.region [⟨some 66, none, [], (.move (.t 9))⟩, ⟨some 67, none, [], (.bin .sub (.t 66) (.c (.int .i64 1)))⟩, ⟨some 9, none, [], (.move (.t 67))⟩] false) fs e s := Iff.rfl
theorem g56c10 (T : Tab) (Q : Post) (fs : List Fr) (e : Env) (s : St) : Go T Q ir56c10 fs e s ↔ Go T Q (.seq (.block 5 ir56c8) ir56c9) fs e s := Iff.rfl
theorem g56c11 (T : Tab) (Q : Post) (fs : List Fr) (e : Env) (s : St) : Go T Q ir56c11 fs e s ↔ Go T Q (.seq (.seq (.region [⟨some 64, none, [], (.move (.t 9))⟩, ⟨some 65, none, [], (.bin .geq (.t 64) (.c (.int .i64 1)))⟩] false) (.cond (.t 65) .skip (.exit 4))) ir56c10) fs e s := Iff.rfl
theorem g56c12 (T : Tab) (Q : Post) (fs : List Fr) (e : Env) (s : St) : Go T Q ir56c12 fs e s ↔ Go T Q (.loop ir56c11) fs e s := Iff.rfl
theorem g56c13 (T : Tab) (Q : Post) (fs : List Fr) (e : Env) (s : St) : Go T Q ir56c13 fs e s ↔ Go T Q (.block 4 ir56c12) fs e s := Iff.rfl
theorem g56c14 (T : Tab) (Q : Post) (fs : List Fr) (e : Env) (s : St) : Go T Q ir56c14 fs e s ↔ Go T Q (.seq (.region [⟨some 62, none, [], (.move (.t 7))⟩, ⟨some 63, none, [], (.bin .sub (.t 62) (.c (.int .i64 1)))⟩, ⟨some 9, none, [], (.move (.t 63))⟩] false) ir56c13) fs e s := Iff.rfl
theorem g56c15 (T : Tab) (Q : Post) (fs : List Fr) (e : Env) (s : St) : Go T Q ir56c15 fs e s ↔ Go T Q (.cond (.t 61) ir56c14 .skip) fs e s := Iff.rfl
theorem g56c16 (T : Tab) (Q : Post) (fs : List Fr) (e : Env) (s : St) : Go T Q ir56c16 fs e s ↔ Go T Q (.region [⟨some 117, none, [], (.move (.t 0))⟩, ⟨some 118, none, [], (.move (.t 10))⟩, ⟨some 119, none, [], (.move (.t 0))⟩, ⟨some 120, none, [], (.move (.t 10))⟩, ⟨some 121, none, [], (.bin .sub (.t 120) (.c (.int .i64 1)))⟩, ⟨some 122, none, [], (.move (.t 0))⟩, ⟨some 123, none, [], (.move (.t 10))⟩, ⟨some 124, none, [], (.bin .sub (.t 123) (.c (.int .i64 1)))⟩, ⟨some 125, none, [], (.idxSl 1 (.t 122) (.t 124))⟩, ⟨some 126, none, [], (.load false 1 (.t 125))⟩, ⟨some 127, none, [], (.move (.t 0))⟩, ⟨some 128, none, [], (.move (.t 10))⟩, ⟨some 129, none, [], (.idxSl 1 (.t 127) (.t 128))⟩, ⟨some 130, none, [], (.load false 1 (.t 129))⟩, ⟨some 131, none, [], (.idxSl 1 (.t 117) (.t 118))⟩, ⟨none, none, [], (.store 1 (.t 131) (.t 126))⟩, ⟨some 132, none, [], (.idxSl 1 (.t 119) (.t 121))⟩, ⟨none, none, [], (.store 1 (.t 132) (.t 130))⟩] true) fs e s := Iff.rfl
theorem g56c17 (T : Tab) (Q : Post) (fs : List Fr) (e : Env) (s : St) : Go T Q ir56c17 fs e s ↔ Go T Q (.seq (.seq (.regionP [⟨some 106, none, [], (.move (.t 0))⟩, ⟨some 107, none, [], (.move (.t 10))⟩, ⟨some 108, none, [], (.idxSl 1 (.t 106) (.t 107))⟩, ⟨some 109, none, [], (.load false 1 (.t 108))⟩, ⟨some 110, none, [], (.move (.t 0))⟩, ⟨some 111, none, [], (.move (.t 10))⟩, ⟨some 112, none, [], (.bin .sub (.t 111) (.c (.int .i64 1)))⟩, ⟨some 113, none, [], (.idxSl 1 (.t 110) (.t 112))⟩, ⟨some 114, none, [], (.load false 1 (.t 113))⟩, ⟨some 115, none, [], (.call 57 [(.t 109), (.t 114)])⟩, ⟨some 116, none, [], (.un .not (.t 115))⟩]) (.cond (.t 116) (.exit 6) .skip)) ir56c16) fs e s := Iff.rfl
theorem g56c18 (T : Tab) (Q : Post) (fs : List Fr) (e : Env) (s : St) : Go T Q ir56c18 fs e s ↔ Go T Q (.region [⟨some 104, none, [], (.move (.t 10))⟩, ⟨some 105, none, [], (.bin .add (.t 104) (.c (.int .i64 1)))⟩, ⟨some 10, none, [], (.move (.t 105))⟩] false) fs e s := Iff.rfl
theorem g56c19 (T : Tab) (Q : Post) (fs : List Fr) (e : Env) (s : St) : Go T Q ir56c19 fs e s ↔ Go T Q (.seq (.block 7 ir56c17) ir56c18) fs e s := Iff.rfl
theorem g56c20 (T : Tab) (Q : Post) (fs : List Fr) (e : Env) (s : St) : Go T Q ir56c20 fs e s ↔ Go T Q (.seq (.seq (.region [⟨some 101, none, [], (.move (.t 10))⟩, ⟨some 102, none, [], (.move (.t 2))⟩, ⟨some 103, none, [], (.bin .lss (.t 101) (.t 102))⟩] false) (.cond (.t 103) .skip (.exit 6))) ir56c19) fs e s := Iff.rfl
theorem g56c21 (T : Tab) (Q : Post) (fs : List Fr) (e : Env) (s : St) : Go T Q ir56c21 fs e s ↔ Go T Q (.loop ir56c20) fs e s := Iff.rfl
theorem g56c22 (T : Tab) (Q : Post) (fs : List Fr) (e : Env) (s : St) : Go T Q ir56c22 fs e s ↔ Go T Q (.block 6 ir56c21) fs e s := Iff.rfl
theorem g56c23 (T : Tab) (Q : Post) (fs : List Fr) (e : Env) (s : St) : Go T Q ir56c23 fs e s ↔ Go T Q (.seq (.region [⟨some 99, none, [], (.move (.t 7))⟩, ⟨some 100, none, [], (.bin .add (.t 99) (.c (.int .i64 1)))⟩, ⟨some 10, none, [], (.move (.t 100))⟩] false) ir56c22) fs e s := Iff.rfl
theorem g56c24 (T : Tab) (Q : Post) (fs : List Fr) (e : Env) (s : St) : Go T Q ir56c24 fs e s ↔ Go T Q (.cond (.t 98) ir56c23 .skip) fs e s := Iff.rfl
theorem g56c25 (T : Tab) (Q : Post) (fs : List Fr) (e : Env) (s : St) : Go T Q ir56c25 fs e s ↔ Go T Q (.seq (.region [⟨some 95, none, [], (.move (.t 2))⟩, ⟨some 96, none, [], (.move (.t 7))⟩, ⟨some 97, none, [], (.bin .sub (.t 95) (.t 96))⟩, ⟨some 98, none, [], (.bin .geq (.t 97) (.c (.int .i64 2)))⟩] false) ir56c24) fs e s := Iff.rfl
theorem g56c26 (T : Tab) (Q : Post) (fs : List Fr) (e : Env) (s : St) : Go T Q ir56c26 fs e s ↔ Go T Q (.seq (.seq (.region [⟨some 58, none, [], (.move (.t 7))⟩, ⟨some 59, none, [], (.move (.t 1))⟩, ⟨some 60, none, [], (.bin .sub (.t 58) (.t 59))⟩, ⟨some 61, none, [], (.bin .geq (.t 60) (.c (.int .i64 2)))⟩] false) ir56c15) ir56c25) fs e s := Iff.rfl
theorem g56c27 (T : Tab) (Q : Post) (fs : List Fr) (e : Env) (s : St) : Go T Q ir56c27 fs e s ↔ Go T Q (.seq (.region [⟨some 42, none, [], (.move (.t 0))⟩, ⟨some 43, none, [], (.move (.t 7))⟩, ⟨some 44, none, [], (.move (.t 0))⟩, ⟨some 45, none, [], (.move (.t 7))⟩, ⟨some 46, none, [], (.bin .sub (.t 45) (.c (.int .i64 1)))⟩, ⟨some 47, none, [], (.move (.t 0))⟩, ⟨some 48, none, [], (.move (.t 7))⟩, ⟨some 49, none, [], (.bin .sub (.t 48) (.c (.int .i64 1)))⟩, ⟨some 50, none, [], (.idxSl 1 (.t 47) (.t 49))⟩, ⟨some 51, none, [], (.load false 1 (.t 50))⟩, ⟨some 52, none, [], (.move (.t 0))⟩, ⟨some 53, none, [], (.move (.t 7))⟩, ⟨some 54, none, [], (.idxSl 1 (.t 52) (.t 53))⟩, ⟨some 55, none, [], (.load false 1 (.t 54))⟩, ⟨some 56, none, [], (.idxSl 1 (.t 42) (.t 43))⟩, ⟨none, none, [], (.store 1 (.t 56) (.t 51))⟩, ⟨some 57, none, [], (.idxSl 1 (.t 44) (.t 46))⟩, ⟨none, none, [], (.store 1 (.t 57) (.t 55))⟩] true) ir56c26) fs e s := Iff.rfl
theorem g56c28 (T : Tab) (Q : Post) (fs : List Fr) (e : Env) (s : St) : Go T Q ir56c28 fs e s ↔ Go T Q (.seq (.seq (.region [⟨some 38, none, [], (.move (.t 2))⟩, ⟨some 39, none, [], (.move (.t 1))⟩, ⟨some 40, none, [], (.bin .sub (.t 38) (.t 39))⟩, ⟨some 41, none, [], (.bin .lss (.t 40) (.c (.int .i64 50)))⟩] false) ir56c6) ir56c27) fs e s := Iff.rfl
theorem g56c29 (T : Tab) (Q : Post) (fs : List Fr) (e : Env) (s : St) : Go T Q ir56c29 fs e s ↔ Go T Q (.seq (.seq (.region [⟨some 35, none, [], (.move (.t 7))⟩, ⟨some 36, none, [], (.move (.t 2))⟩, ⟨some 37, none, [], (.bin .eql (.t 35) (.t 36))⟩] false) ir56c5) ir56c28) fs e s := Iff.rfl
theorem g56c30 (T : Tab) (Q : Post) (fs : List Fr) (e : Env) (s : St) : Go T Q ir56c30 fs e s ↔ Go T Q (.seq (.block 2 ir56c4) ir56c29) fs e s := Iff.rfl
theorem g56c31 (T : Tab) (Q : Post) (fs : List Fr) (e : Env) (s : St) : Go T Q ir56c31 fs e s ↔ Go T Q (.region [⟨some 15, none, [], (.move (.t 8))⟩, ⟨some 16, none, [], (.bin .add (.t 15) (.c (.int .i64 1)))⟩, ⟨some 8, none, [], (.move (.t 16))⟩] false) fs e s := Iff.rfl
theorem g56c32 (T : Tab) (Q : Post) (fs : List Fr) (e : Env) (s : St) : Go T Q ir56c32 fs e s ↔ Go T Q (.seq (.block 1 ir56c30) ir56c31) fs e s := Iff.rfl
theorem g56c33 (T : Tab) (Q : Post) (fs : List Fr) (e : Env) (s : St) : Go T Q ir56c33 fs e s ↔ Go T Q (.seq (.seq (.region [⟨some 13, none, [], (.move (.t 8))⟩, ⟨some 14, none, [], (.bin .lss (.t 13) (.c (.int .i64 5)))⟩] false) (.cond (.t 14) .skip (.exit 0))) ir56c32) fs e s := Iff.rfl
theorem g56c34 (T : Tab) (Q : Post) (fs : List Fr) (e : Env) (s : St) : Go T Q ir56c34 fs e s ↔ Go T Q (.loop ir56c33) fs e s := Iff.rfl
theorem g56c35 (T : Tab) (Q : Post) (fs : List Fr) (e : Env) (s : St) : Go T Q ir56c35 fs e s ↔ Go T Q (.block 0 ir56c34) fs e s := Iff.rfl
theorem g56c36 (T : Tab) (Q : Post) (fs : List Fr) (e : Env) (s : St) : Go T Q ir56c36 fs e s ↔ Go T Q (.seq (.seq (.region [⟨some 8, none, [], (.move (.c (.int .i64 0)))⟩] false) ir56c35) (.seq (.region [⟨some 6, none, [], (.move (.c (.bool false)))⟩] false) .ret)) fs e s := Iff.rfl
theorem g56c37 (T : Tab) (Q : Post) (fs : List Fr) (e : Env) (s : St) : Go T Q ir56c37 fs e s ↔ Go T Q (.seq (.region [⟨some 11, none, [], (.move (.t 1))⟩, ⟨some 12, none, [], (.bin .add (.t 11) (.c (.int .i64 1)))⟩, ⟨some 7, none, [], (.move (.t 12))⟩] false) ir56c36) fs e s := Iff.rfl

section
variable {α : Type} {en : α → AV} {lt : α → α → Bool} {T : Tab}
/-- What stands ahead of a is at most what stands from a on. -/
def PreA (lt : α → α → Bool) (a b : Nat) (f : Nat → α) : Prop := 1 ≤ a → ∀ i, a ≤ i → i < b → Le lt (f (a - 1)) (f i)
theorem PreA.perm {a b : Nat} {f g : Nat → α} (h : PreA lt a b f) (hp : PermR a b f g) : PreA lt a b g := by
  intro h1 i i1 i2
  rw [hp.out (by omega : ¬ (a ≤ a - 1 ∧ a - 1 < b))]
  exact hp.all (P := fun x => Le lt (f (a - 1)) x) (h h1) i i1 i2

structure PsE (B inc n cap : Nat) (ex : Bool) (a b c i : Nat) (e : Env) : Prop where
  h0 : opd e (.t 0) = dsl B inc n cap ex
  h1 : opd e (.t 1) = .int .i64 (a : Int)
  h2 : opd e (.t 2) = .int .i64 (b : Int)
  h7 : opd e (.t 7) = .int .i64 (i : Int)
  h8 : opd e (.t 8) = .int .i64 (c : Int)

set_option maxHeartbeats 8000000 in
theorem ps_scan (hL : LessOk T 57 en lt) (ho : Ord lt) {Q : Post} {s0 s : St} {B inc n cap : Nat} {ex : Bool} (hn : n ≤ 1000000000) (a b c : Nat) (hbn : b ≤ n) (g : Nat → α) (hA : Aft en s0 B inc n g s)
    (K : ∀ (e : Env) (m : Nat), a < m → m ≤ b → Srt lt a m g → (m < b → lt (g m) (g (m - 1)) = true) → PsE B inc n cap ex a b c m e → Ret T Q [.seq ir56c29, .block 1, .seq ir56c31, .loop ir56c33, .block 0, .seq (.seq (.region [⟨some 6, none, [], (.move (.c (.bool false)))⟩] false) .ret)] .normal e s) :
    ∀ (k i : Nat) (e : Env), k + i = b → a < i → Srt lt a i g → PsE B inc n cap ex a b c i e →
      Go T Q (.loop ir56c3) [.block 2, .seq ir56c29, .block 1, .seq ir56c31, .loop ir56c33, .block 0, .seq (.seq (.region [⟨some 6, none, [], (.move (.c (.bool false)))⟩] false) .ret)] e s := by
  have kl := hL.call
  obtain ⟨lo', hlo, hrow⟩ := hA.row
  intro k
  induction k with
  | zero =>
    intro i e hk hai hS hE
    obtain ⟨h0, h1, h2, h7, h8⟩ := hE
    have hc : ¬ ((i : Int) < (b : Int)) := by omega
    have hK := fun e h0 h1 h2 h7 h8 => K e i hai (by omega) hS (fun hm => by omega) ⟨h0, h1, h2, h7, h8⟩
    rw [go_loop]
    generalize ([.seq ir56c29, .block 1, .seq ir56c31, .loop ir56c33, .block 0, .seq (.seq (.region [⟨some 6, none, [], (.move (.c (.bool false)))⟩] false) .ret)] : List Fr) = FF at *
    simp only [g56c1, g56c2, g56c3, g56c4, g56c5, g56c6, g56c7, g56c8, g56c9, g56c10, g56c11, g56c12, g56c13, g56c14, g56c15, g56c16, g56c17, g56c18, g56c19, g56c20, g56c21, g56c22, g56c23, g56c24, g56c25, g56c26, g56c27, g56c28, g56c29, g56c30, g56c31, g56c32, g56c33, g56c34, g56c35, g56c36, g56c37, h0, h1, h2, h7, hc, wk, wk1, wk2, Option.some.injEq, exists_eq_left', decide_true, decide_false, seval, go_regionPw, pw_normal]
    refine hK _ ?_ ?_ ?_ ?_ ?_ <;> simp only [h0, h1, h2, h7, h8, wk, wk1, Nat.reduceEqDiff, reduceIte, decide_true]
  | succ k ih =>
    intro i e hk hai hS hE
    obtain ⟨h0, h1, h2, h7, h8⟩ := hE
    have hc : ((i : Int) < (b : Int)) := by omega
    have hin : i < n := by omega
    have hin' : i - 1 < n := by omega
    have hi1 : i + 1 ≤ n := by omega
    have hi1' : i - 1 + 1 ≤ n := by omega
    have r1 := mp_take (en := en) (f := g) hin
    have r2 := mp_take (en := en) (f := g) hin'
    have u1 : wrapF .i64 ((i : Int) - 1) = ((i - 1 : Nat) : Int) := i64_sub1 (by omega) (by omega)
    have u2 : wrapF .i64 ((i : Int) + 1) = ((i + 1 : Nat) : Int) := i64_add1 (by omega)
    rw [go_loop]
    cases hl : lt (g i) (g (i - 1)) with
    | true =>
      have hK := fun e h0 h1 h2 h7 h8 => K e i hai (by omega) hS (fun hm => hl) ⟨h0, h1, h2, h7, h8⟩
      generalize ([.seq ir56c29, .block 1, .seq ir56c31, .loop ir56c33, .block 0, .seq (.seq (.region [⟨some 6, none, [], (.move (.c (.bool false)))⟩] false) .ret)] : List Fr) = FF at *
      simp only [g56c1, g56c2, g56c3, g56c4, g56c5, g56c6, g56c7, g56c8, g56c9, g56c10, g56c11, g56c12, g56c13, g56c14, g56c15, g56c16, g56c17, g56c18, g56c19, g56c20, g56c21, g56c22, g56c23, g56c24, g56c25, g56c26, g56c27, g56c28, g56c29, g56c30, g56c31, g56c32, g56c33, g56c34, g56c35, g56c36, g56c37, h0, h1, h2, h7, hc, hin, hin', hi1, hi1', hrow, hlo, r1, r2, u1, u2, kl, hl, wk, wk1, wk2, Option.some.injEq, exists_eq_left', decide_true, decide_false, seval, go_regionPw, pw_normal]
      refine hK _ ?_ ?_ ?_ ?_ ?_ <;> simp only [h0, h1, h2, h7, h8, wk, wk1, Nat.reduceEqDiff, reduceIte, decide_true]
    | false =>
      simp only [g56c1, g56c2, g56c3, g56c4, g56c5, g56c6, g56c7, g56c8, g56c9, g56c10, g56c11, g56c12, g56c13, g56c14, g56c15, g56c16, g56c17, g56c18, g56c19, g56c20, g56c21, g56c22, g56c23, g56c24, g56c25, g56c26, g56c27, g56c28, g56c29, g56c30, g56c31, g56c32, g56c33, g56c34, g56c35, g56c36, g56c37, h0, h1, h2, h7, hc, hin, hin', hi1, hi1', hrow, hlo, r1, r2, u1, u2, kl, hl, wk, wk1, wk2, Option.some.injEq, exists_eq_left', decide_true, decide_false, seval, go_regionPw, pw_normal]
      refine ih (i + 1) _ (by omega) (by omega) ?_ ⟨?_, ?_, ?_, ?_, ?_⟩
      · intro p q p1 q1 q2
        by_cases e1 : q = i
        · subst e1
          by_cases e2 : p = q - 1
          · subst e2; exact hl
          · exact ho.trans _ _ _ (hS p (q - 1) p1 (by omega) (by omega)) hl
        · exact hS p q p1 q1 (by omega)
      all_goals simp only [h0, h1, h2, h7, h8, u2, wk, wk1, Nat.reduceEqDiff, reduceIte, decide_true]

set_option maxHeartbeats 8000000 in
theorem ps_left (hL : LessOk T 57 en lt) (ho : Ord lt) {Q : Post} {s0 : St} {B inc n cap : Nat} {ex : Bool} (hB : B < s0.next) (hn : n ≤ 1000000000) (a b c i : Nat) (hai : a < i) (hib : i < b) (hbn : b ≤ n) (f0 : Nat → α) (hpre : PreA lt a b f0)
    (K : ∀ (e : Env) (s : St) (g : Nat → α), Srt lt a i g → PermR a b f0 g → Aft en s0 B inc n g s → PsE B inc n cap ex a b c i e → Ret T Q [.seq ir56c25, .block 1, .seq ir56c31, .loop ir56c33, .block 0, .seq (.seq (.region [⟨some 6, none, [], (.move (.c (.bool false)))⟩] false) .ret)] .normal e s) :
    ∀ (k j : Nat) (e : Env) (s : St) (g : Nat → α), j = a + k → j < i → InsInv lt a (i - 1) j g → PermR a b f0 g → Aft en s0 B inc n g s → PsE B inc n cap ex a b c i e → opd e (.t 9) = .int .i64 (j : Int) →
      Go T Q (.loop ir56c11) [.block 4, .seq ir56c25, .block 1, .seq ir56c31, .loop ir56c33, .block 0, .seq (.seq (.region [⟨some 6, none, [], (.move (.c (.bool false)))⟩] false) .ret)] e s := by
  have kl := hL.call
  have kc := hL.cells
  have ki := hL.cell
  intro k
  induction k with
  | zero =>
    intro j e s g hj hji hI hP hA hE h9
    obtain ⟨h0, h1, h2, h7, h8⟩ := hE
    have hja : j = a := by omega
    have hS : Srt lt a i g := by
      have := hI.done ho (by omega) (fun h => by omega)
      have e1 : i - 1 + 1 = i := by omega
      rwa [e1] at this
    have hK := fun e h0 h1 h2 h7 h8 => K e s g hS hP hA ⟨h0, h1, h2, h7, h8⟩
    rw [go_loop]
    by_cases hz : 1 ≤ j
    · have hc : ((1 : Int) ≤ (j : Int)) := by omega
      have hl : lt (g j) (g (j - 1)) = false := by
        have := hpre.perm hP (by omega) a (Nat.le_refl _) (by omega)
        rw [hja]; exact this
      obtain ⟨lo', hlo, hrow⟩ := hA.row
      have hjn : j < n := by omega
      have hjn' : j - 1 < n := by omega
      have hj1 : j + 1 ≤ n := by omega
      have hj1' : j - 1 + 1 ≤ n := by omega
      have r1 := mp_take (en := en) (f := g) hjn
      have r2 := mp_take (en := en) (f := g) hjn'
      have u1 : wrapF .i64 ((j : Int) - 1) = ((j - 1 : Nat) : Int) := i64_sub1 (by omega) (by omega)
      generalize ([.seq ir56c25, .block 1, .seq ir56c31, .loop ir56c33, .block 0, .seq (.seq (.region [⟨some 6, none, [], (.move (.c (.bool false)))⟩] false) .ret)] : List Fr) = FF at *
      simp only [g56c1, g56c2, g56c3, g56c4, g56c5, g56c6, g56c7, g56c8, g56c9, g56c10, g56c11, g56c12, g56c13, g56c14, g56c15, g56c16, g56c17, g56c18, g56c19, g56c20, g56c21, g56c22, g56c23, g56c24, g56c25, g56c26, g56c27, g56c28, g56c29, g56c30, g56c31, g56c32, g56c33, g56c34, g56c35, g56c36, g56c37, h0, h1, h2, h7, h9, hc, hjn, hjn', hj1, hj1', hrow, hlo, r1, r2, u1, kl, hl, wk, wk1, wk2, Option.some.injEq, exists_eq_left', decide_true, decide_false, seval, go_regionPw, pw_normal]
      refine hK _ ?_ ?_ ?_ ?_ ?_ <;> simp only [h0, h1, h2, h7, h8, wk, wk1, Nat.reduceEqDiff, reduceIte, decide_true]
    · have hc : ¬ ((1 : Int) ≤ (j : Int)) := by omega
      generalize ([.seq ir56c25, .block 1, .seq ir56c31, .loop ir56c33, .block 0, .seq (.seq (.region [⟨some 6, none, [], (.move (.c (.bool false)))⟩] false) .ret)] : List Fr) = FF at *
      simp only [g56c1, g56c2, g56c3, g56c4, g56c5, g56c6, g56c7, g56c8, g56c9, g56c10, g56c11, g56c12, g56c13, g56c14, g56c15, g56c16, g56c17, g56c18, g56c19, g56c20, g56c21, g56c22, g56c23, g56c24, g56c25, g56c26, g56c27, g56c28, g56c29, g56c30, g56c31, g56c32, g56c33, g56c34, g56c35, g56c36, g56c37, h0, h1, h2, h7, h9, hc, wk, wk1, wk2, Option.some.injEq, exists_eq_left', decide_true, decide_false, seval, go_regionPw, pw_normal]
      refine hK _ ?_ ?_ ?_ ?_ ?_ <;> simp only [h0, h1, h2, h7, h8, wk, wk1, Nat.reduceEqDiff, reduceIte, decide_true]
  | succ k ih =>
    intro j e s g hj hji hI hP hA hE h9
    obtain ⟨h0, h1, h2, h7, h8⟩ := hE
    have hc : ((1 : Int) ≤ (j : Int)) := by omega
    obtain ⟨lo', hlo, hrow⟩ := hA.row
    have hjn : j < n := by omega
    have hjn' : j - 1 < n := by omega
    have hj1 : j + 1 ≤ n := by omega
    have hj1' : j - 1 + 1 ≤ n := by omega
    have r1 := mp_take (en := en) (f := g) hjn
    have r2 := mp_take (en := en) (f := g) hjn'
    have sp1 := fun x => mp_splice (en := en) (f := g) (x := x) hjn
    have sp2 := fun f x => mp_splice (en := en) (f := f) (x := x) hjn'
    have u1 : wrapF .i64 ((j : Int) - 1) = ((j - 1 : Nat) : Int) := i64_sub1 (by omega) (by omega)
    rw [go_loop]
    cases hl : lt (g j) (g (j - 1)) with
    | false =>
      have hS : Srt lt a i g := by
        have := hI.done ho (by omega) (fun h => hl)
        have e1 : i - 1 + 1 = i := by omega
        rwa [e1] at this
      have hK := fun e h0 h1 h2 h7 h8 => K e s g hS hP hA ⟨h0, h1, h2, h7, h8⟩
      generalize ([.seq ir56c25, .block 1, .seq ir56c31, .loop ir56c33, .block 0, .seq (.seq (.region [⟨some 6, none, [], (.move (.c (.bool false)))⟩] false) .ret)] : List Fr) = FF at *
      simp only [g56c1, g56c2, g56c3, g56c4, g56c5, g56c6, g56c7, g56c8, g56c9, g56c10, g56c11, g56c12, g56c13, g56c14, g56c15, g56c16, g56c17, g56c18, g56c19, g56c20, g56c21, g56c22, g56c23, g56c24, g56c25, g56c26, g56c27, g56c28, g56c29, g56c30, g56c31, g56c32, g56c33, g56c34, g56c35, g56c36, g56c37, h0, h1, h2, h7, h9, hc, hjn, hjn', hj1, hj1', hrow, hlo, r1, r2, u1, kl, hl, wk, wk1, wk2, Option.some.injEq, exists_eq_left', decide_true, decide_false, seval, go_regionPw, pw_normal]
      refine hK _ ?_ ?_ ?_ ?_ ?_ <;> simp only [h0, h1, h2, h7, h8, wk, wk1, Nat.reduceEqDiff, reduceIte, decide_true]
    | true =>
      have hA' := hA.put hB (swp g j (j - 1))
      have hI' := hI.step ho (by omega) (by omega) hl
      have hP' := hP.trans (PermR.swap (f := g) (i := j) (j := j - 1) (a := a) (b := b) (by omega) (by omega) (by omega) (by omega))
      simp only [g56c1, g56c2, g56c3, g56c4, g56c5, g56c6, g56c7, g56c8, g56c9, g56c10, g56c11, g56c12, g56c13, g56c14, g56c15, g56c16, g56c17, g56c18, g56c19, g56c20, g56c21, g56c22, g56c23, g56c24, g56c25, g56c26, g56c27, g56c28, g56c29, g56c30, g56c31, g56c32, g56c33, g56c34, g56c35, g56c36, g56c37, h0, h1, h2, h7, h9, hc, hjn, hjn', hj1, hj1', hrow, hlo, r1, r2, u1, kl, kc, ki, hl, sp1, sp2, upd_swp, wk, wk1, wk2, Option.some.injEq, exists_eq_left', decide_true, decide_false, seval, go_regionPw, pw_normal]
      refine ih (j - 1) _ _ _ (by omega) (by omega) hI' hP' hA' ⟨?_, ?_, ?_, ?_, ?_⟩ ?_ <;> simp only [h0, h1, h2, h7, h8, u1, wk, wk1, Nat.reduceEqDiff, reduceIte, decide_true]

set_option maxHeartbeats 8000000 in
theorem ps_right (hL : LessOk T 57 en lt) {Q : Post} {s0 : St} {B inc n cap : Nat} {ex : Bool} (hB : B < s0.next) (hn : n ≤ 1000000000) (a b c i : Nat) (hai : a < i) (hbn : b ≤ n) (f0 : Nat → α)
    (K : ∀ (e : Env) (s : St) (g : Nat → α), Srt lt a i g → PermR a b f0 g → Aft en s0 B inc n g s → PsE B inc n cap ex a b c i e → Ret T Q [.block 1, .seq ir56c31, .loop ir56c33, .block 0, .seq (.seq (.region [⟨some 6, none, [], (.move (.c (.bool false)))⟩] false) .ret)] .normal e s) :
    ∀ (k j : Nat) (e : Env) (s : St) (g : Nat → α), k + j = b → i < j → Srt lt a i g → PermR a b f0 g → Aft en s0 B inc n g s → PsE B inc n cap ex a b c i e → opd e (.t 10) = .int .i64 (j : Int) →
      Go T Q (.loop ir56c20) [.block 6, .block 1, .seq ir56c31, .loop ir56c33, .block 0, .seq (.seq (.region [⟨some 6, none, [], (.move (.c (.bool false)))⟩] false) .ret)] e s := by
  have kl := hL.call
  have kc := hL.cells
  have ki := hL.cell
  intro k
  induction k with
  | zero =>
    intro j e s g hj hji hS hP hA hE h9
    obtain ⟨h0, h1, h2, h7, h8⟩ := hE
    have hc : ¬ ((j : Int) < (b : Int)) := by omega
    have hK := fun e h0 h1 h2 h7 h8 => K e s g hS hP hA ⟨h0, h1, h2, h7, h8⟩
    rw [go_loop]
    generalize ([.block 1, .seq ir56c31, .loop ir56c33, .block 0, .seq (.seq (.region [⟨some 6, none, [], (.move (.c (.bool false)))⟩] false) .ret)] : List Fr) = FF at *
    simp only [g56c1, g56c2, g56c3, g56c4, g56c5, g56c6, g56c7, g56c8, g56c9, g56c10, g56c11, g56c12, g56c13, g56c14, g56c15, g56c16, g56c17, g56c18, g56c19, g56c20, g56c21, g56c22, g56c23, g56c24, g56c25, g56c26, g56c27, g56c28, g56c29, g56c30, g56c31, g56c32, g56c33, g56c34, g56c35, g56c36, g56c37, h0, h1, h2, h7, h9, hc, wk, wk1, wk2, Option.some.injEq, exists_eq_left', decide_true, decide_false, seval, go_regionPw, pw_normal]
    refine hK _ ?_ ?_ ?_ ?_ ?_ <;> simp only [h0, h1, h2, h7, h8, wk, wk1, Nat.reduceEqDiff, reduceIte, decide_true]
  | succ k ih =>
    intro j e s g hj hji hS hP hA hE h9
    obtain ⟨h0, h1, h2, h7, h8⟩ := hE
    have hc : ((j : Int) < (b : Int)) := by omega
    obtain ⟨lo', hlo, hrow⟩ := hA.row
    have hjn : j < n := by omega
    have hjn' : j - 1 < n := by omega
    have hj1 : j + 1 ≤ n := by omega
    have hj1' : j - 1 + 1 ≤ n := by omega
    have r1 := mp_take (en := en) (f := g) hjn
    have r2 := mp_take (en := en) (f := g) hjn'
    have sp1 := fun x => mp_splice (en := en) (f := g) (x := x) hjn
    have sp2 := fun f x => mp_splice (en := en) (f := f) (x := x) hjn'
    have u1 : wrapF .i64 ((j : Int) - 1) = ((j - 1 : Nat) : Int) := i64_sub1 (by omega) (by omega)
    have u2 : wrapF .i64 ((j : Int) + 1) = ((j + 1 : Nat) : Int) := i64_add1 (by omega)
    rw [go_loop]
    cases hl : lt (g j) (g (j - 1)) with
    | false =>
      have hK := fun e h0 h1 h2 h7 h8 => K e s g hS hP hA ⟨h0, h1, h2, h7, h8⟩
      generalize ([.block 1, .seq ir56c31, .loop ir56c33, .block 0, .seq (.seq (.region [⟨some 6, none, [], (.move (.c (.bool false)))⟩] false) .ret)] : List Fr) = FF at *
      simp only [g56c1, g56c2, g56c3, g56c4, g56c5, g56c6, g56c7, g56c8, g56c9, g56c10, g56c11, g56c12, g56c13, g56c14, g56c15, g56c16, g56c17, g56c18, g56c19, g56c20, g56c21, g56c22, g56c23, g56c24, g56c25, g56c26, g56c27, g56c28, g56c29, g56c30, g56c31, g56c32, g56c33, g56c34, g56c35, g56c36, g56c37, h0, h1, h2, h7, h9, hc, hjn, hjn', hj1, hj1', hrow, hlo, r1, r2, u1, kl, hl, wk, wk1, wk2, Option.some.injEq, exists_eq_left', decide_true, decide_false, seval, go_regionPw, pw_normal]
      refine hK _ ?_ ?_ ?_ ?_ ?_ <;> simp only [h0, h1, h2, h7, h8, wk, wk1, Nat.reduceEqDiff, reduceIte, decide_true]
    | true =>
      have hA' := hA.put hB (swp g j (j - 1))
      have hS' : Srt lt a i (swp g j (j - 1)) := by
        intro p q p1 q1 q2
        unfold swp
        rw [if_neg (by omega), if_neg (by omega), if_neg (by omega), if_neg (by omega)]
        exact hS p q p1 q1 q2
      have hP' := hP.trans (PermR.swap (f := g) (i := j) (j := j - 1) (a := a) (b := b) (by omega) (by omega) (by omega) (by omega))
      simp only [g56c1, g56c2, g56c3, g56c4, g56c5, g56c6, g56c7, g56c8, g56c9, g56c10, g56c11, g56c12, g56c13, g56c14, g56c15, g56c16, g56c17, g56c18, g56c19, g56c20, g56c21, g56c22, g56c23, g56c24, g56c25, g56c26, g56c27, g56c28, g56c29, g56c30, g56c31, g56c32, g56c33, g56c34, g56c35, g56c36, g56c37, h0, h1, h2, h7, h9, hc, hjn, hjn', hj1, hj1', hrow, hlo, r1, r2, u1, u2, kl, kc, ki, hl, sp1, sp2, upd_swp, wk, wk1, wk2, Option.some.injEq, exists_eq_left', decide_true, decide_false, seval, go_regionPw, pw_normal]
      refine ih (j + 1) _ _ _ (by omega) (by omega) hS' hP' hA' ⟨?_, ?_, ?_, ?_, ?_⟩ ?_ <;> simp only [h0, h1, h2, h7, h8, u2, wk, wk1, Nat.reduceEqDiff, reduceIte, decide_true]
end
end Go.V
/- slices.partialInsertionSortOrdered over the small language: whole. -/
namespace Go.V
open Go
set_option linter.unusedSimpArgs false
set_option linter.unusedVariables false
section
variable {α : Type} {en : α → AV} {lt : α → α → Bool} {T : Tab}
set_option maxHeartbeats 16000000 in
theorem ps_outer (hL : LessOk T 57 en lt) (ho : Ord lt) {Q : Post} {s0 : St} {B inc n cap : Nat} {ex : Bool} (hB : B < s0.next) (hn : n ≤ 1000000000) (a b : Nat) (hbn : b ≤ n) (f0 : Nat → α) (hpre : PreA lt a b f0)
    (K : ∀ (e : Env) (s : St) (g : Nat → α) (r : Bool), PermR a b f0 g → Aft en s0 B inc n g s → (r = true → Srt lt a b g) → opd e (.t 6) = .bool r → Q .ret e s)
    (K2 : ∀ (e : Env) (s : St) (g : Nat → α), PermR a b f0 g → Aft en s0 B inc n g s → Ret T Q [.seq (.seq (.region [⟨some 6, none, [], (.move (.c (.bool false)))⟩] false) .ret)] .normal e s) :
    ∀ (k c i : Nat) (e : Env) (s : St) (g : Nat → α), k + c = 5 → a < i → i ≤ b → Srt lt a i g → PermR a b f0 g → Aft en s0 B inc n g s → PsE B inc n cap ex a b c i e →
      Go T Q (.loop ir56c33) [.block 0, .seq (.seq (.region [⟨some 6, none, [], (.move (.c (.bool false)))⟩] false) .ret)] e s := by
  have kc := hL.cells
  have ki := hL.cell
  intro k
  induction k with
  | zero =>
    intro c i e s g hk hai hib hS hP hA hE
    obtain ⟨h0, h1, h2, h7, h8⟩ := hE
    have hc : ¬ ((c : Int) < 5) := by omega
    have hK := fun e => K2 e s g hP hA
    rw [go_loop]
    generalize ([.seq (.seq (.region [⟨some 6, none, [], (.move (.c (.bool false)))⟩] false) .ret)] : List Fr) = FF at *
    simp only [g56c1, g56c2, g56c3, g56c4, g56c5, g56c6, g56c7, g56c8, g56c9, g56c10, g56c11, g56c12, g56c13, g56c14, g56c15, g56c16, g56c17, g56c18, g56c19, g56c20, g56c21, g56c22, g56c23, g56c24, g56c25, g56c26, g56c27, g56c28, g56c29, g56c30, g56c31, g56c32, g56c33, g56c34, g56c35, g56c36, g56c37, h0, h1, h2, h7, h8, hc, hK, wk, wk1, wk2, Option.some.injEq, exists_eq_left', decide_true, decide_false, seval, go_regionPw, pw_normal]
  | succ k ih =>
    intro c i e s g hk hai hib hS hP hA hE
    obtain ⟨h0, h1, h2, h7, h8⟩ := hE
    have hc : ((c : Int) < 5) := by omega
    have u8 : wrapF .i64 ((c : Int) + 1) = ((c + 1 : Nat) : Int) := i64_add1 (by omega)
    have u9 : wrapF .i64 ((b : Int) - (a : Int)) = ((b - a : Nat) : Int) := i64_sub (by omega) (by omega)
    rw [go_loop]
    simp only [g56c1, g56c2, g56c3, g56c4, g56c5, g56c6, g56c7, g56c8, g56c9, g56c10, g56c11, g56c12, g56c13, g56c14, g56c15, g56c16, g56c17, g56c18, g56c19, g56c20, g56c21, g56c22, g56c23, g56c24, g56c25, g56c26, g56c27, g56c28, g56c29, g56c30, g56c31, g56c32, g56c33, g56c34, g56c35, g56c36, g56c37, h8, hc, wk, wk1, wk2, Option.some.injEq, exists_eq_left', decide_true, decide_false, seval, go_regionPw, pw_normal]
    refine ps_scan (cap := cap) (ex := ex) hL ho hn a b c hbn g hA ?_ (b - i) i _ (by omega) hai hS ⟨?_, ?_, ?_, ?_, ?_⟩
    · intro e m m1 m2 hS hst hE
      obtain ⟨h0, h1, h2, h7, h8⟩ := hE
      by_cases hmb : m = b
      · subst hmb
        have hK := fun e => K e s g true hP hA (fun _ => hS)
        simp only [g56c1, g56c2, g56c3, g56c4, g56c5, g56c6, g56c7, g56c8, g56c9, g56c10, g56c11, g56c12, g56c13, g56c14, g56c15, g56c16, g56c17, g56c18, g56c19, g56c20, g56c21, g56c22, g56c23, g56c24, g56c25, g56c26, g56c27, g56c28, g56c29, g56c30, g56c31, g56c32, g56c33, g56c34, g56c35, g56c36, g56c37, h0, h1, h2, h7, wk, wk1, wk2, Option.some.injEq, exists_eq_left', decide_true, decide_false, seval, go_regionPw, pw_normal]
        refine hK _ ?_
        simp only [wk, wk1, wk2, Option.some.injEq, exists_eq_left', decide_true, decide_false, seval, go_regionPw, pw_normal]
      · have c1 : ¬ ((m : Int) = (b : Int)) := by omega
        by_cases h50 : b - a < 50
        · have c2 : ((b - a : Nat) : Int) < 50 := by omega
          have hK := fun e => K e s g false hP hA (fun h => by cases h)
          simp only [g56c1, g56c2, g56c3, g56c4, g56c5, g56c6, g56c7, g56c8, g56c9, g56c10, g56c11, g56c12, g56c13, g56c14, g56c15, g56c16, g56c17, g56c18, g56c19, g56c20, g56c21, g56c22, g56c23, g56c24, g56c25, g56c26, g56c27, g56c28, g56c29, g56c30, g56c31, g56c32, g56c33, g56c34, g56c35, g56c36, g56c37, h0, h1, h2, h7, c1, u9, c2, wk, wk1, wk2, Option.some.injEq, exists_eq_left', decide_true, decide_false, seval, go_regionPw, pw_normal]
          refine hK _ ?_
          simp only [wk, wk1, wk2, Option.some.injEq, exists_eq_left', decide_true, decide_false, seval, go_regionPw, pw_normal]
        · have c2 : ¬ ((b - a : Nat) : Int) < 50 := by omega
          obtain ⟨lo', hlo, hrow⟩ := hA.row
          have hjn : m < n := by omega
          have hjn' : m - 1 < n := by omega
          have hj1 : m + 1 ≤ n := by omega
          have hj1' : m - 1 + 1 ≤ n := by omega
          have r1 := mp_take (en := en) (f := g) hjn
          have r2 := mp_take (en := en) (f := g) hjn'
          have sp1 := fun x => mp_splice (en := en) (f := g) (x := x) hjn
          have sp2 := fun f x => mp_splice (en := en) (f := f) (x := x) hjn'
          have u1 : wrapF .i64 ((m : Int) - 1) = ((m - 1 : Nat) : Int) := i64_sub1 (by omega) (by omega)
          have u3 : wrapF .i64 ((m : Int) - (a : Int)) = ((m - a : Nat) : Int) := i64_sub (by omega) (by omega)
          have hA' := hA.put hB (swp g m (m - 1))
          have hP' := hP.trans (PermR.swap (f := g) (i := m) (j := m - 1) (a := a) (b := b) (by omega) (by omega) (by omega) (by omega))
          have hI' : InsInv lt a (m - 1) (m - 1) (swp g m (m - 1)) := by
            intro p q p1 p2 p3 p4
            unfold swp
            rw [if_neg (by omega), if_neg (by omega), if_neg (by omega), if_neg p4]
            exact hS p q p1 p2 (by omega)
          -- behind the shifting to the left
          have rest : ∀ (e : Env) (s : St) (g : Nat → α), Srt lt a m g → PermR a b f0 g → Aft en s0 B inc n g s → PsE B inc n cap ex a b c m e → Ret T Q [.seq ir56c25, .block 1, .seq ir56c31, .loop ir56c33, .block 0, .seq (.seq (.region [⟨some 6, none, [], (.move (.c (.bool false)))⟩] false) .ret)] .normal e s := by
            intro e s g hS hP hA hE
            obtain ⟨h0, h1, h2, h7, h8⟩ := hE
            have u4 : wrapF .i64 ((b : Int) - (m : Int)) = ((b - m : Nat) : Int) := i64_sub (by omega) (by omega)
            have u5 : wrapF .i64 ((m : Int) + 1) = ((m + 1 : Nat) : Int) := i64_add1 (by omega)
            by_cases h22 : 2 ≤ b - m
            · have c3 : (2 : Int) ≤ ((b - m : Nat) : Int) := by omega
              simp only [g56c1, g56c2, g56c3, g56c4, g56c5, g56c6, g56c7, g56c8, g56c9, g56c10, g56c11, g56c12, g56c13, g56c14, g56c15, g56c16, g56c17, g56c18, g56c19, g56c20, g56c21, g56c22, g56c23, g56c24, g56c25, g56c26, g56c27, g56c28, g56c29, g56c30, g56c31, g56c32, g56c33, g56c34, g56c35, g56c36, g56c37, h0, h1, h2, h7, h8, u4, u5, c3, wk, wk1, wk2, Option.some.injEq, exists_eq_left', decide_true, decide_false, seval, go_regionPw, pw_normal]
              refine ps_right (cap := cap) (ex := ex) hL hB hn a b c m (by omega) hbn f0 ?_ (b - (m + 1)) (m + 1) _ s g (by omega) (by omega) hS hP hA ⟨?_, ?_, ?_, ?_, ?_⟩ ?_
              · intro e s g hS hP hA hE
                obtain ⟨h0, h1, h2, h7, h8⟩ := hE
                simp only [g56c1, g56c2, g56c3, g56c4, g56c5, g56c6, g56c7, g56c8, g56c9, g56c10, g56c11, g56c12, g56c13, g56c14, g56c15, g56c16, g56c17, g56c18, g56c19, g56c20, g56c21, g56c22, g56c23, g56c24, g56c25, g56c26, g56c27, g56c28, g56c29, g56c30, g56c31, g56c32, g56c33, g56c34, g56c35, g56c36, g56c37, h0, h1, h2, h7, h8, u8, wk, wk1, wk2, Option.some.injEq, exists_eq_left', decide_true, decide_false, seval, go_regionPw, pw_normal]
                refine ih (c + 1) m _ s g (by omega) (by omega) (by omega) hS hP hA ⟨?_, ?_, ?_, ?_, ?_⟩ <;> simp only [h0, h1, h2, h7, h8, u8, wk, wk1, Nat.reduceEqDiff, reduceIte, decide_true]
              all_goals simp only [h0, h1, h2, h7, h8, u5, wk, wk1, Nat.reduceEqDiff, reduceIte, decide_true]
            · have c3 : ¬ (2 : Int) ≤ ((b - m : Nat) : Int) := by omega
              simp only [g56c1, g56c2, g56c3, g56c4, g56c5, g56c6, g56c7, g56c8, g56c9, g56c10, g56c11, g56c12, g56c13, g56c14, g56c15, g56c16, g56c17, g56c18, g56c19, g56c20, g56c21, g56c22, g56c23, g56c24, g56c25, g56c26, g56c27, g56c28, g56c29, g56c30, g56c31, g56c32, g56c33, g56c34, g56c35, g56c36, g56c37, h0, h1, h2, h7, h8, u4, u5, u8, c3, wk, wk1, wk2, Option.some.injEq, exists_eq_left', decide_true, decide_false, seval, go_regionPw, pw_normal]
              refine ih (c + 1) m _ s g (by omega) (by omega) (by omega) hS hP hA ⟨?_, ?_, ?_, ?_, ?_⟩ <;> simp only [h0, h1, h2, h7, h8, u8, wk, wk1, Nat.reduceEqDiff, reduceIte, decide_true]
          generalize hFF : ([.seq ir56c25, .block 1, .seq ir56c31, .loop ir56c33, .block 0, .seq (.seq (.region [⟨some 6, none, [], (.move (.c (.bool false)))⟩] false) .ret)] : List Fr) = FF at *
          by_cases h2m : 2 ≤ m - a
          · have c3 : (2 : Int) ≤ ((m - a : Nat) : Int) := by omega
            simp only [g56c1, g56c2, g56c3, g56c4, g56c5, g56c6, g56c7, g56c8, g56c9, g56c10, g56c11, g56c12, g56c13, g56c14, g56c15, g56c16, g56c17, g56c18, g56c19, g56c20, g56c21, g56c22, g56c23, g56c24, g56c25, g56c26, g56c27, g56c28, g56c29, g56c30, g56c31, g56c32, g56c33, g56c34, g56c35, g56c36, g56c37, h0, h1, h2, h7, c1, u9, c2, hjn, hjn', hj1, hj1', hrow, hlo, r1, r2, u1, u3, c3, kc, ki, sp1, sp2, upd_swp, wk, wk1, wk2, Option.some.injEq, exists_eq_left', decide_true, decide_false, seval, go_regionPw, pw_normal]
            subst hFF
            refine ps_left (cap := cap) (ex := ex) hL ho hB hn a b c m (by omega) (by omega) hbn f0 hpre rest (m - 1 - a) (m - 1) _ _ _ (by omega) (by omega) hI' hP' hA' ⟨?_, ?_, ?_, ?_, ?_⟩ ?_ <;> simp only [h0, h1, h2, h7, h8, u1, wk, wk1, Nat.reduceEqDiff, reduceIte, decide_true]
          · have c3 : ¬ (2 : Int) ≤ ((m - a : Nat) : Int) := by omega
            have hS1 : Srt lt a m (swp g m (m - 1)) := fun p q p1 p2 p3 => by omega
            have u4 : wrapF .i64 ((b : Int) - (m : Int)) = ((b - m : Nat) : Int) := i64_sub (by omega) (by omega)
            have u5 : wrapF .i64 ((m : Int) + 1) = ((m + 1 : Nat) : Int) := i64_add1 (by omega)
            clear rest hFF
            by_cases h22 : 2 ≤ b - m
            · have c4 : (2 : Int) ≤ ((b - m : Nat) : Int) := by omega
              simp only [g56c1, g56c2, g56c3, g56c4, g56c5, g56c6, g56c7, g56c8, g56c9, g56c10, g56c11, g56c12, g56c13, g56c14, g56c15, g56c16, g56c17, g56c18, g56c19, g56c20, g56c21, g56c22, g56c23, g56c24, g56c25, g56c26, g56c27, g56c28, g56c29, g56c30, g56c31, g56c32, g56c33, g56c34, g56c35, g56c36, g56c37, h0, h1, h2, h7, h8, c1, u9, c2, hjn, hjn', hj1, hj1', hrow, hlo, r1, r2, u1, u3, c3, kc, ki, sp1, sp2, upd_swp, u4, u5, u8, c4, wk, wk1, wk2, Option.some.injEq, exists_eq_left', decide_true, decide_false, seval, go_regionPw, pw_normal]
              refine ps_right (cap := cap) (ex := ex) hL hB hn a b c m (by omega) hbn f0 ?_ (b - (m + 1)) (m + 1) _ _ _ (by omega) (by omega) hS1 hP' hA' ⟨?_, ?_, ?_, ?_, ?_⟩ ?_
              · intro e s g hS hP hA hE
                obtain ⟨h0, h1, h2, h7, h8⟩ := hE
                simp only [g56c1, g56c2, g56c3, g56c4, g56c5, g56c6, g56c7, g56c8, g56c9, g56c10, g56c11, g56c12, g56c13, g56c14, g56c15, g56c16, g56c17, g56c18, g56c19, g56c20, g56c21, g56c22, g56c23, g56c24, g56c25, g56c26, g56c27, g56c28, g56c29, g56c30, g56c31, g56c32, g56c33, g56c34, g56c35, g56c36, g56c37, h0, h1, h2, h7, h8, u8, wk, wk1, wk2, Option.some.injEq, exists_eq_left', decide_true, decide_false, seval, go_regionPw, pw_normal]
                refine ih (c + 1) m _ s g (by omega) (by omega) (by omega) hS hP hA ⟨?_, ?_, ?_, ?_, ?_⟩ <;> simp only [h0, h1, h2, h7, h8, u8, wk, wk1, Nat.reduceEqDiff, reduceIte, decide_true]
              all_goals simp only [h0, h1, h2, h7, h8, u1, u5, wk, wk1, Nat.reduceEqDiff, reduceIte, decide_true]
            · have c4 : ¬ (2 : Int) ≤ ((b - m : Nat) : Int) := by omega
              simp only [g56c1, g56c2, g56c3, g56c4, g56c5, g56c6, g56c7, g56c8, g56c9, g56c10, g56c11, g56c12, g56c13, g56c14, g56c15, g56c16, g56c17, g56c18, g56c19, g56c20, g56c21, g56c22, g56c23, g56c24, g56c25, g56c26, g56c27, g56c28, g56c29, g56c30, g56c31, g56c32, g56c33, g56c34, g56c35, g56c36, g56c37, h0, h1, h2, h7, h8, c1, u9, c2, hjn, hjn', hj1, hj1', hrow, hlo, r1, r2, u1, u3, c3, kc, ki, sp1, sp2, upd_swp, u4, u5, u8, c4, wk, wk1, wk2, Option.some.injEq, exists_eq_left', decide_true, decide_false, seval, go_regionPw, pw_normal]
              refine ih (c + 1) m _ _ _ (by omega) (by omega) (by omega) hS1 hP' hA' ⟨?_, ?_, ?_, ?_, ?_⟩ <;> simp only [h0, h1, h2, h7, h8, u1, u8, wk, wk1, Nat.reduceEqDiff, reduceIte, decide_true]
    all_goals simp only [h0, h1, h2, h7, h8, wk, wk1, Nat.reduceEqDiff, reduceIte, decide_true]

set_option maxHeartbeats 8000000 in
theorem ps_ran (hc : T 56 = some (.code ir56)) (hL : LessOk T 57 en lt) (ho : Ord lt) (s : St) (B inc n cap : Nat) (ex : Bool) (hB : B < s.next) (hn : n ≤ 1000000000) (a b : Nat) (hab : a < b) (hbn : b ≤ n) (f : Nat → α) (hpre : PreA lt a b f) (hA : Aft en s B inc n f s) :
    Ran T 56 [dsl B inc n cap ex, .int .i64 (a : Int), .int .i64 (b : Int)] s fun v s' => ∃ (r : Bool) (g : Nat → α), v = .bool r ∧ PermR a b f g ∧ Aft en s B inc n g s' ∧ (r = true → Srt lt a b g) := by
  refine ran_code hc (Nat.le_of_ble_eq_true rfl) ?_
  have u1 : wrapF .i64 ((a : Int) + 1) = ((a + 1 : Nat) : Int) := i64_add1 (by omega)
  generalize hQ : Fin _ _ = Q
  simp only [ir56, g56c1, g56c2, g56c3, g56c4, g56c5, g56c6, g56c7, g56c8, g56c9, g56c10, g56c11, g56c12, g56c13, g56c14, g56c15, g56c16, g56c17, g56c18, g56c19, g56c20, g56c21, g56c22, g56c23, g56c24, g56c25, g56c26, g56c27, g56c28, g56c29, g56c30, g56c31, g56c32, g56c33, g56c34, g56c35, g56c36, g56c37, u1, wk, wk1, wk2, Option.some.injEq, exists_eq_left', decide_true, decide_false, seval, go_regionPw, pw_normal]
  refine ps_outer (cap := cap) (ex := ex) hL ho hB hn a b hbn f hpre ?_ ?_ 5 0 (a + 1) _ s f rfl (by omega) (by omega) (fun p q p1 p2 p3 => by omega) (PermR.refl _ _ _) hA ⟨?_, ?_, ?_, ?_, ?_⟩
  · intro e s' g r hP hA hS h6
    subst hQ
    simp only [ir56, h6, wk, wk1, wk2, Option.some.injEq, exists_eq_left', decide_true, decide_false, seval, go_regionPw, pw_normal]
    exact ⟨r, g, rfl, hP, hA, hS⟩
  · intro e s' g hP hA
    subst hQ
    simp only [ir56, g56c1, g56c2, g56c3, g56c4, g56c5, g56c6, g56c7, g56c8, g56c9, g56c10, g56c11, g56c12, g56c13, g56c14, g56c15, g56c16, g56c17, g56c18, g56c19, g56c20, g56c21, g56c22, g56c23, g56c24, g56c25, g56c26, g56c27, g56c28, g56c29, g56c30, g56c31, g56c32, g56c33, g56c34, g56c35, g56c36, g56c37, wk, wk1, wk2, Option.some.injEq, exists_eq_left', decide_true, decide_false, seval, go_regionPw, pw_normal]
    exact ⟨false, g, rfl, hP, hA, fun h => by cases h⟩
  all_goals simp only [wk, wk1, Nat.reduceEqDiff, reduceIte, decide_true]
end
end Go.V
/- math/bits.Len, slices.nextPowerOfTwo, xorshift.Next, breakPatternsOrdered over the small language. -/
namespace Go.V
open Go
set_option linter.unusedSimpArgs false
set_option linter.unusedVariables false
section
open Z
abbrev pdqKl0 : ICode := .seq (R [(m 19 2),(m 20 0),(o 21 (.conv (.intInt .u8) t20)),(o 22 (.idxStr (sc [0,1,2,2,3,3,3,3,4,4,4,4,4,4,4,4,5,5,5,5,5,5,5,5,5,5,5,5,5,5,5,5,6,6,6,6,6,6,6,6,6,6,6,6,6,6,6,6,6,6,6,6,6,6,6,6,6,6,6,6,6,6,6,6,7,7,7,7,7,7,7,7,7,7,7,7,7,7,7,7,7,7,7,7,7,7,7,7,7,7,7,7,7,7,7,7,7,7,7,7,7,7,7,7,7,7,7,7,7,7,7,7,7,7,7,7,7,7,7,7,7,7,7,7,7,7,7,7,8,8,8,8,8,8,8,8,8,8,8,8,8,8,8,8,8,8,8,8,8,8,8,8,8,8,8,8,8,8,8,8,8,8,8,8,8,8,8,8,8,8,8,8,8,8,8,8,8,8,8,8,8,8,8,8,8,8,8,8,8,8,8,8,8,8,8,8,8,8,8,8,8,8,8,8,8,8,8,8,8,8,8,8,8,8,8,8,8,8,8,8,8,8,8,8,8,8,8,8,8,8,8,8,8,8,8,8,8,8,8,8,8,8,8,8,8,8,8,8,8,8,8,8,8,8,8,8]) t21)),(o 23 (.conv (.intInt .i64) t22)),(o 24 (.bin .add t19 t23)),(m 2 24)]) .ret
end
open Z in def ir61 : IFunc := ⟨25,[.tmp 2],(q (R [(mi 2 0)]) (q (q (R [(m 3 0),(o 4 (.bin .geq t3 (.c (.int .u64 4294967296))))]) (.cond t4 (q (R [(m 5 0),(o 6 (.bin .shr t5 (.c (.int .u64 32)))),(m 0 6)]) (R [(mi 2 32)])) .skip)) (q (q (R [(m 7 0),(o 8 (.bin .geq t7 (.c (.int .u64 65536))))]) (.cond t8 (q (R [(m 9 0),(o 10 (.bin .shr t9 (.c (.int .u64 16)))),(m 0 10)]) (R [(m 11 2),(o 12 (.bin .add t11 (I 16))),(m 2 12)])) .skip)) (q (q (R [(m 13 0),(o 14 (.bin .geq t13 (.c (.int .u64 256))))]) (.cond t14 (q (R [(m 15 0),(o 16 (.bin .shr t15 (.c (.int .u64 8)))),(m 0 16)]) (R [(m 17 2),(o 18 (.bin .add t17 (I 8))),(m 2 18)])) .skip)) pdqKl0))))⟩
open Z in def ir32 : IFunc := ⟨8,[.tmp 2],(q (R [(mi 2 0)]) (q (.cond F (q (R [(m 3 0),(o 4 (.conv (.intInt .u32) t3)),(o 5 (.call 60 [t4])),(m 2 5)]) .ret) .skip) (q (R [(m 6 0),(o 7 (.call 61 [t6])),(m 2 7)]) .ret)))⟩
open Z in def ir95 : IFunc := ⟨7,[.tmp 2],(q (R [(o 2 (.move (.c (.int .u64 0))))]) (q (R [(m 3 0),(o 4 (.conv (.intInt .u64) t3)),(o 5 (.call 32 [t4])),(o 6 (.bin .shl (.c (.int .u64 1)) t5)),(m 2 6)]) .ret))⟩
open Z in def ir96 : IFunc := ⟨33,[.tmp 2],(q (R [(o 2 (.move (.c (.int .u64 0))))]) (q (.region [(m 3 0),(k 4 3),(l 5 1 4),(m 6 0),(k 7 6),(l 8 1 7),(o 9 (.bin .shl t8 (.c (.int .u64 13)))),(o 10 (.bin .xor t5 t9)),(k 11 3),(st 1 11 10)] true) (q (.region [(m 12 0),(k 13 12),(l 14 1 13),(m 15 0),(k 16 15),(l 17 1 16),(o 18 (.bin .shr t17 (.c (.int .u64 7)))),(o 19 (.bin .xor t14 t18)),(k 20 12),(st 1 20 19)] true) (q (.region [(m 21 0),(k 22 21),(l 23 1 22),(m 24 0),(k 25 24),(l 26 1 25),(o 27 (.bin .shl t26 (.c (.int .u64 17)))),(o 28 (.bin .xor t23 t27)),(k 29 21),(st 1 29 28)] true) (q (R [(m 30 0),(k 31 30),(l 32 1 31),(m 2 32)]) .ret)))))⟩
open Z in def ir53 : IFunc := ⟨65,[],(q (R [(m 11 2),(m 12 1),(o 13 (.bin .sub t11 t12)),(m 6 13)]) (q (R [(m 14 6),(o 15 (.bin .geq t14 (I 8)))]) (.cond t15 (q (R [(m 16 6),(o 17 (.conv (.intInt .u64) t16)),(o 7 (.alloc [(.int .u64 0)])),(st 1 7 17)]) (q (R [(m 18 6),(o 19 (.call 95 [t18])),(m 8 19)]) (q (R [(m 20 1),(m 21 6),(o 22 (.bin .quo t21 (I 4))),(o 23 (.bin .mul t22 (I 2))),(o 24 (.bin .add t20 t23)),(o 25 (.bin .sub t24 (I 1))),(m 9 25)]) (.block 0 (.loop (q (q (R [(m 26 9),(m 27 1),(m 28 6),(o 29 (.bin .quo t28 (I 4))),(o 30 (.bin .mul t29 (I 2))),(o 31 (.bin .add t27 t30)),(o 32 (.bin .add t31 (I 1))),(o 33 (.bin .leq t26 t32))]) (.cond t33 .skip (.exit 0))) (q (.block 1 (q (R [(o 36 (.call 96 [t7])),(m 37 8),(o 38 (.bin .sub t37 (.c (.int .u64 1)))),(o 39 (.bin .and t36 t38)),(o 40 (.conv (.intInt .i64) t39)),(m 10 40)]) (q (q (R [(m 41 10),(m 42 6),(o 43 (.bin .geq t41 t42))]) (.cond t43 (R [(m 44 10),(m 45 6),(o 46 (.bin .sub t44 t45)),(m 10 46)]) .skip)) (.region [(m 47 0),(m 48 9),(m 49 0),(m 50 1),(m 51 10),(o 52 (.bin .add t50 t51)),(m 53 0),(m 54 1),(m 55 10),(o 56 (.bin .add t54 t55)),(ix 57 1 53 56),(l 58 1 57),(m 59 0),(m 60 9),(ix 61 1 59 60),(l 62 1 61),(ix 63 1 47 48),(st 1 63 58),(ix 64 1 49 52),(st 1 64 62)] true)))) (R [(m 34 9),(o 35 (.bin .add t34 (I 1))),(m 9 35)])))))))) .skip)))⟩

def lenTab : List UInt8 := [0, 1, 2, 2, 3, 3, 3, 3, 4, 4, 4, 4, 4, 4, 4, 4, 5, 5, 5, 5, 5, 5, 5, 5, 5, 5, 5, 5, 5, 5, 5, 5, 6, 6, 6, 6, 6, 6, 6, 6, 6, 6, 6, 6, 6, 6, 6, 6, 6, 6, 6, 6, 6, 6, 6, 6, 6, 6, 6, 6, 6, 6, 6, 6, 7, 7, 7, 7, 7, 7, 7, 7, 7, 7, 7, 7, 7, 7, 7, 7, 7, 7, 7, 7, 7, 7, 7, 7, 7, 7, 7, 7, 7, 7, 7, 7, 7, 7, 7, 7, 7, 7, 7, 7, 7, 7, 7, 7, 7, 7, 7, 7, 7, 7, 7, 7, 7, 7, 7, 7, 7, 7, 7, 7, 7, 7, 7, 7, 8, 8, 8, 8, 8, 8, 8, 8, 8, 8, 8, 8, 8, 8, 8, 8, 8, 8, 8, 8, 8, 8, 8, 8, 8, 8, 8, 8, 8, 8, 8, 8, 8, 8, 8, 8, 8, 8, 8, 8, 8, 8, 8, 8, 8, 8, 8, 8, 8, 8, 8, 8, 8, 8, 8, 8, 8, 8, 8, 8, 8, 8, 8, 8, 8, 8, 8, 8, 8, 8, 8, 8, 8, 8, 8, 8, 8, 8, 8, 8, 8, 8, 8, 8, 8, 8, 8, 8, 8, 8, 8, 8, 8, 8, 8, 8, 8, 8, 8, 8, 8, 8, 8, 8, 8, 8, 8, 8, 8, 8, 8, 8, 8, 8, 8, 8, 8, 8, 8, 8, 8, 8, 8, 8, 8, 8, 8, 8]
def allB (p : Nat → Bool) : Nat → Bool
  | 0 => true
  | n + 1 => p n && allB p n
theorem allB_get {p : Nat → Bool} : ∀ {n : Nat}, allB p n = true → ∀ i, i < n → p i = true
  | 0, _, i, hi => by omega
  | n + 1, h, i, hi => by
    simp only [allB, Bool.and_eq_true] at h
    rcases Nat.lt_succ_iff_lt_or_eq.1 hi with h1 | rfl
    · exact allB_get h.2 i h1
    · exact h.1
theorem lenTab_ev : allB (fun y => match lenTab[y]? with | some b => (Nat.ble (2 ^ b.toNat) (2 * y) || Nat.beq y 0) && Nat.ble b.toNat 8 | none => false) 256 = true := by decide +kernel
theorem lenTab_at (y : Nat) (h : y < 256) : ∃ b : UInt8, lenTab[y]? = some b ∧ (1 ≤ y → 2 ^ b.toNat ≤ 2 * y) ∧ b.toNat ≤ 8 := by
  have := allB_get lenTab_ev y h
  cases hb : lenTab[y]? with
  | none => rw [hb] at this; cases this
  | some b =>
    rw [hb] at this
    simp only [Bool.and_eq_true, Bool.or_eq_true] at this
    refine ⟨b, rfl, fun hy => ?_, Nat.le_of_ble_eq_true this.2⟩
    rcases this.1 with h1 | h1
    · exact Nat.le_of_ble_eq_true h1
    · have := Nat.eq_of_beq_eq_true h1; omega
section
variable {T : Tab}
theorem shr_lit (x m : Nat) (hm : m ≤ 64) : binV .shr (.int .u64 (x : Int)) (.int .u64 (m : Int)) = some (.int .u64 ((x / 2 ^ m : Nat) : Int)) := by
  rw [b_shr]
  have : min m IntKind.u64.bits = m := by simp [IntKind.bits]; omega
  rw [this]
  simp
set_option maxRecDepth 100000 in
set_option maxHeartbeats 4000000 in
theorem len64_ran (hc : T 61 = some (.code ir61)) (s : St) (x : Nat) (hx : x ≤ 1000000000) :
    Ran T 61 [.int .u64 (x : Int)] s fun v s' => s' = s ∧ ∃ k : Nat, v = .int .i64 (k : Int) ∧ k ≤ 40 ∧ (1 ≤ x → 2 ^ k ≤ 2 * x) := by
  refine ran_code hc (Nat.le_of_ble_eq_true rfl) ?_
  have c1 : ¬ ((4294967296 : Int) ≤ (x : Int)) := by omega
  have s16 := shr_lit x 16 (by omega)
  have s8 := fun y => shr_lit y 8 (by omega)
  have e16 : ((16 : Nat) : Int) = 16 := rfl
  have e8 : ((8 : Nat) : Int) = 8 := rfl
  simp only [e16, e8] at s16 s8
  have tab : ∀ y : Nat, y < 256 → ∃ b : UInt8, lenTab[y]? = some b ∧ (1 ≤ y → 2 ^ b.toNat ≤ 2 * y) ∧ b.toNat ≤ 8 := lenTab_at
  generalize hQ : Fin _ _ = Q
  have hl : ([0, 1, 2, 2, 3, 3, 3, 3, 4, 4, 4, 4, 4, 4, 4, 4, 5, 5, 5, 5, 5, 5, 5, 5, 5, 5, 5, 5, 5, 5, 5, 5, 6, 6, 6, 6, 6, 6, 6, 6, 6, 6, 6, 6, 6, 6, 6, 6, 6, 6, 6, 6, 6, 6, 6, 6, 6, 6, 6, 6, 6, 6, 6, 6, 7, 7, 7, 7, 7, 7, 7, 7, 7, 7, 7, 7, 7, 7, 7, 7, 7, 7, 7, 7, 7, 7, 7, 7, 7, 7, 7, 7, 7, 7, 7, 7, 7, 7, 7, 7, 7, 7, 7, 7, 7, 7, 7, 7, 7, 7, 7, 7, 7, 7, 7, 7, 7, 7, 7, 7, 7, 7, 7, 7, 7, 7, 7, 7, 8, 8, 8, 8, 8, 8, 8, 8, 8, 8, 8, 8, 8, 8, 8, 8, 8, 8, 8, 8, 8, 8, 8, 8, 8, 8, 8, 8, 8, 8, 8, 8, 8, 8, 8, 8, 8, 8, 8, 8, 8, 8, 8, 8, 8, 8, 8, 8, 8, 8, 8, 8, 8, 8, 8, 8, 8, 8, 8, 8, 8, 8, 8, 8, 8, 8, 8, 8, 8, 8, 8, 8, 8, 8, 8, 8, 8, 8, 8, 8, 8, 8, 8, 8, 8, 8, 8, 8, 8, 8, 8, 8, 8, 8, 8, 8, 8, 8, 8, 8, 8, 8, 8, 8, 8, 8, 8, 8, 8, 8, 8, 8, 8, 8, 8, 8, 8, 8, 8, 8, 8, 8, 8, 8, 8, 8, 8, 8] : List UInt8) = lenTab := rfl
  -- what is left behind the shifts
  have fin : ∀ (e : Env) (y m : Nat), y < 256 → m ≤ 24 → 2 ^ m * y ≤ x → (1 ≤ x → 1 ≤ y) → opd e (.t 0) = .int .u64 (y : Int) → opd e (.t 2) = .int .i64 (m : Int) → Go T Q (pdqKl0) [] e s := by
    intro e y m hy hm hyx hpos h0 h2
    obtain ⟨b, b1, b2, b3⟩ := tab y hy
    have u1 : (y : Int) % 256 = Int.ofNat y := by
      show (y : Int) % 256 = (y : Int); omega
    have u2 : wrapF .i64 ((b.toNat : Nat) : Int) = ((b.toNat : Nat) : Int) := wrap_i64 _ (by omega) (by omega)
    have u3 : wrapF .i64 ((m : Int) + ((b.toNat : Nat) : Int)) = ((m + b.toNat : Nat) : Int) := by rw [wrap_i64 _ (by omega) (by omega)]; omega
    simp only [hl, h0, h2, u1, b1, u2, u3, wk, wk1, wk2, Option.some.injEq, exists_eq_left', decide_true, decide_false, seval, go_regionPw, pw_normal]
    subst hQ
    simp only [ir61, wk, wk1, wk2, Option.some.injEq, exists_eq_left', decide_true, decide_false, seval, go_regionPw, pw_normal]
    refine ⟨m + b.toNat, rfl, by omega, fun hx1 => ?_⟩
    have h3 := b2 (hpos hx1)
    calc 2 ^ (m + b.toNat) = 2 ^ m * 2 ^ b.toNat := Nat.pow_add 2 m _
      _ ≤ 2 ^ m * (2 * y) := Nat.mul_le_mul_left _ h3
      _ = 2 * (2 ^ m * y) := by rw [Nat.mul_left_comm]
      _ ≤ 2 * x := Nat.mul_le_mul_left 2 hyx
  generalize hRC : ((pdqKl0) : ICode) = RC at *
  have z0 : (0 : Int) = ((0 : Nat) : Int) := rfl
  by_cases h1 : 65536 ≤ x
  · have l1 : (65536 : Int) ≤ (x : Int) := by omega
    obtain ⟨y, hy⟩ : ∃ y, y = x / 2 ^ 16 := ⟨_, rfl⟩
    rw [← hy] at s16
    have hy2 : y = x / 65536 := hy
    by_cases h2 : 256 ≤ y
    · have l2 : (256 : Int) ≤ (y : Int) := by omega
      have s8' := s8 y
      obtain ⟨z, hz⟩ : ∃ z, z = y / 2 ^ 8 := ⟨_, rfl⟩
      rw [← hz] at s8'
      have hz2 : z = y / 256 := hz
      simp only [ir61, hRC, c1, l1, l2, s16, s8', wk, wk1, wk2, Option.some.injEq, exists_eq_left', decide_true, decide_false, seval, go_regionPw, pw_normal]
      refine fin _ z 24 (by omega) (by omega) (by omega) (by omega) ?_ ?_ <;> simp only [wk, wk1, Nat.reduceEqDiff, reduceIte, decide_true] <;> rfl
    · have l2 : ¬ (256 : Int) ≤ (y : Int) := by omega
      simp only [ir61, hRC, c1, l1, l2, s16, wk, wk1, wk2, Option.some.injEq, exists_eq_left', decide_true, decide_false, seval, go_regionPw, pw_normal]
      refine fin _ y 16 (by omega) (by omega) (by omega) (by omega) ?_ ?_ <;> simp only [wk, wk1, Nat.reduceEqDiff, reduceIte, decide_true] <;> rfl
  · have l1 : ¬ (65536 : Int) ≤ (x : Int) := by omega
    by_cases h2 : 256 ≤ x
    · have l2 : (256 : Int) ≤ (x : Int) := by omega
      have s8' := s8 x
      obtain ⟨z, hz⟩ : ∃ z, z = x / 2 ^ 8 := ⟨_, rfl⟩
      rw [← hz] at s8'
      have hz2 : z = x / 256 := hz
      simp only [ir61, hRC, c1, l1, l2, s8', wk, wk1, wk2, Option.some.injEq, exists_eq_left', decide_true, decide_false, seval, go_regionPw, pw_normal]
      refine fin _ z 8 (by omega) (by omega) (by omega) (by omega) ?_ ?_ <;> simp only [wk, wk1, Nat.reduceEqDiff, reduceIte, decide_true] <;> rfl
    · have l2 : ¬ (256 : Int) ≤ (x : Int) := by omega
      simp only [ir61, hRC, c1, l1, l2, wk, wk1, wk2, Option.some.injEq, exists_eq_left', decide_true, decide_false, seval, go_regionPw, pw_normal]
      refine fin _ x 0 (by omega) (by omega) (by omega) (by omega) ?_ ?_ <;> simp only [wk, wk1, Nat.reduceEqDiff, reduceIte, decide_true] <;> rfl
theorem len_ran (hc : T 32 = some (.code ir32)) (h64 : T 61 = some (.code ir61)) (s : St) (x : Nat) (hx : x ≤ 1000000000) :
    Ran T 32 [.int .u64 (x : Int)] s fun v s' => s' = s ∧ ∃ k : Nat, v = .int .i64 (k : Int) ∧ k ≤ 40 ∧ (1 ≤ x → 2 ^ k ≤ 2 * x) := by
  refine ran_code hc (Nat.le_of_ble_eq_true rfl) ?_
  generalize hQ : Fin _ _ = Q
  simp only [ir32, wk, wk1, wk2, Option.some.injEq, exists_eq_left', decide_true, decide_false, seval, go_regionPw, pw_normal]
  refine goCall_by (len64_ran h64 s x hx) ?_
  rintro v s' ⟨rfl, k, rfl, h1, h2⟩
  subst hQ
  simp only [ir32, wk, wk1, wk2, Option.some.injEq, exists_eq_left', decide_true, decide_false, seval, go_regionPw, pw_normal]
  exact ⟨k, rfl, h1, h2⟩
theorem pow2_ran (hc : T 95 = some (.code ir95)) (hl : T 32 = some (.code ir32)) (h64 : T 61 = some (.code ir61)) (s : St) (x : Nat) (hx : x ≤ 1000000000) (h1 : 1 ≤ x) :
    Ran T 95 [.int .i64 (x : Int)] s fun v s' => s' = s ∧ ∃ k : Nat, v = .int .u64 (k : Int) ∧ 1 ≤ k ∧ k ≤ 2 * x := by
  refine ran_code hc (Nat.le_of_ble_eq_true rfl) ?_
  have u1 : (x : Int) % 18446744073709551616 = (x : Int) := by omega
  generalize hQ : Fin _ _ = Q
  simp only [ir95, u1, wk, wk1, wk2, Option.some.injEq, exists_eq_left', decide_true, decide_false, seval, go_regionPw, pw_normal]
  refine goCall_by (len_ran hl h64 s x hx) ?_
  rintro v s' ⟨rfl, k, rfl, h2, h3⟩
  have h3 := h3 h1
  have sh : binV .shl (.int .u64 1) (.int .i64 (k : Int)) = some (.int .u64 ((2 ^ k : Nat) : Int)) := by
    rw [b_shl]
    have : min k IntKind.u64.bits = k := by simp [IntKind.bits]; omega
    rw [this, wrap_u64]
    have h4 : ((2 ^ k : Nat) : Int) ≤ 2000000000 := by omega
    have h5 : (1 : Int) * 2 ^ k = ((2 ^ k : Nat) : Int) := by simp
    rw [h5]
    congr 2
    have : (0 : Int) ≤ ((2 ^ k : Nat) : Int) := Int.natCast_nonneg _
    omega
  subst hQ
  simp only [ir95, sh, wk, wk1, wk2, Option.some.injEq, exists_eq_left', decide_true, decide_false, seval, go_regionPw, pw_normal]
  exact ⟨2 ^ k, rfl, Nat.one_le_two_pow, h3⟩

theorem xor_ex (a b : Int) : ∃ c : Int, 0 ≤ c ∧ c < 18446744073709551616 ∧ binV .xor (.int .u64 a) (.int .u64 b) = some (.int .u64 c) := by
  refine ⟨IntKind.u64.wrap (BitVec.ofInt 64 a ^^^ BitVec.ofInt 64 b).toNat, ?_, ?_, ?_⟩
  · simp only [IntKind.wrap, IntKind.signed, IntKind.bits]; simp; omega
  · simp only [IntKind.wrap, IntKind.signed, IntKind.bits]; simp; omega
  · show some (mkInt .u64 _) = _
    rw [mkInt_eq]
    rfl
theorem and_ex (a : Int) (b : Nat) (hb : b < 18446744073709551616) : ∃ c : Nat, c ≤ b ∧ binV .and (.int .u64 a) (.int .u64 (b : Int)) = some (.int .u64 (c : Int)) := by
  have h1 : (BitVec.ofInt 64 a &&& BitVec.ofInt 64 (b : Int)).toNat ≤ b := by
    rw [BitVec.toNat_and]
    refine Nat.le_trans Nat.and_le_right ?_
    rw [BitVec.toNat_ofInt]
    have : (((2 ^ 64 : Nat) : Int)) = 18446744073709551616 := rfl
    rw [this]
    omega
  refine ⟨(BitVec.ofInt 64 a &&& BitVec.ofInt 64 (b : Int)).toNat, h1, ?_⟩
  show some (mkInt .u64 (IntKind.u64.wrap ((BitVec.ofInt 64 a &&& BitVec.ofInt 64 (b : Int)).toNat : Int))) = _
  rw [mkInt_eq]
  generalize (BitVec.ofInt 64 a &&& BitVec.ofInt 64 (b : Int)).toNat = t at h1
  rw [← wrapF_eq, wrap_u64]
  congr 2
  omega
theorem shl_ex (a : Int) (m : Nat) : ∃ c : Int, binV .shl (.int .u64 a) (.int .u64 (m : Int)) = some (.int .u64 c) := ⟨_, b_shl _ _ _ _⟩
theorem shr_ex (a : Int) (m : Nat) : ∃ c : Int, binV .shr (.int .u64 a) (.int .u64 (m : Int)) = some (.int .u64 c) := ⟨_, b_shr _ _ _ _⟩
set_option maxHeartbeats 4000000 in
theorem xs_ran (hc : T 96 = some (.code ir96)) (s : St) (p : Nat) (z : Int) (hz : s.heap.get p = some (.cells [.int .u64 z] 0 0 false)) :
    Ran T 96 [.ptr ⟨p, 0, 0, 1⟩] s fun v s' => ∃ z' : Int, v = .int .u64 z' ∧ s' = s.put p (.cells [.int .u64 z'] 0 0 false) := by
  refine ran_code hc (Nat.le_of_ble_eq_true rfl) ?_
  obtain ⟨a1, e1⟩ := shl_ex z 13
  obtain ⟨z1, _, _, f1⟩ := xor_ex z a1
  obtain ⟨a2, e2⟩ := shr_ex z1 7
  obtain ⟨z2, _, _, f2⟩ := xor_ex z1 a2
  obtain ⟨a3, e3⟩ := shl_ex z2 17
  obtain ⟨z3, _, _, f3⟩ := xor_ex z2 a3
  have k1 : ((13 : Nat) : Int) = 13 := rfl
  have k2 : ((7 : Nat) : Int) = 7 := rfl
  have k3 : ((17 : Nat) : Int) = 17 := rfl
  rw [k1] at e1
  rw [k2] at e2
  rw [k3] at e3
  generalize hQ : Fin _ _ = Q
  simp only [ir96, hz, e1, e2, e3, f1, f2, f3, wk, wk1, wk2, Option.some.injEq, exists_eq_left', decide_true, decide_false, seval, go_regionPw, pw_normal]
  subst hQ
  simp only [ir96, wk, wk1, wk2, Option.some.injEq, exists_eq_left', decide_true, decide_false, seval, go_regionPw, pw_normal]
  exact ⟨z3, rfl, rfl⟩
end
end Go.V
/- slices.breakPatternsOrdered, pdqsortOrdered, Sort over the small language. (Printed by mkpdqm.py.) -/
namespace Go.V
open Go
set_option linter.unusedSimpArgs false
set_option linter.unusedVariables false
abbrev RRL : ICode := (.seq (.region [⟨some 19, none, [], (.move (.t 2))⟩, ⟨some 20, none, [], (.move (.t 1))⟩, ⟨some 21, none, [], (.bin .sub (.t 19) (.t 20))⟩, ⟨some 10, none, [], (.move (.t 21))⟩] false) (.seq (.seq (.region [⟨some 22, none, [], (.move (.t 10))⟩, ⟨some 23, none, [], (.bin .leq (.t 22) (.c (.int .i64 12)))⟩] false) (.cond (.t 23) (.seq (.region [⟨some 24, none, [], (.move (.t 0))⟩, ⟨some 25, none, [], (.move (.t 1))⟩, ⟨some 26, none, [], (.move (.t 2))⟩, ⟨some 27, none, [], (.call 51 [(.t 24), (.t 25), (.t 26)])⟩] false) .ret) .skip)) (.seq (.seq (.region [⟨some 28, none, [], (.move (.t 3))⟩, ⟨some 29, none, [], (.bin .eql (.t 28) (.c (.int .i64 0)))⟩] false) (.cond (.t 29) (.seq (.region [⟨some 30, none, [], (.move (.t 0))⟩, ⟨some 31, none, [], (.move (.t 1))⟩, ⟨some 32, none, [], (.move (.t 2))⟩, ⟨some 33, none, [], (.call 52 [(.t 30), (.t 31), (.t 32)])⟩] false) .ret) .skip)) (.seq (.seq (.region [⟨some 34, none, [], (.move (.t 8))⟩, ⟨some 35, none, [], (.un .not (.t 34))⟩] false) (.cond (.t 35) (.seq (.region [⟨some 36, none, [], (.move (.t 0))⟩, ⟨some 37, none, [], (.move (.t 1))⟩, ⟨some 38, none, [], (.move (.t 2))⟩, ⟨some 39, none, [], (.call 53 [(.t 36), (.t 37), (.t 38)])⟩] false) (.region [⟨some 40, none, [], (.move (.t 3))⟩, ⟨some 41, none, [], (.bin .sub (.t 40) (.c (.int .i64 1)))⟩, ⟨some 3, none, [], (.move (.t 41))⟩] false)) .skip)) (.seq (.region [⟨some 43, none, [], (.move (.t 0))⟩, ⟨some 44, none, [], (.move (.t 1))⟩, ⟨some 45, none, [], (.move (.t 2))⟩, ⟨some 46, none, [], (.call 54 [(.t 43), (.t 44), (.t 45)])⟩, ⟨some 42, none, [], (.move (.t 46))⟩, ⟨some 47, none, [], (.extract (.t 42) 0)⟩, ⟨some 48, none, [], (.extract (.t 42) 1)⟩, ⟨some 11, none, [], (.move (.t 47))⟩, ⟨some 12, none, [], (.move (.t 48))⟩] false) (.seq (.seq (.region [⟨some 49, none, [], (.move (.t 12))⟩, ⟨some 50, none, [], (.bin .eql (.t 49) (.c (.int .i64 2)))⟩] false) (.cond (.t 50) (.seq (.region [⟨some 51, none, [], (.move (.t 0))⟩, ⟨some 52, none, [], (.move (.t 1))⟩, ⟨some 53, none, [], (.move (.t 2))⟩, ⟨some 54, none, [], (.call 55 [(.t 51), (.t 52), (.t 53)])⟩] false) (.seq (.region [⟨some 55, none, [], (.move (.t 2))⟩, ⟨some 56, none, [], (.bin .sub (.t 55) (.c (.int .i64 1)))⟩, ⟨some 57, none, [], (.move (.t 11))⟩, ⟨some 58, none, [], (.move (.t 1))⟩, ⟨some 59, none, [], (.bin .sub (.t 57) (.t 58))⟩, ⟨some 60, none, [], (.bin .sub (.t 56) (.t 59))⟩, ⟨some 11, none, [], (.move (.t 60))⟩] false) (.region [⟨some 12, none, [], (.move (.c (.int .i64 1)))⟩] false))) .skip)) (.seq (.seq (.region [⟨some 61, none, [], (.move (.t 8))⟩, ⟨some 62, none, [], (.move (.t 61))⟩, ⟨some 63, some (62, true), [], (.move (.t 9))⟩, ⟨some 64, none, [], (.pick (.t 62) (.t 63) (.c (.bool false)))⟩, ⟨some 65, none, [], (.move (.t 64))⟩, ⟨some 66, some (65, true), [], (.move (.t 12))⟩, ⟨some 67, some (65, true), [], (.bin .eql (.t 66) (.c (.int .i64 1)))⟩, ⟨some 68, none, [], (.pick (.t 65) (.t 67) (.c (.bool false)))⟩] false) (.cond (.t 68) (.seq (.region [⟨some 69, none, [], (.move (.t 0))⟩, ⟨some 70, none, [], (.move (.t 1))⟩, ⟨some 71, none, [], (.move (.t 2))⟩, ⟨some 72, none, [], (.call 56 [(.t 69), (.t 70), (.t 71)])⟩] false) (.cond (.t 72) .ret .skip)) .skip)) (.seq (.seq (.regionP [⟨some 73, none, [], (.move (.t 1))⟩, ⟨some 74, none, [], (.bin .gtr (.t 73) (.c (.int .i64 0)))⟩, ⟨some 75, none, [], (.move (.t 74))⟩, ⟨some 76, some (75, true), [], (.move (.t 0))⟩, ⟨some 77, some (75, true), [], (.move (.t 1))⟩, ⟨some 78, some (75, true), [], (.bin .sub (.t 77) (.c (.int .i64 1)))⟩, ⟨some 79, some (75, true), [], (.idxSl 1 (.t 76) (.t 78))⟩, ⟨some 80, some (75, true), [], (.load false 1 (.t 79))⟩, ⟨some 81, some (75, true), [], (.move (.t 0))⟩, ⟨some 82, some (75, true), [], (.move (.t 11))⟩, ⟨some 83, some (75, true), [], (.idxSl 1 (.t 81) (.t 82))⟩, ⟨some 84, some (75, true), [], (.load false 1 (.t 83))⟩, ⟨some 85, some (75, true), [], (.call 57 [(.t 80), (.t 84)])⟩, ⟨some 86, some (75, true), [], (.un .not (.t 85))⟩, ⟨some 87, none, [], (.pick (.t 75) (.t 86) (.c (.bool false)))⟩]) (.cond (.t 87) (.seq (.region [⟨some 88, none, [], (.move (.t 0))⟩, ⟨some 89, none, [], (.move (.t 1))⟩, ⟨some 90, none, [], (.move (.t 2))⟩, ⟨some 91, none, [], (.move (.t 11))⟩, ⟨some 92, none, [], (.call 58 [(.t 88), (.t 89), (.t 90), (.t 91)])⟩, ⟨some 13, none, [], (.move (.t 92))⟩] false) (.seq (.region [⟨some 93, none, [], (.move (.t 13))⟩, ⟨some 1, none, [], (.move (.t 93))⟩] false) (.exit 1))) .skip)) (.seq (.region [⟨some 95, none, [], (.move (.t 0))⟩, ⟨some 96, none, [], (.move (.t 1))⟩, ⟨some 97, none, [], (.move (.t 2))⟩, ⟨some 98, none, [], (.move (.t 11))⟩, ⟨some 99, none, [], (.call 59 [(.t 95), (.t 96), (.t 97), (.t 98)])⟩, ⟨some 94, none, [], (.move (.t 99))⟩, ⟨some 100, none, [], (.extract (.t 94) 0)⟩, ⟨some 101, none, [], (.extract (.t 94) 1)⟩, ⟨some 14, none, [], (.move (.t 100))⟩, ⟨some 15, none, [], (.move (.t 101))⟩] false) (.seq (.region [⟨some 102, none, [], (.move (.t 15))⟩, ⟨some 9, none, [], (.move (.t 102))⟩] false) (.seq (.region [⟨some 103, none, [], (.move (.t 14))⟩, ⟨some 104, none, [], (.move (.t 1))⟩, ⟨some 105, none, [], (.bin .sub (.t 103) (.t 104))⟩, ⟨some 106, none, [], (.move (.t 2))⟩, ⟨some 107, none, [], (.move (.t 14))⟩, ⟨some 108, none, [], (.bin .sub (.t 106) (.t 107))⟩, ⟨some 16, none, [], (.move (.t 105))⟩, ⟨some 17, none, [], (.move (.t 108))⟩] false) (.seq (.region [⟨some 109, none, [], (.move (.t 10))⟩, ⟨some 110, none, [], (.bin .quo (.t 109) (.c (.int .i64 8)))⟩, ⟨some 18, none, [], (.move (.t 110))⟩] false) (.seq (.region [⟨some 111, none, [], (.move (.t 16))⟩, ⟨some 112, none, [], (.move (.t 17))⟩, ⟨some 113, none, [], (.bin .lss (.t 111) (.t 112))⟩] false) (.cond (.t 113) (.seq (.region [⟨some 114, none, [], (.move (.t 16))⟩, ⟨some 115, none, [], (.move (.t 18))⟩, ⟨some 116, none, [], (.bin .geq (.t 114) (.t 115))⟩, ⟨some 8, none, [], (.move (.t 116))⟩] false) (.seq (.region [⟨some 117, none, [], (.move (.t 0))⟩, ⟨some 118, none, [], (.move (.t 1))⟩, ⟨some 119, none, [], (.move (.t 14))⟩, ⟨some 120, none, [], (.move (.t 3))⟩, ⟨some 121, none, [], (.call 31 [(.t 117), (.t 118), (.t 119), (.t 120)])⟩] false) (.region [⟨some 122, none, [], (.move (.t 14))⟩, ⟨some 123, none, [], (.bin .add (.t 122) (.c (.int .i64 1)))⟩, ⟨some 1, none, [], (.move (.t 123))⟩] false))) (.seq (.region [⟨some 124, none, [], (.move (.t 17))⟩, ⟨some 125, none, [], (.move (.t 18))⟩, ⟨some 126, none, [], (.bin .geq (.t 124) (.t 125))⟩, ⟨some 8, none, [], (.move (.t 126))⟩] false) (.seq (.region [⟨some 127, none, [], (.move (.t 0))⟩, ⟨some 128, none, [], (.move (.t 14))⟩, ⟨some 129, none, [], (.bin .add (.t 128) (.c (.int .i64 1)))⟩, ⟨some 130, none, [], (.move (.t 2))⟩, ⟨some 131, none, [], (.move (.t 3))⟩, ⟨some 132, none, [], (.call 31 [(.t 127), (.t 129), (.t 130), (.t 131)])⟩] false) (.region [⟨some 133, none, [], (.move (.t 14))⟩, ⟨some 2, none, [], (.move (.t 133))⟩] false)))))))))))))))))
abbrev RRF : List Fr := [.block 0]
open Z in def ir31 : IFunc := ⟨134,[],(q (R [(o 8 (.move T))]) (q (R [(o 9 (.move T))]) (.block 0 (.loop (.block 1 (q (R [(m 19 2),(m 20 1),(o 21 (.bin .sub t19 t20)),(m 10 21)]) (q (q (R [(m 22 10),(o 23 (.bin .leq t22 (I 12)))]) (.cond t23 (q (R [(m 24 0),(m 25 1),(m 26 2),(o 27 (.call 51 [t24,t25,t26]))]) .ret) .skip)) (q (q (R [(m 28 3),(o 29 (.bin .eql t28 (I 0)))]) (.cond t29 (q (R [(m 30 0),(m 31 1),(m 32 2),(o 33 (.call 52 [t30,t31,t32]))]) .ret) .skip)) (q (q (R [(m 34 8),(o 35 (.un .not t34))]) (.cond t35 (q (R [(m 36 0),(m 37 1),(m 38 2),(o 39 (.call 53 [t36,t37,t38]))]) (R [(m 40 3),(o 41 (.bin .sub t40 (I 1))),(m 3 41)])) .skip)) (q (R [(m 43 0),(m 44 1),(m 45 2),(o 46 (.call 54 [t43,t44,t45])),(m 42 46),(x 47 42 0),(x 48 42 1),(m 11 47),(m 12 48)]) (q (q (R [(m 49 12),(o 50 (.bin .eql t49 (I 2)))]) (.cond t50 (q (R [(m 51 0),(m 52 1),(m 53 2),(o 54 (.call 55 [t51,t52,t53]))]) (q (R [(m 55 2),(o 56 (.bin .sub t55 (I 1))),(m 57 11),(m 58 1),(o 59 (.bin .sub t57 t58)),(o 60 (.bin .sub t56 t59)),(m 11 60)]) (R [(mi 12 1)]))) .skip)) (q (q (R [(m 61 8),(m 62 61),(og 63 62 true (.move t9)),(o 64 (.pick t62 t63 F)),(m 65 64),(og 66 65 true (.move t12)),(og 67 65 true (.bin .eql t66 (I 1))),(o 68 (.pick t65 t67 F))]) (.cond t68 (q (R [(m 69 0),(m 70 1),(m 71 2),(o 72 (.call 56 [t69,t70,t71]))]) (.cond t72 .ret .skip)) .skip)) (q (q (.regionP [(m 73 1),(o 74 (.bin .gtr t73 (I 0))),(m 75 74),(og 76 75 true (.move t0)),(og 77 75 true (.move t1)),(og 78 75 true (.bin .sub t77 (I 1))),(og 79 75 true (.idxSl 1 t76 t78)),(og 80 75 true (.load false 1 t79)),(og 81 75 true (.move t0)),(og 82 75 true (.move t11)),(og 83 75 true (.idxSl 1 t81 t82)),(og 84 75 true (.load false 1 t83)),(og 85 75 true (.call 57 [t80,t84])),(og 86 75 true (.un .not t85)),(o 87 (.pick t75 t86 F))]) (.cond t87 (q (R [(m 88 0),(m 89 1),(m 90 2),(m 91 11),(o 92 (.call 58 [t88,t89,t90,t91])),(m 13 92)]) (q (R [(m 93 13),(m 1 93)]) (.exit 1))) .skip)) (q (R [(m 95 0),(m 96 1),(m 97 2),(m 98 11),(o 99 (.call 59 [t95,t96,t97,t98])),(m 94 99),(x 100 94 0),(x 101 94 1),(m 14 100),(m 15 101)]) (q (R [(m 102 15),(m 9 102)]) (q (R [(m 103 14),(m 104 1),(o 105 (.bin .sub t103 t104)),(m 106 2),(m 107 14),(o 108 (.bin .sub t106 t107)),(m 16 105),(m 17 108)]) (q (R [(m 109 10),(o 110 (.bin .quo t109 (I 8))),(m 18 110)]) (q (R [(m 111 16),(m 112 17),(o 113 (.bin .lss t111 t112))]) (.cond t113 (q (R [(m 114 16),(m 115 18),(o 116 (.bin .geq t114 t115)),(m 8 116)]) (q (R [(m 117 0),(m 118 1),(m 119 14),(m 120 3),(o 121 (.call 31 [t117,t118,t119,t120]))]) (R [(m 122 14),(o 123 (.bin .add t122 (I 1))),(m 1 123)]))) (q (R [(m 124 17),(m 125 18),(o 126 (.bin .geq t124 t125)),(m 8 126)]) (q (R [(m 127 0),(m 128 14),(o 129 (.bin .add t128 (I 1))),(m 130 2),(m 131 3),(o 132 (.call 31 [t127,t129,t130,t131]))]) (R [(m 133 14),(m 2 133)]))))))))))))))))))))))⟩
open Z in def ir21 : IFunc := ⟨11,[],(q (R [(m 3 0),(o 4 (.lenSl t3)),(m 2 4)]) (R [(m 5 0),(m 6 2),(m 7 2),(o 8 (.conv (.intInt .u64) t7)),(o 9 (.call 32 [t8])),(o 10 (.call 31 [t5,(I 0),t6,t9]))]))⟩
section
variable {α : Type} {en : α → AV} {lt : α → α → Bool} {T : Tab}
structure BxU (en : α → AV) (s0 : St) (B inc n : Nat) (f : Nat → α) (p : Nat) (s : St) : Prop where
  aft : Aft en s0 B inc n f s
  old : s0.next ≤ p
  lt : p < s.next
  box : ∃ z, s.heap.get p = some (.cells [.int .u64 z] 0 0 false)
theorem BxU.put {s0 s : St} {B inc n : Nat} {f : Nat → α} {p : Nat} (h : BxU en s0 B inc n f p s) (hB : B < s0.next) (z : Int) : BxU en s0 B inc n f p (s.put p (.cells [.int .u64 z] 0 0 false)) := by
  have := h.old
  obtain ⟨lo, h1, h2⟩ := h.aft.row
  refine ⟨⟨⟨lo, h1, by rw [put_get, if_neg (by omega)]; exact h2⟩, h.aft.wfs.put h.lt _, h.aft.next, fun id i1 i2 => by rw [put_get, if_neg (by omega)]; exact h.aft.same id i1 i2⟩, h.old, h.lt, ⟨z, by rw [put_get, if_pos rfl]⟩⟩
theorem BxU.row {s0 s : St} {B inc n : Nat} {f : Nat → α} {p : Nat} (h : BxU en s0 B inc n f p s) (hB : B < s0.next) (g : Nat → α) : BxU en s0 B inc n g p (s.put B (.cells (mp en n g) inc inc false)) := by
  have := h.old
  obtain ⟨z, hz⟩ := h.box
  exact ⟨h.aft.put hB g, h.old, h.lt, ⟨z, by rw [put_get, if_neg (by omega)]; exact hz⟩⟩
theorem BxU.new {s : St} {B inc n : Nat} {f : Nat → α} (h : Aft en s B inc n f s) (hB : B < s.next) (z : Int) : BxU en s B inc n f s.next (s.add (.cells [.int .u64 z] 0 0 false)) := by
  obtain ⟨lo, h1, h2⟩ := h.row
  exact ⟨⟨⟨lo, h1, by rw [add_get, if_neg (by omega)]; exact h2⟩, h.wfs.add _, by rw [add_next]; omega, fun id i1 _ => by rw [add_get, if_neg (by omega)]⟩, Nat.le_refl _, by rw [add_next]; omega, ⟨z, by rw [add_get, if_pos rfl]⟩⟩

set_option maxHeartbeats 8000000 in
theorem bp_loop (hx : T 96 = some (.code ir96)) (hL : LessOk T 57 en lt) {Q : Post} {s0 : St} {B inc n cap : Nat} {ex : Bool} (hB : B < s0.next) (hn : n ≤ 1000000000) (a b l q x M : Nat) (hl : a + l = b) (hl8 : 8 ≤ l) (hq : q = l / 4) (hxq : x = a + q * 2) (hM : 1 ≤ M) (hM2 : M ≤ 2 * l) (hbn : b ≤ n) (p : Nat) (f0 : Nat → α)
    (K : ∀ (e : Env) (s : St) (g : Nat → α), Aft en s0 B inc n g s → PermR a b f0 g → Q .normal e s) :
    ∀ (k i : Nat) (e : Env) (s : St) (g : Nat → α), k + i = x + 2 → x ≤ i + 1 → opd e (.t 0) = dsl B inc n cap ex → opd e (.t 1) = .int .i64 (a : Int) → opd e (.t 6) = .int .i64 (l : Int) → opd e (.t 7) = .ptr ⟨p, 0, 0, 1⟩ → opd e (.t 8) = .int .u64 (M : Int) → opd e (.t 9) = .int .i64 (i : Int) → BxU en s0 B inc n g p s → PermR a b f0 g →
      Go T Q (.loop (.seq (.seq (.region [⟨some 26, none, [], (.move (.t 9))⟩, ⟨some 27, none, [], (.move (.t 1))⟩, ⟨some 28, none, [], (.move (.t 6))⟩, ⟨some 29, none, [], (.bin .quo (.t 28) (.c (.int .i64 4)))⟩, ⟨some 30, none, [], (.bin .mul (.t 29) (.c (.int .i64 2)))⟩, ⟨some 31, none, [], (.bin .add (.t 27) (.t 30))⟩, ⟨some 32, none, [], (.bin .add (.t 31) (.c (.int .i64 1)))⟩, ⟨some 33, none, [], (.bin .leq (.t 26) (.t 32))⟩] false) (.cond (.t 33) .skip (.exit 0))) (.seq (.block 1 (.seq (.region [⟨some 36, none, [], (.call 96 [(.t 7)])⟩, ⟨some 37, none, [], (.move (.t 8))⟩, ⟨some 38, none, [], (.bin .sub (.t 37) (.c (.int .u64 1)))⟩, ⟨some 39, none, [], (.bin .and (.t 36) (.t 38))⟩, ⟨some 40, none, [], (.conv (.intInt .i64) (.t 39))⟩, ⟨some 10, none, [], (.move (.t 40))⟩] false) (.seq (.seq (.region [⟨some 41, none, [], (.move (.t 10))⟩, ⟨some 42, none, [], (.move (.t 6))⟩, ⟨some 43, none, [], (.bin .geq (.t 41) (.t 42))⟩] false) (.cond (.t 43) (.region [⟨some 44, none, [], (.move (.t 10))⟩, ⟨some 45, none, [], (.move (.t 6))⟩, ⟨some 46, none, [], (.bin .sub (.t 44) (.t 45))⟩, ⟨some 10, none, [], (.move (.t 46))⟩] false) .skip)) (.region [⟨some 47, none, [], (.move (.t 0))⟩, ⟨some 48, none, [], (.move (.t 9))⟩, ⟨some 49, none, [], (.move (.t 0))⟩, ⟨some 50, none, [], (.move (.t 1))⟩, ⟨some 51, none, [], (.move (.t 10))⟩, ⟨some 52, none, [], (.bin .add (.t 50) (.t 51))⟩, ⟨some 53, none, [], (.move (.t 0))⟩, ⟨some 54, none, [], (.move (.t 1))⟩, ⟨some 55, none, [], (.move (.t 10))⟩, ⟨some 56, none, [], (.bin .add (.t 54) (.t 55))⟩, ⟨some 57, none, [], (.idxSl 1 (.t 53) (.t 56))⟩, ⟨some 58, none, [], (.load false 1 (.t 57))⟩, ⟨some 59, none, [], (.move (.t 0))⟩, ⟨some 60, none, [], (.move (.t 9))⟩, ⟨some 61, none, [], (.idxSl 1 (.t 59) (.t 60))⟩, ⟨some 62, none, [], (.load false 1 (.t 61))⟩, ⟨some 63, none, [], (.idxSl 1 (.t 47) (.t 48))⟩, ⟨none, none, [], (.store 1 (.t 63) (.t 58))⟩, ⟨some 64, none, [], (.idxSl 1 (.t 49) (.t 52))⟩, ⟨none, none, [], (.store 1 (.t 64) (.t 62))⟩] true)))) (.region [⟨some 34, none, [], (.move (.t 9))⟩, ⟨some 35, none, [], (.bin .add (.t 34) (.c (.int .i64 1)))⟩, ⟨some 9, none, [], (.move (.t 35))⟩] false)))) [.block 0] e s := by
  have kc := hL.cells
  have ki := hL.cell
  have u2 : wrapF .i64 (Int.tdiv (l : Int) 4) = (q : Int) := by
    have : Int.tdiv (l : Int) 4 = (l : Int) / 4 := Int.tdiv_eq_ediv_of_nonneg (by omega)
    rw [this, wrap_i64 _ (by omega) (by omega)]; omega
  have u5 : wrapF .i64 ((q : Int) * 2) = ((q * 2 : Nat) : Int) := by rw [wrap_i64 _ (by omega) (by omega)]; omega
  have u6 : wrapF .i64 ((a : Int) + ((q * 2 : Nat) : Int)) = (x : Int) := by rw [wrap_i64 _ (by omega) (by omega)]; omega
  have u7 : wrapF .i64 ((x : Int) + 1) = ((x + 1 : Nat) : Int) := i64_add1 (by omega)
  have uM : ((M : Int) - 1) % 18446744073709551616 = ((M - 1 : Nat) : Int) := by omega
  intro k
  induction k with
  | zero =>
    intro i e s g hk hi h0 h1 h6 h7 h8 h9 hX hP
    have hc : ¬ ((i : Int) ≤ ((x + 1 : Nat) : Int)) := by omega
    have hK := fun e => K e s g hX.aft hP
    rw [go_loop]
    simp only [h0, h1, h6, h7, h8, h9, u2, u5, u6, u7, hc, hK, wk, wk1, wk2, Option.some.injEq, exists_eq_left', decide_true, decide_false, seval, go_regionPw, pw_normal]
  | succ k ih =>
    intro i e s g hk hi h0 h1 h6 h7 h8 h9 hX hP
    have hc : ((i : Int) ≤ ((x + 1 : Nat) : Int)) := by omega
    obtain ⟨z, hz⟩ := hX.box
    have u8 : wrapF .i64 ((i : Int) + 1) = ((i + 1 : Nat) : Int) := i64_add1 (by omega)
    rw [go_loop]
    simp only [h0, h1, h6, h7, h8, h9, u2, u5, u6, u7, hc, wk, wk1, wk2, Option.some.injEq, exists_eq_left', decide_true, decide_false, seval, go_regionPw, pw_normal]
    refine goCall_by (xs_ran hx s p z hz) ?_
    rintro v s1 ⟨z', rfl, rfl⟩
    have hX1 := hX.put hB z'
    obtain ⟨c, hcM, hand⟩ := and_ex z' (M - 1) (by omega)
    have uc : wrapF .i64 (c : Int) = (c : Int) := wrap_i64 _ (by omega) (by omega)
    obtain ⟨σ, hσ⟩ : ∃ σ : St, σ = s.put p (.cells [.int .u64 z'] 0 0 false) := ⟨_, rfl⟩
    rw [← hσ] at hX1 ⊢
    -- what is behind the choice of the other
    have swapped : ∀ d : Nat, d < l → ∀ (w : Nat), w = a + d → wrapF .i64 ((a : Int) + (d : Int)) = (w : Int) ∧ w < n ∧ w + 1 ≤ n ∧ BxU en s0 B inc n (swp g i w) p (σ.put B (.cells (mp en n (swp g i w)) inc inc false)) ∧ PermR a b f0 (swp g i w) := by
      intro d hd w hw
      refine ⟨by rw [wrap_i64 _ (by omega) (by omega)]; omega, by omega, by omega, hX1.row hB _, hP.trans (PermR.swap (by omega) (by omega) (by omega) (by omega))⟩
    have hin : i < n := by omega
    have hi1 : i + 1 ≤ n := hin
    obtain ⟨lo', hlo, hrow⟩ := hX1.aft.row
    have r1 := mp_take (en := en) (f := g) hin
    have sp1 := fun f y => mp_splice (en := en) (f := f) (x := y) hin
    by_cases hcl : l ≤ c
    · have c2 : (l : Int) ≤ (c : Int) := by omega
      have u9 : wrapF .i64 ((c : Int) - (l : Int)) = ((c - l : Nat) : Int) := i64_sub (by omega) (by omega)
      obtain ⟨w, hw⟩ := op (a + (c - l))
      obtain ⟨v1, v2, v3, v4, v5⟩ := swapped (c - l) (by omega) w hw
      have r2 := mp_take (en := en) (f := g) v2
      have sp2 := fun f y => mp_splice (en := en) (f := f) (x := y) v2
      simp only [h0, h1, h6, h7, h8, h9, uM, hand, uc, c2, u9, u8, v1, v2, v3, hin, hi1, hrow, hlo, r1, r2, kc, ki, sp1, sp2, upd_swp, wk, wk1, wk2, Option.some.injEq, exists_eq_left', decide_true, decide_false, seval, go_regionPw, pw_normal]
      refine ih (i + 1) _ _ _ (by omega) (by omega) ?_ ?_ ?_ ?_ ?_ ?_ v4 v5 <;> simp only [h0, h1, h6, h7, h8, h9, u8, wk, wk1, Nat.reduceEqDiff, reduceIte, decide_true]
    · have c2 : ¬ (l : Int) ≤ (c : Int) := by omega
      obtain ⟨w, hw⟩ := op (a + c)
      obtain ⟨v1, v2, v3, v4, v5⟩ := swapped c (by omega) w hw
      have r2 := mp_take (en := en) (f := g) v2
      have sp2 := fun f y => mp_splice (en := en) (f := f) (x := y) v2
      simp only [h0, h1, h6, h7, h8, h9, uM, hand, uc, c2, u8, v1, v2, v3, hin, hi1, hrow, hlo, r1, r2, kc, ki, sp1, sp2, upd_swp, wk, wk1, wk2, Option.some.injEq, exists_eq_left', decide_true, decide_false, seval, go_regionPw, pw_normal]
      refine ih (i + 1) _ _ _ (by omega) (by omega) ?_ ?_ ?_ ?_ ?_ ?_ v4 v5 <;> simp only [h0, h1, h6, h7, h8, h9, u8, wk, wk1, Nat.reduceEqDiff, reduceIte, decide_true]

/-- The sort's functions. -/
structure SortTab (T : Tab) : Prop where
  ins : T 51 = some (.code ir51)
  sift : T 94 = some (.code ir94)
  heap : T 52 = some (.code ir52)
  len : T 32 = some (.code ir32)
  len64 : T 61 = some (.code ir61)
  pow2 : T 95 = some (.code ir95)
  xs : T 96 = some (.code ir96)
  brk : T 53 = some (.code ir53)
  o2 : T 138 = some (.code ir138)
  med : T 98 = some (.code ir98)
  medA : T 97 = some (.code ir97)
  piv : T 54 = some (.code ir54)
  rev : T 55 = some (.code ir55)
  pis : T 56 = some (.code ir56)
  pe : T 58 = some (.code ir58)
  po : T 59 = some (.code ir59)
  pdq : T 31 = some (.code ir31)

set_option maxHeartbeats 8000000 in
theorem bp_ran (hT : SortTab T) (hL : LessOk T 57 en lt) (s : St) (B inc n cap : Nat) (ex : Bool) (hB : B < s.next) (hn : n ≤ 1000000000) (a b : Nat) (hab : a + 13 ≤ b) (hbn : b ≤ n) (f : Nat → α) (hA : Aft en s B inc n f s) :
    Ran T 53 [dsl B inc n cap ex, .int .i64 (a : Int), .int .i64 (b : Int)] s fun v s' => v = .tuple [] ∧ ∃ g, Aft en s B inc n g s' ∧ PermR a b f g := by
  refine ran_code hT.brk (Nat.le_of_ble_eq_true rfl) ?_
  obtain ⟨l, hl⟩ := op (b - a)
  obtain ⟨q, hq⟩ := op (l / 4)
  obtain ⟨x, hx⟩ := op (a + q * 2)
  have u1 : wrapF .i64 ((b : Int) - (a : Int)) = (l : Int) := by rw [wrap_i64 _ (by omega) (by omega)]; omega
  have c8 : (8 : Int) ≤ (l : Int) := by omega
  have uu : (l : Int) % 18446744073709551616 = (l : Int) := by omega
  have u2 : wrapF .i64 (Int.tdiv (l : Int) 4) = (q : Int) := by
    have : Int.tdiv (l : Int) 4 = (l : Int) / 4 := Int.tdiv_eq_ediv_of_nonneg (by omega)
    rw [this, wrap_i64 _ (by omega) (by omega)]; omega
  have u5 : wrapF .i64 ((q : Int) * 2) = ((q * 2 : Nat) : Int) := by rw [wrap_i64 _ (by omega) (by omega)]; omega
  have u6 : wrapF .i64 ((a : Int) + ((q * 2 : Nat) : Int)) = (x : Int) := by rw [wrap_i64 _ (by omega) (by omega)]; omega
  have u7 : wrapF .i64 ((x : Int) - 1) = ((x - 1 : Nat) : Int) := i64_sub1 (by omega) (by omega)
  have hX := BxU.new (B := B) (inc := inc) (n := n) (f := f) hA hB (l : Int)
  generalize hQ : Fin _ _ = Q
  simp only [ir53, u1, c8, uu, wk, wk1, wk2, Option.some.injEq, exists_eq_left', decide_true, decide_false, seval, go_regionPw, pw_normal]
  refine goCall_by (pow2_ran hT.pow2 hT.len hT.len64 _ l (by omega) (by omega)) ?_
  rintro v s1 ⟨rfl, M, rfl, hM1, hM2⟩
  simp only [u1, u2, u5, u6, u7, wk, wk1, wk2, Option.some.injEq, exists_eq_left', decide_true, decide_false, seval, go_regionPw, pw_normal]
  refine bp_loop (s0 := s) (cap := cap) (ex := ex) hT.xs hL hB hn a b l q x M (by omega) (by omega) hq hx hM1 hM2 hbn s.next f ?_ 3 (x - 1) _ _ f (by omega) (by omega) ?_ ?_ ?_ ?_ ?_ ?_ hX (PermR.refl _ _ _)
  · intro e s' g hA hP
    subst hQ
    simp only [ir53, wk, wk1, wk2, Option.some.injEq, exists_eq_left', decide_true, decide_false, seval, go_regionPw, pw_normal]
    exact ⟨g, hA, hP⟩
  all_goals simp only [u7, wk, wk1, Nat.reduceEqDiff, reduceIte, decide_true]

structure PdqE (B inc n cap : Nat) (ex : Bool) (a b : Nat) (lim : Int) (e : Env) : Prop where
  h0 : opd e (.t 0) = dsl B inc n cap ex
  h1 : opd e (.t 1) = .int .i64 (a : Int)
  h2 : opd e (.t 2) = .int .i64 (b : Int)
  h3 : opd e (.t 3) = .int .i64 lim
/-- What the sort's loop comes to, at so many places. -/
def PdqL (T : Tab) (en : α → AV) (lt : α → α → Bool) (B inc n cap : Nat) (ex : Bool) (m : Nat) : Prop :=
  ∀ (Q : Post) (s0 : St) (a b : Nat) (lim : Int) (wb wp : Bool) (e : Env) (s : St) (f : Nat → α), b - a = m → a ≤ b → b ≤ n → B < s0.next → PreA lt a b f → Aft en s0 B inc n f s → PdqE B inc n cap ex a b lim e → opd e (.t 8) = .bool wb → opd e (.t 9) = .bool wp →
    (∀ (e : Env) (s : St) (g : Nat → α), Aft en s0 B inc n g s → PermR a b f g → Srt lt a b g → Q .ret e s) →
    Go T Q (.loop (.block 1 (.seq (.region [⟨some 19, none, [], (.move (.t 2))⟩, ⟨some 20, none, [], (.move (.t 1))⟩, ⟨some 21, none, [], (.bin .sub (.t 19) (.t 20))⟩, ⟨some 10, none, [], (.move (.t 21))⟩] false) (.seq (.seq (.region [⟨some 22, none, [], (.move (.t 10))⟩, ⟨some 23, none, [], (.bin .leq (.t 22) (.c (.int .i64 12)))⟩] false) (.cond (.t 23) (.seq (.region [⟨some 24, none, [], (.move (.t 0))⟩, ⟨some 25, none, [], (.move (.t 1))⟩, ⟨some 26, none, [], (.move (.t 2))⟩, ⟨some 27, none, [], (.call 51 [(.t 24), (.t 25), (.t 26)])⟩] false) .ret) .skip)) (.seq (.seq (.region [⟨some 28, none, [], (.move (.t 3))⟩, ⟨some 29, none, [], (.bin .eql (.t 28) (.c (.int .i64 0)))⟩] false) (.cond (.t 29) (.seq (.region [⟨some 30, none, [], (.move (.t 0))⟩, ⟨some 31, none, [], (.move (.t 1))⟩, ⟨some 32, none, [], (.move (.t 2))⟩, ⟨some 33, none, [], (.call 52 [(.t 30), (.t 31), (.t 32)])⟩] false) .ret) .skip)) (.seq (.seq (.region [⟨some 34, none, [], (.move (.t 8))⟩, ⟨some 35, none, [], (.un .not (.t 34))⟩] false) (.cond (.t 35) (.seq (.region [⟨some 36, none, [], (.move (.t 0))⟩, ⟨some 37, none, [], (.move (.t 1))⟩, ⟨some 38, none, [], (.move (.t 2))⟩, ⟨some 39, none, [], (.call 53 [(.t 36), (.t 37), (.t 38)])⟩] false) (.region [⟨some 40, none, [], (.move (.t 3))⟩, ⟨some 41, none, [], (.bin .sub (.t 40) (.c (.int .i64 1)))⟩, ⟨some 3, none, [], (.move (.t 41))⟩] false)) .skip)) (.seq (.region [⟨some 43, none, [], (.move (.t 0))⟩, ⟨some 44, none, [], (.move (.t 1))⟩, ⟨some 45, none, [], (.move (.t 2))⟩, ⟨some 46, none, [], (.call 54 [(.t 43), (.t 44), (.t 45)])⟩, ⟨some 42, none, [], (.move (.t 46))⟩, ⟨some 47, none, [], (.extract (.t 42) 0)⟩, ⟨some 48, none, [], (.extract (.t 42) 1)⟩, ⟨some 11, none, [], (.move (.t 47))⟩, ⟨some 12, none, [], (.move (.t 48))⟩] false) (.seq (.seq (.region [⟨some 49, none, [], (.move (.t 12))⟩, ⟨some 50, none, [], (.bin .eql (.t 49) (.c (.int .i64 2)))⟩] false) (.cond (.t 50) (.seq (.region [⟨some 51, none, [], (.move (.t 0))⟩, ⟨some 52, none, [], (.move (.t 1))⟩, ⟨some 53, none, [], (.move (.t 2))⟩, ⟨some 54, none, [], (.call 55 [(.t 51), (.t 52), (.t 53)])⟩] false) (.seq (.region [⟨some 55, none, [], (.move (.t 2))⟩, ⟨some 56, none, [], (.bin .sub (.t 55) (.c (.int .i64 1)))⟩, ⟨some 57, none, [], (.move (.t 11))⟩, ⟨some 58, none, [], (.move (.t 1))⟩, ⟨some 59, none, [], (.bin .sub (.t 57) (.t 58))⟩, ⟨some 60, none, [], (.bin .sub (.t 56) (.t 59))⟩, ⟨some 11, none, [], (.move (.t 60))⟩] false) (.region [⟨some 12, none, [], (.move (.c (.int .i64 1)))⟩] false))) .skip)) (.seq (.seq (.region [⟨some 61, none, [], (.move (.t 8))⟩, ⟨some 62, none, [], (.move (.t 61))⟩, ⟨some 63, some (62, true), [], (.move (.t 9))⟩, ⟨some 64, none, [], (.pick (.t 62) (.t 63) (.c (.bool false)))⟩, ⟨some 65, none, [], (.move (.t 64))⟩, ⟨some 66, some (65, true), [], (.move (.t 12))⟩, ⟨some 67, some (65, true), [], (.bin .eql (.t 66) (.c (.int .i64 1)))⟩, ⟨some 68, none, [], (.pick (.t 65) (.t 67) (.c (.bool false)))⟩] false) (.cond (.t 68) (.seq (.region [⟨some 69, none, [], (.move (.t 0))⟩, ⟨some 70, none, [], (.move (.t 1))⟩, ⟨some 71, none, [], (.move (.t 2))⟩, ⟨some 72, none, [], (.call 56 [(.t 69), (.t 70), (.t 71)])⟩] false) (.cond (.t 72) .ret .skip)) .skip)) (.seq (.seq (.regionP [⟨some 73, none, [], (.move (.t 1))⟩, ⟨some 74, none, [], (.bin .gtr (.t 73) (.c (.int .i64 0)))⟩, ⟨some 75, none, [], (.move (.t 74))⟩, ⟨some 76, some (75, true), [], (.move (.t 0))⟩, ⟨some 77, some (75, true), [], (.move (.t 1))⟩, ⟨some 78, some (75, true), [], (.bin .sub (.t 77) (.c (.int .i64 1)))⟩, ⟨some 79, some (75, true), [], (.idxSl 1 (.t 76) (.t 78))⟩, ⟨some 80, some (75, true), [], (.load false 1 (.t 79))⟩, ⟨some 81, some (75, true), [], (.move (.t 0))⟩, ⟨some 82, some (75, true), [], (.move (.t 11))⟩, ⟨some 83, some (75, true), [], (.idxSl 1 (.t 81) (.t 82))⟩, ⟨some 84, some (75, true), [], (.load false 1 (.t 83))⟩, ⟨some 85, some (75, true), [], (.call 57 [(.t 80), (.t 84)])⟩, ⟨some 86, some (75, true), [], (.un .not (.t 85))⟩, ⟨some 87, none, [], (.pick (.t 75) (.t 86) (.c (.bool false)))⟩]) (.cond (.t 87) (.seq (.region [⟨some 88, none, [], (.move (.t 0))⟩, ⟨some 89, none, [], (.move (.t 1))⟩, ⟨some 90, none, [], (.move (.t 2))⟩, ⟨some 91, none, [], (.move (.t 11))⟩, ⟨some 92, none, [], (.call 58 [(.t 88), (.t 89), (.t 90), (.t 91)])⟩, ⟨some 13, none, [], (.move (.t 92))⟩] false) (.seq (.region [⟨some 93, none, [], (.move (.t 13))⟩, ⟨some 1, none, [], (.move (.t 93))⟩] false) (.exit 1))) .skip)) (.seq (.region [⟨some 95, none, [], (.move (.t 0))⟩, ⟨some 96, none, [], (.move (.t 1))⟩, ⟨some 97, none, [], (.move (.t 2))⟩, ⟨some 98, none, [], (.move (.t 11))⟩, ⟨some 99, none, [], (.call 59 [(.t 95), (.t 96), (.t 97), (.t 98)])⟩, ⟨some 94, none, [], (.move (.t 99))⟩, ⟨some 100, none, [], (.extract (.t 94) 0)⟩, ⟨some 101, none, [], (.extract (.t 94) 1)⟩, ⟨some 14, none, [], (.move (.t 100))⟩, ⟨some 15, none, [], (.move (.t 101))⟩] false) (.seq (.region [⟨some 102, none, [], (.move (.t 15))⟩, ⟨some 9, none, [], (.move (.t 102))⟩] false) (.seq (.region [⟨some 103, none, [], (.move (.t 14))⟩, ⟨some 104, none, [], (.move (.t 1))⟩, ⟨some 105, none, [], (.bin .sub (.t 103) (.t 104))⟩, ⟨some 106, none, [], (.move (.t 2))⟩, ⟨some 107, none, [], (.move (.t 14))⟩, ⟨some 108, none, [], (.bin .sub (.t 106) (.t 107))⟩, ⟨some 16, none, [], (.move (.t 105))⟩, ⟨some 17, none, [], (.move (.t 108))⟩] false) (.seq (.region [⟨some 109, none, [], (.move (.t 10))⟩, ⟨some 110, none, [], (.bin .quo (.t 109) (.c (.int .i64 8)))⟩, ⟨some 18, none, [], (.move (.t 110))⟩] false) (.seq (.region [⟨some 111, none, [], (.move (.t 16))⟩, ⟨some 112, none, [], (.move (.t 17))⟩, ⟨some 113, none, [], (.bin .lss (.t 111) (.t 112))⟩] false) (.cond (.t 113) (.seq (.region [⟨some 114, none, [], (.move (.t 16))⟩, ⟨some 115, none, [], (.move (.t 18))⟩, ⟨some 116, none, [], (.bin .geq (.t 114) (.t 115))⟩, ⟨some 8, none, [], (.move (.t 116))⟩] false) (.seq (.region [⟨some 117, none, [], (.move (.t 0))⟩, ⟨some 118, none, [], (.move (.t 1))⟩, ⟨some 119, none, [], (.move (.t 14))⟩, ⟨some 120, none, [], (.move (.t 3))⟩, ⟨some 121, none, [], (.call 31 [(.t 117), (.t 118), (.t 119), (.t 120)])⟩] false) (.region [⟨some 122, none, [], (.move (.t 14))⟩, ⟨some 123, none, [], (.bin .add (.t 122) (.c (.int .i64 1)))⟩, ⟨some 1, none, [], (.move (.t 123))⟩] false))) (.seq (.region [⟨some 124, none, [], (.move (.t 17))⟩, ⟨some 125, none, [], (.move (.t 18))⟩, ⟨some 126, none, [], (.bin .geq (.t 124) (.t 125))⟩, ⟨some 8, none, [], (.move (.t 126))⟩] false) (.seq (.region [⟨some 127, none, [], (.move (.t 0))⟩, ⟨some 128, none, [], (.move (.t 14))⟩, ⟨some 129, none, [], (.bin .add (.t 128) (.c (.int .i64 1)))⟩, ⟨some 130, none, [], (.move (.t 2))⟩, ⟨some 131, none, [], (.move (.t 3))⟩, ⟨some 132, none, [], (.call 31 [(.t 127), (.t 129), (.t 130), (.t 131)])⟩] false) (.region [⟨some 133, none, [], (.move (.t 14))⟩, ⟨some 2, none, [], (.move (.t 133))⟩] false))))))))))))))))))) RRF e s
set_option maxHeartbeats 4000000 in
theorem pdq_of (hT : SortTab T) {B inc n cap : Nat} {ex : Bool} {m : Nat} (hp : PdqL T en lt B inc n cap ex m) (s : St) (hB : B < s.next) (a b : Nat) (hab : a ≤ b) (hm : b - a = m) (hbn : b ≤ n) (lim : Int) (f : Nat → α) (hpre : PreA lt a b f) (hA : Aft en s B inc n f s) :
    Ran T 31 [dsl B inc n cap ex, .int .i64 (a : Int), .int .i64 (b : Int), .int .i64 lim] s fun v s' => v = .tuple [] ∧ ∃ g, Aft en s B inc n g s' ∧ PermR a b f g ∧ Srt lt a b g := by
  refine ran_code hT.pdq (Nat.le_of_ble_eq_true rfl) ?_
  generalize hQ : Fin _ _ = Q
  simp only [ir31, wk, wk1, wk2, Option.some.injEq, exists_eq_left', decide_true, decide_false, seval, go_regionPw, pw_normal]
  refine hp Q s a b lim true true _ s f hm hab hbn hB hpre hA ⟨?_, ?_, ?_, ?_⟩ ?_ ?_ ?_
  case refine_7 =>
    intro e s' g hA hP hS
    subst hQ
    simp only [ir31, wk, wk1, wk2, Option.some.injEq, exists_eq_left', decide_true, decide_false, seval, go_regionPw, pw_normal]
    exact ⟨g, hA, hP, hS⟩
  all_goals simp only [wk, wk1, Nat.reduceEqDiff, reduceIte, decide_true]

theorem part_join (ho : Ord lt) {a m b : Nat} {h : Nat → α} (h1 : ∀ x, a ≤ x → x < m → Le lt (h x) (h m)) (h2 : ∀ x, m < x → x < b → Le lt (h m) (h x)) (s1 : Srt lt a m h) (s2 : Srt lt (m + 1) b h) : Srt lt a b h := by
  intro p q p1 q1 q2
  by_cases e1 : q < m
  · exact s1 p q p1 q1 e1
  · by_cases e2 : m < p
    · exact s2 p q (by omega) q1 q2
    · by_cases e3 : p = m
      · subst e3; exact h2 q q1 q2
      · by_cases e4 : q = m
        · subst e4; exact h1 p p1 q1
        · exact ho.trans _ _ _ (h1 p p1 (by omega)) (h2 q (by omega) q2)
theorem PreA.sub {a b b' : Nat} {f : Nat → α} (h : PreA lt a b f) (hb : b' ≤ b) : PreA lt a b' f := fun h1 i i1 i2 => h h1 i i1 (by omega)

abbrev LoopK (Q : Post) (en : α → AV) (lt : α → α → Bool) (s0 : St) (B inc n a b : Nat) (f : Nat → α) : Prop := ∀ (e : Env) (s : St) (g : Nat → α), Aft en s0 B inc n g s → PermR a b f g → Srt lt a b g → Q .ret e s
theorem LoopK.from {Q : Post} {s0 : St} {B inc n a b : Nat} {f g : Nat → α} (h : LoopK Q en lt s0 B inc n a b f) (hp : PermR a b f g) : LoopK Q en lt s0 B inc n a b g := fun e s k hA hP hS => h e s k hA (hp.trans hP) hS

set_option maxHeartbeats 16000000 in
theorem pdq8 (hT : SortTab T) (hL : LessOk T 57 en lt) (ho : Ord lt) {Q : Post} {s0 : St} {B inc n cap : Nat} {ex : Bool} (hB : B < s0.next) (hn : n ≤ 1000000000) (a b p : Nat) (hap : a ≤ p) (hpb : p < b) (hbn : b ≤ n) (hih : ∀ m, m < b - a → PdqL T en lt B inc n cap ex m)
    (lim : Int) (e : Env) (s : St) (f : Nat → α) (hpre : PreA lt a b f) (hA : Aft en s0 B inc n f s) (hE : PdqE B inc n cap ex a b lim e) (h10 : opd e (.t 10) = .int .i64 ((b - a : Nat) : Int)) (h11 : opd e (.t 11) = .int .i64 (p : Int)) (K : LoopK Q en lt s0 B inc n a b f) :
    Go T Q (.seq (.region [⟨some 95, none, [], (.move (.t 0))⟩, ⟨some 96, none, [], (.move (.t 1))⟩, ⟨some 97, none, [], (.move (.t 2))⟩, ⟨some 98, none, [], (.move (.t 11))⟩, ⟨some 99, none, [], (.call 59 [(.t 95), (.t 96), (.t 97), (.t 98)])⟩, ⟨some 94, none, [], (.move (.t 99))⟩, ⟨some 100, none, [], (.extract (.t 94) 0)⟩, ⟨some 101, none, [], (.extract (.t 94) 1)⟩, ⟨some 14, none, [], (.move (.t 100))⟩, ⟨some 15, none, [], (.move (.t 101))⟩] false) (.seq (.region [⟨some 102, none, [], (.move (.t 15))⟩, ⟨some 9, none, [], (.move (.t 102))⟩] false) (.seq (.region [⟨some 103, none, [], (.move (.t 14))⟩, ⟨some 104, none, [], (.move (.t 1))⟩, ⟨some 105, none, [], (.bin .sub (.t 103) (.t 104))⟩, ⟨some 106, none, [], (.move (.t 2))⟩, ⟨some 107, none, [], (.move (.t 14))⟩, ⟨some 108, none, [], (.bin .sub (.t 106) (.t 107))⟩, ⟨some 16, none, [], (.move (.t 105))⟩, ⟨some 17, none, [], (.move (.t 108))⟩] false) (.seq (.region [⟨some 109, none, [], (.move (.t 10))⟩, ⟨some 110, none, [], (.bin .quo (.t 109) (.c (.int .i64 8)))⟩, ⟨some 18, none, [], (.move (.t 110))⟩] false) (.seq (.region [⟨some 111, none, [], (.move (.t 16))⟩, ⟨some 112, none, [], (.move (.t 17))⟩, ⟨some 113, none, [], (.bin .lss (.t 111) (.t 112))⟩] false) (.cond (.t 113) (.seq (.region [⟨some 114, none, [], (.move (.t 16))⟩, ⟨some 115, none, [], (.move (.t 18))⟩, ⟨some 116, none, [], (.bin .geq (.t 114) (.t 115))⟩, ⟨some 8, none, [], (.move (.t 116))⟩] false) (.seq (.region [⟨some 117, none, [], (.move (.t 0))⟩, ⟨some 118, none, [], (.move (.t 1))⟩, ⟨some 119, none, [], (.move (.t 14))⟩, ⟨some 120, none, [], (.move (.t 3))⟩, ⟨some 121, none, [], (.call 31 [(.t 117), (.t 118), (.t 119), (.t 120)])⟩] false) (.region [⟨some 122, none, [], (.move (.t 14))⟩, ⟨some 123, none, [], (.bin .add (.t 122) (.c (.int .i64 1)))⟩, ⟨some 1, none, [], (.move (.t 123))⟩] false))) (.seq (.region [⟨some 124, none, [], (.move (.t 17))⟩, ⟨some 125, none, [], (.move (.t 18))⟩, ⟨some 126, none, [], (.bin .geq (.t 124) (.t 125))⟩, ⟨some 8, none, [], (.move (.t 126))⟩] false) (.seq (.region [⟨some 127, none, [], (.move (.t 0))⟩, ⟨some 128, none, [], (.move (.t 14))⟩, ⟨some 129, none, [], (.bin .add (.t 128) (.c (.int .i64 1)))⟩, ⟨some 130, none, [], (.move (.t 2))⟩, ⟨some 131, none, [], (.move (.t 3))⟩, ⟨some 132, none, [], (.call 31 [(.t 127), (.t 129), (.t 130), (.t 131)])⟩] false) (.region [⟨some 133, none, [], (.move (.t 14))⟩, ⟨some 2, none, [], (.move (.t 133))⟩] false))))))))) (Fr.block 1 :: Fr.loop (.block 1 RRL) :: RRF) e s := by
  obtain ⟨h0, h1, h2, h3⟩ := hE
  obtain ⟨LP, hLP⟩ : ∃ c : ICode, c = (.block 1 RRL) := ⟨_, rfl⟩
  have hgo : ∀ (m : Nat), m < b - a → ∀ (Q : Post) (s0 : St) (a b : Nat) (lim : Int) (wb wp : Bool) (e : Env) (s : St) (f : Nat → α), b - a = m → a ≤ b → b ≤ n → B < s0.next → PreA lt a b f → Aft en s0 B inc n f s → PdqE B inc n cap ex a b lim e → opd e (.t 8) = .bool wb → opd e (.t 9) = .bool wp → LoopK Q en lt s0 B inc n a b f → Go T Q (.loop LP) RRF e s := by
    rw [hLP]; exact hih
  rw [← hLP]
  simp only [h0, h1, h2, h3, h11, wk, wk1, wk2, Option.some.injEq, exists_eq_left', decide_true, decide_false, seval, go_regionPw, pw_normal]
  refine goCall_by (po_ran hT.po hL s B inc n cap ex (Nat.lt_of_lt_of_le hB hA.next) hn a b p hap hpb hbn f (Aft.refl hA.wfs hA.row)) ?_
  rintro v s1 ⟨m, g, al, rfl, hA1, hP1, m1, m2, q1, q2⟩
  have hA1' := hA.trans hA1
  have hpre1 := hpre.perm hP1
  have u1 : wrapF .i64 ((m : Int) - (a : Int)) = ((m - a : Nat) : Int) := i64_sub (by omega) m1
  have u2 : wrapF .i64 ((b : Int) - (m : Int)) = ((b - m : Nat) : Int) := i64_sub (by omega) (by omega)
  have u3 : wrapF .i64 ((m : Int) + 1) = ((m + 1 : Nat) : Int) := i64_add1 (by omega)
  obtain ⟨bal, hbal⟩ : ∃ z : Int, wrapF .i64 (Int.tdiv ((b - a : Nat) : Int) 8) = z := ⟨_, rfl⟩
  by_cases hlr : m - a < b - m
  · have c1 : ((m - a : Nat) : Int) < ((b - m : Nat) : Int) := by omega
    simp only [h0, h1, h2, h3, h10, h11, u1, u2, hbal, c1, wk, wk1, wk2, Option.some.injEq, exists_eq_left', decide_true, decide_false, seval, go_regionPw, pw_normal]
    refine goCall_by (pdq_of hT (hih (m - a) (by omega)) s1 (Nat.lt_of_lt_of_le hB hA1'.next) a m m1 rfl (by omega) lim g (hpre1.sub (by omega)) (Aft.refl hA1.wfs hA1.row)) ?_
    rintro v s2 ⟨rfl, g2, hA2, hP2, hS2⟩
    have e2 : ∀ x, m ≤ x → g2 x = g x := fun x hx => hP2.out (by omega)
    have low2 : ∀ x, a ≤ x → x < m → lt (g2 x) (g m) = true := hP2.all (P := fun y => lt y (g m) = true) q1
    simp only [h0, h1, h2, h3, h10, h11, u3, wk, wk1, wk2, Option.some.injEq, exists_eq_left', decide_true, decide_false, seval, go_regionPw, pw_normal]
    refine hgo (b - (m + 1)) (by omega) Q s0 (m + 1) b lim (decide (bal ≤ ((m - a : Nat) : Int))) al _ s2 g2 rfl (by omega) hbn hB ?_ (hA1'.trans hA2) ⟨?_, ?_, ?_, ?_⟩ ?_ ?_ ?_
    case refine_8 =>
      intro e s' g3 hA3 hP3 hS3
      have e3 : ∀ x, x < m + 1 → g3 x = g2 x := fun x hx => hP3.out (by omega)
      refine K e s' g3 hA3 (hP1.trans ((hP2.wide (Nat.le_refl _) (by omega)).trans (hP3.wide (by omega) (Nat.le_refl _)))) (part_join ho (m := m) ?_ ?_ ?_ hS3)
      · intro x x1 x2
        rw [e3 x (by omega), e3 m (by omega), e2 m (Nat.le_refl _)]
        exact ho.le (low2 x x1 x2)
      · intro x x1 x2
        rw [e3 m (by omega), e2 m (Nat.le_refl _)]
        refine hP3.all (P := fun y => Le lt (g m) y) (fun i i1 i2 => ?_) x x1 x2
        show lt (g2 i) (g m) = false
        rw [e2 i (by omega)]
        exact q2 i i1 i2
      · intro i j i1 j1 j2
        rw [e3 i (by omega), e3 j (by omega)]
        exact hS2 i j i1 j1 j2
    case refine_1 =>
      intro _ i i1 i2
      show lt (g2 i) (g2 (m + 1 - 1)) = false
      rw [Nat.add_sub_cancel, e2 i (by omega), e2 m (Nat.le_refl _)]
      exact q2 i i1 i2
    all_goals simp only [h0, h1, h2, h3, u3, wk, wk1, Nat.reduceEqDiff, reduceIte, decide_true]
  · have c1 : ¬ ((m - a : Nat) : Int) < ((b - m : Nat) : Int) := by omega
    simp only [h0, h1, h2, h3, h10, h11, u1, u2, u3, hbal, c1, wk, wk1, wk2, Option.some.injEq, exists_eq_left', decide_true, decide_false, seval, go_regionPw, pw_normal]
    have hpre2 : PreA lt (m + 1) b g := by
      intro _ i i1 i2
      show lt (g i) (g (m + 1 - 1)) = false
      rw [Nat.add_sub_cancel]
      exact q2 i i1 i2
    refine goCall_by (pdq_of hT (hih (b - (m + 1)) (by omega)) s1 (Nat.lt_of_lt_of_le hB hA1'.next) (m + 1) b (by omega) rfl hbn lim g hpre2 (Aft.refl hA1.wfs hA1.row)) ?_
    rintro v s2 ⟨rfl, g2, hA2, hP2, hS2⟩
    have e2 : ∀ x, x < m + 1 → g2 x = g x := fun x hx => hP2.out (by omega)
    have high2 : ∀ x, m < x → x < b → lt (g2 x) (g m) = false := hP2.all (P := fun y => lt y (g m) = false) q2
    simp only [h0, h1, h2, h3, h10, h11, u3, wk, wk1, wk2, Option.some.injEq, exists_eq_left', decide_true, decide_false, seval, go_regionPw, pw_normal]
    refine hgo (m - a) (by omega) Q s0 a m lim (decide (bal ≤ ((b - m : Nat) : Int))) al _ s2 g2 rfl m1 (by omega) hB ?_ (hA1'.trans hA2) ⟨?_, ?_, ?_, ?_⟩ ?_ ?_ ?_
    case refine_8 =>
      intro e s' g3 hA3 hP3 hS3
      have e3 : ∀ x, m ≤ x → g3 x = g2 x := fun x hx => hP3.out (by omega)
      refine K e s' g3 hA3 (hP1.trans ((hP2.wide (by omega) (Nat.le_refl _)).trans (hP3.wide (Nat.le_refl _) (by omega)))) (part_join ho (m := m) ?_ ?_ hS3 ?_)
      · intro x x1 x2
        rw [e3 m (Nat.le_refl _), e2 m (by omega)]
        refine hP3.all (P := fun y => Le lt y (g m)) (fun i i1 i2 => ?_) x x1 x2
        rw [e2 i (by omega)]
        exact ho.le (q1 i i1 i2)
      · intro x x1 x2
        rw [e3 m (Nat.le_refl _), e2 m (by omega), e3 x (by omega)]
        exact high2 x x1 x2
      · intro i j i1 j1 j2
        rw [e3 i (by omega), e3 j (by omega)]
        exact hS2 i j i1 j1 j2
    case refine_1 =>
      intro ha i i1 i2
      rw [e2 (a - 1) (by omega), e2 i (by omega)]
      exact hpre1 ha i i1 (by omega)
    all_goals simp only [h0, h1, h2, h3, u3, wk, wk1, Nat.reduceEqDiff, reduceIte, decide_true]
end
end Go.V
/- slices.pdqsortOrdered, Sort over the small language: whole. (Printed by mkpdqn.py.) -/
namespace Go.V
open Go
set_option linter.unusedSimpArgs false
set_option linter.unusedVariables false
section
variable {α : Type} {en : α → AV} {lt : α → α → Bool} {T : Tab}
structure PdqE2 (B inc n cap : Nat) (ex : Bool) (a b : Nat) (lim : Int) (wb wp : Bool) (e : Env) : Prop where
  h0 : opd e (.t 0) = dsl B inc n cap ex
  h1 : opd e (.t 1) = .int .i64 (a : Int)
  h2 : opd e (.t 2) = .int .i64 (b : Int)
  h3 : opd e (.t 3) = .int .i64 lim
  h8 : opd e (.t 8) = .bool wb
  h9 : opd e (.t 9) = .bool wp
  h10 : opd e (.t 10) = .int .i64 ((b - a : Nat) : Int)

set_option maxHeartbeats 16000000 in
theorem pdq7 (hT : SortTab T) (hL : LessOk T 57 en lt) (ho : Ord lt) {Q : Post} {s0 : St} {B inc n cap : Nat} {ex : Bool} (hB : B < s0.next) (hn : n ≤ 1000000000) (a b p : Nat) (hap : a ≤ p) (hpb : p < b) (hbn : b ≤ n) (hih : ∀ m, m < b - a → PdqL T en lt B inc n cap ex m) (lim : Int) (wb wp : Bool) (e : Env) (s : St) (f : Nat → α) (hpre : PreA lt a b f) (hA : Aft en s0 B inc n f s) (hE : PdqE2 B inc n cap ex a b lim wb wp e) (h11 : opd e (.t 11) = .int .i64 (p : Int)) (K : LoopK Q en lt s0 B inc n a b f) :
    Go T Q (.seq (.seq (.regionP [⟨some 73, none, [], (.move (.t 1))⟩, ⟨some 74, none, [], (.bin .gtr (.t 73) (.c (.int .i64 0)))⟩, ⟨some 75, none, [], (.move (.t 74))⟩, ⟨some 76, some (75, true), [], (.move (.t 0))⟩, ⟨some 77, some (75, true), [], (.move (.t 1))⟩, ⟨some 78, some (75, true), [], (.bin .sub (.t 77) (.c (.int .i64 1)))⟩, ⟨some 79, some (75, true), [], (.idxSl 1 (.t 76) (.t 78))⟩, ⟨some 80, some (75, true), [], (.load false 1 (.t 79))⟩, ⟨some 81, some (75, true), [], (.move (.t 0))⟩, ⟨some 82, some (75, true), [], (.move (.t 11))⟩, ⟨some 83, some (75, true), [], (.idxSl 1 (.t 81) (.t 82))⟩, ⟨some 84, some (75, true), [], (.load false 1 (.t 83))⟩, ⟨some 85, some (75, true), [], (.call 57 [(.t 80), (.t 84)])⟩, ⟨some 86, some (75, true), [], (.un .not (.t 85))⟩, ⟨some 87, none, [], (.pick (.t 75) (.t 86) (.c (.bool false)))⟩]) (.cond (.t 87) (.seq (.region [⟨some 88, none, [], (.move (.t 0))⟩, ⟨some 89, none, [], (.move (.t 1))⟩, ⟨some 90, none, [], (.move (.t 2))⟩, ⟨some 91, none, [], (.move (.t 11))⟩, ⟨some 92, none, [], (.call 58 [(.t 88), (.t 89), (.t 90), (.t 91)])⟩, ⟨some 13, none, [], (.move (.t 92))⟩] false) (.seq (.region [⟨some 93, none, [], (.move (.t 13))⟩, ⟨some 1, none, [], (.move (.t 93))⟩] false) (.exit 1))) .skip)) (.seq (.region [⟨some 95, none, [], (.move (.t 0))⟩, ⟨some 96, none, [], (.move (.t 1))⟩, ⟨some 97, none, [], (.move (.t 2))⟩, ⟨some 98, none, [], (.move (.t 11))⟩, ⟨some 99, none, [], (.call 59 [(.t 95), (.t 96), (.t 97), (.t 98)])⟩, ⟨some 94, none, [], (.move (.t 99))⟩, ⟨some 100, none, [], (.extract (.t 94) 0)⟩, ⟨some 101, none, [], (.extract (.t 94) 1)⟩, ⟨some 14, none, [], (.move (.t 100))⟩, ⟨some 15, none, [], (.move (.t 101))⟩] false) (.seq (.region [⟨some 102, none, [], (.move (.t 15))⟩, ⟨some 9, none, [], (.move (.t 102))⟩] false) (.seq (.region [⟨some 103, none, [], (.move (.t 14))⟩, ⟨some 104, none, [], (.move (.t 1))⟩, ⟨some 105, none, [], (.bin .sub (.t 103) (.t 104))⟩, ⟨some 106, none, [], (.move (.t 2))⟩, ⟨some 107, none, [], (.move (.t 14))⟩, ⟨some 108, none, [], (.bin .sub (.t 106) (.t 107))⟩, ⟨some 16, none, [], (.move (.t 105))⟩, ⟨some 17, none, [], (.move (.t 108))⟩] false) (.seq (.region [⟨some 109, none, [], (.move (.t 10))⟩, ⟨some 110, none, [], (.bin .quo (.t 109) (.c (.int .i64 8)))⟩, ⟨some 18, none, [], (.move (.t 110))⟩] false) (.seq (.region [⟨some 111, none, [], (.move (.t 16))⟩, ⟨some 112, none, [], (.move (.t 17))⟩, ⟨some 113, none, [], (.bin .lss (.t 111) (.t 112))⟩] false) (.cond (.t 113) (.seq (.region [⟨some 114, none, [], (.move (.t 16))⟩, ⟨some 115, none, [], (.move (.t 18))⟩, ⟨some 116, none, [], (.bin .geq (.t 114) (.t 115))⟩, ⟨some 8, none, [], (.move (.t 116))⟩] false) (.seq (.region [⟨some 117, none, [], (.move (.t 0))⟩, ⟨some 118, none, [], (.move (.t 1))⟩, ⟨some 119, none, [], (.move (.t 14))⟩, ⟨some 120, none, [], (.move (.t 3))⟩, ⟨some 121, none, [], (.call 31 [(.t 117), (.t 118), (.t 119), (.t 120)])⟩] false) (.region [⟨some 122, none, [], (.move (.t 14))⟩, ⟨some 123, none, [], (.bin .add (.t 122) (.c (.int .i64 1)))⟩, ⟨some 1, none, [], (.move (.t 123))⟩] false))) (.seq (.region [⟨some 124, none, [], (.move (.t 17))⟩, ⟨some 125, none, [], (.move (.t 18))⟩, ⟨some 126, none, [], (.bin .geq (.t 124) (.t 125))⟩, ⟨some 8, none, [], (.move (.t 126))⟩] false) (.seq (.region [⟨some 127, none, [], (.move (.t 0))⟩, ⟨some 128, none, [], (.move (.t 14))⟩, ⟨some 129, none, [], (.bin .add (.t 128) (.c (.int .i64 1)))⟩, ⟨some 130, none, [], (.move (.t 2))⟩, ⟨some 131, none, [], (.move (.t 3))⟩, ⟨some 132, none, [], (.call 31 [(.t 127), (.t 129), (.t 130), (.t 131)])⟩] false) (.region [⟨some 133, none, [], (.move (.t 14))⟩, ⟨some 2, none, [], (.move (.t 133))⟩] false)))))))))) (Fr.block 1 :: Fr.loop (.block 1 RRL) :: RRF) e s := by
  have h8' := pdq8 hT hL ho hB hn a b p hap hpb hbn hih (Q := Q) (s0 := s0)
  obtain ⟨LP, hLP⟩ : ∃ c : ICode, c = (.block 1 RRL) := ⟨_, rfl⟩
  have hgo : ∀ (m : Nat), m < b - a → ∀ (Q : Post) (s0 : St) (a b : Nat) (lim : Int) (wb wp : Bool) (e : Env) (s : St) (f : Nat → α), b - a = m → a ≤ b → b ≤ n → B < s0.next → PreA lt a b f → Aft en s0 B inc n f s → PdqE B inc n cap ex a b lim e → opd e (.t 8) = .bool wb → opd e (.t 9) = .bool wp → LoopK Q en lt s0 B inc n a b f → Go T Q (.loop LP) RRF e s := by
    rw [hLP]; exact hih
  rw [← hLP] at h8' ⊢
  generalize hR8 : ((.seq (.region [⟨some 95, none, [], (.move (.t 0))⟩, ⟨some 96, none, [], (.move (.t 1))⟩, ⟨some 97, none, [], (.move (.t 2))⟩, ⟨some 98, none, [], (.move (.t 11))⟩, ⟨some 99, none, [], (.call 59 [(.t 95), (.t 96), (.t 97), (.t 98)])⟩, ⟨some 94, none, [], (.move (.t 99))⟩, ⟨some 100, none, [], (.extract (.t 94) 0)⟩, ⟨some 101, none, [], (.extract (.t 94) 1)⟩, ⟨some 14, none, [], (.move (.t 100))⟩, ⟨some 15, none, [], (.move (.t 101))⟩] false) (.seq (.region [⟨some 102, none, [], (.move (.t 15))⟩, ⟨some 9, none, [], (.move (.t 102))⟩] false) (.seq (.region [⟨some 103, none, [], (.move (.t 14))⟩, ⟨some 104, none, [], (.move (.t 1))⟩, ⟨some 105, none, [], (.bin .sub (.t 103) (.t 104))⟩, ⟨some 106, none, [], (.move (.t 2))⟩, ⟨some 107, none, [], (.move (.t 14))⟩, ⟨some 108, none, [], (.bin .sub (.t 106) (.t 107))⟩, ⟨some 16, none, [], (.move (.t 105))⟩, ⟨some 17, none, [], (.move (.t 108))⟩] false) (.seq (.region [⟨some 109, none, [], (.move (.t 10))⟩, ⟨some 110, none, [], (.bin .quo (.t 109) (.c (.int .i64 8)))⟩, ⟨some 18, none, [], (.move (.t 110))⟩] false) (.seq (.region [⟨some 111, none, [], (.move (.t 16))⟩, ⟨some 112, none, [], (.move (.t 17))⟩, ⟨some 113, none, [], (.bin .lss (.t 111) (.t 112))⟩] false) (.cond (.t 113) (.seq (.region [⟨some 114, none, [], (.move (.t 16))⟩, ⟨some 115, none, [], (.move (.t 18))⟩, ⟨some 116, none, [], (.bin .geq (.t 114) (.t 115))⟩, ⟨some 8, none, [], (.move (.t 116))⟩] false) (.seq (.region [⟨some 117, none, [], (.move (.t 0))⟩, ⟨some 118, none, [], (.move (.t 1))⟩, ⟨some 119, none, [], (.move (.t 14))⟩, ⟨some 120, none, [], (.move (.t 3))⟩, ⟨some 121, none, [], (.call 31 [(.t 117), (.t 118), (.t 119), (.t 120)])⟩] false) (.region [⟨some 122, none, [], (.move (.t 14))⟩, ⟨some 123, none, [], (.bin .add (.t 122) (.c (.int .i64 1)))⟩, ⟨some 1, none, [], (.move (.t 123))⟩] false))) (.seq (.region [⟨some 124, none, [], (.move (.t 17))⟩, ⟨some 125, none, [], (.move (.t 18))⟩, ⟨some 126, none, [], (.bin .geq (.t 124) (.t 125))⟩, ⟨some 8, none, [], (.move (.t 126))⟩] false) (.seq (.region [⟨some 127, none, [], (.move (.t 0))⟩, ⟨some 128, none, [], (.move (.t 14))⟩, ⟨some 129, none, [], (.bin .add (.t 128) (.c (.int .i64 1)))⟩, ⟨some 130, none, [], (.move (.t 2))⟩, ⟨some 131, none, [], (.move (.t 3))⟩, ⟨some 132, none, [], (.call 31 [(.t 127), (.t 129), (.t 130), (.t 131)])⟩] false) (.region [⟨some 133, none, [], (.move (.t 14))⟩, ⟨some 2, none, [], (.move (.t 133))⟩] false))))))))) : ICode) = RR8 at *
  clear hR8 hLP
  obtain ⟨h0, h1, h2, h3, h8, h9, h10⟩ := hE
  by_cases ha : 1 ≤ a
  · have c1 : (0 : Int) < (a : Int) := by omega
    have kl := hL.call
    obtain ⟨lo', hlo, hrow⟩ := hA.row
    have han : a - 1 < n := by omega
    have hpn : p < n := by omega
    have ha1 : a - 1 + 1 ≤ n := by omega
    have hp1 : p + 1 ≤ n := by omega
    have r1 := mp_take (en := en) (f := f) han
    have r2 := mp_take (en := en) (f := f) hpn
    have u1 : wrapF .i64 ((a : Int) - 1) = ((a - 1 : Nat) : Int) := i64_sub1 (by omega) ha
    cases hl : lt (f (a - 1)) (f p) with
    | true =>
      simp only [h0, h1, h2, h3, h8, h9, h10, h11, c1, hlo, hrow, han, hpn, ha1, hp1, r1, r2, u1, kl, hl, wk, wk1, wk2, Option.some.injEq, exists_eq_left', decide_true, decide_false, seval, go_regionPw, pw_normal]
      refine h8' lim _ s f hpre hA ⟨?_, ?_, ?_, ?_⟩ ?_ ?_ K <;> simp only [h0, h1, h2, h3, h10, h11, wk, wk1, Nat.reduceEqDiff, reduceIte, decide_true]
    | false =>
      simp only [h0, h1, h2, h3, h8, h9, h10, h11, c1, hlo, hrow, han, hpn, ha1, hp1, r1, r2, u1, kl, hl, wk, wk1, wk2, Option.some.injEq, exists_eq_left', decide_true, decide_false, seval, go_regionPw, pw_normal]
      refine goCall_by (pe_ran hT.pe hL s B inc n cap ex (Nat.lt_of_lt_of_le hB hA.next) hn a b p hap hpb hbn f (Aft.refl hA.wfs hA.row)) ?_
      rintro v s1 ⟨m, g, rfl, hA1, hP1, m1, m2, ga, q1, q2⟩
      simp only [h0, h1, h2, h3, h8, h9, h10, h11, wk, wk1, wk2, Option.some.injEq, exists_eq_left', decide_true, decide_false, seval, go_regionPw, pw_normal]
      have hpre1 := hpre.perm hP1
      refine hgo (b - m) (by omega) Q s0 m b lim wb wp _ s1 g rfl m2 hbn hB ?_ (hA.trans hA1) ⟨?_, ?_, ?_, ?_⟩ ?_ ?_ ?_
      case refine_8 =>
        intro e s' g2 hA2 hP2 hS2
        have e2 : ∀ x, x < m → g2 x = g x := fun x hx => hP2.out (by omega)
        have high2 : ∀ x, m ≤ x → x < b → lt (g a) (g2 x) = true := hP2.all (P := fun y => lt (g a) y = true) q2
        have lowa : ∀ x, a ≤ x → x < m → Le lt (g x) (g a) := fun x x1 x2 => by
          by_cases hx : x = a
          · subst hx; exact ho.refl _
          · exact q1 x (by omega) x2
        have alow : ∀ x, a ≤ x → x < m → Le lt (g a) (g x) := fun x x1 x2 => by
          have z1 := hpre1 ha x x1 (by omega)
          rw [hP1.out (by omega : ¬ (a ≤ a - 1 ∧ a - 1 < b))] at z1
          refine ho.trans _ _ _ (show Le lt (g a) (f (a - 1)) from ?_) z1
          rw [ga]; exact hl
        refine K e s' g2 hA2 (hP1.trans (hP2.wide (by omega) (Nat.le_refl _))) ?_
        intro i j i1 j1 j2
        by_cases hj : j < m
        · rw [e2 i (by omega), e2 j hj]
          exact ho.trans _ _ _ (lowa i i1 (by omega)) (alow j (by omega) hj)
        · by_cases hi : i < m
          · rw [e2 i hi]
            exact ho.trans _ _ _ (lowa i i1 hi) (ho.le (high2 j (by omega) j2))
          · exact hS2 i j (by omega) j1 j2
      case refine_1 =>
        intro _ i i1 i2
        refine ho.trans _ _ _ (show Le lt (g (m - 1)) (g a) from ?_) (ho.le (q2 i i1 i2))
        by_cases hx : m - 1 = a
        · rw [hx]; exact ho.refl _
        · exact q1 (m - 1) (by omega) (by omega)
      all_goals simp only [h0, h1, h2, h3, h8, h9, wk, wk1, Nat.reduceEqDiff, reduceIte, decide_true]
  · have c1 : ¬ (0 : Int) < (a : Int) := by omega
    simp only [h0, h1, h2, h3, h8, h9, h10, h11, c1, wk, wk1, wk2, Option.some.injEq, exists_eq_left', decide_true, decide_false, seval, go_regionPw, pw_normal]
    refine h8' lim _ s f hpre hA ⟨?_, ?_, ?_, ?_⟩ ?_ ?_ K <;> simp only [h0, h1, h2, h3, h10, h11, wk, wk1, Nat.reduceEqDiff, reduceIte, decide_true]

set_option maxHeartbeats 16000000 in
theorem pdq6 (hT : SortTab T) (hL : LessOk T 57 en lt) (ho : Ord lt) {Q : Post} {s0 : St} {B inc n cap : Nat} {ex : Bool} (hB : B < s0.next) (hn : n ≤ 1000000000) (a b p : Nat) (hap : a ≤ p) (hpb : p < b) (hbn : b ≤ n) (hih : ∀ m, m < b - a → PdqL T en lt B inc n cap ex m) (lim : Int) (wb wp : Bool) (e : Env) (s : St) (f : Nat → α) (hpre : PreA lt a b f) (hA : Aft en s0 B inc n f s) (hE : PdqE2 B inc n cap ex a b lim wb wp e) (h11 : opd e (.t 11) = .int .i64 (p : Int)) (hint : Int) (h12 : opd e (.t 12) = .int .i64 hint) (K : LoopK Q en lt s0 B inc n a b f) :
    Go T Q (.seq (.seq (.region [⟨some 61, none, [], (.move (.t 8))⟩, ⟨some 62, none, [], (.move (.t 61))⟩, ⟨some 63, some (62, true), [], (.move (.t 9))⟩, ⟨some 64, none, [], (.pick (.t 62) (.t 63) (.c (.bool false)))⟩, ⟨some 65, none, [], (.move (.t 64))⟩, ⟨some 66, some (65, true), [], (.move (.t 12))⟩, ⟨some 67, some (65, true), [], (.bin .eql (.t 66) (.c (.int .i64 1)))⟩, ⟨some 68, none, [], (.pick (.t 65) (.t 67) (.c (.bool false)))⟩] false) (.cond (.t 68) (.seq (.region [⟨some 69, none, [], (.move (.t 0))⟩, ⟨some 70, none, [], (.move (.t 1))⟩, ⟨some 71, none, [], (.move (.t 2))⟩, ⟨some 72, none, [], (.call 56 [(.t 69), (.t 70), (.t 71)])⟩] false) (.cond (.t 72) .ret .skip)) .skip)) (.seq (.seq (.regionP [⟨some 73, none, [], (.move (.t 1))⟩, ⟨some 74, none, [], (.bin .gtr (.t 73) (.c (.int .i64 0)))⟩, ⟨some 75, none, [], (.move (.t 74))⟩, ⟨some 76, some (75, true), [], (.move (.t 0))⟩, ⟨some 77, some (75, true), [], (.move (.t 1))⟩, ⟨some 78, some (75, true), [], (.bin .sub (.t 77) (.c (.int .i64 1)))⟩, ⟨some 79, some (75, true), [], (.idxSl 1 (.t 76) (.t 78))⟩, ⟨some 80, some (75, true), [], (.load false 1 (.t 79))⟩, ⟨some 81, some (75, true), [], (.move (.t 0))⟩, ⟨some 82, some (75, true), [], (.move (.t 11))⟩, ⟨some 83, some (75, true), [], (.idxSl 1 (.t 81) (.t 82))⟩, ⟨some 84, some (75, true), [], (.load false 1 (.t 83))⟩, ⟨some 85, some (75, true), [], (.call 57 [(.t 80), (.t 84)])⟩, ⟨some 86, some (75, true), [], (.un .not (.t 85))⟩, ⟨some 87, none, [], (.pick (.t 75) (.t 86) (.c (.bool false)))⟩]) (.cond (.t 87) (.seq (.region [⟨some 88, none, [], (.move (.t 0))⟩, ⟨some 89, none, [], (.move (.t 1))⟩, ⟨some 90, none, [], (.move (.t 2))⟩, ⟨some 91, none, [], (.move (.t 11))⟩, ⟨some 92, none, [], (.call 58 [(.t 88), (.t 89), (.t 90), (.t 91)])⟩, ⟨some 13, none, [], (.move (.t 92))⟩] false) (.seq (.region [⟨some 93, none, [], (.move (.t 13))⟩, ⟨some 1, none, [], (.move (.t 93))⟩] false) (.exit 1))) .skip)) (.seq (.region [⟨some 95, none, [], (.move (.t 0))⟩, ⟨some 96, none, [], (.move (.t 1))⟩, ⟨some 97, none, [], (.move (.t 2))⟩, ⟨some 98, none, [], (.move (.t 11))⟩, ⟨some 99, none, [], (.call 59 [(.t 95), (.t 96), (.t 97), (.t 98)])⟩, ⟨some 94, none, [], (.move (.t 99))⟩, ⟨some 100, none, [], (.extract (.t 94) 0)⟩, ⟨some 101, none, [], (.extract (.t 94) 1)⟩, ⟨some 14, none, [], (.move (.t 100))⟩, ⟨some 15, none, [], (.move (.t 101))⟩] false) (.seq (.region [⟨some 102, none, [], (.move (.t 15))⟩, ⟨some 9, none, [], (.move (.t 102))⟩] false) (.seq (.region [⟨some 103, none, [], (.move (.t 14))⟩, ⟨some 104, none, [], (.move (.t 1))⟩, ⟨some 105, none, [], (.bin .sub (.t 103) (.t 104))⟩, ⟨some 106, none, [], (.move (.t 2))⟩, ⟨some 107, none, [], (.move (.t 14))⟩, ⟨some 108, none, [], (.bin .sub (.t 106) (.t 107))⟩, ⟨some 16, none, [], (.move (.t 105))⟩, ⟨some 17, none, [], (.move (.t 108))⟩] false) (.seq (.region [⟨some 109, none, [], (.move (.t 10))⟩, ⟨some 110, none, [], (.bin .quo (.t 109) (.c (.int .i64 8)))⟩, ⟨some 18, none, [], (.move (.t 110))⟩] false) (.seq (.region [⟨some 111, none, [], (.move (.t 16))⟩, ⟨some 112, none, [], (.move (.t 17))⟩, ⟨some 113, none, [], (.bin .lss (.t 111) (.t 112))⟩] false) (.cond (.t 113) (.seq (.region [⟨some 114, none, [], (.move (.t 16))⟩, ⟨some 115, none, [], (.move (.t 18))⟩, ⟨some 116, none, [], (.bin .geq (.t 114) (.t 115))⟩, ⟨some 8, none, [], (.move (.t 116))⟩] false) (.seq (.region [⟨some 117, none, [], (.move (.t 0))⟩, ⟨some 118, none, [], (.move (.t 1))⟩, ⟨some 119, none, [], (.move (.t 14))⟩, ⟨some 120, none, [], (.move (.t 3))⟩, ⟨some 121, none, [], (.call 31 [(.t 117), (.t 118), (.t 119), (.t 120)])⟩] false) (.region [⟨some 122, none, [], (.move (.t 14))⟩, ⟨some 123, none, [], (.bin .add (.t 122) (.c (.int .i64 1)))⟩, ⟨some 1, none, [], (.move (.t 123))⟩] false))) (.seq (.region [⟨some 124, none, [], (.move (.t 17))⟩, ⟨some 125, none, [], (.move (.t 18))⟩, ⟨some 126, none, [], (.bin .geq (.t 124) (.t 125))⟩, ⟨some 8, none, [], (.move (.t 126))⟩] false) (.seq (.region [⟨some 127, none, [], (.move (.t 0))⟩, ⟨some 128, none, [], (.move (.t 14))⟩, ⟨some 129, none, [], (.bin .add (.t 128) (.c (.int .i64 1)))⟩, ⟨some 130, none, [], (.move (.t 2))⟩, ⟨some 131, none, [], (.move (.t 3))⟩, ⟨some 132, none, [], (.call 31 [(.t 127), (.t 129), (.t 130), (.t 131)])⟩] false) (.region [⟨some 133, none, [], (.move (.t 14))⟩, ⟨some 2, none, [], (.move (.t 133))⟩] false))))))))))) (Fr.block 1 :: Fr.loop (.block 1 RRL) :: RRF) e s := by
  have h7' := pdq7 hT hL ho hB hn a b p hap hpb hbn hih (Q := Q) (s0 := s0)
  obtain ⟨LP, hLP⟩ : ∃ c : List Fr, c = (Fr.block 1 :: Fr.loop (.block 1 RRL) :: RRF) := ⟨_, rfl⟩
  have hrt : ∀ e s, Q .ret e s → Ret T Q (Fr.block 1 :: Fr.loop (.block 1 RRL) :: RRF) .ret e s := fun e s h => by simp only [h, wk, wk1, Nat.reduceEqDiff, reduceIte, decide_true]
  rw [← hLP] at h7' hrt ⊢
  generalize hR7 : ((.seq (.seq (.regionP [⟨some 73, none, [], (.move (.t 1))⟩, ⟨some 74, none, [], (.bin .gtr (.t 73) (.c (.int .i64 0)))⟩, ⟨some 75, none, [], (.move (.t 74))⟩, ⟨some 76, some (75, true), [], (.move (.t 0))⟩, ⟨some 77, some (75, true), [], (.move (.t 1))⟩, ⟨some 78, some (75, true), [], (.bin .sub (.t 77) (.c (.int .i64 1)))⟩, ⟨some 79, some (75, true), [], (.idxSl 1 (.t 76) (.t 78))⟩, ⟨some 80, some (75, true), [], (.load false 1 (.t 79))⟩, ⟨some 81, some (75, true), [], (.move (.t 0))⟩, ⟨some 82, some (75, true), [], (.move (.t 11))⟩, ⟨some 83, some (75, true), [], (.idxSl 1 (.t 81) (.t 82))⟩, ⟨some 84, some (75, true), [], (.load false 1 (.t 83))⟩, ⟨some 85, some (75, true), [], (.call 57 [(.t 80), (.t 84)])⟩, ⟨some 86, some (75, true), [], (.un .not (.t 85))⟩, ⟨some 87, none, [], (.pick (.t 75) (.t 86) (.c (.bool false)))⟩]) (.cond (.t 87) (.seq (.region [⟨some 88, none, [], (.move (.t 0))⟩, ⟨some 89, none, [], (.move (.t 1))⟩, ⟨some 90, none, [], (.move (.t 2))⟩, ⟨some 91, none, [], (.move (.t 11))⟩, ⟨some 92, none, [], (.call 58 [(.t 88), (.t 89), (.t 90), (.t 91)])⟩, ⟨some 13, none, [], (.move (.t 92))⟩] false) (.seq (.region [⟨some 93, none, [], (.move (.t 13))⟩, ⟨some 1, none, [], (.move (.t 93))⟩] false) (.exit 1))) .skip)) (.seq (.region [⟨some 95, none, [], (.move (.t 0))⟩, ⟨some 96, none, [], (.move (.t 1))⟩, ⟨some 97, none, [], (.move (.t 2))⟩, ⟨some 98, none, [], (.move (.t 11))⟩, ⟨some 99, none, [], (.call 59 [(.t 95), (.t 96), (.t 97), (.t 98)])⟩, ⟨some 94, none, [], (.move (.t 99))⟩, ⟨some 100, none, [], (.extract (.t 94) 0)⟩, ⟨some 101, none, [], (.extract (.t 94) 1)⟩, ⟨some 14, none, [], (.move (.t 100))⟩, ⟨some 15, none, [], (.move (.t 101))⟩] false) (.seq (.region [⟨some 102, none, [], (.move (.t 15))⟩, ⟨some 9, none, [], (.move (.t 102))⟩] false) (.seq (.region [⟨some 103, none, [], (.move (.t 14))⟩, ⟨some 104, none, [], (.move (.t 1))⟩, ⟨some 105, none, [], (.bin .sub (.t 103) (.t 104))⟩, ⟨some 106, none, [], (.move (.t 2))⟩, ⟨some 107, none, [], (.move (.t 14))⟩, ⟨some 108, none, [], (.bin .sub (.t 106) (.t 107))⟩, ⟨some 16, none, [], (.move (.t 105))⟩, ⟨some 17, none, [], (.move (.t 108))⟩] false) (.seq (.region [⟨some 109, none, [], (.move (.t 10))⟩, ⟨some 110, none, [], (.bin .quo (.t 109) (.c (.int .i64 8)))⟩, ⟨some 18, none, [], (.move (.t 110))⟩] false) (.seq (.region [⟨some 111, none, [], (.move (.t 16))⟩, ⟨some 112, none, [], (.move (.t 17))⟩, ⟨some 113, none, [], (.bin .lss (.t 111) (.t 112))⟩] false) (.cond (.t 113) (.seq (.region [⟨some 114, none, [], (.move (.t 16))⟩, ⟨some 115, none, [], (.move (.t 18))⟩, ⟨some 116, none, [], (.bin .geq (.t 114) (.t 115))⟩, ⟨some 8, none, [], (.move (.t 116))⟩] false) (.seq (.region [⟨some 117, none, [], (.move (.t 0))⟩, ⟨some 118, none, [], (.move (.t 1))⟩, ⟨some 119, none, [], (.move (.t 14))⟩, ⟨some 120, none, [], (.move (.t 3))⟩, ⟨some 121, none, [], (.call 31 [(.t 117), (.t 118), (.t 119), (.t 120)])⟩] false) (.region [⟨some 122, none, [], (.move (.t 14))⟩, ⟨some 123, none, [], (.bin .add (.t 122) (.c (.int .i64 1)))⟩, ⟨some 1, none, [], (.move (.t 123))⟩] false))) (.seq (.region [⟨some 124, none, [], (.move (.t 17))⟩, ⟨some 125, none, [], (.move (.t 18))⟩, ⟨some 126, none, [], (.bin .geq (.t 124) (.t 125))⟩, ⟨some 8, none, [], (.move (.t 126))⟩] false) (.seq (.region [⟨some 127, none, [], (.move (.t 0))⟩, ⟨some 128, none, [], (.move (.t 14))⟩, ⟨some 129, none, [], (.bin .add (.t 128) (.c (.int .i64 1)))⟩, ⟨some 130, none, [], (.move (.t 2))⟩, ⟨some 131, none, [], (.move (.t 3))⟩, ⟨some 132, none, [], (.call 31 [(.t 127), (.t 129), (.t 130), (.t 131)])⟩] false) (.region [⟨some 133, none, [], (.move (.t 14))⟩, ⟨some 2, none, [], (.move (.t 133))⟩] false)))))))))) : ICode) = RR7 at *
  clear hR7 hLP
  obtain ⟨h0, h1, h2, h3, h8, h9, h10⟩ := hE
  cases wb with
  | false =>
    simp only [h0, h1, h2, h3, h8, h9, h10, h11, h12, wk, wk1, wk2, Option.some.injEq, exists_eq_left', decide_true, decide_false, seval, go_regionPw, pw_normal]
    refine h7' lim false wp _ s f hpre hA ⟨?_, ?_, ?_, ?_, ?_, ?_, ?_⟩ ?_ K <;> simp only [h0, h1, h2, h3, h8, h9, h10, h11, wk, wk1, Nat.reduceEqDiff, reduceIte, decide_true]
  | true =>
    cases wp with
    | false =>
      simp only [h0, h1, h2, h3, h8, h9, h10, h11, h12, wk, wk1, wk2, Option.some.injEq, exists_eq_left', decide_true, decide_false, seval, go_regionPw, pw_normal]
      refine h7' lim true false _ s f hpre hA ⟨?_, ?_, ?_, ?_, ?_, ?_, ?_⟩ ?_ K <;> simp only [h0, h1, h2, h3, h8, h9, h10, h11, wk, wk1, Nat.reduceEqDiff, reduceIte, decide_true]
    | true =>
      by_cases hh : hint = 1
      · subst hh
        simp only [h0, h1, h2, h3, h8, h9, h10, h11, h12, wk, wk1, wk2, Option.some.injEq, exists_eq_left', decide_true, decide_false, seval, go_regionPw, pw_normal]
        refine goCall_by (ps_ran hT.pis hL ho s B inc n cap ex (Nat.lt_of_lt_of_le hB hA.next) hn a b (by omega) hbn f hpre (Aft.refl hA.wfs hA.row)) ?_
        rintro v s1 ⟨r, g, rfl, hP1, hA1, hS1⟩
        cases r with
        | true =>
          simp only [h0, h1, h2, h3, h8, h9, h10, h11, h12, wk, wk1, wk2, Option.some.injEq, exists_eq_left', decide_true, decide_false, seval, go_regionPw, pw_normal]
          exact hrt _ _ (K _ s1 g (hA.trans hA1) hP1 (hS1 rfl))
        | false =>
          simp only [h0, h1, h2, h3, h8, h9, h10, h11, h12, wk, wk1, wk2, Option.some.injEq, exists_eq_left', decide_true, decide_false, seval, go_regionPw, pw_normal]
          refine h7' lim true true _ s1 g (hpre.perm hP1) (hA.trans hA1) ⟨?_, ?_, ?_, ?_, ?_, ?_, ?_⟩ ?_ (LoopK.from K hP1) <;> simp only [h0, h1, h2, h3, h8, h9, h10, h11, wk, wk1, Nat.reduceEqDiff, reduceIte, decide_true]
      · simp only [h0, h1, h2, h3, h8, h9, h10, h11, h12, hh, wk, wk1, wk2, Option.some.injEq, exists_eq_left', decide_true, decide_false, seval, go_regionPw, pw_normal]
        refine h7' lim true true _ s f hpre hA ⟨?_, ?_, ?_, ?_, ?_, ?_, ?_⟩ ?_ K <;> simp only [h0, h1, h2, h3, h8, h9, h10, h11, wk, wk1, Nat.reduceEqDiff, reduceIte, decide_true]

set_option maxHeartbeats 16000000 in
theorem pdq4 (hT : SortTab T) (hL : LessOk T 57 en lt) (ho : Ord lt) {Q : Post} {s0 : St} {B inc n cap : Nat} {ex : Bool} (hB : B < s0.next) (hn : n ≤ 1000000000) (a b : Nat) (hab : a + 13 ≤ b) (hbn : b ≤ n) (hih : ∀ m, m < b - a → PdqL T en lt B inc n cap ex m) (lim : Int) (wb wp : Bool) (e : Env) (s : St) (f : Nat → α) (hpre : PreA lt a b f) (hA : Aft en s0 B inc n f s) (hE : PdqE2 B inc n cap ex a b lim wb wp e) (K : LoopK Q en lt s0 B inc n a b f) :
    Go T Q (.seq (.region [⟨some 43, none, [], (.move (.t 0))⟩, ⟨some 44, none, [], (.move (.t 1))⟩, ⟨some 45, none, [], (.move (.t 2))⟩, ⟨some 46, none, [], (.call 54 [(.t 43), (.t 44), (.t 45)])⟩, ⟨some 42, none, [], (.move (.t 46))⟩, ⟨some 47, none, [], (.extract (.t 42) 0)⟩, ⟨some 48, none, [], (.extract (.t 42) 1)⟩, ⟨some 11, none, [], (.move (.t 47))⟩, ⟨some 12, none, [], (.move (.t 48))⟩] false) (.seq (.seq (.region [⟨some 49, none, [], (.move (.t 12))⟩, ⟨some 50, none, [], (.bin .eql (.t 49) (.c (.int .i64 2)))⟩] false) (.cond (.t 50) (.seq (.region [⟨some 51, none, [], (.move (.t 0))⟩, ⟨some 52, none, [], (.move (.t 1))⟩, ⟨some 53, none, [], (.move (.t 2))⟩, ⟨some 54, none, [], (.call 55 [(.t 51), (.t 52), (.t 53)])⟩] false) (.seq (.region [⟨some 55, none, [], (.move (.t 2))⟩, ⟨some 56, none, [], (.bin .sub (.t 55) (.c (.int .i64 1)))⟩, ⟨some 57, none, [], (.move (.t 11))⟩, ⟨some 58, none, [], (.move (.t 1))⟩, ⟨some 59, none, [], (.bin .sub (.t 57) (.t 58))⟩, ⟨some 60, none, [], (.bin .sub (.t 56) (.t 59))⟩, ⟨some 11, none, [], (.move (.t 60))⟩] false) (.region [⟨some 12, none, [], (.move (.c (.int .i64 1)))⟩] false))) .skip)) (.seq (.seq (.region [⟨some 61, none, [], (.move (.t 8))⟩, ⟨some 62, none, [], (.move (.t 61))⟩, ⟨some 63, some (62, true), [], (.move (.t 9))⟩, ⟨some 64, none, [], (.pick (.t 62) (.t 63) (.c (.bool false)))⟩, ⟨some 65, none, [], (.move (.t 64))⟩, ⟨some 66, some (65, true), [], (.move (.t 12))⟩, ⟨some 67, some (65, true), [], (.bin .eql (.t 66) (.c (.int .i64 1)))⟩, ⟨some 68, none, [], (.pick (.t 65) (.t 67) (.c (.bool false)))⟩] false) (.cond (.t 68) (.seq (.region [⟨some 69, none, [], (.move (.t 0))⟩, ⟨some 70, none, [], (.move (.t 1))⟩, ⟨some 71, none, [], (.move (.t 2))⟩, ⟨some 72, none, [], (.call 56 [(.t 69), (.t 70), (.t 71)])⟩] false) (.cond (.t 72) .ret .skip)) .skip)) (.seq (.seq (.regionP [⟨some 73, none, [], (.move (.t 1))⟩, ⟨some 74, none, [], (.bin .gtr (.t 73) (.c (.int .i64 0)))⟩, ⟨some 75, none, [], (.move (.t 74))⟩, ⟨some 76, some (75, true), [], (.move (.t 0))⟩, ⟨some 77, some (75, true), [], (.move (.t 1))⟩, ⟨some 78, some (75, true), [], (.bin .sub (.t 77) (.c (.int .i64 1)))⟩, ⟨some 79, some (75, true), [], (.idxSl 1 (.t 76) (.t 78))⟩, ⟨some 80, some (75, true), [], (.load false 1 (.t 79))⟩, ⟨some 81, some (75, true), [], (.move (.t 0))⟩, ⟨some 82, some (75, true), [], (.move (.t 11))⟩, ⟨some 83, some (75, true), [], (.idxSl 1 (.t 81) (.t 82))⟩, ⟨some 84, some (75, true), [], (.load false 1 (.t 83))⟩, ⟨some 85, some (75, true), [], (.call 57 [(.t 80), (.t 84)])⟩, ⟨some 86, some (75, true), [], (.un .not (.t 85))⟩, ⟨some 87, none, [], (.pick (.t 75) (.t 86) (.c (.bool false)))⟩]) (.cond (.t 87) (.seq (.region [⟨some 88, none, [], (.move (.t 0))⟩, ⟨some 89, none, [], (.move (.t 1))⟩, ⟨some 90, none, [], (.move (.t 2))⟩, ⟨some 91, none, [], (.move (.t 11))⟩, ⟨some 92, none, [], (.call 58 [(.t 88), (.t 89), (.t 90), (.t 91)])⟩, ⟨some 13, none, [], (.move (.t 92))⟩] false) (.seq (.region [⟨some 93, none, [], (.move (.t 13))⟩, ⟨some 1, none, [], (.move (.t 93))⟩] false) (.exit 1))) .skip)) (.seq (.region [⟨some 95, none, [], (.move (.t 0))⟩, ⟨some 96, none, [], (.move (.t 1))⟩, ⟨some 97, none, [], (.move (.t 2))⟩, ⟨some 98, none, [], (.move (.t 11))⟩, ⟨some 99, none, [], (.call 59 [(.t 95), (.t 96), (.t 97), (.t 98)])⟩, ⟨some 94, none, [], (.move (.t 99))⟩, ⟨some 100, none, [], (.extract (.t 94) 0)⟩, ⟨some 101, none, [], (.extract (.t 94) 1)⟩, ⟨some 14, none, [], (.move (.t 100))⟩, ⟨some 15, none, [], (.move (.t 101))⟩] false) (.seq (.region [⟨some 102, none, [], (.move (.t 15))⟩, ⟨some 9, none, [], (.move (.t 102))⟩] false) (.seq (.region [⟨some 103, none, [], (.move (.t 14))⟩, ⟨some 104, none, [], (.move (.t 1))⟩, ⟨some 105, none, [], (.bin .sub (.t 103) (.t 104))⟩, ⟨some 106, none, [], (.move (.t 2))⟩, ⟨some 107, none, [], (.move (.t 14))⟩, ⟨some 108, none, [], (.bin .sub (.t 106) (.t 107))⟩, ⟨some 16, none, [], (.move (.t 105))⟩, ⟨some 17, none, [], (.move (.t 108))⟩] false) (.seq (.region [⟨some 109, none, [], (.move (.t 10))⟩, ⟨some 110, none, [], (.bin .quo (.t 109) (.c (.int .i64 8)))⟩, ⟨some 18, none, [], (.move (.t 110))⟩] false) (.seq (.region [⟨some 111, none, [], (.move (.t 16))⟩, ⟨some 112, none, [], (.move (.t 17))⟩, ⟨some 113, none, [], (.bin .lss (.t 111) (.t 112))⟩] false) (.cond (.t 113) (.seq (.region [⟨some 114, none, [], (.move (.t 16))⟩, ⟨some 115, none, [], (.move (.t 18))⟩, ⟨some 116, none, [], (.bin .geq (.t 114) (.t 115))⟩, ⟨some 8, none, [], (.move (.t 116))⟩] false) (.seq (.region [⟨some 117, none, [], (.move (.t 0))⟩, ⟨some 118, none, [], (.move (.t 1))⟩, ⟨some 119, none, [], (.move (.t 14))⟩, ⟨some 120, none, [], (.move (.t 3))⟩, ⟨some 121, none, [], (.call 31 [(.t 117), (.t 118), (.t 119), (.t 120)])⟩] false) (.region [⟨some 122, none, [], (.move (.t 14))⟩, ⟨some 123, none, [], (.bin .add (.t 122) (.c (.int .i64 1)))⟩, ⟨some 1, none, [], (.move (.t 123))⟩] false))) (.seq (.region [⟨some 124, none, [], (.move (.t 17))⟩, ⟨some 125, none, [], (.move (.t 18))⟩, ⟨some 126, none, [], (.bin .geq (.t 124) (.t 125))⟩, ⟨some 8, none, [], (.move (.t 126))⟩] false) (.seq (.region [⟨some 127, none, [], (.move (.t 0))⟩, ⟨some 128, none, [], (.move (.t 14))⟩, ⟨some 129, none, [], (.bin .add (.t 128) (.c (.int .i64 1)))⟩, ⟨some 130, none, [], (.move (.t 2))⟩, ⟨some 131, none, [], (.move (.t 3))⟩, ⟨some 132, none, [], (.call 31 [(.t 127), (.t 129), (.t 130), (.t 131)])⟩] false) (.region [⟨some 133, none, [], (.move (.t 14))⟩, ⟨some 2, none, [], (.move (.t 133))⟩] false))))))))))))) (Fr.block 1 :: Fr.loop (.block 1 RRL) :: RRF) e s := by
  have h6' := fun p h1 h2 => pdq6 hT hL ho hB hn a b p h1 h2 hbn hih (Q := Q) (s0 := s0)
  generalize ((Fr.block 1 :: Fr.loop (.block 1 RRL) :: RRF) : List Fr) = LP at *
  generalize hR6 : ((.seq (.seq (.region [⟨some 61, none, [], (.move (.t 8))⟩, ⟨some 62, none, [], (.move (.t 61))⟩, ⟨some 63, some (62, true), [], (.move (.t 9))⟩, ⟨some 64, none, [], (.pick (.t 62) (.t 63) (.c (.bool false)))⟩, ⟨some 65, none, [], (.move (.t 64))⟩, ⟨some 66, some (65, true), [], (.move (.t 12))⟩, ⟨some 67, some (65, true), [], (.bin .eql (.t 66) (.c (.int .i64 1)))⟩, ⟨some 68, none, [], (.pick (.t 65) (.t 67) (.c (.bool false)))⟩] false) (.cond (.t 68) (.seq (.region [⟨some 69, none, [], (.move (.t 0))⟩, ⟨some 70, none, [], (.move (.t 1))⟩, ⟨some 71, none, [], (.move (.t 2))⟩, ⟨some 72, none, [], (.call 56 [(.t 69), (.t 70), (.t 71)])⟩] false) (.cond (.t 72) .ret .skip)) .skip)) (.seq (.seq (.regionP [⟨some 73, none, [], (.move (.t 1))⟩, ⟨some 74, none, [], (.bin .gtr (.t 73) (.c (.int .i64 0)))⟩, ⟨some 75, none, [], (.move (.t 74))⟩, ⟨some 76, some (75, true), [], (.move (.t 0))⟩, ⟨some 77, some (75, true), [], (.move (.t 1))⟩, ⟨some 78, some (75, true), [], (.bin .sub (.t 77) (.c (.int .i64 1)))⟩, ⟨some 79, some (75, true), [], (.idxSl 1 (.t 76) (.t 78))⟩, ⟨some 80, some (75, true), [], (.load false 1 (.t 79))⟩, ⟨some 81, some (75, true), [], (.move (.t 0))⟩, ⟨some 82, some (75, true), [], (.move (.t 11))⟩, ⟨some 83, some (75, true), [], (.idxSl 1 (.t 81) (.t 82))⟩, ⟨some 84, some (75, true), [], (.load false 1 (.t 83))⟩, ⟨some 85, some (75, true), [], (.call 57 [(.t 80), (.t 84)])⟩, ⟨some 86, some (75, true), [], (.un .not (.t 85))⟩, ⟨some 87, none, [], (.pick (.t 75) (.t 86) (.c (.bool false)))⟩]) (.cond (.t 87) (.seq (.region [⟨some 88, none, [], (.move (.t 0))⟩, ⟨some 89, none, [], (.move (.t 1))⟩, ⟨some 90, none, [], (.move (.t 2))⟩, ⟨some 91, none, [], (.move (.t 11))⟩, ⟨some 92, none, [], (.call 58 [(.t 88), (.t 89), (.t 90), (.t 91)])⟩, ⟨some 13, none, [], (.move (.t 92))⟩] false) (.seq (.region [⟨some 93, none, [], (.move (.t 13))⟩, ⟨some 1, none, [], (.move (.t 93))⟩] false) (.exit 1))) .skip)) (.seq (.region [⟨some 95, none, [], (.move (.t 0))⟩, ⟨some 96, none, [], (.move (.t 1))⟩, ⟨some 97, none, [], (.move (.t 2))⟩, ⟨some 98, none, [], (.move (.t 11))⟩, ⟨some 99, none, [], (.call 59 [(.t 95), (.t 96), (.t 97), (.t 98)])⟩, ⟨some 94, none, [], (.move (.t 99))⟩, ⟨some 100, none, [], (.extract (.t 94) 0)⟩, ⟨some 101, none, [], (.extract (.t 94) 1)⟩, ⟨some 14, none, [], (.move (.t 100))⟩, ⟨some 15, none, [], (.move (.t 101))⟩] false) (.seq (.region [⟨some 102, none, [], (.move (.t 15))⟩, ⟨some 9, none, [], (.move (.t 102))⟩] false) (.seq (.region [⟨some 103, none, [], (.move (.t 14))⟩, ⟨some 104, none, [], (.move (.t 1))⟩, ⟨some 105, none, [], (.bin .sub (.t 103) (.t 104))⟩, ⟨some 106, none, [], (.move (.t 2))⟩, ⟨some 107, none, [], (.move (.t 14))⟩, ⟨some 108, none, [], (.bin .sub (.t 106) (.t 107))⟩, ⟨some 16, none, [], (.move (.t 105))⟩, ⟨some 17, none, [], (.move (.t 108))⟩] false) (.seq (.region [⟨some 109, none, [], (.move (.t 10))⟩, ⟨some 110, none, [], (.bin .quo (.t 109) (.c (.int .i64 8)))⟩, ⟨some 18, none, [], (.move (.t 110))⟩] false) (.seq (.region [⟨some 111, none, [], (.move (.t 16))⟩, ⟨some 112, none, [], (.move (.t 17))⟩, ⟨some 113, none, [], (.bin .lss (.t 111) (.t 112))⟩] false) (.cond (.t 113) (.seq (.region [⟨some 114, none, [], (.move (.t 16))⟩, ⟨some 115, none, [], (.move (.t 18))⟩, ⟨some 116, none, [], (.bin .geq (.t 114) (.t 115))⟩, ⟨some 8, none, [], (.move (.t 116))⟩] false) (.seq (.region [⟨some 117, none, [], (.move (.t 0))⟩, ⟨some 118, none, [], (.move (.t 1))⟩, ⟨some 119, none, [], (.move (.t 14))⟩, ⟨some 120, none, [], (.move (.t 3))⟩, ⟨some 121, none, [], (.call 31 [(.t 117), (.t 118), (.t 119), (.t 120)])⟩] false) (.region [⟨some 122, none, [], (.move (.t 14))⟩, ⟨some 123, none, [], (.bin .add (.t 122) (.c (.int .i64 1)))⟩, ⟨some 1, none, [], (.move (.t 123))⟩] false))) (.seq (.region [⟨some 124, none, [], (.move (.t 17))⟩, ⟨some 125, none, [], (.move (.t 18))⟩, ⟨some 126, none, [], (.bin .geq (.t 124) (.t 125))⟩, ⟨some 8, none, [], (.move (.t 126))⟩] false) (.seq (.region [⟨some 127, none, [], (.move (.t 0))⟩, ⟨some 128, none, [], (.move (.t 14))⟩, ⟨some 129, none, [], (.bin .add (.t 128) (.c (.int .i64 1)))⟩, ⟨some 130, none, [], (.move (.t 2))⟩, ⟨some 131, none, [], (.move (.t 3))⟩, ⟨some 132, none, [], (.call 31 [(.t 127), (.t 129), (.t 130), (.t 131)])⟩] false) (.region [⟨some 133, none, [], (.move (.t 14))⟩, ⟨some 2, none, [], (.move (.t 133))⟩] false))))))))))) : ICode) = RR6 at *
  clear hR6
  obtain ⟨h0, h1, h2, h3, h8, h9, h10⟩ := hE
  simp only [h0, h1, h2, h3, h8, h9, h10, wk, wk1, wk2, Option.some.injEq, exists_eq_left', decide_true, decide_false, seval, go_regionPw, pw_normal]
  refine goCall_by (pivot_ran hT.piv hT.medA hT.med hT.o2 hL s B inc n cap ex (Nat.lt_of_lt_of_le hB hA.next) hn a b hab hbn f (Aft.refl hA.wfs hA.row)) ?_
  rintro v s1 ⟨hA1, p, hint, rfl, p1, p2⟩
  by_cases hh : hint = 2
  · subst hh
    simp only [h0, h1, h2, h3, h8, h9, h10, wk, wk1, wk2, Option.some.injEq, exists_eq_left', decide_true, decide_false, seval, go_regionPw, pw_normal]
    refine goCall_by (rev_ran hT.rev hL s1 B inc n cap ex (Nat.lt_of_lt_of_le hB (hA.trans hA1).next) hn a b (by omega) hbn f (Aft.refl hA1.wfs hA1.row)) ?_
    rintro v s2 ⟨rfl, g, hA2, hP2⟩
    have u1 : wrapF .i64 ((b : Int) - 1) = ((b - 1 : Nat) : Int) := i64_sub1 (by omega) (by omega)
    have u2 : wrapF .i64 ((p : Int) - (a : Int)) = ((p - a : Nat) : Int) := i64_sub (by omega) p1
    have u3 : wrapF .i64 (((b - 1 : Nat) : Int) - ((p - a : Nat) : Int)) = ((b - 1 - (p - a) : Nat) : Int) := i64_sub (by omega) (by omega)
    simp only [h0, h1, h2, h3, h8, h9, h10, u1, u2, u3, wk, wk1, wk2, Option.some.injEq, exists_eq_left', decide_true, decide_false, seval, go_regionPw, pw_normal]
    refine h6' (b - 1 - (p - a)) (by omega) (by omega) lim wb wp _ s2 g (hpre.perm hP2) ((hA.trans hA1).trans hA2) ⟨?_, ?_, ?_, ?_, ?_, ?_, ?_⟩ ?_ 1 ?_ (LoopK.from K hP2) <;> simp only [h0, h1, h2, h3, h8, h9, h10, u1, u2, u3, wk, wk1, Nat.reduceEqDiff, reduceIte, decide_true]
  · simp only [h0, h1, h2, h3, h8, h9, h10, hh, wk, wk1, wk2, Option.some.injEq, exists_eq_left', decide_true, decide_false, seval, go_regionPw, pw_normal]
    refine h6' p p1 p2 lim wb wp _ s1 f hpre (hA.trans hA1) ⟨?_, ?_, ?_, ?_, ?_, ?_, ?_⟩ ?_ hint ?_ K <;> simp only [h0, h1, h2, h3, h8, h9, h10, wk, wk1, Nat.reduceEqDiff, reduceIte, decide_true]

set_option maxHeartbeats 16000000 in
theorem pdq_all (hT : SortTab T) (hL : LessOk T 57 en lt) (ho : Ord lt) {B inc n cap : Nat} {ex : Bool} (hn : n ≤ 1000000000) : ∀ m, PdqL T en lt B inc n cap ex m := by
  intro m
  induction m using Nat.strongRecOn with
  | _ m ih =>
    intro Q s0 a b lim wb wp e s f hm hab hbn hB hpre hA hE h8 h9 K
    subst hm
    have h4' := fun h1 => pdq4 hT hL ho hB hn a b h1 hbn ih (Q := Q) (s0 := s0)
    obtain ⟨h0, h1, h2, h3⟩ := hE
    have u1 : wrapF .i64 ((b : Int) - (a : Int)) = ((b - a : Nat) : Int) := i64_sub (by omega) hab
    rw [go_loop]
    have hrt : ∀ e s, Q .ret e s → Ret T Q (Fr.block 1 :: Fr.loop (.block 1 RRL) :: RRF) .ret e s := fun e s h => by simp only [h, wk, wk1, Nat.reduceEqDiff, reduceIte, decide_true]
    have hgo : Go T Q RRL (Fr.block 1 :: Fr.loop (.block 1 RRL) :: RRF) e s → Go T Q (.block 1 RRL) (Fr.loop (.block 1 RRL) :: RRF) e s := fun h => go_block.2 h
    refine hgo ?_
    generalize ((Fr.block 1 :: Fr.loop (.block 1 RRL) :: RRF) : List Fr) = LP at *
    show Go T Q (.seq (.region [⟨some 19, none, [], (.move (.t 2))⟩, ⟨some 20, none, [], (.move (.t 1))⟩, ⟨some 21, none, [], (.bin .sub (.t 19) (.t 20))⟩, ⟨some 10, none, [], (.move (.t 21))⟩] false) (.seq (.seq (.region [⟨some 22, none, [], (.move (.t 10))⟩, ⟨some 23, none, [], (.bin .leq (.t 22) (.c (.int .i64 12)))⟩] false) (.cond (.t 23) (.seq (.region [⟨some 24, none, [], (.move (.t 0))⟩, ⟨some 25, none, [], (.move (.t 1))⟩, ⟨some 26, none, [], (.move (.t 2))⟩, ⟨some 27, none, [], (.call 51 [(.t 24), (.t 25), (.t 26)])⟩] false) .ret) .skip)) (.seq (.seq (.region [⟨some 28, none, [], (.move (.t 3))⟩, ⟨some 29, none, [], (.bin .eql (.t 28) (.c (.int .i64 0)))⟩] false) (.cond (.t 29) (.seq (.region [⟨some 30, none, [], (.move (.t 0))⟩, ⟨some 31, none, [], (.move (.t 1))⟩, ⟨some 32, none, [], (.move (.t 2))⟩, ⟨some 33, none, [], (.call 52 [(.t 30), (.t 31), (.t 32)])⟩] false) .ret) .skip)) (.seq (.seq (.region [⟨some 34, none, [], (.move (.t 8))⟩, ⟨some 35, none, [], (.un .not (.t 34))⟩] false) (.cond (.t 35) (.seq (.region [⟨some 36, none, [], (.move (.t 0))⟩, ⟨some 37, none, [], (.move (.t 1))⟩, ⟨some 38, none, [], (.move (.t 2))⟩, ⟨some 39, none, [], (.call 53 [(.t 36), (.t 37), (.t 38)])⟩] false) (.region [⟨some 40, none, [], (.move (.t 3))⟩, ⟨some 41, none, [], (.bin .sub (.t 40) (.c (.int .i64 1)))⟩, ⟨some 3, none, [], (.move (.t 41))⟩] false)) .skip)) (.seq (.region [⟨some 43, none, [], (.move (.t 0))⟩, ⟨some 44, none, [], (.move (.t 1))⟩, ⟨some 45, none, [], (.move (.t 2))⟩, ⟨some 46, none, [], (.call 54 [(.t 43), (.t 44), (.t 45)])⟩, ⟨some 42, none, [], (.move (.t 46))⟩, ⟨some 47, none, [], (.extract (.t 42) 0)⟩, ⟨some 48, none, [], (.extract (.t 42) 1)⟩, ⟨some 11, none, [], (.move (.t 47))⟩, ⟨some 12, none, [], (.move (.t 48))⟩] false) (.seq (.seq (.region [⟨some 49, none, [], (.move (.t 12))⟩, ⟨some 50, none, [], (.bin .eql (.t 49) (.c (.int .i64 2)))⟩] false) (.cond (.t 50) (.seq (.region [⟨some 51, none, [], (.move (.t 0))⟩, ⟨some 52, none, [], (.move (.t 1))⟩, ⟨some 53, none, [], (.move (.t 2))⟩, ⟨some 54, none, [], (.call 55 [(.t 51), (.t 52), (.t 53)])⟩] false) (.seq (.region [⟨some 55, none, [], (.move (.t 2))⟩, ⟨some 56, none, [], (.bin .sub (.t 55) (.c (.int .i64 1)))⟩, ⟨some 57, none, [], (.move (.t 11))⟩, ⟨some 58, none, [], (.move (.t 1))⟩, ⟨some 59, none, [], (.bin .sub (.t 57) (.t 58))⟩, ⟨some 60, none, [], (.bin .sub (.t 56) (.t 59))⟩, ⟨some 11, none, [], (.move (.t 60))⟩] false) (.region [⟨some 12, none, [], (.move (.c (.int .i64 1)))⟩] false))) .skip)) (.seq (.seq (.region [⟨some 61, none, [], (.move (.t 8))⟩, ⟨some 62, none, [], (.move (.t 61))⟩, ⟨some 63, some (62, true), [], (.move (.t 9))⟩, ⟨some 64, none, [], (.pick (.t 62) (.t 63) (.c (.bool false)))⟩, ⟨some 65, none, [], (.move (.t 64))⟩, ⟨some 66, some (65, true), [], (.move (.t 12))⟩, ⟨some 67, some (65, true), [], (.bin .eql (.t 66) (.c (.int .i64 1)))⟩, ⟨some 68, none, [], (.pick (.t 65) (.t 67) (.c (.bool false)))⟩] false) (.cond (.t 68) (.seq (.region [⟨some 69, none, [], (.move (.t 0))⟩, ⟨some 70, none, [], (.move (.t 1))⟩, ⟨some 71, none, [], (.move (.t 2))⟩, ⟨some 72, none, [], (.call 56 [(.t 69), (.t 70), (.t 71)])⟩] false) (.cond (.t 72) .ret .skip)) .skip)) (.seq (.seq (.regionP [⟨some 73, none, [], (.move (.t 1))⟩, ⟨some 74, none, [], (.bin .gtr (.t 73) (.c (.int .i64 0)))⟩, ⟨some 75, none, [], (.move (.t 74))⟩, ⟨some 76, some (75, true), [], (.move (.t 0))⟩, ⟨some 77, some (75, true), [], (.move (.t 1))⟩, ⟨some 78, some (75, true), [], (.bin .sub (.t 77) (.c (.int .i64 1)))⟩, ⟨some 79, some (75, true), [], (.idxSl 1 (.t 76) (.t 78))⟩, ⟨some 80, some (75, true), [], (.load false 1 (.t 79))⟩, ⟨some 81, some (75, true), [], (.move (.t 0))⟩, ⟨some 82, some (75, true), [], (.move (.t 11))⟩, ⟨some 83, some (75, true), [], (.idxSl 1 (.t 81) (.t 82))⟩, ⟨some 84, some (75, true), [], (.load false 1 (.t 83))⟩, ⟨some 85, some (75, true), [], (.call 57 [(.t 80), (.t 84)])⟩, ⟨some 86, some (75, true), [], (.un .not (.t 85))⟩, ⟨some 87, none, [], (.pick (.t 75) (.t 86) (.c (.bool false)))⟩]) (.cond (.t 87) (.seq (.region [⟨some 88, none, [], (.move (.t 0))⟩, ⟨some 89, none, [], (.move (.t 1))⟩, ⟨some 90, none, [], (.move (.t 2))⟩, ⟨some 91, none, [], (.move (.t 11))⟩, ⟨some 92, none, [], (.call 58 [(.t 88), (.t 89), (.t 90), (.t 91)])⟩, ⟨some 13, none, [], (.move (.t 92))⟩] false) (.seq (.region [⟨some 93, none, [], (.move (.t 13))⟩, ⟨some 1, none, [], (.move (.t 93))⟩] false) (.exit 1))) .skip)) (.seq (.region [⟨some 95, none, [], (.move (.t 0))⟩, ⟨some 96, none, [], (.move (.t 1))⟩, ⟨some 97, none, [], (.move (.t 2))⟩, ⟨some 98, none, [], (.move (.t 11))⟩, ⟨some 99, none, [], (.call 59 [(.t 95), (.t 96), (.t 97), (.t 98)])⟩, ⟨some 94, none, [], (.move (.t 99))⟩, ⟨some 100, none, [], (.extract (.t 94) 0)⟩, ⟨some 101, none, [], (.extract (.t 94) 1)⟩, ⟨some 14, none, [], (.move (.t 100))⟩, ⟨some 15, none, [], (.move (.t 101))⟩] false) (.seq (.region [⟨some 102, none, [], (.move (.t 15))⟩, ⟨some 9, none, [], (.move (.t 102))⟩] false) (.seq (.region [⟨some 103, none, [], (.move (.t 14))⟩, ⟨some 104, none, [], (.move (.t 1))⟩, ⟨some 105, none, [], (.bin .sub (.t 103) (.t 104))⟩, ⟨some 106, none, [], (.move (.t 2))⟩, ⟨some 107, none, [], (.move (.t 14))⟩, ⟨some 108, none, [], (.bin .sub (.t 106) (.t 107))⟩, ⟨some 16, none, [], (.move (.t 105))⟩, ⟨some 17, none, [], (.move (.t 108))⟩] false) (.seq (.region [⟨some 109, none, [], (.move (.t 10))⟩, ⟨some 110, none, [], (.bin .quo (.t 109) (.c (.int .i64 8)))⟩, ⟨some 18, none, [], (.move (.t 110))⟩] false) (.seq (.region [⟨some 111, none, [], (.move (.t 16))⟩, ⟨some 112, none, [], (.move (.t 17))⟩, ⟨some 113, none, [], (.bin .lss (.t 111) (.t 112))⟩] false) (.cond (.t 113) (.seq (.region [⟨some 114, none, [], (.move (.t 16))⟩, ⟨some 115, none, [], (.move (.t 18))⟩, ⟨some 116, none, [], (.bin .geq (.t 114) (.t 115))⟩, ⟨some 8, none, [], (.move (.t 116))⟩] false) (.seq (.region [⟨some 117, none, [], (.move (.t 0))⟩, ⟨some 118, none, [], (.move (.t 1))⟩, ⟨some 119, none, [], (.move (.t 14))⟩, ⟨some 120, none, [], (.move (.t 3))⟩, ⟨some 121, none, [], (.call 31 [(.t 117), (.t 118), (.t 119), (.t 120)])⟩] false) (.region [⟨some 122, none, [], (.move (.t 14))⟩, ⟨some 123, none, [], (.bin .add (.t 122) (.c (.int .i64 1)))⟩, ⟨some 1, none, [], (.move (.t 123))⟩] false))) (.seq (.region [⟨some 124, none, [], (.move (.t 17))⟩, ⟨some 125, none, [], (.move (.t 18))⟩, ⟨some 126, none, [], (.bin .geq (.t 124) (.t 125))⟩, ⟨some 8, none, [], (.move (.t 126))⟩] false) (.seq (.region [⟨some 127, none, [], (.move (.t 0))⟩, ⟨some 128, none, [], (.move (.t 14))⟩, ⟨some 129, none, [], (.bin .add (.t 128) (.c (.int .i64 1)))⟩, ⟨some 130, none, [], (.move (.t 2))⟩, ⟨some 131, none, [], (.move (.t 3))⟩, ⟨some 132, none, [], (.call 31 [(.t 127), (.t 129), (.t 130), (.t 131)])⟩] false) (.region [⟨some 133, none, [], (.move (.t 14))⟩, ⟨some 2, none, [], (.move (.t 133))⟩] false))))))))))))))))) LP e s
    generalize hR4 : ((.seq (.region [⟨some 43, none, [], (.move (.t 0))⟩, ⟨some 44, none, [], (.move (.t 1))⟩, ⟨some 45, none, [], (.move (.t 2))⟩, ⟨some 46, none, [], (.call 54 [(.t 43), (.t 44), (.t 45)])⟩, ⟨some 42, none, [], (.move (.t 46))⟩, ⟨some 47, none, [], (.extract (.t 42) 0)⟩, ⟨some 48, none, [], (.extract (.t 42) 1)⟩, ⟨some 11, none, [], (.move (.t 47))⟩, ⟨some 12, none, [], (.move (.t 48))⟩] false) (.seq (.seq (.region [⟨some 49, none, [], (.move (.t 12))⟩, ⟨some 50, none, [], (.bin .eql (.t 49) (.c (.int .i64 2)))⟩] false) (.cond (.t 50) (.seq (.region [⟨some 51, none, [], (.move (.t 0))⟩, ⟨some 52, none, [], (.move (.t 1))⟩, ⟨some 53, none, [], (.move (.t 2))⟩, ⟨some 54, none, [], (.call 55 [(.t 51), (.t 52), (.t 53)])⟩] false) (.seq (.region [⟨some 55, none, [], (.move (.t 2))⟩, ⟨some 56, none, [], (.bin .sub (.t 55) (.c (.int .i64 1)))⟩, ⟨some 57, none, [], (.move (.t 11))⟩, ⟨some 58, none, [], (.move (.t 1))⟩, ⟨some 59, none, [], (.bin .sub (.t 57) (.t 58))⟩, ⟨some 60, none, [], (.bin .sub (.t 56) (.t 59))⟩, ⟨some 11, none, [], (.move (.t 60))⟩] false) (.region [⟨some 12, none, [], (.move (.c (.int .i64 1)))⟩] false))) .skip)) (.seq (.seq (.region [⟨some 61, none, [], (.move (.t 8))⟩, ⟨some 62, none, [], (.move (.t 61))⟩, ⟨some 63, some (62, true), [], (.move (.t 9))⟩, ⟨some 64, none, [], (.pick (.t 62) (.t 63) (.c (.bool false)))⟩, ⟨some 65, none, [], (.move (.t 64))⟩, ⟨some 66, some (65, true), [], (.move (.t 12))⟩, ⟨some 67, some (65, true), [], (.bin .eql (.t 66) (.c (.int .i64 1)))⟩, ⟨some 68, none, [], (.pick (.t 65) (.t 67) (.c (.bool false)))⟩] false) (.cond (.t 68) (.seq (.region [⟨some 69, none, [], (.move (.t 0))⟩, ⟨some 70, none, [], (.move (.t 1))⟩, ⟨some 71, none, [], (.move (.t 2))⟩, ⟨some 72, none, [], (.call 56 [(.t 69), (.t 70), (.t 71)])⟩] false) (.cond (.t 72) .ret .skip)) .skip)) (.seq (.seq (.regionP [⟨some 73, none, [], (.move (.t 1))⟩, ⟨some 74, none, [], (.bin .gtr (.t 73) (.c (.int .i64 0)))⟩, ⟨some 75, none, [], (.move (.t 74))⟩, ⟨some 76, some (75, true), [], (.move (.t 0))⟩, ⟨some 77, some (75, true), [], (.move (.t 1))⟩, ⟨some 78, some (75, true), [], (.bin .sub (.t 77) (.c (.int .i64 1)))⟩, ⟨some 79, some (75, true), [], (.idxSl 1 (.t 76) (.t 78))⟩, ⟨some 80, some (75, true), [], (.load false 1 (.t 79))⟩, ⟨some 81, some (75, true), [], (.move (.t 0))⟩, ⟨some 82, some (75, true), [], (.move (.t 11))⟩, ⟨some 83, some (75, true), [], (.idxSl 1 (.t 81) (.t 82))⟩, ⟨some 84, some (75, true), [], (.load false 1 (.t 83))⟩, ⟨some 85, some (75, true), [], (.call 57 [(.t 80), (.t 84)])⟩, ⟨some 86, some (75, true), [], (.un .not (.t 85))⟩, ⟨some 87, none, [], (.pick (.t 75) (.t 86) (.c (.bool false)))⟩]) (.cond (.t 87) (.seq (.region [⟨some 88, none, [], (.move (.t 0))⟩, ⟨some 89, none, [], (.move (.t 1))⟩, ⟨some 90, none, [], (.move (.t 2))⟩, ⟨some 91, none, [], (.move (.t 11))⟩, ⟨some 92, none, [], (.call 58 [(.t 88), (.t 89), (.t 90), (.t 91)])⟩, ⟨some 13, none, [], (.move (.t 92))⟩] false) (.seq (.region [⟨some 93, none, [], (.move (.t 13))⟩, ⟨some 1, none, [], (.move (.t 93))⟩] false) (.exit 1))) .skip)) (.seq (.region [⟨some 95, none, [], (.move (.t 0))⟩, ⟨some 96, none, [], (.move (.t 1))⟩, ⟨some 97, none, [], (.move (.t 2))⟩, ⟨some 98, none, [], (.move (.t 11))⟩, ⟨some 99, none, [], (.call 59 [(.t 95), (.t 96), (.t 97), (.t 98)])⟩, ⟨some 94, none, [], (.move (.t 99))⟩, ⟨some 100, none, [], (.extract (.t 94) 0)⟩, ⟨some 101, none, [], (.extract (.t 94) 1)⟩, ⟨some 14, none, [], (.move (.t 100))⟩, ⟨some 15, none, [], (.move (.t 101))⟩] false) (.seq (.region [⟨some 102, none, [], (.move (.t 15))⟩, ⟨some 9, none, [], (.move (.t 102))⟩] false) (.seq (.region [⟨some 103, none, [], (.move (.t 14))⟩, ⟨some 104, none, [], (.move (.t 1))⟩, ⟨some 105, none, [], (.bin .sub (.t 103) (.t 104))⟩, ⟨some 106, none, [], (.move (.t 2))⟩, ⟨some 107, none, [], (.move (.t 14))⟩, ⟨some 108, none, [], (.bin .sub (.t 106) (.t 107))⟩, ⟨some 16, none, [], (.move (.t 105))⟩, ⟨some 17, none, [], (.move (.t 108))⟩] false) (.seq (.region [⟨some 109, none, [], (.move (.t 10))⟩, ⟨some 110, none, [], (.bin .quo (.t 109) (.c (.int .i64 8)))⟩, ⟨some 18, none, [], (.move (.t 110))⟩] false) (.seq (.region [⟨some 111, none, [], (.move (.t 16))⟩, ⟨some 112, none, [], (.move (.t 17))⟩, ⟨some 113, none, [], (.bin .lss (.t 111) (.t 112))⟩] false) (.cond (.t 113) (.seq (.region [⟨some 114, none, [], (.move (.t 16))⟩, ⟨some 115, none, [], (.move (.t 18))⟩, ⟨some 116, none, [], (.bin .geq (.t 114) (.t 115))⟩, ⟨some 8, none, [], (.move (.t 116))⟩] false) (.seq (.region [⟨some 117, none, [], (.move (.t 0))⟩, ⟨some 118, none, [], (.move (.t 1))⟩, ⟨some 119, none, [], (.move (.t 14))⟩, ⟨some 120, none, [], (.move (.t 3))⟩, ⟨some 121, none, [], (.call 31 [(.t 117), (.t 118), (.t 119), (.t 120)])⟩] false) (.region [⟨some 122, none, [], (.move (.t 14))⟩, ⟨some 123, none, [], (.bin .add (.t 122) (.c (.int .i64 1)))⟩, ⟨some 1, none, [], (.move (.t 123))⟩] false))) (.seq (.region [⟨some 124, none, [], (.move (.t 17))⟩, ⟨some 125, none, [], (.move (.t 18))⟩, ⟨some 126, none, [], (.bin .geq (.t 124) (.t 125))⟩, ⟨some 8, none, [], (.move (.t 126))⟩] false) (.seq (.region [⟨some 127, none, [], (.move (.t 0))⟩, ⟨some 128, none, [], (.move (.t 14))⟩, ⟨some 129, none, [], (.bin .add (.t 128) (.c (.int .i64 1)))⟩, ⟨some 130, none, [], (.move (.t 2))⟩, ⟨some 131, none, [], (.move (.t 3))⟩, ⟨some 132, none, [], (.call 31 [(.t 127), (.t 129), (.t 130), (.t 131)])⟩] false) (.region [⟨some 133, none, [], (.move (.t 14))⟩, ⟨some 2, none, [], (.move (.t 133))⟩] false))))))))))))) : ICode) = RR4 at *
    clear hR4 hgo
    by_cases h12 : b - a ≤ 12
    · have c1 : ((b - a : Nat) : Int) ≤ 12 := by omega
      simp only [h0, h1, h2, h3, h8, h9, u1, c1, wk, wk1, wk2, Option.some.injEq, exists_eq_left', decide_true, decide_false, seval, go_regionPw, pw_normal]
      refine goCall_by (ins_ran hT.ins hL ho s B inc n cap ex (Nat.lt_of_lt_of_le hB hA.next) hn a b hab hbn f (Aft.refl hA.wfs hA.row)) ?_
      rintro v s1 ⟨rfl, g, hA1, hP1, hS1⟩
      simp only [wk, wk1, wk2, Option.some.injEq, exists_eq_left', decide_true, decide_false, seval, go_regionPw, pw_normal]
      exact hrt _ _ (K _ s1 g (hA.trans hA1) hP1 hS1)
    · have c1 : ¬ ((b - a : Nat) : Int) ≤ 12 := by omega
      by_cases hl0 : lim = 0
      · subst hl0
        simp only [h0, h1, h2, h3, h8, h9, u1, c1, wk, wk1, wk2, Option.some.injEq, exists_eq_left', decide_true, decide_false, seval, go_regionPw, pw_normal]
        refine goCall_by (heap_ran hT.heap hT.sift hL ho s B inc n cap ex (Nat.lt_of_lt_of_le hB hA.next) hn a b (by omega) hbn f (Aft.refl hA.wfs hA.row)) ?_
        rintro v s1 ⟨rfl, g, hA1, hP1, hS1⟩
        simp only [wk, wk1, wk2, Option.some.injEq, exists_eq_left', decide_true, decide_false, seval, go_regionPw, pw_normal]
        exact hrt _ _ (K _ s1 g (hA.trans hA1) hP1 hS1)
      · cases wb with
        | true =>
          simp only [h0, h1, h2, h3, h8, h9, u1, c1, hl0, wk, wk1, wk2, Option.some.injEq, exists_eq_left', decide_true, decide_false, seval, go_regionPw, pw_normal]
          refine h4' (by omega) lim true wp _ s f hpre hA ⟨?_, ?_, ?_, ?_, ?_, ?_, ?_⟩ K <;> simp only [h0, h1, h2, h3, h8, h9, wk, wk1, Nat.reduceEqDiff, reduceIte, decide_true]
        | false =>
          obtain ⟨lim', hlim⟩ : ∃ z : Int, wrapF .i64 (lim - 1) = z := ⟨_, rfl⟩
          simp only [h0, h1, h2, h3, h8, h9, u1, c1, hl0, wk, wk1, wk2, Option.some.injEq, exists_eq_left', decide_true, decide_false, seval, go_regionPw, pw_normal]
          refine goCall_by (bp_ran hT hL s B inc n cap ex (Nat.lt_of_lt_of_le hB hA.next) hn a b (by omega) hbn f (Aft.refl hA.wfs hA.row)) ?_
          rintro v s1 ⟨rfl, g, hA1, hP1⟩
          simp only [h0, h1, h2, h3, h8, h9, hlim, wk, wk1, wk2, Option.some.injEq, exists_eq_left', decide_true, decide_false, seval, go_regionPw, pw_normal]
          refine h4' (by omega) lim' false wp _ s1 g (hpre.perm hP1) (hA.trans hA1) ⟨?_, ?_, ?_, ?_, ?_, ?_, ?_⟩ (LoopK.from K hP1) <;> simp only [h0, h1, h2, h3, h8, h9, hlim, wk, wk1, Nat.reduceEqDiff, reduceIte, decide_true]

/-- slices.Sort, at a slice that is all of its row. -/
theorem sort_ran (hT : SortTab T) (hso : T 21 = some (.code ir21)) (hL : LessOk T 57 en lt) (ho : Ord lt) (s : St) (B inc n cap : Nat) (ex : Bool) (hB : B < s.next) (hn : n ≤ 1000000000) (f : Nat → α) (hA : Aft en s B inc n f s) :
    Ran T 21 [dsl B inc n cap ex] s fun v s' => v = .tuple [] ∧ ∃ g, Aft en s B inc n g s' ∧ PermR 0 n f g ∧ Srt lt 0 n g := by
  refine ran_code hso (Nat.le_of_ble_eq_true rfl) ?_
  have u1 : (n : Int) % 18446744073709551616 = (n : Int) := by omega
  generalize hQ : Fin _ _ = Q
  simp only [ir21, u1, wk, wk1, wk2, Option.some.injEq, exists_eq_left', decide_true, decide_false, seval, go_regionPw, pw_normal]
  refine goCall_by (len_ran hT.len hT.len64 s n hn) ?_
  rintro v s1 ⟨rfl, k, rfl, _, _⟩
  simp only [wk, wk1, wk2, Option.some.injEq, exists_eq_left', decide_true, decide_false, seval, go_regionPw, pw_normal]
  have key := pdq_of hT (pdq_all hT hL ho (cap := cap) (ex := ex) (B := B) (inc := inc) hn (n - 0)) s1 hB 0 n (Nat.zero_le _) rfl (Nat.le_refl _) (k : Int) f (fun h => by omega) hA
  refine goCall_by key ?_
  rintro v s2 ⟨rfl, g, hA2, hP2, hS2⟩
  subst hQ
  simp only [ir21, wk, wk1, wk2, Option.some.injEq, exists_eq_left', decide_true, decide_false, seval, go_regionPw, pw_normal]
  exact ⟨g, hA2, hP2, hS2⟩
theorem sort_nil (hT : SortTab T) (hso : T 21 = some (.code ir21)) (s : St) :
    Ran T 21 [.nilSlice] s fun v s' => v = .tuple [] ∧ s' = s := by
  refine ran_code hso (Nat.le_of_ble_eq_true rfl) ?_
  generalize hQ : Fin _ _ = Q
  simp only [ir21, wk, wk1, wk2, Option.some.injEq, exists_eq_left', decide_true, decide_false, seval, go_regionPw, pw_normal]
  have key := len_ran hT.len hT.len64 s 0 (by omega)
  refine goCall_by key ?_
  rintro v s1 ⟨rfl, k, rfl, _, _⟩
  simp only [wk, wk1, wk2, Option.some.injEq, exists_eq_left', decide_true, decide_false, seval, go_regionPw, pw_normal]
  have h1 : Ran T 31 [.nilSlice, .int .i64 0, .int .i64 0, .int .i64 (k : Int)] s1 fun v s' => v = .tuple [] ∧ s' = s1 := by
    refine ran_code hT.pdq (Nat.le_of_ble_eq_true rfl) ?_
    generalize hQ : Fin _ _ = Q
    simp only [ir31, wk, wk1, wk2, Option.some.injEq, exists_eq_left', decide_true, decide_false, seval, go_regionPw, pw_normal]
    rw [go_loop]
    simp only [wk, wk1, wk2, Option.some.injEq, exists_eq_left', decide_true, decide_false, seval, go_regionPw, pw_normal]
    have h2 : Ran T 51 [.nilSlice, .int .i64 0, .int .i64 0] s1 fun v s' => v = .tuple [] ∧ s' = s1 := by
      refine ran_code hT.ins (Nat.le_of_ble_eq_true rfl) ?_
      simp only [ir51, wk, wk1, wk2, Option.some.injEq, exists_eq_left', decide_true, decide_false, seval, go_regionPw, pw_normal]
      rw [go_loop]
      simp only [wk, wk1, wk2, Option.some.injEq, exists_eq_left', decide_true, decide_false, seval, go_regionPw, pw_normal]
    refine goCall_by h2 ?_
    rintro v s2 ⟨rfl, rfl⟩
    subst hQ
    simp only [ir31, wk, wk1, wk2, Option.some.injEq, exists_eq_left', decide_true, decide_false, seval, go_regionPw, pw_normal]
  refine goCall_by h1 ?_
  rintro v s2 ⟨rfl, rfl⟩
  subst hQ
  simp only [ir21, wk, wk1, wk2, Option.some.injEq, exists_eq_left', decide_true, decide_false, seval, go_regionPw, pw_normal]
end
end Go.V
