/- trace.Say: a contract. -/
import Derived.Test.YtipcimefenpjhaaGreatDoorTS2
set_option linter.unusedVariables false
set_option linter.unusedSimpArgs false
set_option linter.unusedSectionVars false
/- trace.Say: a contract. -/
namespace Go.V
open Go
set_option linter.unusedSimpArgs false
set_option linter.unusedVariables false
structure Mst where
  r : List Nat
  p : List Bool
  a : List Nat
  c : List Nat
  pc : Nat
  f : Nat
def uW (x : Nat) : AV := .int .u32 (x : Int)
def Mst.cells (m : Mst) : List AV := m.r.map (fun x : Nat => .int .u32 (x : Int)) ++ (m.p.map AV.bool ++ (m.a.map (fun x : Nat => .int .u32 (x : Int)) ++ (m.c.map (fun x : Nat => .int .u32 (x : Int)) ++ [.int .u32 (m.pc : Int), .int .u8 (m.f : Int)])))
structure Mst.Ok (m : Mst) : Prop where
  r : m.r.length = 32
  p : m.p.length = 4
  a : m.a.length = 2
  c : m.c.length = 2
  rl : ∀ x ∈ m.r, x < 4294967296
  al : ∀ x ∈ m.a, x < 4294967296
  cl : ∀ x ∈ m.c, x < 4294967296
  pl : m.pc < 4294967296
  fl : m.f < 256
def Mst.l1 (m : Mst) : List (List UInt8) := uptoE [114] m.r 32
def Mst.l2 (m : Mst) : List (List UInt8) := m.l1 ++ uptoF m.p 4
def Mst.l3 (m : Mst) : List (List UInt8) := m.l2 ++ uptoE [115, 97] m.a 2
def Mst.l4 (m : Mst) : List (List UInt8) := m.l3 ++ uptoE [108, 99] m.c 2
def Mst.l5 (m : Mst) : List (List UInt8) := if m.pc = 0 then m.l4 else m.l4 ++ [[112, 99] ++ [61] ++ hex8 m.pc]
def Mst.say (m : Mst) : List (List UInt8) := if m.f = 0 then m.l5 else m.l5 ++ [[102, 97, 117, 108, 116, 61] ++ digT m.f]
theorem Mst.len {m : Mst} (h : m.Ok) : m.cells.length = 42 := by simp [Mst.cells, h.r, h.p, h.a, h.c]
theorem Mst.d0 {m : Mst} (h : m.Ok) : m.cells.take 32 = m.r.map (fun x : Nat => .int .u32 (x : Int)) := by
  unfold Mst.cells
  exact List.take_left' (by simp [h.r])
theorem Mst.d1' {m : Mst} (h : m.Ok) : m.cells.drop 32 = m.p.map AV.bool ++ (m.a.map (fun x : Nat => .int .u32 (x : Int)) ++ (m.c.map (fun x : Nat => .int .u32 (x : Int)) ++ [.int .u32 (m.pc : Int), .int .u8 (m.f : Int)])) := by
  unfold Mst.cells
  exact List.drop_left' (by simp [h.r])
theorem Mst.d2' {m : Mst} (h : m.Ok) : m.cells.drop 36 = m.a.map (fun x : Nat => .int .u32 (x : Int)) ++ (m.c.map (fun x : Nat => .int .u32 (x : Int)) ++ [.int .u32 (m.pc : Int), .int .u8 (m.f : Int)]) := by
  rw [show 36 = 32 + 4 from rfl, ← List.drop_drop, Mst.d1' h]
  exact List.drop_left' (by simp [h.p])
theorem Mst.d3' {m : Mst} (h : m.Ok) : m.cells.drop 38 = m.c.map (fun x : Nat => .int .u32 (x : Int)) ++ [.int .u32 (m.pc : Int), .int .u8 (m.f : Int)] := by
  rw [show 38 = 36 + 2 from rfl, ← List.drop_drop, Mst.d2' h]
  exact List.drop_left' (by simp [h.a])
theorem Mst.d4' {m : Mst} (h : m.Ok) : m.cells.drop 40 = [.int .u32 (m.pc : Int), .int .u8 (m.f : Int)] := by
  rw [show 40 = 38 + 2 from rfl, ← List.drop_drop, Mst.d3' h]
  exact List.drop_left' (by simp [h.c])
theorem Mst.d1 {m : Mst} (h : m.Ok) : (m.cells.drop 32).take 4 = m.p.map AV.bool := by rw [Mst.d1' h]; exact List.take_left' (by simp [h.p])
theorem Mst.d2 {m : Mst} (h : m.Ok) : (m.cells.drop 36).take 2 = m.a.map (fun x : Nat => .int .u32 (x : Int)) := by rw [Mst.d2' h]; exact List.take_left' (by simp [h.a])
theorem Mst.d3 {m : Mst} (h : m.Ok) : (m.cells.drop 38).take 2 = m.c.map (fun x : Nat => .int .u32 (x : Int)) := by rw [Mst.d3' h]; exact List.take_left' (by simp [h.c])
theorem Mst.d5' {m : Mst} (h : m.Ok) : m.cells.drop 41 = [.int .u8 (m.f : Int)] := by
  rw [show 41 = 40 + 1 from rfl, ← List.drop_drop, Mst.d4' h]
  rfl
theorem Mst.n1 (m : Mst) : m.l1.length ≤ 32 := uptoE_len _ _ _
theorem Mst.n2 (m : Mst) : m.l2.length ≤ 36 := by have := m.n1; have := uptoF_len m.p 4; simp only [Mst.l2, List.length_append]; omega
theorem Mst.n3 (m : Mst) : m.l3.length ≤ 38 := by have := m.n2; have := uptoE_len [115, 97] m.a 2; simp only [Mst.l3, List.length_append]; omega
theorem Mst.n4 (m : Mst) : m.l4.length ≤ 40 := by have := m.n3; have := uptoE_len [108, 99] m.c 2; simp only [Mst.l4, List.length_append]; omega
theorem Mst.n5 (m : Mst) : m.l5.length ≤ 41 := by have := m.n4; unfold Mst.l5; split <;> simp <;> omega
theorem i64_of {n : Nat} (h : n ≤ 1000000) : wrapF .i64 (n : Int) = (n : Int) := by
  rw [wrap_i64 _ (by omega) (by omega)]
section
variable {T : Tab}
set_option maxHeartbeats 4000000 in
theorem say_ran (hs : T 4 = some (.code ir4)) {sG0 : St} (hi : ∀ (s : St) (n : Nat), Ext sG0 s → n < 256 → Ran T 8 [.int .i64 (n : Int)] s fun v s' => v = .str (digT n) ∧ s' = s) (hc : T 7 = some (.code ir7)) (hh : T 12 = some (.code ir12))
    (s : St) (hw : WFS s) (hG0 : Ext sG0 s) (m : Mst) (hm : m.Ok) :
    Ran T 4 [.agg m.cells] s fun v s' => ∃ b, s.next ≤ b ∧ Slc b s' 1 m.say.length v (m.say.map AV.str) ∧ Ext s s' := by
  refine ran_code hs (Nat.le_of_ble_eq_true rfl) ?_
  generalize hQ : Fin _ _ = Q
  have hlen := Mst.len hm
  have hd0 := Mst.d0 hm
  have hg : ∀ (o : AObj) (s1 : St), Low (s.next + 1) ((s.add (.cells m.cells 0 0 false)).add o) s1 → s1.heap.get s.next = some (.cells m.cells 0 0 false) := by
    intro o s1 h
    rw [h.2 s.next (by omega), add_get, if_neg (by show s.next ≠ s.next + 1; omega), add_get, if_pos rfl]
  have hd1 := Mst.d1 hm
  have hG : Ext sG0 ((s.add (.cells m.cells 0 0 false)).add (.cells [.nilSlice] 0 0 false)) := (hG0.add _).add _
  have hp0 : sG0.next ≤ s.next + 1 := Nat.le_succ_of_le hG0.2.1
  have hfin : ∀ {s1 : St}, WFS s1 → Low (s.next + 1) ((s.add (.cells m.cells 0 0 false)).add (.cells [.nilSlice] 0 0 false)) s1 → Ext s s1 := by
    intro s1 h1 h2
    refine ⟨h1, ?_, fun id hid => ?_⟩
    · have : s.next + 1 + 1 ≤ s1.next := h2.1
      omega
    · rw [h2.2 id (by omega), add_get, if_neg (by show id ≠ s.next + 1; omega), add_get, if_neg (by omega)]
  have hd2 := Mst.d2 hm
  have hd3 := Mst.d3 hm
  have hd4 := Mst.d4' hm
  have hd5 := Mst.d5' hm
  simp only [ir4, hlen, hd0, wk, wk1, wk2, Option.some.injEq, exists_eq_left', decide_true, decide_false, Nat.reduceAdd, Nat.reduceEqDiff, Nat.reduceLeDiff, Nat.reduceLT, Nat.reduceMul, Nat.reduceBEq, Int.reduceLT, Int.reduceLE, Int.reduceEq, Int.reduceAdd, Int.reduceSub, Int.reduceMul, Int.reduceMod, Int.reduceTMod, Int.reduceTDiv, Int.reduceNeg, Nat.reduceSub, Nat.reduceDiv, reduceIte, reduceCtorEq]
  have LL := sayR_loop (T := T) (Q := Q) hi hc hh (p := s.next + 1) (sa := .ptr ⟨s.next, 0, 0, 42⟩) hm.r hm.rl [] (by simp) ((s.add (.cells m.cells 0 0 false)).add (.cells [.nilSlice] 0 0 false)) hG hp0 ?_ 32 0
  refine LL _ _ (Nat.add_zero 32) ?_ ?_ ?_ ?_ ?_ (Low.refl _ _)
  rotate_left 5
  · intro e s1 h3 h1 hb hl
    have hst := hg _ s1 hl
    have e1 : [] ++ uptoE [114] m.r 32 = m.l1 := by rw [Mst.l1, List.nil_append]
    rw [e1] at hb
    simp only [h1, h3, hst, hd1, hlen, wk, wk1, wk2, Option.some.injEq, exists_eq_left', decide_true, decide_false, Nat.reduceAdd, Nat.reduceEqDiff, Nat.reduceLeDiff, Nat.reduceLT, Nat.reduceMul, Nat.reduceBEq, Int.reduceLT, Int.reduceLE, Int.reduceEq, Int.reduceAdd, Int.reduceSub, Int.reduceMul, Int.reduceMod, Int.reduceTMod, Int.reduceTDiv, Int.reduceNeg, Nat.reduceSub, Nat.reduceDiv, reduceIte, reduceCtorEq]
    have LL := sayP_loop (T := T) (Q := Q) hi (p := s.next + 1) (sa := .ptr ⟨s.next, 0, 0, 42⟩) hm.p m.l1 (by have := m.n1; omega) ((s.add (.cells m.cells 0 0 false)).add (.cells [.nilSlice] 0 0 false)) hG hp0 ?_ 4 0
    refine LL _ _ (Nat.add_zero 4) ?_ ?_ ?_ ?_ ?_ hl
    rotate_left 5
    · intro e s1 h3 h1 hb hl
      have hst := hg _ s1 hl
      have e1 : m.l1 ++ uptoF m.p 4 = m.l2 := by rw [Mst.l2]
      rw [e1] at hb
      simp only [h1, h3, hst, hd2, hlen, wk, wk1, wk2, Option.some.injEq, exists_eq_left', decide_true, decide_false, Nat.reduceAdd, Nat.reduceEqDiff, Nat.reduceLeDiff, Nat.reduceLT, Nat.reduceMul, Nat.reduceBEq, Int.reduceLT, Int.reduceLE, Int.reduceEq, Int.reduceAdd, Int.reduceSub, Int.reduceMul, Int.reduceMod, Int.reduceTMod, Int.reduceTDiv, Int.reduceNeg, Nat.reduceSub, Nat.reduceDiv, reduceIte, reduceCtorEq]
      have LL := sayS_loop (T := T) (Q := Q) hi hc hh (p := s.next + 1) (sa := .ptr ⟨s.next, 0, 0, 42⟩) hm.a hm.al m.l2 (by have := m.n2; omega) ((s.add (.cells m.cells 0 0 false)).add (.cells [.nilSlice] 0 0 false)) hG hp0 ?_ 2 0
      refine LL _ _ (Nat.add_zero 2) ?_ ?_ ?_ ?_ ?_ hl
      rotate_left 5
      · intro e s1 h3 h1 hb hl
        have hst := hg _ s1 hl
        have e1 : m.l2 ++ uptoE [115, 97] m.a 2 = m.l3 := by rw [Mst.l3]
        rw [e1] at hb
        simp only [h1, h3, hst, hd3, hlen, wk, wk1, wk2, Option.some.injEq, exists_eq_left', decide_true, decide_false, Nat.reduceAdd, Nat.reduceEqDiff, Nat.reduceLeDiff, Nat.reduceLT, Nat.reduceMul, Nat.reduceBEq, Int.reduceLT, Int.reduceLE, Int.reduceEq, Int.reduceAdd, Int.reduceSub, Int.reduceMul, Int.reduceMod, Int.reduceTMod, Int.reduceTDiv, Int.reduceNeg, Nat.reduceSub, Nat.reduceDiv, reduceIte, reduceCtorEq]
        have LL := sayC_loop (T := T) (Q := Q) hi hc hh (p := s.next + 1) (sa := .ptr ⟨s.next, 0, 0, 42⟩) hm.c hm.cl m.l3 (by have := m.n3; omega) ((s.add (.cells m.cells 0 0 false)).add (.cells [.nilSlice] 0 0 false)) hG hp0 ?_ 2 0
        refine LL _ _ (Nat.add_zero 2) ?_ ?_ ?_ ?_ ?_ hl
        rotate_left 5
        · intro e s1 h3 h1 hb hl
          have hst := hg _ s1 hl
          have e1 : m.l3 ++ uptoE [108, 99] m.c 2 = m.l4 := by rw [Mst.l4]
          rw [e1] at hb
          simp only [h1, h3, hst, hd4, hlen, wk, wk1, wk2, Option.some.injEq, exists_eq_left', decide_true, decide_false, Nat.reduceAdd, Nat.reduceEqDiff, Nat.reduceLeDiff, Nat.reduceLT, Nat.reduceMul, Nat.reduceBEq, Int.reduceLT, Int.reduceLE, Int.reduceEq, Int.reduceAdd, Int.reduceSub, Int.reduceMul, Int.reduceMod, Int.reduceTMod, Int.reduceTDiv, Int.reduceNeg, Nat.reduceSub, Nat.reduceDiv, reduceIte, reduceCtorEq]
          have hn4 := m.n4
          have hn5 := m.n5
          refine goCall_by (says_ran hc hh hb (by omega) [112, 99] (by decide) m.pc hm.pl) ?_
          rintro r s2 ⟨rfl, hb2, hl2⟩
          have e2 : (if m.pc = 0 then m.l4 else m.l4 ++ [[112, 99] ++ [61] ++ hex8 m.pc]) = m.l5 := by rw [Mst.l5]
          rw [e2] at hb2
          have hl3 := hl.trans hl2
          have hst2 := hg _ s2 hl3
          obtain ⟨hp, hws, v, hv, hsl⟩ := id hb2
          by_cases hf : m.f = 0
          · have hd : (m.f : Int) = 0 := by omega
            simp only [h1, h3, hst2, hd5, hlen, hd, hv, wk, wk1, wk2, Option.some.injEq, exists_eq_left', decide_true, decide_false, Nat.reduceAdd, Nat.reduceEqDiff, Nat.reduceLeDiff, Nat.reduceLT, Nat.reduceMul, Nat.reduceBEq, Int.reduceLT, Int.reduceLE, Int.reduceEq, Int.reduceAdd, Int.reduceSub, Int.reduceMul, Int.reduceMod, Int.reduceTMod, Int.reduceTDiv, Int.reduceNeg, Nat.reduceSub, Nat.reduceDiv, reduceIte, reduceCtorEq]
            subst hQ
            simp only [ir4, h1, h3, hv, wk, wk1, wk2, Option.some.injEq, exists_eq_left', decide_true, decide_false, Nat.reduceAdd, Nat.reduceEqDiff, Nat.reduceLeDiff, Nat.reduceLT, Nat.reduceMul, Nat.reduceBEq, Int.reduceLT, Int.reduceLE, Int.reduceEq, Int.reduceAdd, Int.reduceSub, Int.reduceMul, Int.reduceMod, Int.reduceTMod, Int.reduceTDiv, Int.reduceNeg, Nat.reduceSub, Nat.reduceDiv, reduceIte, reduceCtorEq]
            rw [Mst.say, if_pos hf]
            exact ⟨s.next + 1 + 1, by omega, hsl, hfin hws hl3⟩
          · have hd : ¬ (m.f : Int) = 0 := by omega
            simp only [h1, h3, hst2, hd5, hlen, hd, hv, wk, wk1, wk2, Option.some.injEq, exists_eq_left', decide_true, decide_false, Nat.reduceAdd, Nat.reduceEqDiff, Nat.reduceLeDiff, Nat.reduceLT, Nat.reduceMul, Nat.reduceBEq, Int.reduceLT, Int.reduceLE, Int.reduceEq, Int.reduceAdd, Int.reduceSub, Int.reduceMul, Int.reduceMod, Int.reduceTMod, Int.reduceTDiv, Int.reduceNeg, Nat.reduceSub, Nat.reduceDiv, reduceIte, reduceCtorEq]
            refine go_regionP ?_
            have hfw : wrapF .i64 (m.f : Int) = (m.f : Int) := i64_of (by have := hm.fl; omega)
            simp only [h1, h3, hst2, hd5, hlen, hd, hv, hfw, wk, wk1, wk2, Option.some.injEq, exists_eq_left', decide_true, decide_false, Nat.reduceAdd, Nat.reduceEqDiff, Nat.reduceLeDiff, Nat.reduceLT, Nat.reduceMul, Nat.reduceBEq, Int.reduceLT, Int.reduceLE, Int.reduceEq, Int.reduceAdd, Int.reduceSub, Int.reduceMul, Int.reduceMod, Int.reduceTMod, Int.reduceTDiv, Int.reduceNeg, Nat.reduceSub, Nat.reduceDiv, reduceIte, reduceCtorEq]
            refine goCall ((hi s2 m.f (ext_low hG hl3 hp0 hws) hm.fl).mono ?_)
            rintro r s3 ⟨rfl, rfl⟩
            obtain ⟨v', s4, a1, a2, a3, a4, a5⟩ := hb2.app hv (by omega) ([102, 97, 117, 108, 116, 61] ++ digT m.f)
            refine ⟨by simp only [watch_cons, watch_nil, h3, wat_ptr, opdt_set, reduceIte, hv, sameObj_refl, Nat.reduceEqDiff, Bool.and_self], ?_⟩
            have hl6 : 6 + (digT m.f).length ≤ 1099511627776 := by have := digT_len m.f; omega
            have hc1 : v'.cells = [v'] := cells_cell a2
            simp only [List.cons_append, List.nil_append] at a1 a4
            simp only [h1, h3, hst2, hd5, hlen, hd, hv, hl6, a1, a2, a3, hc1, wk, wk1, wk2, Option.some.injEq, exists_eq_left', decide_true, decide_false, Nat.reduceAdd, Nat.reduceEqDiff, Nat.reduceLeDiff, Nat.reduceLT, Nat.reduceMul, Nat.reduceBEq, Int.reduceLT, Int.reduceLE, Int.reduceEq, Int.reduceAdd, Int.reduceSub, Int.reduceMul, Int.reduceMod, Int.reduceTMod, Int.reduceTDiv, Int.reduceNeg, Nat.reduceSub, Nat.reduceDiv, reduceIte, reduceCtorEq]
            obtain ⟨hp', hws', v2, hv2, hsl2⟩ := id a4
            have hvv : v' = v2 := by
              rw [put_get, if_pos rfl] at hv2
              cases hv2
              rfl
            subst hvv
            subst hQ
            simp only [ir4, wk, wk1, wk2, Option.some.injEq, exists_eq_left', decide_true, decide_false, Nat.reduceAdd, Nat.reduceEqDiff, Nat.reduceLeDiff, Nat.reduceLT, Nat.reduceMul, Nat.reduceBEq, Int.reduceLT, Int.reduceLE, Int.reduceEq, Int.reduceAdd, Int.reduceSub, Int.reduceMul, Int.reduceMod, Int.reduceTMod, Int.reduceTDiv, Int.reduceNeg, Nat.reduceSub, Nat.reduceDiv, reduceIte, reduceCtorEq]
            rw [Mst.say, if_neg hf]
            exact ⟨s.next + 1 + 1, by omega, hsl2, hfin hws' (hl3.trans a5)⟩
        · simp only [wk, wk1, wk2, Option.some.injEq, exists_eq_left', decide_true, decide_false, Nat.reduceAdd, Nat.reduceEqDiff, Nat.reduceLeDiff, Nat.reduceLT, Nat.reduceMul, Nat.reduceBEq, Int.reduceLT, Int.reduceLE, Int.reduceEq, Int.reduceAdd, Int.reduceSub, Int.reduceMul, Int.reduceMod, Int.reduceTMod, Int.reduceTDiv, Int.reduceNeg, Nat.reduceSub, Nat.reduceDiv, reduceIte, reduceCtorEq]
        · simp only [wk, wk1, wk2, Option.some.injEq, exists_eq_left', decide_true, decide_false, Nat.reduceAdd, Nat.reduceEqDiff, Nat.reduceLeDiff, Nat.reduceLT, Nat.reduceMul, Nat.reduceBEq, Int.reduceLT, Int.reduceLE, Int.reduceEq, Int.reduceAdd, Int.reduceSub, Int.reduceMul, Int.reduceMod, Int.reduceTMod, Int.reduceTDiv, Int.reduceNeg, Nat.reduceSub, Nat.reduceDiv, reduceIte, reduceCtorEq]
        · simp only [h3, wk, wk1, wk2, Option.some.injEq, exists_eq_left', decide_true, decide_false, Nat.reduceAdd, Nat.reduceEqDiff, Nat.reduceLeDiff, Nat.reduceLT, Nat.reduceMul, Nat.reduceBEq, Int.reduceLT, Int.reduceLE, Int.reduceEq, Int.reduceAdd, Int.reduceSub, Int.reduceMul, Int.reduceMod, Int.reduceTMod, Int.reduceTDiv, Int.reduceNeg, Nat.reduceSub, Nat.reduceDiv, reduceIte, reduceCtorEq]
        · simp only [h1, wk, wk1, wk2, Option.some.injEq, exists_eq_left', decide_true, decide_false, Nat.reduceAdd, Nat.reduceEqDiff, Nat.reduceLeDiff, Nat.reduceLT, Nat.reduceMul, Nat.reduceBEq, Int.reduceLT, Int.reduceLE, Int.reduceEq, Int.reduceAdd, Int.reduceSub, Int.reduceMul, Int.reduceMod, Int.reduceTMod, Int.reduceTDiv, Int.reduceNeg, Nat.reduceSub, Nat.reduceDiv, reduceIte, reduceCtorEq]
        · rw [show ∀ Z : List (List UInt8), Z ++ uptoE _ _ 0 = Z from fun Z => List.append_nil Z]; exact hb
      · simp only [wk, wk1, wk2, Option.some.injEq, exists_eq_left', decide_true, decide_false, Nat.reduceAdd, Nat.reduceEqDiff, Nat.reduceLeDiff, Nat.reduceLT, Nat.reduceMul, Nat.reduceBEq, Int.reduceLT, Int.reduceLE, Int.reduceEq, Int.reduceAdd, Int.reduceSub, Int.reduceMul, Int.reduceMod, Int.reduceTMod, Int.reduceTDiv, Int.reduceNeg, Nat.reduceSub, Nat.reduceDiv, reduceIte, reduceCtorEq]
      · simp only [wk, wk1, wk2, Option.some.injEq, exists_eq_left', decide_true, decide_false, Nat.reduceAdd, Nat.reduceEqDiff, Nat.reduceLeDiff, Nat.reduceLT, Nat.reduceMul, Nat.reduceBEq, Int.reduceLT, Int.reduceLE, Int.reduceEq, Int.reduceAdd, Int.reduceSub, Int.reduceMul, Int.reduceMod, Int.reduceTMod, Int.reduceTDiv, Int.reduceNeg, Nat.reduceSub, Nat.reduceDiv, reduceIte, reduceCtorEq]
      · simp only [h3, wk, wk1, wk2, Option.some.injEq, exists_eq_left', decide_true, decide_false, Nat.reduceAdd, Nat.reduceEqDiff, Nat.reduceLeDiff, Nat.reduceLT, Nat.reduceMul, Nat.reduceBEq, Int.reduceLT, Int.reduceLE, Int.reduceEq, Int.reduceAdd, Int.reduceSub, Int.reduceMul, Int.reduceMod, Int.reduceTMod, Int.reduceTDiv, Int.reduceNeg, Nat.reduceSub, Nat.reduceDiv, reduceIte, reduceCtorEq]
      · simp only [h1, wk, wk1, wk2, Option.some.injEq, exists_eq_left', decide_true, decide_false, Nat.reduceAdd, Nat.reduceEqDiff, Nat.reduceLeDiff, Nat.reduceLT, Nat.reduceMul, Nat.reduceBEq, Int.reduceLT, Int.reduceLE, Int.reduceEq, Int.reduceAdd, Int.reduceSub, Int.reduceMul, Int.reduceMod, Int.reduceTMod, Int.reduceTDiv, Int.reduceNeg, Nat.reduceSub, Nat.reduceDiv, reduceIte, reduceCtorEq]
      · rw [show ∀ Z : List (List UInt8), Z ++ uptoE _ _ 0 = Z from fun Z => List.append_nil Z]; exact hb
    · simp only [wk, wk1, wk2, Option.some.injEq, exists_eq_left', decide_true, decide_false, Nat.reduceAdd, Nat.reduceEqDiff, Nat.reduceLeDiff, Nat.reduceLT, Nat.reduceMul, Nat.reduceBEq, Int.reduceLT, Int.reduceLE, Int.reduceEq, Int.reduceAdd, Int.reduceSub, Int.reduceMul, Int.reduceMod, Int.reduceTMod, Int.reduceTDiv, Int.reduceNeg, Nat.reduceSub, Nat.reduceDiv, reduceIte, reduceCtorEq]
    · simp only [wk, wk1, wk2, Option.some.injEq, exists_eq_left', decide_true, decide_false, Nat.reduceAdd, Nat.reduceEqDiff, Nat.reduceLeDiff, Nat.reduceLT, Nat.reduceMul, Nat.reduceBEq, Int.reduceLT, Int.reduceLE, Int.reduceEq, Int.reduceAdd, Int.reduceSub, Int.reduceMul, Int.reduceMod, Int.reduceTMod, Int.reduceTDiv, Int.reduceNeg, Nat.reduceSub, Nat.reduceDiv, reduceIte, reduceCtorEq]
    · simp only [h3, wk, wk1, wk2, Option.some.injEq, exists_eq_left', decide_true, decide_false, Nat.reduceAdd, Nat.reduceEqDiff, Nat.reduceLeDiff, Nat.reduceLT, Nat.reduceMul, Nat.reduceBEq, Int.reduceLT, Int.reduceLE, Int.reduceEq, Int.reduceAdd, Int.reduceSub, Int.reduceMul, Int.reduceMod, Int.reduceTMod, Int.reduceTDiv, Int.reduceNeg, Nat.reduceSub, Nat.reduceDiv, reduceIte, reduceCtorEq]
    · simp only [h1, wk, wk1, wk2, Option.some.injEq, exists_eq_left', decide_true, decide_false, Nat.reduceAdd, Nat.reduceEqDiff, Nat.reduceLeDiff, Nat.reduceLT, Nat.reduceMul, Nat.reduceBEq, Int.reduceLT, Int.reduceLE, Int.reduceEq, Int.reduceAdd, Int.reduceSub, Int.reduceMul, Int.reduceMod, Int.reduceTMod, Int.reduceTDiv, Int.reduceNeg, Nat.reduceSub, Nat.reduceDiv, reduceIte, reduceCtorEq]
    · rw [show ∀ Z : List (List UInt8), Z ++ uptoF _ 0 = Z from fun Z => List.append_nil Z]; exact hb
  · simp only [wk, wk1, wk2, Option.some.injEq, exists_eq_left', decide_true, decide_false, Nat.reduceAdd, Nat.reduceEqDiff, Nat.reduceLeDiff, Nat.reduceLT, Nat.reduceMul, Nat.reduceBEq, Int.reduceLT, Int.reduceLE, Int.reduceEq, Int.reduceAdd, Int.reduceSub, Int.reduceMul, Int.reduceMod, Int.reduceTMod, Int.reduceTDiv, Int.reduceNeg, Nat.reduceSub, Nat.reduceDiv, reduceIte, reduceCtorEq]
  · simp only [wk, wk1, wk2, Option.some.injEq, exists_eq_left', decide_true, decide_false, Nat.reduceAdd, Nat.reduceEqDiff, Nat.reduceLeDiff, Nat.reduceLT, Nat.reduceMul, Nat.reduceBEq, Int.reduceLT, Int.reduceLE, Int.reduceEq, Int.reduceAdd, Int.reduceSub, Int.reduceMul, Int.reduceMod, Int.reduceTMod, Int.reduceTDiv, Int.reduceNeg, Nat.reduceSub, Nat.reduceDiv, reduceIte, reduceCtorEq]
  · simp only [wk, wk1, wk2, Option.some.injEq, exists_eq_left', decide_true, decide_false, Nat.reduceAdd, Nat.reduceEqDiff, Nat.reduceLeDiff, Nat.reduceLT, Nat.reduceMul, Nat.reduceBEq, Int.reduceLT, Int.reduceLE, Int.reduceEq, Int.reduceAdd, Int.reduceSub, Int.reduceMul, Int.reduceMod, Int.reduceTMod, Int.reduceTDiv, Int.reduceNeg, Nat.reduceSub, Nat.reduceDiv, reduceIte, reduceCtorEq]
  · simp only [wk, wk1, wk2, Option.some.injEq, exists_eq_left', decide_true, decide_false, Nat.reduceAdd, Nat.reduceEqDiff, Nat.reduceLeDiff, Nat.reduceLT, Nat.reduceMul, Nat.reduceBEq, Int.reduceLT, Int.reduceLE, Int.reduceEq, Int.reduceAdd, Int.reduceSub, Int.reduceMul, Int.reduceMod, Int.reduceTMod, Int.reduceTDiv, Int.reduceNeg, Nat.reduceSub, Nat.reduceDiv, reduceIte, reduceCtorEq]
  · refine ⟨by show s.next + 1 < s.next + 1 + 1; omega, (hw.add _).add _, .nilSlice, ?_, .nil _ _ _⟩
    exact (add_get _ _ _).trans (if_pos rfl)
end
end Go.V
