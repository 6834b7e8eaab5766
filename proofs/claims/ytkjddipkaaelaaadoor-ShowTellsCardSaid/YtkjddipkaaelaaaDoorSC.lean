/- show's document: digits, signed. -/
import Derived.Test.YtkjddipkaaelaaaDoorVZ
import Derived.Test.YtkjddipkaaelaaaDoorSB
import Derived.KernelRfl
set_option linter.unusedVariables false
set_option linter.unusedSimpArgs false
set_option linter.unusedSectionVars false
/- show's document: digits, signed. -/
/- show's document: digits, signed. -/
namespace Go.V
open Go
set_option linter.unusedSimpArgs false
set_option linter.unusedVariables false
section
open Z
abbrev rS0l1 : ICode := .seq (R [(m 30 5),(m 4 30)]) .ret
abbrev rS0l0 : ICode := .loop (q (q (R [(m 14 0),(m 15 1),(o 16 (.bin .geq t14 t15))]) (.cond t16 .skip (.exit 0))) (.block 1 (q (R [(m 17 0),(m 18 1),(o 19 (.bin .quo t17 t18)),(m 0 19)]) (.region [(m 20 0),(m 21 1),(o 22 (.bin .rem t20 t21)),(m 23 0),(m 24 1),(o 25 (.bin .rem t23 t24)),(o 26 (.bin .add t25 (I 1))),(o 27 (.sliceStr (sc [48,49,50,51,52,53,54,55,56,57,97,98,99,100,101,102]) (some t22) (some t26))),(m 28 5),(o 29 (.bin .add t27 t28)),(m 5 29)] true))))
end
open Z in def ir21 : IFunc := ⟨31,[.tmp 4],(q (R [(o 4 (.move (sc [])))]) (q (.region [(m 6 0),(m 7 1),(o 8 (.bin .rem t6 t7)),(m 9 0),(m 10 1),(o 11 (.bin .rem t9 t10)),(o 12 (.bin .add t11 (I 1))),(o 13 (.sliceStr (sc [48,49,50,51,52,53,54,55,56,57,97,98,99,100,101,102]) (some t8) (some t12))),(m 5 13)] true) (q (.block 0 rS0l0) rS0l1)))⟩
def dgo (b : Nat) : Nat → Nat → List UInt8 → List UInt8
  | 0, _, acc => acc
  | f + 1, y, acc => if y < b then hexD y :: acc else dgo b f (y / b) (hexD (y % b) :: acc)
theorem dgo_hex : ∀ (f y : Nat) (acc : List UInt8), dgo 16 f y acc = hexGo f y acc
  | 0, _, _ => rfl
  | f + 1, y, acc => by simp only [dgo, hexGo, dgo_hex f]
theorem dec_digits : ∀ (f y : Nat) (acc : List UInt8), y < 10 ^ f → dgo 10 (f + 1) y acc = Lib.decDigits y ++ acc
  | f, y, acc, h => by
    rw [Lib.decDigits.eq_def]
    unfold dgo
    by_cases hy : y < 10
    · rw [if_pos hy, dif_pos hy]
      simp [hexD, hy]
    · rw [if_neg hy, dif_neg hy]
      cases f with
      | zero => simp at h; omega
      | succ f =>
        rw [dec_digits f (y / 10) _ (by rw [Nat.pow_succ] at h; omega), List.append_assoc]
        simp [hexD, Nat.mod_lt]
def row16 : List UInt8 := [48, 49, 50, 51, 52, 53, 54, 55, 56, 57, 97, 98, 99, 100, 101, 102]
theorem row16_at : ∀ n, n < 16 → (row16.take (n + 1)).drop n = [hexD n] := by decide
theorem ss16 (n : Nat) (h : n < 16) : sliceStrV (.str [48, 49, 50, 51, 52, 53, 54, 55, 56, 57, 97, 98, 99, 100, 101, 102]) (some (.int .i64 (n : Int))) (some (.int .i64 ((n + 1 : Nat) : Int))) = some (.str [hexD n]) := by
  show (match (if n + 1 ≤ 16 then some (n + 1) else none) with
    | some h => match (if n ≤ h then some n else none) with
      | some l => some (AV.str ((row16.take h).drop l))
      | none => none
    | none => none) = _
  rw [if_pos (by omega)]
  simp only []
  rw [if_pos (by omega)]
  simp only [row16_at n h]
section
variable {T : Tab}
set_option maxHeartbeats 4000000 in
theorem dg_loop {Q : Post} {s : St} {b : Nat} {R : List UInt8} (hb0 : 0 < b) (hb : b ≤ 16)
    (K : ∀ e : Env, opd e (.t 5) = .str R → Ret T Q [.seq rS0l1] .normal e s) :
    ∀ (f y : Nat) (X : List UInt8) (e : Env), y ≤ 9223372036854775807 → y < b ^ (f + 1) → dgo b (f + 1) y X = R → X.length + f < 100 → opd e (.t 0) = .int .i64 (y : Int) → opd e (.t 1) = .int .i64 (b : Int) → opd e (.t 5) = .str (hexD (y % b) :: X) →
      Go T Q (rS0l0) [.block 0, .seq rS0l1] e s := by
  intro f
  induction f with
  | zero =>
    intro y X e hy hyb hR hl h0 h1 h5
    have hlt : y < b := by simpa using hyb
    have hy' : ¬ (b : Int) ≤ (y : Int) := by omega
    rw [go_loop]
    generalize ([.seq rS0l1] : List Fr) = FF at *
    simp only [h0, h1, hy', wk, wk1, wk2, Option.some.injEq, exists_eq_left', decide_true, decide_false, seval, go_regionPw, pw_normal]
    refine K _ ?_
    simp only [h5, wk, wk1, wk2, Option.some.injEq, exists_eq_left', decide_true, decide_false, seval, go_regionPw, pw_normal]
    rw [← hR]; simp [dgo, hlt, Nat.mod_eq_of_lt hlt]
  | succ f ih =>
    intro y X e hy hyb hR hl h0 h1 h5
    by_cases hlt : y < b
    · have hy' : ¬ (b : Int) ≤ (y : Int) := by omega
      rw [go_loop]
      generalize ([.seq rS0l1] : List Fr) = FF at *
      simp only [h0, h1, hy', wk, wk1, wk2, Option.some.injEq, exists_eq_left', decide_true, decide_false, seval, go_regionPw, pw_normal]
      refine K _ ?_
      simp only [h5, wk, wk1, wk2, Option.some.injEq, exists_eq_left', decide_true, decide_false, seval, go_regionPw, pw_normal]
      rw [← hR]; simp [dgo, hlt, Nat.mod_eq_of_lt hlt]
    · have hy' : (b : Int) ≤ (y : Int) := by omega
      have hn0 : ¬ (b : Int) = 0 := by omega
      have d1 : Int.tdiv (y : Int) (b : Int) = ((y / b : Nat) : Int) := (Int.ofNat_tdiv y b).symm
      have d2 : Int.tmod ((y / b : Nat) : Int) (b : Int) = ((y / b % b : Nat) : Int) := (Int.ofNat_tmod (y / b) b).symm
      have hm : y / b % b < 16 := Nat.lt_of_lt_of_le (Nat.mod_lt _ hb0) hb
      have hyb2 : y / b ≤ y := Nat.div_le_self _ _
      have w1 : wrapF .i64 ((y / b : Nat) : Int) = ((y / b : Nat) : Int) := by
        generalize y / b = q at *
        exact wrap_i64 _ (by omega) (by omega)
      have w2 : wrapF .i64 (((y / b % b : Nat) : Int) + 1) = ((y / b % b + 1 : Nat) : Int) := by
        generalize y / b % b = q at *
        rw [wrap_i64 _ (by omega) (by omega)]; omega
      have m1 := ss16 (y / b % b) hm
      have l1 : 1 + (X.length + 1) ≤ 1099511627776 := by omega
      rw [go_loop]
      generalize ([.seq rS0l1] : List Fr) = FF at *
      simp only [h0, h1, h5, hy', hn0, d1, w1, d2, w2, m1, l1, List.length_cons, wk, wk1, wk2, Option.some.injEq, exists_eq_left', decide_true, decide_false, seval, go_regionPw, pw_normal]
      refine ih (y / b) (hexD (y % b) :: X) _ (by omega) (Nat.div_lt_of_lt_mul (by rw [Nat.pow_succ, Nat.mul_comm] at hyb; exact hyb)) ?_ (by simp only [List.length_cons]; omega) ?_ ?_ ?_
      · rw [← hR, dgo.eq_def b (f + 1 + 1)]; simp only [hlt, if_false]
      all_goals simp only [h1, wk, wk1, wk2, Option.some.injEq, exists_eq_left', decide_true, decide_false, seval, go_regionPw, pw_normal]
set_option maxHeartbeats 4000000 in
theorem digits_ran (hc : T 21 = some (.code ir21)) (s : St) (hs : WFS s) (b y : Nat) (hb : b = 10 ∨ b = 16) (hy : y ≤ 9223372036854775807) :
    Ran T 21 [.int .i64 (y : Int), .int .i64 (b : Int)] s fun v s' => v = .str (dgo b 41 y []) ∧ Ext s s' := by
  refine ran_code hc (Nat.le_of_ble_eq_true rfl) ?_
  generalize hQ : Fin _ _ = Q
  have hb0 : 0 < b := by omega
  have hb1 : b ≤ 16 := by omega
  have hn0 : ¬ (b : Int) = 0 := by omega
  have d2 : Int.tmod (y : Int) (b : Int) = ((y % b : Nat) : Int) := (Int.ofNat_tmod y b).symm
  have hm : y % b < 16 := Nat.lt_of_lt_of_le (Nat.mod_lt _ hb0) hb1
  have w2 : wrapF .i64 (((y % b : Nat) : Int) + 1) = ((y % b + 1 : Nat) : Int) := by
    generalize y % b = q at *
    rw [wrap_i64 _ (by omega) (by omega)]; omega
  have m1 := ss16 (y % b) hm
  have LL := dg_loop (T := T) (Q := Q) (s := s) (b := b) (R := dgo b 41 y []) hb0 hb1 ?_ 40 y []
  · simp only [ir21, hn0, d2, w2, m1, wk, wk1, wk2, Option.some.injEq, exists_eq_left', decide_true, decide_false, seval, go_regionPw, pw_normal]
    refine LL _ hy ?_ rfl (by simp) ?_ ?_ ?_
    · rcases hb with rfl | rfl
      · exact Nat.lt_of_le_of_lt hy (by decide)
      · exact Nat.lt_of_le_of_lt hy (by decide)
    all_goals simp only [wk, wk1, wk2, Option.some.injEq, exists_eq_left', decide_true, decide_false, seval, go_regionPw, pw_normal]
  · intro e h5
    subst hQ
    simp only [ir21, h5, wk, wk1, wk2, Option.some.injEq, exists_eq_left', decide_true, decide_false, seval, go_regionPw, pw_normal]
    exact .refl hs
def digitsG (args : List AV) : Option AV := match args with
  | [.int .i64 (.ofNat y), .int .i64 (.ofNat b)] => match Nat.ble y 9223372036854775807 && (Nat.beq b 10 || Nat.beq b 16) with
    | true => some (.str (dgo b 41 y []))
    | false => none
  | _ => none
theorem digitsG_ok (hc : T 21 = some (.code ir21)) (args : List AV) (v : AV) (h : digitsG args = some v) :
    plain v = true ∧ ∀ s, WFS s → Ran T 21 args s fun v' s' => v' = v ∧ Ext s s' := by
  unfold digitsG at h
  split at h
  · rename_i y b
    split at h
    · rename_i hc2
      cases h
      simp only [Bool.and_eq_true, Bool.or_eq_true] at hc2
      obtain ⟨h1, h2⟩ := hc2
      exact ⟨rfl, fun s hs => digits_ran hc s hs b y (h2.imp Nat.eq_of_beq_eq_true Nat.eq_of_beq_eq_true) (Nat.le_of_ble_eq_true h1)⟩
    · cases h
  · cases h
end
/-- What a number from 0 on is written as. -/
theorem dg10_eq (n : Int) (h0 : 0 ≤ n) (h1 : n ≤ 9223372036854775807) (s : St) : pureH digitsG [.int .i64 n, .int .i64 10] s = some (.str (Lib.itoa n), s) := by
  obtain ⟨y, rfl⟩ := Int.eq_ofNat_of_zero_le h0
  have hy : y ≤ 9223372036854775807 := by omega
  have e : digitsG [.int .i64 (.ofNat y), .int .i64 (.ofNat 10)] = some (.str (Lib.itoa (y : Int))) := by
    simp only [digitsG, Nat.ble_eq_true_of_le hy, show Nat.beq 10 10 = true from rfl, Bool.true_or, Bool.and_self]
    rw [dec_digits 40 y [] (Nat.lt_of_le_of_lt hy (by decide)), List.append_nil]
    simp [Lib.itoa]
  show pureH digitsG [.int .i64 (.ofNat y), .int .i64 (.ofNat 10)] s = _
  simp only [pureH, e]
theorem hexGo_more : ∀ (f y : Nat) (acc : List UInt8), y < 16 ^ f → hexGo (f + 1) y acc = hexGo (f + 2) y acc
  | 0, y, acc, h => by
    have : y < 16 := by simp at h; omega
    simp only [hexGo, this, if_true]
  | f + 1, y, acc, h => by
    rw [hexGo.eq_def (f + 1 + 1), hexGo.eq_def (f + 1 + 2)]
    simp only []
    split
    · rfl
    · exact hexGo_more f (y / 16) _ (by rw [Nat.pow_succ] at h; omega)
theorem dg16_eq (n : Int) (h0 : 0 ≤ n) (h1 : n ≤ 9223372036854775807) (s : St) : pureH digitsG [.int .i64 n, .int .i64 16] s = some (.str (hexN n.toNat), s) := by
  obtain ⟨y, rfl⟩ := Int.eq_ofNat_of_zero_le h0
  have hy : y ≤ 9223372036854775807 := by omega
  have e : digitsG [.int .i64 (.ofNat y), .int .i64 (.ofNat 16)] = some (.str (hexN y)) := by
    simp only [digitsG, Nat.ble_eq_true_of_le hy, show Nat.beq 16 16 = true from rfl, Bool.or_true, Bool.and_self]
    have key : ∀ k, hexGo (20 + k) y [] = hexN y := by
      intro k
      induction k with
      | zero => rfl
      | succ k ih =>
        rw [← ih, show 20 + (k + 1) = 19 + k + 2 by omega, show 20 + k = 19 + k + 1 by omega]
        exact (hexGo_more (19 + k) y [] (Nat.lt_of_le_of_lt hy (Nat.lt_of_lt_of_le (by decide : 9223372036854775807 < 16 ^ 19) (Nat.pow_le_pow_right (by omega) (by omega))))).symm
    rw [dgo_hex, show (41 : Nat) = 20 + 21 from rfl, key 21]
  show pureH digitsG [.int .i64 (.ofNat y), .int .i64 (.ofNat 16)] s = _
  simp only [pureH, e]
  rfl
end Go.V
/- show's document: the patterns. -/
namespace Go.V
open Go
set_option linter.unusedSimpArgs false
set_option linter.unusedVariables false
open Z in def ir22 : IFunc := ⟨24,[.tmp 2],(q (R [(o 2 (.move (sc [])))]) (q (R [(mi 3 1)]) (q (R [(mi 4 0)]) (q (q (R [(mi 5 0)]) (.block 0 (.loop (q (q (R [(m 6 5),(o 7 (.bin .lss t6 (I 385)))]) (.cond t7 .skip (.exit 0))) (q (.block 1 (q (q (R [(m 10 5),(o 11 (.idxStr (sc [110,111,112,124,68,32,61,32,97,100,100,40,83,44,84,41,124,68,32,61,32,115,117,98,40,83,44,84,41,124,68,32,61,32,97,110,100,40,83,44,84,41,124,68,32,61,32,111,114,40,83,44,84,41,124,68,32,61,32,120,111,114,40,83,44,84,41,124,68,32,61,32,97,100,100,40,83,44,73,41,124,68,32,61,32,73,124,68,32,61,32,83,124,81,32,61,32,99,109,112,46,101,113,40,83,44,84,41,124,81,32,61,32,99,109,112,46,103,116,40,83,44,84,41,124,81,32,61,32,99,109,112,46,103,116,117,40,83,44,84,41,124,81,32,61,32,99,109,112,46,101,113,40,83,44,73,41,124,68,32,61,32,109,117,120,40,80,44,83,44,84,41,124,68,32,61,32,97,115,108,40,83,44,73,41,124,68,32,61,32,108,115,114,40,83,44,73,41,124,68,32,61,32,97,115,114,40,83,44,73,41,124,68,32,61,32,109,112,121,40,83,44,84,41,124,68,32,61,32,99,109,112,121,40,83,44,84,41,124,68,32,61,32,99,109,112,121,99,40,83,44,84,41,124,68,32,61,32,109,101,109,119,40,83,43,73,41,124,68,32,61,32,109,101,109,104,40,83,43,73,41,124,68,32,61,32,109,101,109,98,40,83,43,73,41,124,109,101,109,119,40,83,43,73,41,32,61,32,84,87,124,109,101,109,104,40,83,43,73,41,32,61,32,84,87,124,109,101,109,98,40,83,43,73,41,32,61,32,84,87,124,106,117,109,112,32,71,124,106,117,109,112,114,32,83,124,99,97,108,108,32,71,124,108,111,111,112,78,40,71,44,67,41,124,108,111,111,112,78,40,71,44,83,41,124]) t10)),(o 12 (.bin .neq t11 (B 124)))]) (.cond t12 (.exit 1) .skip)) (q (q (R [(m 13 3),(m 14 0),(o 15 (.conv (.intInt .i64) t14)),(o 16 (.bin .eql t13 t15))]) (.cond t16 (q (R [(m 17 4),(m 18 5),(o 19 (.sliceStr (sc [110,111,112,124,68,32,61,32,97,100,100,40,83,44,84,41,124,68,32,61,32,115,117,98,40,83,44,84,41,124,68,32,61,32,97,110,100,40,83,44,84,41,124,68,32,61,32,111,114,40,83,44,84,41,124,68,32,61,32,120,111,114,40,83,44,84,41,124,68,32,61,32,97,100,100,40,83,44,73,41,124,68,32,61,32,73,124,68,32,61,32,83,124,81,32,61,32,99,109,112,46,101,113,40,83,44,84,41,124,81,32,61,32,99,109,112,46,103,116,40,83,44,84,41,124,81,32,61,32,99,109,112,46,103,116,117,40,83,44,84,41,124,81,32,61,32,99,109,112,46,101,113,40,83,44,73,41,124,68,32,61,32,109,117,120,40,80,44,83,44,84,41,124,68,32,61,32,97,115,108,40,83,44,73,41,124,68,32,61,32,108,115,114,40,83,44,73,41,124,68,32,61,32,97,115,114,40,83,44,73,41,124,68,32,61,32,109,112,121,40,83,44,84,41,124,68,32,61,32,99,109,112,121,40,83,44,84,41,124,68,32,61,32,99,109,112,121,99,40,83,44,84,41,124,68,32,61,32,109,101,109,119,40,83,43,73,41,124,68,32,61,32,109,101,109,104,40,83,43,73,41,124,68,32,61,32,109,101,109,98,40,83,43,73,41,124,109,101,109,119,40,83,43,73,41,32,61,32,84,87,124,109,101,109,104,40,83,43,73,41,32,61,32,84,87,124,109,101,109,98,40,83,43,73,41,32,61,32,84,87,124,106,117,109,112,32,71,124,106,117,109,112,114,32,83,124,99,97,108,108,32,71,124,108,111,111,112,78,40,71,44,67,41,124,108,111,111,112,78,40,71,44,83,41,124]) (some t17) (some t18))),(m 2 19)]) .ret) .skip)) (q (R [(m 20 3),(o 21 (.bin .add t20 (I 1))),(m 3 21)]) (R [(m 22 5),(o 23 (.bin .add t22 (I 1))),(m 4 23)]))))) (R [(m 8 5),(o 9 (.bin .add t8 (I 1))),(m 5 9)])))))) (q (R [(o 2 (.move (sc [])))]) .ret)))))⟩
def patL : List (Int × List UInt8) := [(1, [110, 111, 112]), (2, [68, 32, 61, 32, 97, 100, 100, 40, 83, 44, 84, 41]), (3, [68, 32, 61, 32, 115, 117, 98, 40, 83, 44, 84, 41]), (4, [68, 32, 61, 32, 97, 110, 100, 40, 83, 44, 84, 41]), (5, [68, 32, 61, 32, 111, 114, 40, 83, 44, 84, 41]), (6, [68, 32, 61, 32, 120, 111, 114, 40, 83, 44, 84, 41]), (7, [68, 32, 61, 32, 97, 100, 100, 40, 83, 44, 73, 41]), (8, [68, 32, 61, 32, 73]), (9, [68, 32, 61, 32, 83]), (10, [81, 32, 61, 32, 99, 109, 112, 46, 101, 113, 40, 83, 44, 84, 41]), (11, [81, 32, 61, 32, 99, 109, 112, 46, 103, 116, 40, 83, 44, 84, 41]), (12, [81, 32, 61, 32, 99, 109, 112, 46, 103, 116, 117, 40, 83, 44, 84, 41]), (13, [81, 32, 61, 32, 99, 109, 112, 46, 101, 113, 40, 83, 44, 73, 41]), (14, [68, 32, 61, 32, 109, 117, 120, 40, 80, 44, 83, 44, 84, 41]), (15, [68, 32, 61, 32, 97, 115, 108, 40, 83, 44, 73, 41]), (16, [68, 32, 61, 32, 108, 115, 114, 40, 83, 44, 73, 41]), (17, [68, 32, 61, 32, 97, 115, 114, 40, 83, 44, 73, 41]), (18, [68, 32, 61, 32, 109, 112, 121, 40, 83, 44, 84, 41]), (19, [68, 32, 61, 32, 99, 109, 112, 121, 40, 83, 44, 84, 41]), (20, [68, 32, 61, 32, 99, 109, 112, 121, 99, 40, 83, 44, 84, 41]), (21, [68, 32, 61, 32, 109, 101, 109, 119, 40, 83, 43, 73, 41]), (22, [68, 32, 61, 32, 109, 101, 109, 104, 40, 83, 43, 73, 41]), (23, [68, 32, 61, 32, 109, 101, 109, 98, 40, 83, 43, 73, 41]), (24, [109, 101, 109, 119, 40, 83, 43, 73, 41, 32, 61, 32, 84, 87]), (25, [109, 101, 109, 104, 40, 83, 43, 73, 41, 32, 61, 32, 84, 87]), (26, [109, 101, 109, 98, 40, 83, 43, 73, 41, 32, 61, 32, 84, 87]), (27, [106, 117, 109, 112, 32, 71]), (28, [106, 117, 109, 112, 114, 32, 83]), (29, [99, 97, 108, 108, 32, 71]), (30, [108, 111, 111, 112, 78, 40, 71, 44, 67, 41]), (31, [108, 111, 111, 112, 78, 40, 71, 44, 83, 41])]
def patS (op : Int) : List UInt8 := wAt op patL
def patCode : List (Nat × FnImp) := [(22, .code ir22)]
set_option maxRecDepth 1000000 in
theorem pat_ev : allBelow (fun n => compAuto (callF (tabL patCode) (evalF (tabL patCode) 100000) 22 [.int .u8 (.ofNat (n + 1))] s0) (.str (patS (.ofNat (n + 1)))) []) 31 = true := by kernel_rfl
def patG (args : List AV) : Option (AV × List AObj) := match args with
  | [.int .u8 (.ofNat (n + 1))] => match Nat.blt n 31 with
    | true => some (.str (patS (.ofNat (n + 1))), [])
    | false => none
  | _ => none
theorem patG_rows (args : List AV) (v : AV) (l : List AObj) (h : patG args = some (v, l)) : args.all scalar = true ∧ ∃ ks, compOk (callF (tabL patCode) (evalF (tabL patCode) 100000) 22 args s0) ks v l = true := by
  unfold patG at h
  split at h
  · rename_i n
    split at h
    · rename_i hn
      cases h
      exact ⟨rfl, _, allBelow_get pat_ev n (by simpa [Nat.blt_eq] using hn)⟩
    · cases h
  · cases h
theorem pat_eq (op : Int) (h0 : 1 ≤ op) (h1 : op ≤ 31) (s : St) : litH patG [.int .u8 op] s = some (.str (patS op), s) := by
  obtain ⟨y, rfl⟩ := Int.eq_ofNat_of_zero_le (show 0 ≤ op by omega)
  obtain ⟨n, rfl⟩ : ∃ n, y = n + 1 := ⟨y - 1, by omega⟩
  show litH patG [.int .u8 (.ofNat (n + 1))] s = _
  have : Nat.blt n 31 = true := by rw [Nat.blt_eq]; omega
  simp only [litH, patG, this, AV.sh, addAll]
  rfl
end Go.V
/- show's document: signed, put. -/
namespace Go.V
open Go
set_option linter.unusedSimpArgs false
set_option linter.unusedVariables false
open Z in def ir44 : IFunc := ⟨11,[.tmp 2],(q (R [(o 2 (.move (sc [])))]) (q (q (R [(m 3 0),(o 4 (.bin .lss t3 (I 0)))]) (.cond t4 (q (R [(m 5 0),(o 6 (.un .neg t5)),(o 7 (.call 21 [t6,(I 10)])),(o 8 (.bin .add (sc [45]) t7)),(m 2 8)]) .ret) .skip)) (q (R [(m 9 0),(o 10 (.call 21 [t9,(I 10)])),(m 2 10)]) .ret)))⟩
open Z in def ir23 : IFunc := ⟨83,[.tmp 6,.tmp 7],(q (R [(o 3 (.box t0)),(o 6 (.move (sc []))),(o 7 (.move F))]) (q (R [(o 8 (.move (sc [35])))]) (q (R [(o 9 (.move (sc [])))]) (q (q (R [(f 10 8 3),(l 11 1 10)]) (.cond t11 (q (R [(o 8 (.move (sc [35,35])))]) (R [(o 9 (.move (sc [35,35])))])) .skip)) (q (q (R [(m 12 1)]) (.block 0 (q (R [(o 14 (.bin .eql t12 (B 68))),(m 13 14)]) (.cond t13 (q (R [(f 15 1 3),(l 16 1 15),(o 17 (.conv (.intInt .i64) t16)),(o 18 (.call 21 [t17,(I 10)])),(o 19 (.bin .add (sc [114]) t18)),(m 6 19),(o 7 (.move T))]) .ret) (q (R [(o 21 (.bin .eql t12 (B 83))),(m 20 21)]) (.cond t20 (q (R [(f 22 2 3),(l 23 1 22),(o 24 (.conv (.intInt .i64) t23)),(o 25 (.call 21 [t24,(I 10)])),(o 26 (.bin .add (sc [114]) t25)),(m 6 26),(o 7 (.move T))]) .ret) (q (R [(o 28 (.bin .eql t12 (B 84))),(m 27 28)]) (.cond t27 (q (R [(f 29 3 3),(l 30 1 29),(o 31 (.conv (.intInt .i64) t30)),(o 32 (.call 21 [t31,(I 10)])),(o 33 (.bin .add (sc [114]) t32)),(m 6 33),(o 7 (.move T))]) .ret) (q (R [(o 35 (.bin .eql t12 (B 80))),(m 34 35)]) (.cond t34 (q (R [(f 36 5 3),(l 37 1 36),(o 38 (.conv (.intInt .i64) t37)),(o 39 (.call 21 [t38,(I 10)])),(o 40 (.bin .add (sc [112]) t39)),(m 6 40),(o 7 (.move T))]) .ret) (q (R [(o 42 (.bin .eql t12 (B 81))),(m 41 42)]) (.cond t41 (q (R [(f 43 1 3),(l 44 1 43),(o 45 (.conv (.intInt .i64) t44)),(o 46 (.call 21 [t45,(I 10)])),(o 47 (.bin .add (sc [112]) t46)),(m 6 47),(o 7 (.move T))]) .ret) (q (R [(o 49 (.bin .eql t12 (B 73))),(m 48 49)]) (.cond t48 (q (R [(m 50 8),(f 51 10 3),(l 52 1 51),(o 53 (.call 44 [t52])),(o 54 (.bin .add t50 t53)),(m 6 54),(o 7 (.move T))]) .ret) (q (R [(o 56 (.bin .eql t12 (B 71))),(m 55 56)]) (.cond t55 (q (q (R [(m 57 2),(o 58 (.bin .eql t57 (sc [])))]) (.cond t58 (R [(f 59 10 3),(l 60 1 59),(o 61 (.call 21 [t60,(I 16)])),(o 62 (.bin .add (sc [48,120]) t61)),(m 2 62)]) .skip)) (q (R [(m 63 9),(m 64 2),(o 65 (.bin .add t63 t64)),(m 6 65),(o 7 (.move T))]) .ret)) (q (R [(o 67 (.bin .eql t12 (B 67))),(m 66 67)]) (.cond t66 (q (R [(f 68 9 3),(l 69 1 68),(o 70 (.conv (.intInt .i64) t69)),(o 71 (.call 21 [t70,(I 10)])),(o 72 (.bin .add (sc [35]) t71)),(m 6 72),(o 7 (.move T))]) .ret) (q (R [(o 74 (.bin .eql t12 (B 78))),(m 73 74)]) (.cond t73 (q (R [(f 75 4 3),(l 76 1 75),(o 77 (.conv (.intInt .i64) t76)),(o 78 (.call 21 [t77,(I 10)])),(m 6 78),(o 7 (.move T))]) .ret) (q (R [(o 80 (.bin .eql t12 (B 87))),(m 79 80)]) (.cond t79 (q (q (R [(f 81 7 3),(l 82 1 81)]) (.cond t82 (q (R [(o 6 (.move (sc [46,110,101,119]))),(o 7 (.move T))]) .ret) .skip)) (q (R [(o 6 (.move (sc []))),(o 7 (.move T))]) .ret)) .skip)))))))))))))))))))))) (q (R [(o 6 (.move (sc []))),(o 7 (.move F))]) .ret))))))⟩
def signedG (args : List AV) : Option AV := match args with
  | [.int .i64 n] => match decide (-9223372036854775808 < n) && decide (n ≤ 9223372036854775807) with
    | true => some (.str (Lib.itoa n))
    | false => none
  | _ => none
def putS (i : In) (nm : List UInt8) (c : Int) : List UInt8 × Bool :=
  if c = 68 then (regS i.d, true) else if c = 83 then (regS i.s, true) else if c = 84 then (regS i.t, true) else if c = 80 then (predS i.pred, true) else if c = 81 then (predS i.d, true)
  else if c = 73 then (immS i, true) else if c = 71 then (targetS i nm, true) else if c = 67 then (countS i.count, true) else if c = 78 then (Lib.itoa i.n, true)
  else if c = 87 then ((if i.nw = true then [46, 110, 101, 119] else []), true) else ([], false)
def putR (i : In) (nm : List UInt8) (c : Int) : AV := .tuple [.str (putS i nm c).1, .bool (putS i nm c).2]
def putOk (i : In) (nm : List UInt8) : Bool := i.ok && (decide (-9223372036854775808 < i.imm) && decide (nm.length ≤ 60))
section
variable {T : Tab}
theorem signed_ran (hc : T 44 = some (.code ir44)) (hd : T 21 = some (.hook (pureH digitsG))) (s : St) (hs : WFS s) (n : Int) (h0 : -9223372036854775808 < n) (h1 : n ≤ 9223372036854775807) :
    Ran T 44 [.int .i64 n] s fun v s' => v = .str (Lib.itoa n) ∧ Ext s s' := by
  refine ran_code hc (Nat.le_of_ble_eq_true rfl) ?_
  have k1 := goCall_hook hd
  by_cases hn : n < 0
  · have q1 := dg10_eq (-n) (by omega) (by omega)
    have w1 : wrapF .i64 (-n) = -n := wrap_i64 _ (by omega) (by omega)
    have l1 : (Lib.itoa (-n)).length ≤ 21 := Lib.itoa_length_le _ (by omega) (by omega)
    have e : Lib.itoa n = 45 :: Lib.itoa (-n) := by
      obtain ⟨y, hy⟩ := Int.eq_ofNat_of_zero_le (show 0 ≤ -n by omega)
      have hy' : n = -(y : Int) := by omega
      rw [hy, hy', Lib.itoa_neg y (by omega), Lib.itoa_nonneg]
    simp (disch := first | assumption | ((repeat (apply ps_add)); assumption) | ((try simp only [List.length_append, List.length_cons, List.length_nil]); omega)) only [ir44, k1, q1, w1, hn, if_pos, goR_watch, watch_cons, watch_nil, wat_ptr, wat_map, sameObj_refl, Bool.and_self, true_and, wk, wk1, wk2, Option.some.injEq, exists_eq_left', decide_true, decide_false, seval, go_regionPw, pw_normal]
    exact ⟨by rw [e], .refl hs⟩
  · have q1 := dg10_eq n (by omega) (by omega)
    simp (disch := first | assumption | ((repeat (apply ps_add)); assumption) | ((try simp only [List.length_append, List.length_cons, List.length_nil]); omega)) only [ir44, k1, q1, hn, if_pos, goR_watch, watch_cons, watch_nil, wat_ptr, wat_map, sameObj_refl, Bool.and_self, true_and, wk, wk1, wk2, Option.some.injEq, exists_eq_left', decide_true, decide_false, seval, go_regionPw, pw_normal]
    exact .refl hs
theorem signedG_ok (hc : T 44 = some (.code ir44)) (hd : T 21 = some (.hook (pureH digitsG))) (args : List AV) (v : AV) (h : signedG args = some v) :
    plain v = true ∧ ∀ s, WFS s → Ran T 44 args s fun v' s' => v' = v ∧ Ext s s' := by
  unfold signedG at h
  split at h
  · rename_i n
    split at h
    · rename_i hn
      cases h
      simp only [Bool.and_eq_true, decide_eq_true_eq] at hn
      exact ⟨rfl, fun s hs => signed_ran hc hd s hs n hn.1 hn.2⟩
    · cases h
  · cases h
set_option maxHeartbeats 8000000 in
theorem put_ran (hc : T 23 = some (.code ir23)) (hd : T 21 = some (.hook (pureH digitsG))) (hg : T 44 = some (.hook (pureH signedG))) (s : St) (hs : WFS s) (i : In) (nm : List UInt8) (hi : putOk i nm = true) (c : Int) (hcc : c ≠ 71 ∨ 0 ≤ i.imm) :
    Ran T 23 [.agg i.cells, .int .u8 c, .str nm] s fun v s' => v = putR i nm c ∧ Ext s s' := by
  refine ran_code hc (Nat.le_of_ble_eq_true rfl) ?_
  simp only [putOk, Bool.and_eq_true, decide_eq_true_eq] at hi
  obtain ⟨hi, him, hnm⟩ := hi
  have ho := ok_imm hi
  obtain ⟨b1, b2, b3, b4, b5, b6, b7, b8⟩ := ok_bytes hi
  have k1 := goCall_hook hd
  have k2 := goCall_hook hg
  have D := fun (n : Int) (h : isByte n = true) => dg10_eq n (isByte_iff.1 h).1 (isI64_iff.1 (byte_i64 h)).2
  have d2 := D i.d b2
  have d3 := D i.s b3
  have d4 := D i.t b4
  have d5 := D i.n b5
  have d6 := D i.pred b6
  have d8 := dg10_eq i.count (isU16_iff.1 b8).1 (isI64_iff.1 (u16_i64 b8)).2
  have w2 := wrapI (byte_i64 b2)
  have w3 := wrapI (byte_i64 b3)
  have w4 := wrapI (byte_i64 b4)
  have w5 := wrapI (byte_i64 b5)
  have w6 := wrapI (byte_i64 b6)
  have w8 := wrapI (u16_i64 b8)
  have l2 := itoa_len (byte_i64 b2)
  have l3 := itoa_len (byte_i64 b3)
  have l4 := itoa_len (byte_i64 b4)
  have l5 := itoa_len (byte_i64 b5)
  have l6 := itoa_len (byte_i64 b6)
  have l8 := itoa_len (u16_i64 b8)
  have l9 := itoa_len ho
  have lh := hexN_len i.imm.toNat
  have q1 : ∀ s, pureH signedG [.int .i64 i.imm] s = some (.str (Lib.itoa i.imm), s) := fun s => by
    simp only [pureH, signedG, him, (isI64_iff.1 ho).2, decide_true, Bool.and_self]
  have q2 : 0 ≤ i.imm → ∀ s, pureH digitsG [.int .i64 i.imm, .int .i64 16] s = some (.str (hexN i.imm.toNat), s) := fun h => dg16_eq i.imm h (isI64_iff.1 ho).2
  clear D hi
  by_cases h0 : 0 ≤ i.imm
  · have q2' := q2 h0
    generalize hQ : Fin _ _ = Q
    simp (disch := first | assumption | ((repeat (apply ps_add)); assumption) | ((try simp only [List.length_append, List.length_cons, List.length_nil]); omega)) only [ir23, In.cells, k1, k2, d2, d3, d4, d5, d6, d8, w2, w3, w4, w5, w6, w8, q1, q2', if_pos, goR_watch, watch_cons, watch_nil, wat_ptr, wat_map, sameObj_refl, Bool.and_self, true_and, wk, wk1, wk2, Option.some.injEq, exists_eq_left', decide_true, decide_false, seval, go_regionPw, pw_normal]
    repeat' ((first | refine goC_split (fun h => ?_) (fun h => ?_) | refine goG_split_t (fun h => ?_) (fun h => ?_) | refine goG_split_f (fun h => ?_) (fun h => ?_)) <;> (try simp only [Bool.not_eq_true', Bool.not_eq_false'] at h) <;> (try simp (disch := first | assumption | ((repeat (apply ps_add)); assumption) | ((try simp only [List.length_append, List.length_cons, List.length_nil]); omega)) only [h, In.cells, k1, k2, d2, d3, d4, d5, d6, d8, w2, w3, w4, w5, w6, w8, q1, q2', if_pos, goR_watch, watch_cons, watch_nil, wat_ptr, wat_map, sameObj_refl, Bool.and_self, true_and, wk, wk1, wk2, Option.some.injEq, exists_eq_left', decide_true, decide_false, seval, go_regionPw, pw_normal]))
    all_goals subst hQ
    all_goals simp only [ir23, wk, wk1, wk2, Option.some.injEq, exists_eq_left', decide_true, decide_false, seval, go_regionPw, pw_normal]
    all_goals refine ⟨?_, by (repeat (first | exact Ext.refl hs | refine Ext.add ?_ _))⟩
    all_goals simp_all [putR, putS, immS, targetS, regS, predS, countS]
  · have h71 : ¬ c = 71 := fun e => hcc.elim (fun h => h e) h0
    generalize hQ : Fin _ _ = Q
    simp (disch := first | assumption | ((repeat (apply ps_add)); assumption) | ((try simp only [List.length_append, List.length_cons, List.length_nil]); omega)) only [ir23, In.cells, k1, k2, d2, d3, d4, d5, d6, d8, w2, w3, w4, w5, w6, w8, q1, h71, if_pos, goR_watch, watch_cons, watch_nil, wat_ptr, wat_map, sameObj_refl, Bool.and_self, true_and, wk, wk1, wk2, Option.some.injEq, exists_eq_left', decide_true, decide_false, seval, go_regionPw, pw_normal]
    repeat' ((first | refine goC_split (fun h => ?_) (fun h => ?_) | refine goG_split_t (fun h => ?_) (fun h => ?_) | refine goG_split_f (fun h => ?_) (fun h => ?_)) <;> (try simp only [Bool.not_eq_true', Bool.not_eq_false'] at h) <;> (try simp (disch := first | assumption | ((repeat (apply ps_add)); assumption) | ((try simp only [List.length_append, List.length_cons, List.length_nil]); omega)) only [h, In.cells, k1, k2, d2, d3, d4, d5, d6, d8, w2, w3, w4, w5, w6, w8, q1, h71, if_pos, goR_watch, watch_cons, watch_nil, wat_ptr, wat_map, sameObj_refl, Bool.and_self, true_and, wk, wk1, wk2, Option.some.injEq, exists_eq_left', decide_true, decide_false, seval, go_regionPw, pw_normal]))
    all_goals subst hQ
    all_goals simp only [ir23, wk, wk1, wk2, Option.some.injEq, exists_eq_left', decide_true, decide_false, seval, go_regionPw, pw_normal]
    all_goals refine ⟨?_, by (repeat (first | exact Ext.refl hs | refine Ext.add ?_ _))⟩
    all_goals simp_all [putR, putS, immS, targetS, regS, predS, countS]
end
end Go.V
