/- MemStays over the small language. -/
import Derived.Test.YtlpdekocilhciaaMB
set_option linter.unusedVariables false
set_option linter.unusedSimpArgs false
set_option linter.unusedSectionVars false
/- MemStays over the small language. -/
namespace Go.V
open Go
set_option linter.unusedSimpArgs false
set_option linter.unusedVariables false
open Go.V.KU
-- coxless/coxlesslaw24.MemStays
def ir7 : IFunc := ⟨79, [.tmp 10], (.seq (.region [⟨some 10, none, [], (.move (.c (.bool false)))⟩] false)
 (.seq (.seq (.region [⟨some 16, none, [], (.move (.t 0))⟩, ⟨some 17, none, [], (.call 18 [(.t 16)])⟩] false)
 (.cond (.t 17) (.seq (.region [⟨some 18, none, [], (.call 19 [])⟩, ⟨some 10, none, [], (.move (.t 18))⟩] false)
 .ret) .skip))
 (.seq (.region [⟨some 19, none, [], (.call 12 [])⟩, ⟨some 11, none, [], (.move (.t 19))⟩] false)
 (.seq (.seq (.region [⟨some 20, none, [], (.move (.t 11))⟩, ⟨some 21, none, [], (.eq false (.nilable .ptr) (.t 20) (.c .nilPtr))⟩] false)
 (.cond (.t 21) (.seq (.region [⟨some 10, none, [], (.move (.c (.bool false)))⟩] false)
 .ret) .skip))
 (.seq (.region [⟨some 22, none, [], (.move (.t 11))⟩, ⟨some 23, none, [], (.move (.t 0))⟩, ⟨some 24, none, [], (.call 33 [(.t 22), (.t 23)])⟩] false)
 (.seq (.region [⟨some 25, none, [], (.move (.t 11))⟩, ⟨some 26, none, [], (.call 31 [(.t 25)])⟩, ⟨some 12, none, [], (.move (.t 26))⟩] false)
 (.seq (.seq (.region [⟨some 27, none, [], (.move (.t 11))⟩, ⟨some 28, none, [], (.move (.t 1))⟩, ⟨some 29, none, [], (.move (.t 2))⟩, ⟨some 30, none, [], (.move (.t 3))⟩, ⟨some 31, none, [], (.call 16 [(.t 27), (.t 28), (.t 29), (.t 30)])⟩, ⟨some 32, none, [], (.bin .neq (.t 31) (.c (.int .i64 0)))⟩] false)
 (.cond (.t 32) (.seq (.region [⟨some 33, none, [], (.move (.t 11))⟩, ⟨some 34, none, [], (.move (.t 12))⟩, ⟨some 35, none, [], (.call 32 [(.t 33), (.t 34)])⟩, ⟨some 36, none, [], (.move (.t 35))⟩, ⟨some 37, some (36, true), [], (.call 19 [])⟩, ⟨some 38, none, [], (.pick (.t 36) (.t 37) (.c (.bool false)))⟩, ⟨some 10, none, [], (.move (.t 38))⟩] false)
 .ret) .skip))
 (.seq (.region [⟨some 40, none, [], (.move (.t 11))⟩, ⟨some 41, none, [], (.move (.t 1))⟩, ⟨some 42, none, [], (.move (.t 2))⟩, ⟨some 43, none, [], (.call 14 [(.t 40), (.t 41), (.t 42)])⟩, ⟨some 39, none, [], (.move (.t 43))⟩, ⟨some 44, none, [], (.extract (.t 39) 0)⟩, ⟨some 45, none, [], (.extract (.t 39) 1)⟩, ⟨some 13, none, [], (.move (.t 44))⟩, ⟨some 14, none, [], (.move (.t 45))⟩] false)
 (.seq (.region [⟨some 46, none, [], (.move (.t 3))⟩, ⟨some 15, none, [], (.move (.t 46))⟩] false)
 (.seq (.seq (.region [⟨some 47, none, [], (.move (.t 2))⟩, ⟨some 48, none, [], (.bin .lss (.t 47) (.c (.int .i64 4)))⟩] false)
 (.cond (.t 48) (.region [⟨some 49, none, [], (.move (.t 3))⟩, ⟨some 50, none, [], (.move (.t 2))⟩, ⟨some 51, none, [], (.bin .mul (.c (.int .i64 8)) (.t 50))⟩, ⟨some 52, none, [], (.bin .shl (.c (.int .u32 1)) (.t 51))⟩, ⟨some 53, none, [], (.bin .rem (.t 49) (.t 52))⟩, ⟨some 15, none, [], (.move (.t 53))⟩] false) .skip))
 (.seq (.seq (.region [⟨some 54, none, [], (.move (.t 14))⟩, ⟨some 55, none, [], (.bin .neq (.t 54) (.c (.int .i64 0)))⟩, ⟨some 56, none, [], (.move (.t 55))⟩, ⟨some 57, some (56, false), [], (.move (.t 13))⟩, ⟨some 58, some (56, false), [], (.move (.t 15))⟩, ⟨some 59, some (56, false), [], (.bin .neq (.t 57) (.t 58))⟩, ⟨some 60, none, [], (.pick (.t 56) (.c (.bool true)) (.t 59))⟩] false)
 (.cond (.t 60) (.seq (.region [⟨some 10, none, [], (.move (.c (.bool false)))⟩] false)
 .ret) .skip))
 (.seq (.region [⟨some 61, none, [], (.move (.t 4))⟩, ⟨some 62, none, [], (.move (.t 1))⟩, ⟨some 63, none, [], (.bin .sub (.t 61) (.t 62))⟩, ⟨some 64, none, [], (.move (.t 2))⟩, ⟨some 65, none, [], (.conv (.intInt .u32) (.t 64))⟩, ⟨some 66, none, [], (.bin .lss (.t 63) (.t 65))⟩, ⟨some 67, none, [], (.move (.t 66))⟩, ⟨some 68, some (67, false), [], (.move (.t 11))⟩, ⟨some 69, some (67, false), [], (.move (.t 4))⟩, ⟨some 70, some (67, false), [], (.call 26 [(.t 68), (.t 69)])⟩, ⟨some 71, some (67, false), [], (.move (.t 12))⟩, ⟨some 72, some (67, false), [], (.move (.t 4))⟩, ⟨some 73, some (67, false), [], (.call 26 [(.t 71), (.t 72)])⟩, ⟨some 74, some (67, false), [], (.bin .eql (.t 70) (.t 73))⟩, ⟨some 75, none, [], (.pick (.t 67) (.c (.bool true)) (.t 74))⟩, ⟨some 76, none, [], (.move (.t 75))⟩, ⟨some 77, some (76, true), [], (.call 19 [])⟩, ⟨some 78, none, [], (.pick (.t 76) (.t 77) (.c (.bool false)))⟩, ⟨some 10, none, [], (.move (.t 78))⟩] false)
 .ret))))))))))))⟩
theorem mget_storeN {L : List ME} {c : Nat} (hM : MOk L c) (k v j : Nat) : ∀ n, k + n ≤ 4294967296 → mget (storeN k v n (L, c)).1 j = if k ≤ j ∧ j < k + n then v / 256 ^ (j - k) % 256 else mget L j
  | 0, _ => by rw [if_neg (by omega)]; rfl
  | n + 1, h => by
    have ih := mget_storeN hM k v j n (by omega)
    simp only [storeN]
    rw [mput_get (storeN_ok hM (by omega)), ih]
    by_cases h1 : j = k + n
    · rw [if_pos h1, if_pos (by omega)]
      have : j - k = n := by omega
      rw [this]
    · rw [if_neg h1]
      by_cases h2 : k ≤ j ∧ j < k + n
      · rw [if_pos h2, if_pos (by omega)]
      · rw [if_neg h2, if_neg (by omega)]
theorem wordN_mod {L : List ME} {k v : Nat} : ∀ n, (∀ i, i < n → mget L (k + i) = v / 256 ^ i % 256) → wordN L k n = v % 256 ^ n
  | 0, _ => by simp [wordN, Nat.mod_one]
  | n + 1, h => by
    simp only [wordN]
    rw [wordN_mod n (fun i hi => h i (by omega)), h n (by omega), Nat.mod_pow_succ, Nat.mul_comm (v / 256 ^ n % 256)]
theorem word_store {L : List ME} {c : Nat} (hM : MOk L c) (k v n : Nat) (h : k + n ≤ 4294967296) : wordN (storeN k v n (L, c)).1 k n = v % 256 ^ n :=
  wordN_mod n fun i hi => by
    rw [mget_storeN hM k v (k + i) n h, if_pos (by omega)]
    have : k + i - k = i := by omega
    rw [this]
section
variable {T : Tab}
set_option maxHeartbeats 8000000 in
theorem stays_ran (hc : T 7 = some (.code ir7)) (hT : DoTab T) (hP : PartsTab T) {s : St} {x : AV} {l : List Act} (hs : WFS s) (hx : Acts s.next s x l) (k v o : Nat) (n : Int) (hk : k < 4294967296) (hv : v < 4294967296) (ho : o < 4294967296) :
    Ran T 7 [x, .int .u32 (k : Int), .int .i64 n, .int .u32 (v : Int), .int .u32 (o : Int)] s fun r _ => r = .bool true := by
  refine ran_code hc (Nat.le_of_ble_eq_true rfl) ?_
  generalize hQ : Fin _ _ = Q
  simp only [ir7, wk, wk1, wk2, Option.some.injEq, exists_eq_left', decide_true, decide_false, Nat.reduceAdd, Nat.reduceEqDiff, Nat.reduceLeDiff, Nat.reduceLT, Nat.reduceMul, Nat.reduceBEq, Int.reduceLT, Int.reduceLE, Int.reduceEq, Int.reduceAdd, Int.reduceSub, Int.reduceMul, Int.reduceMod, Int.reduceTMod, Int.reduceTDiv, Int.reduceNeg, Nat.reduceSub, Nat.reduceDiv, reduceIte, reduceCtorEq]
  refine goCall_by (great_ran hT.great hx) ?_
  rintro _ _ ⟨rfl, rfl⟩
  cases hg : great l with
  | true =>
    simp only [wk, wk1, wk2, Option.some.injEq, exists_eq_left', decide_true, decide_false, Nat.reduceAdd, Nat.reduceEqDiff, Nat.reduceLeDiff, Nat.reduceLT, Nat.reduceMul, Nat.reduceBEq, Int.reduceLT, Int.reduceLE, Int.reduceEq, Int.reduceAdd, Int.reduceSub, Int.reduceMul, Int.reduceMod, Int.reduceTMod, Int.reduceTDiv, Int.reduceNeg, Nat.reduceSub, Nat.reduceDiv, reduceIte, reduceCtorEq]
    refine goCall_by (awake_ran hT hs) ?_
    rintro _ s1 ⟨rfl, _⟩
    subst hQ
    simp only [ir7, wk, wk1, wk2, Option.some.injEq, exists_eq_left', decide_true, decide_false, Nat.reduceAdd, Nat.reduceEqDiff, Nat.reduceLeDiff, Nat.reduceLT, Nat.reduceMul, Nat.reduceBEq, Int.reduceLT, Int.reduceLE, Int.reduceEq, Int.reduceAdd, Int.reduceSub, Int.reduceMul, Int.reduceMod, Int.reduceTMod, Int.reduceTDiv, Int.reduceNeg, Nat.reduceSub, Nat.reduceDiv, reduceIte, reduceCtorEq]
  | false =>
    simp only [great, Bool.or_eq_false_iff, decide_eq_false_iff_not] at hg
    obtain ⟨hl, hb⟩ := hg
    have hb : ∀ a ∈ l, a.b.length ≤ 60 := fun a ha => by
      have := List.any_eq_false.1 hb a ha
      simpa using this
    simp only [wk, wk1, wk2, Option.some.injEq, exists_eq_left', decide_true, decide_false, Nat.reduceAdd, Nat.reduceEqDiff, Nat.reduceLeDiff, Nat.reduceLT, Nat.reduceMul, Nat.reduceBEq, Int.reduceLT, Int.reduceLE, Int.reduceEq, Int.reduceAdd, Int.reduceSub, Int.reduceMul, Int.reduceMod, Int.reduceTMod, Int.reduceTDiv, Int.reduceNeg, Nat.reduceSub, Nat.reduceDiv, reduceIte, reduceCtorEq]
    refine goCall_by (new_ran hT.new _ hs) ?_
    rintro _ s1 ⟨pm, r, rfl, hpm, hr, hM, hE⟩
    simp only [eqV, nilEq, wk, wk1, wk2, Option.some.injEq, exists_eq_left', decide_true, decide_false, Nat.reduceAdd, Nat.reduceEqDiff, Nat.reduceLeDiff, Nat.reduceLT, Nat.reduceMul, Nat.reduceBEq, Int.reduceLT, Int.reduceLE, Int.reduceEq, Int.reduceAdd, Int.reduceSub, Int.reduceMul, Int.reduceMod, Int.reduceTMod, Int.reduceTDiv, Int.reduceNeg, Nat.reduceSub, Nat.reduceDiv, reduceIte, reduceCtorEq]
    refine goCall_by (done_ran hT hM (by omega) hb (hx.ext hE) hr) ?_
    rintro _ s2 ⟨L, c, hM2, hcl, hO⟩
    have hc2 : c ≤ 3600 := by omega
    simp only [wk, wk1, wk2, Option.some.injEq, exists_eq_left', decide_true, decide_false, Nat.reduceAdd, Nat.reduceEqDiff, Nat.reduceLeDiff, Nat.reduceLT, Nat.reduceMul, Nat.reduceBEq, Int.reduceLT, Int.reduceLE, Int.reduceEq, Int.reduceAdd, Int.reduceSub, Int.reduceMul, Int.reduceMod, Int.reduceTMod, Int.reduceTDiv, Int.reduceNeg, Nat.reduceSub, Nat.reduceDiv, reduceIte, reduceCtorEq]
    refine goCall_by (copy_ran hP hM2) ?_
    rintro _ s3 ⟨pm', r', rfl, hpm', hr', hM3, hE3⟩
    have hMa := hM2.ext hE3
    have n1 : pm' ≠ r := by have := hM2.lt2; omega
    have n2 : r' ≠ r := by have := hM2.lt2; omega
    simp only [wk, wk1, wk2, Option.some.injEq, exists_eq_left', decide_true, decide_false, Nat.reduceAdd, Nat.reduceEqDiff, Nat.reduceLeDiff, Nat.reduceLT, Nat.reduceMul, Nat.reduceBEq, Int.reduceLT, Int.reduceLE, Int.reduceEq, Int.reduceAdd, Int.reduceSub, Int.reduceMul, Int.reduceMod, Int.reduceTMod, Int.reduceTDiv, Int.reduceNeg, Nat.reduceSub, Nat.reduceDiv, reduceIte, reduceCtorEq]
    refine goCall_by (store_ran hT.store hT.may hT.put hMa k v hk n) ?_
    intro w s4 h4
    cases hrt : rightW k n with
    | false =>
      rw [if_neg (by simp [hrt])] at h4
      obtain ⟨rfl, rfl⟩ := h4
      simp only [wk, wk1, wk2, Option.some.injEq, exists_eq_left', decide_true, decide_false, Nat.reduceAdd, Nat.reduceEqDiff, Nat.reduceLeDiff, Nat.reduceLT, Nat.reduceMul, Nat.reduceBEq, Int.reduceLT, Int.reduceLE, Int.reduceEq, Int.reduceAdd, Int.reduceSub, Int.reduceMul, Int.reduceMod, Int.reduceTMod, Int.reduceTDiv, Int.reduceNeg, Nat.reduceSub, Nat.reduceDiv, reduceIte, reduceCtorEq]
      refine goCall_by (same_ran hP hMa hM3 (by omega) (by omega)) ?_
      rintro _ s5 ⟨hE5, rfl⟩
      simp only [wk, wk1, wk2, Option.some.injEq, exists_eq_left', decide_true, decide_false, Nat.reduceAdd, Nat.reduceEqDiff, Nat.reduceLeDiff, Nat.reduceLT, Nat.reduceMul, Nat.reduceBEq, Int.reduceLT, Int.reduceLE, Int.reduceEq, Int.reduceAdd, Int.reduceSub, Int.reduceMul, Int.reduceMod, Int.reduceTMod, Int.reduceTDiv, Int.reduceNeg, Nat.reduceSub, Nat.reduceDiv, reduceIte, reduceCtorEq]
      refine goCall_by (awake_ran hT hE5.1) ?_
      rintro _ s6 ⟨rfl, _⟩
      subst hQ
      simp only [ir7, wk, wk1, wk2, Option.some.injEq, exists_eq_left', decide_true, decide_false, Nat.reduceAdd, Nat.reduceEqDiff, Nat.reduceLeDiff, Nat.reduceLT, Nat.reduceMul, Nat.reduceBEq, Int.reduceLT, Int.reduceLE, Int.reduceEq, Int.reduceAdd, Int.reduceSub, Int.reduceMul, Int.reduceMod, Int.reduceTMod, Int.reduceTDiv, Int.reduceNeg, Nat.reduceSub, Nat.reduceDiv, reduceIte, reduceCtorEq]
    | true =>
      rw [if_pos hrt] at h4
      obtain ⟨rfl, hM4, hO4⟩ := h4
      have hM3' := hM3.only hO4 n1 n2
      obtain ⟨m, rfl, hm4, hm1, hkm⟩ := rightW_n hrt
      have hkm := hkm hk
      simp only [Int.toNat_natCast] at hM4
      have hws := word_store hM2.ok k v m hkm
      have hmo := mget_storeN hM2.ok k v o m hkm
      simp only [wk, wk1, wk2, Option.some.injEq, exists_eq_left', decide_true, decide_false, Nat.reduceAdd, Nat.reduceEqDiff, Nat.reduceLeDiff, Nat.reduceLT, Nat.reduceMul, Nat.reduceBEq, Int.reduceLT, Int.reduceLE, Int.reduceEq, Int.reduceAdd, Int.reduceSub, Int.reduceMul, Int.reduceMod, Int.reduceTMod, Int.reduceTDiv, Int.reduceNeg, Nat.reduceSub, Nat.reduceDiv, reduceIte, reduceCtorEq]
      refine goCall_by (word_ran hT.word hT.may hM4 k hk (m : Int)) ?_
      rintro _ _ ⟨rfl, rfl⟩
      rw [if_pos hrt, Int.toNat_natCast, hws]
      have u2 : (m : Int) % 4294967296 = (m : Int) := by omega
      have hm3 : m = 1 ∨ m = 2 ∨ m = 4 := by
        simp only [rightW, Bool.or_eq_true, Bool.and_eq_true, decide_eq_true_eq] at hrt; omega
      have e1 : Int.tmod (v : Int) 256 = ((v % 256 : Nat) : Int) := by rw [Int.tmod_eq_emod_of_nonneg (by omega)]; omega
      have e2 : Int.tmod (v : Int) 65536 = ((v % 65536 : Nat) : Int) := by rw [Int.tmod_eq_emod_of_nonneg (by omega)]; omega
      have f1 : ((v % 256 : Nat) : Int) % 4294967296 = ((v % 256 : Nat) : Int) := by omega
      have f2 : ((v % 65536 : Nat) : Int) % 4294967296 = ((v % 65536 : Nat) : Int) := by omega
      have p1 : 256 ^ 1 = 256 := by decide
      have p2 : 256 ^ 2 = 65536 := by decide
      have hv4 : v % 256 ^ 4 = v := Nat.mod_eq_of_lt (by omega)
      have g1 : binV .shl (.int .u32 1) (.int .i64 8) = some (.int .u32 256) := by rfl
      have g2 : binV .shl (.int .u32 1) (.int .i64 16) = some (.int .u32 65536) := by rfl
      by_cases hq : ((o : Int) - (k : Int)) % 4294967296 < (m : Int)
      · rcases hm3 with rfl | rfl | rfl
        · rw [p1]
          have hq2 : ((o : Int) - (k : Int)) % 4294967296 < 1 := by omega
          simp only [hq2, u2, e1, f1, g1, wk, wk1, wk2, Option.some.injEq, exists_eq_left', decide_true, decide_false, Nat.reduceAdd, Nat.reduceEqDiff, Nat.reduceLeDiff, Nat.reduceLT, Nat.reduceMul, Nat.reduceBEq, Int.reduceLT, Int.reduceLE, Int.reduceEq, Int.reduceAdd, Int.reduceSub, Int.reduceMul, Int.reduceMod, Int.reduceTMod, Int.reduceTDiv, Int.reduceNeg, Nat.reduceSub, Nat.reduceDiv, reduceIte, reduceCtorEq]
          refine goCall_by (awake_ran hT hM4.wfs) ?_
          rintro _ s6 ⟨rfl, _⟩
          subst hQ
          simp only [ir7, wk, wk1, wk2, Option.some.injEq, exists_eq_left', decide_true, decide_false, Nat.reduceAdd, Nat.reduceEqDiff, Nat.reduceLeDiff, Nat.reduceLT, Nat.reduceMul, Nat.reduceBEq, Int.reduceLT, Int.reduceLE, Int.reduceEq, Int.reduceAdd, Int.reduceSub, Int.reduceMul, Int.reduceMod, Int.reduceTMod, Int.reduceTDiv, Int.reduceNeg, Nat.reduceSub, Nat.reduceDiv, reduceIte, reduceCtorEq]
        · rw [p2]
          have hq2 : ((o : Int) - (k : Int)) % 4294967296 < 2 := by omega
          simp only [hq2, u2, e2, f2, g2, wk, wk1, wk2, Option.some.injEq, exists_eq_left', decide_true, decide_false, Nat.reduceAdd, Nat.reduceEqDiff, Nat.reduceLeDiff, Nat.reduceLT, Nat.reduceMul, Nat.reduceBEq, Int.reduceLT, Int.reduceLE, Int.reduceEq, Int.reduceAdd, Int.reduceSub, Int.reduceMul, Int.reduceMod, Int.reduceTMod, Int.reduceTDiv, Int.reduceNeg, Nat.reduceSub, Nat.reduceDiv, reduceIte, reduceCtorEq]
          refine goCall_by (awake_ran hT hM4.wfs) ?_
          rintro _ s6 ⟨rfl, _⟩
          subst hQ
          simp only [ir7, wk, wk1, wk2, Option.some.injEq, exists_eq_left', decide_true, decide_false, Nat.reduceAdd, Nat.reduceEqDiff, Nat.reduceLeDiff, Nat.reduceLT, Nat.reduceMul, Nat.reduceBEq, Int.reduceLT, Int.reduceLE, Int.reduceEq, Int.reduceAdd, Int.reduceSub, Int.reduceMul, Int.reduceMod, Int.reduceTMod, Int.reduceTDiv, Int.reduceNeg, Nat.reduceSub, Nat.reduceDiv, reduceIte, reduceCtorEq]
        · rw [hv4]
          have hq2 : ((o : Int) - (k : Int)) % 4294967296 < 4 := by omega
          simp only [hq2, u2, u2, wk, wk1, wk2, Option.some.injEq, exists_eq_left', decide_true, decide_false, Nat.reduceAdd, Nat.reduceEqDiff, Nat.reduceLeDiff, Nat.reduceLT, Nat.reduceMul, Nat.reduceBEq, Int.reduceLT, Int.reduceLE, Int.reduceEq, Int.reduceAdd, Int.reduceSub, Int.reduceMul, Int.reduceMod, Int.reduceTMod, Int.reduceTDiv, Int.reduceNeg, Nat.reduceSub, Nat.reduceDiv, reduceIte, reduceCtorEq]
          refine goCall_by (awake_ran hT hM4.wfs) ?_
          rintro _ s6 ⟨rfl, _⟩
          subst hQ
          simp only [ir7, wk, wk1, wk2, Option.some.injEq, exists_eq_left', decide_true, decide_false, Nat.reduceAdd, Nat.reduceEqDiff, Nat.reduceLeDiff, Nat.reduceLT, Nat.reduceMul, Nat.reduceBEq, Int.reduceLT, Int.reduceLE, Int.reduceEq, Int.reduceAdd, Int.reduceSub, Int.reduceMul, Int.reduceMod, Int.reduceTMod, Int.reduceTDiv, Int.reduceNeg, Nat.reduceSub, Nat.reduceDiv, reduceIte, reduceCtorEq]
      · rw [if_neg (by omega)] at hmo
        rcases hm3 with rfl | rfl | rfl
        · rw [p1]
          have hq2 : ¬ ((o : Int) - (k : Int)) % 4294967296 < 1 := by omega
          simp only [hq2, u2, e1, f1, g1, wk, wk1, wk2, Option.some.injEq, exists_eq_left', decide_true, decide_false, Nat.reduceAdd, Nat.reduceEqDiff, Nat.reduceLeDiff, Nat.reduceLT, Nat.reduceMul, Nat.reduceBEq, Int.reduceLT, Int.reduceLE, Int.reduceEq, Int.reduceAdd, Int.reduceSub, Int.reduceMul, Int.reduceMod, Int.reduceTMod, Int.reduceTDiv, Int.reduceNeg, Nat.reduceSub, Nat.reduceDiv, reduceIte, reduceCtorEq]
          refine goCall_by (get_ran hT.get hM4 o) ?_
          rintro _ _ ⟨rfl, rfl⟩
          rw [hmo]
          simp only [wk, wk1, wk2, Option.some.injEq, exists_eq_left', decide_true, decide_false, Nat.reduceAdd, Nat.reduceEqDiff, Nat.reduceLeDiff, Nat.reduceLT, Nat.reduceMul, Nat.reduceBEq, Int.reduceLT, Int.reduceLE, Int.reduceEq, Int.reduceAdd, Int.reduceSub, Int.reduceMul, Int.reduceMod, Int.reduceTMod, Int.reduceTDiv, Int.reduceNeg, Nat.reduceSub, Nat.reduceDiv, reduceIte, reduceCtorEq]
          refine goCall_by (get_ran hT.get hM3' o) ?_
          rintro _ _ ⟨rfl, rfl⟩
          simp only [wk, wk1, wk2, Option.some.injEq, exists_eq_left', decide_true, decide_false, Nat.reduceAdd, Nat.reduceEqDiff, Nat.reduceLeDiff, Nat.reduceLT, Nat.reduceMul, Nat.reduceBEq, Int.reduceLT, Int.reduceLE, Int.reduceEq, Int.reduceAdd, Int.reduceSub, Int.reduceMul, Int.reduceMod, Int.reduceTMod, Int.reduceTDiv, Int.reduceNeg, Nat.reduceSub, Nat.reduceDiv, reduceIte, reduceCtorEq]
          refine goCall_by (awake_ran hT hM4.wfs) ?_
          rintro _ s6 ⟨rfl, _⟩
          subst hQ
          simp only [ir7, wk, wk1, wk2, Option.some.injEq, exists_eq_left', decide_true, decide_false, Nat.reduceAdd, Nat.reduceEqDiff, Nat.reduceLeDiff, Nat.reduceLT, Nat.reduceMul, Nat.reduceBEq, Int.reduceLT, Int.reduceLE, Int.reduceEq, Int.reduceAdd, Int.reduceSub, Int.reduceMul, Int.reduceMod, Int.reduceTMod, Int.reduceTDiv, Int.reduceNeg, Nat.reduceSub, Nat.reduceDiv, reduceIte, reduceCtorEq]
        · rw [p2]
          have hq2 : ¬ ((o : Int) - (k : Int)) % 4294967296 < 2 := by omega
          simp only [hq2, u2, e2, f2, g2, wk, wk1, wk2, Option.some.injEq, exists_eq_left', decide_true, decide_false, Nat.reduceAdd, Nat.reduceEqDiff, Nat.reduceLeDiff, Nat.reduceLT, Nat.reduceMul, Nat.reduceBEq, Int.reduceLT, Int.reduceLE, Int.reduceEq, Int.reduceAdd, Int.reduceSub, Int.reduceMul, Int.reduceMod, Int.reduceTMod, Int.reduceTDiv, Int.reduceNeg, Nat.reduceSub, Nat.reduceDiv, reduceIte, reduceCtorEq]
          refine goCall_by (get_ran hT.get hM4 o) ?_
          rintro _ _ ⟨rfl, rfl⟩
          rw [hmo]
          simp only [wk, wk1, wk2, Option.some.injEq, exists_eq_left', decide_true, decide_false, Nat.reduceAdd, Nat.reduceEqDiff, Nat.reduceLeDiff, Nat.reduceLT, Nat.reduceMul, Nat.reduceBEq, Int.reduceLT, Int.reduceLE, Int.reduceEq, Int.reduceAdd, Int.reduceSub, Int.reduceMul, Int.reduceMod, Int.reduceTMod, Int.reduceTDiv, Int.reduceNeg, Nat.reduceSub, Nat.reduceDiv, reduceIte, reduceCtorEq]
          refine goCall_by (get_ran hT.get hM3' o) ?_
          rintro _ _ ⟨rfl, rfl⟩
          simp only [wk, wk1, wk2, Option.some.injEq, exists_eq_left', decide_true, decide_false, Nat.reduceAdd, Nat.reduceEqDiff, Nat.reduceLeDiff, Nat.reduceLT, Nat.reduceMul, Nat.reduceBEq, Int.reduceLT, Int.reduceLE, Int.reduceEq, Int.reduceAdd, Int.reduceSub, Int.reduceMul, Int.reduceMod, Int.reduceTMod, Int.reduceTDiv, Int.reduceNeg, Nat.reduceSub, Nat.reduceDiv, reduceIte, reduceCtorEq]
          refine goCall_by (awake_ran hT hM4.wfs) ?_
          rintro _ s6 ⟨rfl, _⟩
          subst hQ
          simp only [ir7, wk, wk1, wk2, Option.some.injEq, exists_eq_left', decide_true, decide_false, Nat.reduceAdd, Nat.reduceEqDiff, Nat.reduceLeDiff, Nat.reduceLT, Nat.reduceMul, Nat.reduceBEq, Int.reduceLT, Int.reduceLE, Int.reduceEq, Int.reduceAdd, Int.reduceSub, Int.reduceMul, Int.reduceMod, Int.reduceTMod, Int.reduceTDiv, Int.reduceNeg, Nat.reduceSub, Nat.reduceDiv, reduceIte, reduceCtorEq]
        · rw [hv4]
          have hq2 : ¬ ((o : Int) - (k : Int)) % 4294967296 < 4 := by omega
          simp only [hq2, u2, u2, wk, wk1, wk2, Option.some.injEq, exists_eq_left', decide_true, decide_false, Nat.reduceAdd, Nat.reduceEqDiff, Nat.reduceLeDiff, Nat.reduceLT, Nat.reduceMul, Nat.reduceBEq, Int.reduceLT, Int.reduceLE, Int.reduceEq, Int.reduceAdd, Int.reduceSub, Int.reduceMul, Int.reduceMod, Int.reduceTMod, Int.reduceTDiv, Int.reduceNeg, Nat.reduceSub, Nat.reduceDiv, reduceIte, reduceCtorEq]
          refine goCall_by (get_ran hT.get hM4 o) ?_
          rintro _ _ ⟨rfl, rfl⟩
          rw [hmo]
          simp only [wk, wk1, wk2, Option.some.injEq, exists_eq_left', decide_true, decide_false, Nat.reduceAdd, Nat.reduceEqDiff, Nat.reduceLeDiff, Nat.reduceLT, Nat.reduceMul, Nat.reduceBEq, Int.reduceLT, Int.reduceLE, Int.reduceEq, Int.reduceAdd, Int.reduceSub, Int.reduceMul, Int.reduceMod, Int.reduceTMod, Int.reduceTDiv, Int.reduceNeg, Nat.reduceSub, Nat.reduceDiv, reduceIte, reduceCtorEq]
          refine goCall_by (get_ran hT.get hM3' o) ?_
          rintro _ _ ⟨rfl, rfl⟩
          simp only [wk, wk1, wk2, Option.some.injEq, exists_eq_left', decide_true, decide_false, Nat.reduceAdd, Nat.reduceEqDiff, Nat.reduceLeDiff, Nat.reduceLT, Nat.reduceMul, Nat.reduceBEq, Int.reduceLT, Int.reduceLE, Int.reduceEq, Int.reduceAdd, Int.reduceSub, Int.reduceMul, Int.reduceMod, Int.reduceTMod, Int.reduceTDiv, Int.reduceNeg, Nat.reduceSub, Nat.reduceDiv, reduceIte, reduceCtorEq]
          refine goCall_by (awake_ran hT hM4.wfs) ?_
          rintro _ s6 ⟨rfl, _⟩
          subst hQ
          simp only [ir7, wk, wk1, wk2, Option.some.injEq, exists_eq_left', decide_true, decide_false, Nat.reduceAdd, Nat.reduceEqDiff, Nat.reduceLeDiff, Nat.reduceLT, Nat.reduceMul, Nat.reduceBEq, Int.reduceLT, Int.reduceLE, Int.reduceEq, Int.reduceAdd, Int.reduceSub, Int.reduceMul, Int.reduceMod, Int.reduceTMod, Int.reduceTDiv, Int.reduceNeg, Nat.reduceSub, Nat.reduceDiv, reduceIte, reduceCtorEq]
end
end Go.V
