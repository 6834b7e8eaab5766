/- math/bits.Len, slices.nextPowerOfTwo, xorshift.Next, breakPatternsOrdered over the small language. -/
import Derived.Test.YtlpdekocilhciaaPdqT
set_option linter.unusedVariables false
set_option linter.unusedSimpArgs false
set_option linter.unusedSectionVars false
/- math/bits.Len, slices.nextPowerOfTwo, xorshift.Next, breakPatternsOrdered over the small language. -/
namespace Go.V
open Go
set_option linter.unusedSimpArgs false
set_option linter.unusedVariables false
-- math/bits.Len64
def ir115 : IFunc := ⟨25, [.tmp 2], (.seq (.region [⟨some 2, none, [], (.move (.c (.int .i64 0)))⟩] false)
 (.seq (.seq (.region [⟨some 3, none, [], (.move (.t 0))⟩, ⟨some 4, none, [], (.bin .geq (.t 3) (.c (.int .u64 4294967296)))⟩] false)
 (.cond (.t 4) (.seq (.region [⟨some 5, none, [], (.move (.t 0))⟩, ⟨some 6, none, [], (.bin .shr (.t 5) (.c (.int .u64 32)))⟩, ⟨some 0, none, [], (.move (.t 6))⟩] false)
 (.region [⟨some 2, none, [], (.move (.c (.int .i64 32)))⟩] false)) .skip))
 (.seq (.seq (.region [⟨some 7, none, [], (.move (.t 0))⟩, ⟨some 8, none, [], (.bin .geq (.t 7) (.c (.int .u64 65536)))⟩] false)
 (.cond (.t 8) (.seq (.region [⟨some 9, none, [], (.move (.t 0))⟩, ⟨some 10, none, [], (.bin .shr (.t 9) (.c (.int .u64 16)))⟩, ⟨some 0, none, [], (.move (.t 10))⟩] false)
 (.region [⟨some 11, none, [], (.move (.t 2))⟩, ⟨some 12, none, [], (.bin .add (.t 11) (.c (.int .i64 16)))⟩, ⟨some 2, none, [], (.move (.t 12))⟩] false)) .skip))
 (.seq (.seq (.region [⟨some 13, none, [], (.move (.t 0))⟩, ⟨some 14, none, [], (.bin .geq (.t 13) (.c (.int .u64 256)))⟩] false)
 (.cond (.t 14) (.seq (.region [⟨some 15, none, [], (.move (.t 0))⟩, ⟨some 16, none, [], (.bin .shr (.t 15) (.c (.int .u64 8)))⟩, ⟨some 0, none, [], (.move (.t 16))⟩] false)
 (.region [⟨some 17, none, [], (.move (.t 2))⟩, ⟨some 18, none, [], (.bin .add (.t 17) (.c (.int .i64 8)))⟩, ⟨some 2, none, [], (.move (.t 18))⟩] false)) .skip))
 (.seq (.region [⟨some 19, none, [], (.move (.t 2))⟩, ⟨some 20, none, [], (.move (.t 0))⟩, ⟨some 21, none, [], (.conv (.intInt .u8) (.t 20))⟩, ⟨some 22, none, [], (.idxStr (.c (.str [0, 1, 2, 2, 3, 3, 3, 3, 4, 4, 4, 4, 4, 4, 4, 4, 5, 5, 5, 5, 5, 5, 5, 5, 5, 5, 5, 5, 5, 5, 5, 5, 6, 6, 6, 6, 6, 6, 6, 6, 6, 6, 6, 6, 6, 6, 6, 6, 6, 6, 6, 6, 6, 6, 6, 6, 6, 6, 6, 6, 6, 6, 6, 6, 7, 7, 7, 7, 7, 7, 7, 7, 7, 7, 7, 7, 7, 7, 7, 7, 7, 7, 7, 7, 7, 7, 7, 7, 7, 7, 7, 7, 7, 7, 7, 7, 7, 7, 7, 7, 7, 7, 7, 7, 7, 7, 7, 7, 7, 7, 7, 7, 7, 7, 7, 7, 7, 7, 7, 7, 7, 7, 7, 7, 7, 7, 7, 7, 8, 8, 8, 8, 8, 8, 8, 8, 8, 8, 8, 8, 8, 8, 8, 8, 8, 8, 8, 8, 8, 8, 8, 8, 8, 8, 8, 8, 8, 8, 8, 8, 8, 8, 8, 8, 8, 8, 8, 8, 8, 8, 8, 8, 8, 8, 8, 8, 8, 8, 8, 8, 8, 8, 8, 8, 8, 8, 8, 8, 8, 8, 8, 8, 8, 8, 8, 8, 8, 8, 8, 8, 8, 8, 8, 8, 8, 8, 8, 8, 8, 8, 8, 8, 8, 8, 8, 8, 8, 8, 8, 8, 8, 8, 8, 8, 8, 8, 8, 8, 8, 8, 8, 8, 8, 8, 8, 8, 8, 8, 8, 8, 8, 8, 8, 8, 8, 8, 8, 8, 8, 8, 8, 8, 8, 8, 8, 8])) (.t 21))⟩, ⟨some 23, none, [], (.conv (.intInt .i64) (.t 22))⟩, ⟨some 24, none, [], (.bin .add (.t 19) (.t 23))⟩, ⟨some 2, none, [], (.move (.t 24))⟩] false)
 .ret)))))⟩
-- math/bits.Len
def ir88 : IFunc := ⟨8, [.tmp 2], (.seq (.region [⟨some 2, none, [], (.move (.c (.int .i64 0)))⟩] false)
 (.seq (.cond (.c (.bool false)) (.seq (.region [⟨some 3, none, [], (.move (.t 0))⟩, ⟨some 4, none, [], (.conv (.intInt .u32) (.t 3))⟩, ⟨some 5, none, [], (.call 114 [(.t 4)])⟩, ⟨some 2, none, [], (.move (.t 5))⟩] false)
 .ret) .skip)
 (.seq (.region [⟨some 6, none, [], (.move (.t 0))⟩, ⟨some 7, none, [], (.call 115 [(.t 6)])⟩, ⟨some 2, none, [], (.move (.t 7))⟩] false)
 .ret)))⟩
-- slices.nextPowerOfTwo
def ir146 : IFunc := ⟨7, [.tmp 2], (.seq (.region [⟨some 2, none, [], (.move (.c (.int .u64 0)))⟩] false)
 (.seq (.region [⟨some 3, none, [], (.move (.t 0))⟩, ⟨some 4, none, [], (.conv (.intInt .u64) (.t 3))⟩, ⟨some 5, none, [], (.call 88 [(.t 4)])⟩, ⟨some 6, none, [], (.bin .shl (.c (.int .u64 1)) (.t 5))⟩, ⟨some 2, none, [], (.move (.t 6))⟩] false)
 .ret))⟩
-- (*slices.xorshift).Next
def ir147 : IFunc := ⟨33, [.tmp 2], (.seq (.region [⟨some 2, none, [], (.move (.c (.int .u64 0)))⟩] false)
 (.seq (.region [⟨some 3, none, [], (.move (.t 0))⟩, ⟨some 4, none, [], (.nilCheck (.t 3))⟩, ⟨some 5, none, [], (.load false 1 (.t 4))⟩, ⟨some 6, none, [], (.move (.t 0))⟩, ⟨some 7, none, [], (.nilCheck (.t 6))⟩, ⟨some 8, none, [], (.load false 1 (.t 7))⟩, ⟨some 9, none, [], (.bin .shl (.t 8) (.c (.int .u64 13)))⟩, ⟨some 10, none, [], (.bin .xor (.t 5) (.t 9))⟩, ⟨some 11, none, [], (.nilCheck (.t 3))⟩, ⟨none, none, [], (.store 1 (.t 11) (.t 10))⟩] true)
 (.seq (.region [⟨some 12, none, [], (.move (.t 0))⟩, ⟨some 13, none, [], (.nilCheck (.t 12))⟩, ⟨some 14, none, [], (.load false 1 (.t 13))⟩, ⟨some 15, none, [], (.move (.t 0))⟩, ⟨some 16, none, [], (.nilCheck (.t 15))⟩, ⟨some 17, none, [], (.load false 1 (.t 16))⟩, ⟨some 18, none, [], (.bin .shr (.t 17) (.c (.int .u64 7)))⟩, ⟨some 19, none, [], (.bin .xor (.t 14) (.t 18))⟩, ⟨some 20, none, [], (.nilCheck (.t 12))⟩, ⟨none, none, [], (.store 1 (.t 20) (.t 19))⟩] true)
 (.seq (.region [⟨some 21, none, [], (.move (.t 0))⟩, ⟨some 22, none, [], (.nilCheck (.t 21))⟩, ⟨some 23, none, [], (.load false 1 (.t 22))⟩, ⟨some 24, none, [], (.move (.t 0))⟩, ⟨some 25, none, [], (.nilCheck (.t 24))⟩, ⟨some 26, none, [], (.load false 1 (.t 25))⟩, ⟨some 27, none, [], (.bin .shl (.t 26) (.c (.int .u64 17)))⟩, ⟨some 28, none, [], (.bin .xor (.t 23) (.t 27))⟩, ⟨some 29, none, [], (.nilCheck (.t 21))⟩, ⟨none, none, [], (.store 1 (.t 29) (.t 28))⟩] true)
 (.seq (.region [⟨some 30, none, [], (.move (.t 0))⟩, ⟨some 31, none, [], (.nilCheck (.t 30))⟩, ⟨some 32, none, [], (.load false 1 (.t 31))⟩, ⟨some 2, none, [], (.move (.t 32))⟩] false)
 .ret)))))⟩
-- slices.breakPatternsOrdered[uint32]
def ir136 : IFunc := ⟨65, [], (.seq (.region [⟨some 11, none, [], (.move (.t 2))⟩, ⟨some 12, none, [], (.move (.t 1))⟩, ⟨some 13, none, [], (.bin .sub (.t 11) (.t 12))⟩, ⟨some 6, none, [], (.move (.t 13))⟩] false)
 (.seq (.region [⟨some 14, none, [], (.move (.t 6))⟩, ⟨some 15, none, [], (.bin .geq (.t 14) (.c (.int .i64 8)))⟩] false)
 (.cond (.t 15) (.seq (.region [⟨some 16, none, [], (.move (.t 6))⟩, ⟨some 17, none, [], (.conv (.intInt .u64) (.t 16))⟩, ⟨some 7, none, [], (.alloc [(.int .u64 0)])⟩, ⟨none, none, [], (.store 1 (.t 7) (.t 17))⟩] false)
 (.seq (.region [⟨some 18, none, [], (.move (.t 6))⟩, ⟨some 19, none, [], (.call 146 [(.t 18)])⟩, ⟨some 8, none, [], (.move (.t 19))⟩] false)
 (.seq (.region [⟨some 20, none, [], (.move (.t 1))⟩, ⟨some 21, none, [], (.move (.t 6))⟩, ⟨some 22, none, [], (.bin .quo (.t 21) (.c (.int .i64 4)))⟩, ⟨some 23, none, [], (.bin .mul (.t 22) (.c (.int .i64 2)))⟩, ⟨some 24, none, [], (.bin .add (.t 20) (.t 23))⟩, ⟨some 25, none, [], (.bin .sub (.t 24) (.c (.int .i64 1)))⟩, ⟨some 9, none, [], (.move (.t 25))⟩] false)
 (.block 0 (.loop (.seq (.seq (.region [⟨some 26, none, [], (.move (.t 9))⟩, ⟨some 27, none, [], (.move (.t 1))⟩, ⟨some 28, none, [], (.move (.t 6))⟩, ⟨some 29, none, [], (.bin .quo (.t 28) (.c (.int .i64 4)))⟩, ⟨some 30, none, [], (.bin .mul (.t 29) (.c (.int .i64 2)))⟩, ⟨some 31, none, [], (.bin .add (.t 27) (.t 30))⟩, ⟨some 32, none, [], (.bin .add (.t 31) (.c (.int .i64 1)))⟩, ⟨some 33, none, [], (.bin .leq (.t 26) (.t 32))⟩] false)
 (.cond (.t 33) .skip (.exit 0)))
 (.seq (.block 1 (.seq (.region [⟨some 36, none, [], (.call 147 [(.t 7)])⟩, ⟨some 37, none, [], (.move (.t 8))⟩, ⟨some 38, none, [], (.bin .sub (.t 37) (.c (.int .u64 1)))⟩, ⟨some 39, none, [], (.bin .and (.t 36) (.t 38))⟩, ⟨some 40, none, [], (.conv (.intInt .i64) (.t 39))⟩, ⟨some 10, none, [], (.move (.t 40))⟩] false)
 (.seq (.seq (.region [⟨some 41, none, [], (.move (.t 10))⟩, ⟨some 42, none, [], (.move (.t 6))⟩, ⟨some 43, none, [], (.bin .geq (.t 41) (.t 42))⟩] false)
 (.cond (.t 43) (.region [⟨some 44, none, [], (.move (.t 10))⟩, ⟨some 45, none, [], (.move (.t 6))⟩, ⟨some 46, none, [], (.bin .sub (.t 44) (.t 45))⟩, ⟨some 10, none, [], (.move (.t 46))⟩] false) .skip))
 (.region [⟨some 47, none, [], (.move (.t 0))⟩, ⟨some 48, none, [], (.move (.t 9))⟩, ⟨some 49, none, [], (.move (.t 0))⟩, ⟨some 50, none, [], (.move (.t 1))⟩, ⟨some 51, none, [], (.move (.t 10))⟩, ⟨some 52, none, [], (.bin .add (.t 50) (.t 51))⟩, ⟨some 53, none, [], (.move (.t 0))⟩, ⟨some 54, none, [], (.move (.t 1))⟩, ⟨some 55, none, [], (.move (.t 10))⟩, ⟨some 56, none, [], (.bin .add (.t 54) (.t 55))⟩, ⟨some 57, none, [], (.idxSl 1 (.t 53) (.t 56))⟩, ⟨some 58, none, [], (.load false 1 (.t 57))⟩, ⟨some 59, none, [], (.move (.t 0))⟩, ⟨some 60, none, [], (.move (.t 9))⟩, ⟨some 61, none, [], (.idxSl 1 (.t 59) (.t 60))⟩, ⟨some 62, none, [], (.load false 1 (.t 61))⟩, ⟨some 63, none, [], (.idxSl 1 (.t 47) (.t 48))⟩, ⟨none, none, [], (.store 1 (.t 63) (.t 58))⟩, ⟨some 64, none, [], (.idxSl 1 (.t 49) (.t 52))⟩, ⟨none, none, [], (.store 1 (.t 64) (.t 62))⟩] true))))
 (.region [⟨some 34, none, [], (.move (.t 9))⟩, ⟨some 35, none, [], (.bin .add (.t 34) (.c (.int .i64 1)))⟩, ⟨some 9, none, [], (.move (.t 35))⟩] false)))))))) .skip)))⟩

def lenTab : List UInt8 := [0, 1, 2, 2, 3, 3, 3, 3, 4, 4, 4, 4, 4, 4, 4, 4, 5, 5, 5, 5, 5, 5, 5, 5, 5, 5, 5, 5, 5, 5, 5, 5, 6, 6, 6, 6, 6, 6, 6, 6, 6, 6, 6, 6, 6, 6, 6, 6, 6, 6, 6, 6, 6, 6, 6, 6, 6, 6, 6, 6, 6, 6, 6, 6, 7, 7, 7, 7, 7, 7, 7, 7, 7, 7, 7, 7, 7, 7, 7, 7, 7, 7, 7, 7, 7, 7, 7, 7, 7, 7, 7, 7, 7, 7, 7, 7, 7, 7, 7, 7, 7, 7, 7, 7, 7, 7, 7, 7, 7, 7, 7, 7, 7, 7, 7, 7, 7, 7, 7, 7, 7, 7, 7, 7, 7, 7, 7, 7, 8, 8, 8, 8, 8, 8, 8, 8, 8, 8, 8, 8, 8, 8, 8, 8, 8, 8, 8, 8, 8, 8, 8, 8, 8, 8, 8, 8, 8, 8, 8, 8, 8, 8, 8, 8, 8, 8, 8, 8, 8, 8, 8, 8, 8, 8, 8, 8, 8, 8, 8, 8, 8, 8, 8, 8, 8, 8, 8, 8, 8, 8, 8, 8, 8, 8, 8, 8, 8, 8, 8, 8, 8, 8, 8, 8, 8, 8, 8, 8, 8, 8, 8, 8, 8, 8, 8, 8, 8, 8, 8, 8, 8, 8, 8, 8, 8, 8, 8, 8, 8, 8, 8, 8, 8, 8, 8, 8, 8, 8, 8, 8, 8, 8, 8, 8, 8, 8, 8, 8, 8, 8, 8, 8, 8, 8, 8, 8]
def allB (p : Nat → Bool) : Nat → Bool
  | 0 => true
  | n + 1 => p n && allB p n
theorem allB_get {p : Nat → Bool} : ∀ {n : Nat}, allB p n = true → ∀ i, i < n → p i = true
  | 0, _, i, hi => by omega
  | n + 1, h, i, hi => by
    simp only [allB, Bool.and_eq_true] at h
    rcases Nat.lt_succ_iff_lt_or_eq.1 hi with h1 | rfl
    · exact allB_get h.2 i h1
    · exact h.1
theorem lenTab_ev : allB (fun y => match lenTab[y]? with | some b => (Nat.ble (2 ^ b.toNat) (2 * y) || Nat.beq y 0) && Nat.ble b.toNat 8 | none => false) 256 = true := by decide +kernel
theorem lenTab_at (y : Nat) (h : y < 256) : ∃ b : UInt8, lenTab[y]? = some b ∧ (1 ≤ y → 2 ^ b.toNat ≤ 2 * y) ∧ b.toNat ≤ 8 := by
  have := allB_get lenTab_ev y h
  cases hb : lenTab[y]? with
  | none => rw [hb] at this; cases this
  | some b =>
    rw [hb] at this
    simp only [Bool.and_eq_true, Bool.or_eq_true] at this
    refine ⟨b, rfl, fun hy => ?_, Nat.le_of_ble_eq_true this.2⟩
    rcases this.1 with h1 | h1
    · exact Nat.le_of_ble_eq_true h1
    · have := Nat.eq_of_beq_eq_true h1; omega
section
variable {T : Tab}
theorem shr_lit (x m : Nat) (hm : m ≤ 64) : binV .shr (.int .u64 (x : Int)) (.int .u64 (m : Int)) = some (.int .u64 ((x / 2 ^ m : Nat) : Int)) := by
  rw [b_shr]
  have : min m IntKind.u64.bits = m := by simp [IntKind.bits]; omega
  rw [this]
  simp
set_option maxRecDepth 100000 in
set_option maxHeartbeats 4000000 in
theorem len64_ran (hc : T 115 = some (.code ir115)) (s : St) (x : Nat) (hx : x ≤ 1000000000) :
    Ran T 115 [.int .u64 (x : Int)] s fun v s' => s' = s ∧ ∃ k : Nat, v = .int .i64 (k : Int) ∧ k ≤ 40 ∧ (1 ≤ x → 2 ^ k ≤ 2 * x) := by
  refine ran_code hc (Nat.le_of_ble_eq_true rfl) ?_
  have c1 : ¬ ((4294967296 : Int) ≤ (x : Int)) := by omega
  have s16 := shr_lit x 16 (by omega)
  have s8 := fun y => shr_lit y 8 (by omega)
  have e16 : ((16 : Nat) : Int) = 16 := rfl
  have e8 : ((8 : Nat) : Int) = 8 := rfl
  simp only [e16, e8] at s16 s8
  have tab : ∀ y : Nat, y < 256 → ∃ b : UInt8, lenTab[y]? = some b ∧ (1 ≤ y → 2 ^ b.toNat ≤ 2 * y) ∧ b.toNat ≤ 8 := lenTab_at
  generalize hQ : Fin _ _ = Q
  have hl : ([0, 1, 2, 2, 3, 3, 3, 3, 4, 4, 4, 4, 4, 4, 4, 4, 5, 5, 5, 5, 5, 5, 5, 5, 5, 5, 5, 5, 5, 5, 5, 5, 6, 6, 6, 6, 6, 6, 6, 6, 6, 6, 6, 6, 6, 6, 6, 6, 6, 6, 6, 6, 6, 6, 6, 6, 6, 6, 6, 6, 6, 6, 6, 6, 7, 7, 7, 7, 7, 7, 7, 7, 7, 7, 7, 7, 7, 7, 7, 7, 7, 7, 7, 7, 7, 7, 7, 7, 7, 7, 7, 7, 7, 7, 7, 7, 7, 7, 7, 7, 7, 7, 7, 7, 7, 7, 7, 7, 7, 7, 7, 7, 7, 7, 7, 7, 7, 7, 7, 7, 7, 7, 7, 7, 7, 7, 7, 7, 8, 8, 8, 8, 8, 8, 8, 8, 8, 8, 8, 8, 8, 8, 8, 8, 8, 8, 8, 8, 8, 8, 8, 8, 8, 8, 8, 8, 8, 8, 8, 8, 8, 8, 8, 8, 8, 8, 8, 8, 8, 8, 8, 8, 8, 8, 8, 8, 8, 8, 8, 8, 8, 8, 8, 8, 8, 8, 8, 8, 8, 8, 8, 8, 8, 8, 8, 8, 8, 8, 8, 8, 8, 8, 8, 8, 8, 8, 8, 8, 8, 8, 8, 8, 8, 8, 8, 8, 8, 8, 8, 8, 8, 8, 8, 8, 8, 8, 8, 8, 8, 8, 8, 8, 8, 8, 8, 8, 8, 8, 8, 8, 8, 8, 8, 8, 8, 8, 8, 8, 8, 8, 8, 8, 8, 8, 8, 8] : List UInt8) = lenTab := rfl
  -- what is left behind the shifts
  have fin : ∀ (e : Env) (y m : Nat), y < 256 → m ≤ 24 → 2 ^ m * y ≤ x → (1 ≤ x → 1 ≤ y) → opd e (.t 0) = .int .u64 (y : Int) → opd e (.t 2) = .int .i64 (m : Int) → Go T Q ((.seq (.region [⟨some 19, none, [], (.move (.t 2))⟩, ⟨some 20, none, [], (.move (.t 0))⟩, ⟨some 21, none, [], (.conv (.intInt .u8) (.t 20))⟩, ⟨some 22, none, [], (.idxStr (.c (.str [0, 1, 2, 2, 3, 3, 3, 3, 4, 4, 4, 4, 4, 4, 4, 4, 5, 5, 5, 5, 5, 5, 5, 5, 5, 5, 5, 5, 5, 5, 5, 5, 6, 6, 6, 6, 6, 6, 6, 6, 6, 6, 6, 6, 6, 6, 6, 6, 6, 6, 6, 6, 6, 6, 6, 6, 6, 6, 6, 6, 6, 6, 6, 6, 7, 7, 7, 7, 7, 7, 7, 7, 7, 7, 7, 7, 7, 7, 7, 7, 7, 7, 7, 7, 7, 7, 7, 7, 7, 7, 7, 7, 7, 7, 7, 7, 7, 7, 7, 7, 7, 7, 7, 7, 7, 7, 7, 7, 7, 7, 7, 7, 7, 7, 7, 7, 7, 7, 7, 7, 7, 7, 7, 7, 7, 7, 7, 7, 8, 8, 8, 8, 8, 8, 8, 8, 8, 8, 8, 8, 8, 8, 8, 8, 8, 8, 8, 8, 8, 8, 8, 8, 8, 8, 8, 8, 8, 8, 8, 8, 8, 8, 8, 8, 8, 8, 8, 8, 8, 8, 8, 8, 8, 8, 8, 8, 8, 8, 8, 8, 8, 8, 8, 8, 8, 8, 8, 8, 8, 8, 8, 8, 8, 8, 8, 8, 8, 8, 8, 8, 8, 8, 8, 8, 8, 8, 8, 8, 8, 8, 8, 8, 8, 8, 8, 8, 8, 8, 8, 8, 8, 8, 8, 8, 8, 8, 8, 8, 8, 8, 8, 8, 8, 8, 8, 8, 8, 8, 8, 8, 8, 8, 8, 8, 8, 8, 8, 8, 8, 8, 8, 8, 8, 8, 8, 8])) (.t 21))⟩, ⟨some 23, none, [], (.conv (.intInt .i64) (.t 22))⟩, ⟨some 24, none, [], (.bin .add (.t 19) (.t 23))⟩, ⟨some 2, none, [], (.move (.t 24))⟩] false)
 .ret)) [] e s := by
    intro e y m hy hm hyx hpos h0 h2
    obtain ⟨b, b1, b2, b3⟩ := tab y hy
    have u1 : (y : Int) % 256 = Int.ofNat y := by
      show (y : Int) % 256 = (y : Int); omega
    have u2 : wrapF .i64 ((b.toNat : Nat) : Int) = ((b.toNat : Nat) : Int) := wrap_i64 _ (by omega) (by omega)
    have u3 : wrapF .i64 ((m : Int) + ((b.toNat : Nat) : Int)) = ((m + b.toNat : Nat) : Int) := by rw [wrap_i64 _ (by omega) (by omega)]; omega
    simp only [hl, h0, h2, u1, b1, u2, u3, wk, wk1, wk2, Option.some.injEq, exists_eq_left', decide_true, decide_false, Nat.reduceAdd, Nat.reduceEqDiff, Nat.reduceLeDiff, Nat.reduceLT, Nat.reduceMul, Nat.reduceBEq, Int.reduceLT, Int.reduceLE, Int.reduceEq, Int.reduceAdd, Int.reduceSub, Int.reduceMul, Int.reduceMod, Int.reduceTMod, Int.reduceTDiv, Int.reduceNeg, Nat.reduceSub, Nat.reduceDiv, reduceIte, reduceCtorEq]
    subst hQ
    simp only [ir115, wk, wk1, wk2, Option.some.injEq, exists_eq_left', decide_true, decide_false, Nat.reduceAdd, Nat.reduceEqDiff, Nat.reduceLeDiff, Nat.reduceLT, Nat.reduceMul, Nat.reduceBEq, Int.reduceLT, Int.reduceLE, Int.reduceEq, Int.reduceAdd, Int.reduceSub, Int.reduceMul, Int.reduceMod, Int.reduceTMod, Int.reduceTDiv, Int.reduceNeg, Nat.reduceSub, Nat.reduceDiv, reduceIte, reduceCtorEq]
    refine ⟨m + b.toNat, rfl, by omega, fun hx1 => ?_⟩
    have h3 := b2 (hpos hx1)
    calc 2 ^ (m + b.toNat) = 2 ^ m * 2 ^ b.toNat := Nat.pow_add 2 m _
      _ ≤ 2 ^ m * (2 * y) := Nat.mul_le_mul_left _ h3
      _ = 2 * (2 ^ m * y) := by rw [Nat.mul_left_comm]
      _ ≤ 2 * x := Nat.mul_le_mul_left 2 hyx
  generalize hRC : (((.seq (.region [⟨some 19, none, [], (.move (.t 2))⟩, ⟨some 20, none, [], (.move (.t 0))⟩, ⟨some 21, none, [], (.conv (.intInt .u8) (.t 20))⟩, ⟨some 22, none, [], (.idxStr (.c (.str [0, 1, 2, 2, 3, 3, 3, 3, 4, 4, 4, 4, 4, 4, 4, 4, 5, 5, 5, 5, 5, 5, 5, 5, 5, 5, 5, 5, 5, 5, 5, 5, 6, 6, 6, 6, 6, 6, 6, 6, 6, 6, 6, 6, 6, 6, 6, 6, 6, 6, 6, 6, 6, 6, 6, 6, 6, 6, 6, 6, 6, 6, 6, 6, 7, 7, 7, 7, 7, 7, 7, 7, 7, 7, 7, 7, 7, 7, 7, 7, 7, 7, 7, 7, 7, 7, 7, 7, 7, 7, 7, 7, 7, 7, 7, 7, 7, 7, 7, 7, 7, 7, 7, 7, 7, 7, 7, 7, 7, 7, 7, 7, 7, 7, 7, 7, 7, 7, 7, 7, 7, 7, 7, 7, 7, 7, 7, 7, 8, 8, 8, 8, 8, 8, 8, 8, 8, 8, 8, 8, 8, 8, 8, 8, 8, 8, 8, 8, 8, 8, 8, 8, 8, 8, 8, 8, 8, 8, 8, 8, 8, 8, 8, 8, 8, 8, 8, 8, 8, 8, 8, 8, 8, 8, 8, 8, 8, 8, 8, 8, 8, 8, 8, 8, 8, 8, 8, 8, 8, 8, 8, 8, 8, 8, 8, 8, 8, 8, 8, 8, 8, 8, 8, 8, 8, 8, 8, 8, 8, 8, 8, 8, 8, 8, 8, 8, 8, 8, 8, 8, 8, 8, 8, 8, 8, 8, 8, 8, 8, 8, 8, 8, 8, 8, 8, 8, 8, 8, 8, 8, 8, 8, 8, 8, 8, 8, 8, 8, 8, 8, 8, 8, 8, 8, 8, 8])) (.t 21))⟩, ⟨some 23, none, [], (.conv (.intInt .i64) (.t 22))⟩, ⟨some 24, none, [], (.bin .add (.t 19) (.t 23))⟩, ⟨some 2, none, [], (.move (.t 24))⟩] false)
 .ret)) : ICode) = RC at *
  have z0 : (0 : Int) = ((0 : Nat) : Int) := rfl
  by_cases h1 : 65536 ≤ x
  · have l1 : (65536 : Int) ≤ (x : Int) := by omega
    obtain ⟨y, hy⟩ : ∃ y, y = x / 2 ^ 16 := ⟨_, rfl⟩
    rw [← hy] at s16
    have hy2 : y = x / 65536 := hy
    by_cases h2 : 256 ≤ y
    · have l2 : (256 : Int) ≤ (y : Int) := by omega
      have s8' := s8 y
      obtain ⟨z, hz⟩ : ∃ z, z = y / 2 ^ 8 := ⟨_, rfl⟩
      rw [← hz] at s8'
      have hz2 : z = y / 256 := hz
      simp only [ir115, hRC, c1, l1, l2, s16, s8', wk, wk1, wk2, Option.some.injEq, exists_eq_left', decide_true, decide_false, Nat.reduceAdd, Nat.reduceEqDiff, Nat.reduceLeDiff, Nat.reduceLT, Nat.reduceMul, Nat.reduceBEq, Int.reduceLT, Int.reduceLE, Int.reduceEq, Int.reduceAdd, Int.reduceSub, Int.reduceMul, Int.reduceMod, Int.reduceTMod, Int.reduceTDiv, Int.reduceNeg, Nat.reduceSub, Nat.reduceDiv, reduceIte, reduceCtorEq]
      refine fin _ z 24 (by omega) (by omega) (by omega) (by omega) ?_ ?_ <;> simp only [wk, wk1, wk2, Option.some.injEq, exists_eq_left', decide_true, decide_false, Nat.reduceAdd, Nat.reduceEqDiff, Nat.reduceLeDiff, Nat.reduceLT, Nat.reduceMul, Nat.reduceBEq, Int.reduceLT, Int.reduceLE, Int.reduceEq, Int.reduceAdd, Int.reduceSub, Int.reduceMul, Int.reduceMod, Int.reduceTMod, Int.reduceTDiv, Int.reduceNeg, Nat.reduceSub, Nat.reduceDiv, reduceIte, reduceCtorEq] <;> rfl
    · have l2 : ¬ (256 : Int) ≤ (y : Int) := by omega
      simp only [ir115, hRC, c1, l1, l2, s16, wk, wk1, wk2, Option.some.injEq, exists_eq_left', decide_true, decide_false, Nat.reduceAdd, Nat.reduceEqDiff, Nat.reduceLeDiff, Nat.reduceLT, Nat.reduceMul, Nat.reduceBEq, Int.reduceLT, Int.reduceLE, Int.reduceEq, Int.reduceAdd, Int.reduceSub, Int.reduceMul, Int.reduceMod, Int.reduceTMod, Int.reduceTDiv, Int.reduceNeg, Nat.reduceSub, Nat.reduceDiv, reduceIte, reduceCtorEq]
      refine fin _ y 16 (by omega) (by omega) (by omega) (by omega) ?_ ?_ <;> simp only [wk, wk1, wk2, Option.some.injEq, exists_eq_left', decide_true, decide_false, Nat.reduceAdd, Nat.reduceEqDiff, Nat.reduceLeDiff, Nat.reduceLT, Nat.reduceMul, Nat.reduceBEq, Int.reduceLT, Int.reduceLE, Int.reduceEq, Int.reduceAdd, Int.reduceSub, Int.reduceMul, Int.reduceMod, Int.reduceTMod, Int.reduceTDiv, Int.reduceNeg, Nat.reduceSub, Nat.reduceDiv, reduceIte, reduceCtorEq] <;> rfl
  · have l1 : ¬ (65536 : Int) ≤ (x : Int) := by omega
    by_cases h2 : 256 ≤ x
    · have l2 : (256 : Int) ≤ (x : Int) := by omega
      have s8' := s8 x
      obtain ⟨z, hz⟩ : ∃ z, z = x / 2 ^ 8 := ⟨_, rfl⟩
      rw [← hz] at s8'
      have hz2 : z = x / 256 := hz
      simp only [ir115, hRC, c1, l1, l2, s8', wk, wk1, wk2, Option.some.injEq, exists_eq_left', decide_true, decide_false, Nat.reduceAdd, Nat.reduceEqDiff, Nat.reduceLeDiff, Nat.reduceLT, Nat.reduceMul, Nat.reduceBEq, Int.reduceLT, Int.reduceLE, Int.reduceEq, Int.reduceAdd, Int.reduceSub, Int.reduceMul, Int.reduceMod, Int.reduceTMod, Int.reduceTDiv, Int.reduceNeg, Nat.reduceSub, Nat.reduceDiv, reduceIte, reduceCtorEq]
      refine fin _ z 8 (by omega) (by omega) (by omega) (by omega) ?_ ?_ <;> simp only [wk, wk1, wk2, Option.some.injEq, exists_eq_left', decide_true, decide_false, Nat.reduceAdd, Nat.reduceEqDiff, Nat.reduceLeDiff, Nat.reduceLT, Nat.reduceMul, Nat.reduceBEq, Int.reduceLT, Int.reduceLE, Int.reduceEq, Int.reduceAdd, Int.reduceSub, Int.reduceMul, Int.reduceMod, Int.reduceTMod, Int.reduceTDiv, Int.reduceNeg, Nat.reduceSub, Nat.reduceDiv, reduceIte, reduceCtorEq] <;> rfl
    · have l2 : ¬ (256 : Int) ≤ (x : Int) := by omega
      simp only [ir115, hRC, c1, l1, l2, wk, wk1, wk2, Option.some.injEq, exists_eq_left', decide_true, decide_false, Nat.reduceAdd, Nat.reduceEqDiff, Nat.reduceLeDiff, Nat.reduceLT, Nat.reduceMul, Nat.reduceBEq, Int.reduceLT, Int.reduceLE, Int.reduceEq, Int.reduceAdd, Int.reduceSub, Int.reduceMul, Int.reduceMod, Int.reduceTMod, Int.reduceTDiv, Int.reduceNeg, Nat.reduceSub, Nat.reduceDiv, reduceIte, reduceCtorEq]
      refine fin _ x 0 (by omega) (by omega) (by omega) (by omega) ?_ ?_ <;> simp only [wk, wk1, wk2, Option.some.injEq, exists_eq_left', decide_true, decide_false, Nat.reduceAdd, Nat.reduceEqDiff, Nat.reduceLeDiff, Nat.reduceLT, Nat.reduceMul, Nat.reduceBEq, Int.reduceLT, Int.reduceLE, Int.reduceEq, Int.reduceAdd, Int.reduceSub, Int.reduceMul, Int.reduceMod, Int.reduceTMod, Int.reduceTDiv, Int.reduceNeg, Nat.reduceSub, Nat.reduceDiv, reduceIte, reduceCtorEq] <;> rfl
theorem len_ran (hc : T 88 = some (.code ir88)) (h64 : T 115 = some (.code ir115)) (s : St) (x : Nat) (hx : x ≤ 1000000000) :
    Ran T 88 [.int .u64 (x : Int)] s fun v s' => s' = s ∧ ∃ k : Nat, v = .int .i64 (k : Int) ∧ k ≤ 40 ∧ (1 ≤ x → 2 ^ k ≤ 2 * x) := by
  refine ran_code hc (Nat.le_of_ble_eq_true rfl) ?_
  generalize hQ : Fin _ _ = Q
  simp only [ir88, wk, wk1, wk2, Option.some.injEq, exists_eq_left', decide_true, decide_false, Nat.reduceAdd, Nat.reduceEqDiff, Nat.reduceLeDiff, Nat.reduceLT, Nat.reduceMul, Nat.reduceBEq, Int.reduceLT, Int.reduceLE, Int.reduceEq, Int.reduceAdd, Int.reduceSub, Int.reduceMul, Int.reduceMod, Int.reduceTMod, Int.reduceTDiv, Int.reduceNeg, Nat.reduceSub, Nat.reduceDiv, reduceIte, reduceCtorEq]
  refine goCall_by (len64_ran h64 s x hx) ?_
  rintro v s' ⟨rfl, k, rfl, h1, h2⟩
  subst hQ
  simp only [ir88, wk, wk1, wk2, Option.some.injEq, exists_eq_left', decide_true, decide_false, Nat.reduceAdd, Nat.reduceEqDiff, Nat.reduceLeDiff, Nat.reduceLT, Nat.reduceMul, Nat.reduceBEq, Int.reduceLT, Int.reduceLE, Int.reduceEq, Int.reduceAdd, Int.reduceSub, Int.reduceMul, Int.reduceMod, Int.reduceTMod, Int.reduceTDiv, Int.reduceNeg, Nat.reduceSub, Nat.reduceDiv, reduceIte, reduceCtorEq]
  exact ⟨k, rfl, h1, h2⟩
theorem pow2_ran (hc : T 146 = some (.code ir146)) (hl : T 88 = some (.code ir88)) (h64 : T 115 = some (.code ir115)) (s : St) (x : Nat) (hx : x ≤ 1000000000) (h1 : 1 ≤ x) :
    Ran T 146 [.int .i64 (x : Int)] s fun v s' => s' = s ∧ ∃ k : Nat, v = .int .u64 (k : Int) ∧ 1 ≤ k ∧ k ≤ 2 * x := by
  refine ran_code hc (Nat.le_of_ble_eq_true rfl) ?_
  have u1 : (x : Int) % 18446744073709551616 = (x : Int) := by omega
  generalize hQ : Fin _ _ = Q
  simp only [ir146, u1, wk, wk1, wk2, Option.some.injEq, exists_eq_left', decide_true, decide_false, Nat.reduceAdd, Nat.reduceEqDiff, Nat.reduceLeDiff, Nat.reduceLT, Nat.reduceMul, Nat.reduceBEq, Int.reduceLT, Int.reduceLE, Int.reduceEq, Int.reduceAdd, Int.reduceSub, Int.reduceMul, Int.reduceMod, Int.reduceTMod, Int.reduceTDiv, Int.reduceNeg, Nat.reduceSub, Nat.reduceDiv, reduceIte, reduceCtorEq]
  refine goCall_by (len_ran hl h64 s x hx) ?_
  rintro v s' ⟨rfl, k, rfl, h2, h3⟩
  have h3 := h3 h1
  have sh : binV .shl (.int .u64 1) (.int .i64 (k : Int)) = some (.int .u64 ((2 ^ k : Nat) : Int)) := by
    rw [b_shl]
    have : min k IntKind.u64.bits = k := by simp [IntKind.bits]; omega
    rw [this, wrap_u64]
    have h4 : ((2 ^ k : Nat) : Int) ≤ 2000000000 := by omega
    have h5 : (1 : Int) * 2 ^ k = ((2 ^ k : Nat) : Int) := by simp
    rw [h5]
    congr 2
    have : (0 : Int) ≤ ((2 ^ k : Nat) : Int) := Int.natCast_nonneg _
    omega
  subst hQ
  simp only [ir146, sh, wk, wk1, wk2, Option.some.injEq, exists_eq_left', decide_true, decide_false, Nat.reduceAdd, Nat.reduceEqDiff, Nat.reduceLeDiff, Nat.reduceLT, Nat.reduceMul, Nat.reduceBEq, Int.reduceLT, Int.reduceLE, Int.reduceEq, Int.reduceAdd, Int.reduceSub, Int.reduceMul, Int.reduceMod, Int.reduceTMod, Int.reduceTDiv, Int.reduceNeg, Nat.reduceSub, Nat.reduceDiv, reduceIte, reduceCtorEq]
  exact ⟨2 ^ k, rfl, Nat.one_le_two_pow, h3⟩

theorem xor_ex (a b : Int) : ∃ c : Int, 0 ≤ c ∧ c < 18446744073709551616 ∧ binV .xor (.int .u64 a) (.int .u64 b) = some (.int .u64 c) := by
  refine ⟨IntKind.u64.wrap (BitVec.ofInt 64 a ^^^ BitVec.ofInt 64 b).toNat, ?_, ?_, ?_⟩
  · simp only [IntKind.wrap, IntKind.signed, IntKind.bits]; simp; omega
  · simp only [IntKind.wrap, IntKind.signed, IntKind.bits]; simp; omega
  · show some (mkInt .u64 _) = _
    rw [mkInt_eq]
    rfl
theorem and_ex (a : Int) (b : Nat) (hb : b < 18446744073709551616) : ∃ c : Nat, c ≤ b ∧ binV .and (.int .u64 a) (.int .u64 (b : Int)) = some (.int .u64 (c : Int)) := by
  have h1 : (BitVec.ofInt 64 a &&& BitVec.ofInt 64 (b : Int)).toNat ≤ b := by
    rw [BitVec.toNat_and]
    refine Nat.le_trans Nat.and_le_right ?_
    rw [BitVec.toNat_ofInt]
    have : (((2 ^ 64 : Nat) : Int)) = 18446744073709551616 := rfl
    rw [this]
    omega
  refine ⟨(BitVec.ofInt 64 a &&& BitVec.ofInt 64 (b : Int)).toNat, h1, ?_⟩
  show some (mkInt .u64 (IntKind.u64.wrap ((BitVec.ofInt 64 a &&& BitVec.ofInt 64 (b : Int)).toNat : Int))) = _
  rw [mkInt_eq]
  generalize (BitVec.ofInt 64 a &&& BitVec.ofInt 64 (b : Int)).toNat = t at h1
  rw [← wrapF_eq, wrap_u64]
  congr 2
  omega
theorem shl_ex (a : Int) (m : Nat) : ∃ c : Int, binV .shl (.int .u64 a) (.int .u64 (m : Int)) = some (.int .u64 c) := ⟨_, b_shl _ _ _ _⟩
theorem shr_ex (a : Int) (m : Nat) : ∃ c : Int, binV .shr (.int .u64 a) (.int .u64 (m : Int)) = some (.int .u64 c) := ⟨_, b_shr _ _ _ _⟩
set_option maxHeartbeats 4000000 in
theorem xs_ran (hc : T 147 = some (.code ir147)) (s : St) (p : Nat) (z : Int) (hz : s.heap.get p = some (.cells [.int .u64 z] 0 0 false)) :
    Ran T 147 [.ptr ⟨p, 0, 0, 1⟩] s fun v s' => ∃ z' : Int, v = .int .u64 z' ∧ s' = s.put p (.cells [.int .u64 z'] 0 0 false) := by
  refine ran_code hc (Nat.le_of_ble_eq_true rfl) ?_
  obtain ⟨a1, e1⟩ := shl_ex z 13
  obtain ⟨z1, _, _, f1⟩ := xor_ex z a1
  obtain ⟨a2, e2⟩ := shr_ex z1 7
  obtain ⟨z2, _, _, f2⟩ := xor_ex z1 a2
  obtain ⟨a3, e3⟩ := shl_ex z2 17
  obtain ⟨z3, _, _, f3⟩ := xor_ex z2 a3
  have k1 : ((13 : Nat) : Int) = 13 := rfl
  have k2 : ((7 : Nat) : Int) = 7 := rfl
  have k3 : ((17 : Nat) : Int) = 17 := rfl
  rw [k1] at e1
  rw [k2] at e2
  rw [k3] at e3
  generalize hQ : Fin _ _ = Q
  simp only [ir147, hz, e1, e2, e3, f1, f2, f3, wk, wk1, wk2, Option.some.injEq, exists_eq_left', decide_true, decide_false, Nat.reduceAdd, Nat.reduceEqDiff, Nat.reduceLeDiff, Nat.reduceLT, Nat.reduceMul, Nat.reduceBEq, Int.reduceLT, Int.reduceLE, Int.reduceEq, Int.reduceAdd, Int.reduceSub, Int.reduceMul, Int.reduceMod, Int.reduceTMod, Int.reduceTDiv, Int.reduceNeg, Nat.reduceSub, Nat.reduceDiv, reduceIte, reduceCtorEq]
  subst hQ
  simp only [ir147, wk, wk1, wk2, Option.some.injEq, exists_eq_left', decide_true, decide_false, Nat.reduceAdd, Nat.reduceEqDiff, Nat.reduceLeDiff, Nat.reduceLT, Nat.reduceMul, Nat.reduceBEq, Int.reduceLT, Int.reduceLE, Int.reduceEq, Int.reduceAdd, Int.reduceSub, Int.reduceMul, Int.reduceMod, Int.reduceTMod, Int.reduceTDiv, Int.reduceNeg, Nat.reduceSub, Nat.reduceDiv, reduceIte, reduceCtorEq]
  exact ⟨z3, rfl, rfl⟩
end
end Go.V
