/- show: numbers are read back. -/
import Derived.Test.YtkjddipkaaelaaaDoorSE
set_option linter.unusedVariables false
set_option linter.unusedSimpArgs false
set_option linter.unusedSectionVars false
/- show: numbers are read back. -/
namespace Go.V
open Go
set_option linter.unusedSimpArgs false
set_option linter.unusedVariables false
def noP (p : UInt8 → Bool) : List UInt8 → Prop
  | [] => True
  | c :: _ => p c = false
theorem peel {p : UInt8 → Bool} : ∀ (A B : List UInt8) {u v : List UInt8}, (∀ c ∈ A, p c = true) → (∀ c ∈ B, p c = true) → noP p u → noP p v → A ++ u = B ++ v → A = B ∧ u = v
  | [], [], u, v, _, _, _, _, h => ⟨rfl, h⟩
  | [], b :: B, u, v, _, hB, hu, _, h => by
    have h : u = b :: (B ++ v) := h
    subst h
    have := hB b List.mem_cons_self
    rw [show p b = false from hu] at this; cases this
  | a :: A, [], u, v, hA, _, _, hv, h => by
    have h : a :: (A ++ u) = v := h
    subst h
    have := hA a List.mem_cons_self
    rw [show p a = false from hv] at this; cases this
  | a :: A, b :: B, u, v, hA, hB, hu, hv, h => by
    have h : a :: (A ++ u) = b :: (B ++ v) := h
    injection h with h1 h2
    obtain ⟨h3, h4⟩ := peel A B (fun c hc => hA c (List.mem_cons_of_mem _ hc)) (fun c hc => hB c (List.mem_cons_of_mem _ hc)) hu hv h2
    exact ⟨by rw [h1, h3], h4⟩
def numC (c : UInt8) : Bool := (decide (48 ≤ c.toNat) && decide (c.toNat ≤ 57)) || decide (c.toNat = 45)
def hexC (c : UInt8) : Bool := (decide (48 ≤ c.toNat) && decide (c.toNat ≤ 57)) || (decide (97 ≤ c.toNat) && decide (c.toNat ≤ 102))
theorem dig_nat {k : Nat} (h : k < 10) : (UInt8.ofNat (48 + k)).toNat = 48 + k := by
  have : ∀ k, k < 10 → (UInt8.ofNat (48 + k)).toNat = 48 + k := by decide
  exact this k h
theorem dec_all (u : Nat) : ∀ c ∈ Lib.decDigits u, 48 ≤ c.toNat ∧ c.toNat ≤ 57 := by
  induction u using Nat.strongRecOn with
  | ind u ih =>
    rw [Lib.decDigits.eq_def]
    split
    · rename_i h
      intro c hc
      rw [List.mem_singleton] at hc
      subst hc
      rw [dig_nat h]; omega
    · rename_i h
      intro c hc
      rcases List.mem_append.1 hc with hc | hc
      · exact ih (u / 10) (by omega) c hc
      · rw [List.mem_singleton] at hc
        subst hc
        rw [dig_nat (Nat.mod_lt _ (by omega))]
        have := Nat.mod_lt u (show 0 < 10 by omega)
        omega
def dval (l : List UInt8) : Nat := l.foldl (fun a c => a * 10 + (c.toNat - 48)) 0
theorem dval_snoc (l : List UInt8) (c : UInt8) : dval (l ++ [c]) = dval l * 10 + (c.toNat - 48) := by
  unfold dval; rw [List.foldl_append]; rfl
theorem dval_dec (u : Nat) : dval (Lib.decDigits u) = u := by
  induction u using Nat.strongRecOn with
  | ind u ih =>
    rw [Lib.decDigits.eq_def]
    split
    · rename_i h
      show 0 * 10 + ((UInt8.ofNat (48 + u)).toNat - 48) = u
      rw [dig_nat h]; omega
    · rename_i h
      rw [dval_snoc, ih (u / 10) (by omega), dig_nat (Nat.mod_lt _ (by omega))]
      omega
theorem dec_ne (u : Nat) : Lib.decDigits u ≠ [] := by
  rw [Lib.decDigits.eq_def]
  split <;> simp
theorem itoa_all (n : Int) : ∀ c ∈ Lib.itoa n, numC c = true := by
  intro c hc
  unfold Lib.itoa at hc
  split at hc
  · rcases List.mem_cons.1 hc with rfl | hc
    · rfl
    · have := dec_all _ c hc
      simp [numC, this]
  · have := dec_all _ c hc
    simp [numC, this]
theorem itoa_ne (n : Int) : Lib.itoa n ≠ [] := by
  unfold Lib.itoa
  split
  · simp
  · exact dec_ne _
theorem itoa_inj {n m : Int} (h : Lib.itoa n = Lib.itoa m) : n = m := by
  unfold Lib.itoa at h
  have hd : ∀ (u : Nat) (l : List UInt8), Lib.decDigits u ≠ 45 :: l := fun u l e => by
    have := dec_all u 45 (by rw [e]; exact List.mem_cons_self)
    revert this; decide
  split at h
  · split at h
    · injection h with _ h
      have := congrArg dval h
      rw [dval_dec, dval_dec] at this
      omega
    · exact absurd h.symm (hd _ _)
  · split at h
    · exact absurd h (hd _ _)
    · have := congrArg dval h
      rw [dval_dec, dval_dec] at this
      omega
theorem it_cc {n m : Int} {c d : UInt8} {u v : List UInt8} (hc : numC c = false) (hd : numC d = false) : (Lib.itoa n ++ c :: u = Lib.itoa m ++ d :: v) = (n = m ∧ c :: u = d :: v) := by
  apply propext
  constructor
  · intro h
    obtain ⟨h1, h2⟩ := peel (p := numC) (u := c :: u) (v := d :: v) _ _ (itoa_all n) (itoa_all m) hc hd h
    exact ⟨itoa_inj h1, h2⟩
  · rintro ⟨rfl, h⟩; rw [h]
theorem it_c0 {n m : Int} {c : UInt8} {u : List UInt8} (hc : numC c = false) : (Lib.itoa n ++ c :: u = Lib.itoa m) = False := by
  apply propext
  refine ⟨fun h => ?_, False.elim⟩
  obtain ⟨_, h2⟩ := peel (p := numC) (u := c :: u) (v := []) _ _ (itoa_all n) (itoa_all m) hc trivial (by rw [List.append_nil]; exact h)
  cases h2
theorem it_0c {n m : Int} {c : UInt8} {u : List UInt8} (hc : numC c = false) : (Lib.itoa m = Lib.itoa n ++ c :: u) = False := by
  apply propext
  exact ⟨fun h => by have := it_c0 (n := n) (m := m) (u := u) hc; rw [← this]; exact h.symm, False.elim⟩
theorem it_00 {n m : Int} : (Lib.itoa n = Lib.itoa m) = (n = m) := propext ⟨itoa_inj, fun h => by rw [h]⟩
/- hexadecimal -/
def hdig (c : UInt8) : Nat := if c.toNat < 58 then c.toNat - 48 else c.toNat - 87
theorem hdig_hex : ∀ n, n < 16 → hdig (hexD n) = n ∧ hexC (hexD n) = true := by decide
def hval (l : List UInt8) : Nat := l.foldl (fun a c => a * 16 + hdig c) 0
theorem hval_snoc (l : List UInt8) (c : UInt8) : hval (l ++ [c]) = hval l * 16 + hdig c := by
  unfold hval; rw [List.foldl_append]; rfl
theorem hex_read : ∀ (f y : Nat) (acc : List UInt8), y < 16 ^ f → 0 < f → ∃ pre, hexGo f y acc = pre ++ acc ∧ hval pre = y ∧ (∀ c ∈ pre, hexC c = true) ∧ pre ≠ []
  | 0, _, _, _, h => by omega
  | f + 1, y, acc, h, _ => by
    unfold hexGo
    split
    · rename_i hy
      refine ⟨[hexD y], rfl, ?_, ?_, by simp⟩
      · show 0 * 16 + hdig (hexD y) = y
        rw [(hdig_hex y hy).1]; omega
      · intro c hc
        rw [List.mem_singleton] at hc
        subst hc
        exact (hdig_hex y hy).2
    · rename_i hy
      have hf : 0 < f := by
        rcases Nat.eq_zero_or_pos f with rfl | h0
        · simp at h; omega
        · exact h0
      have hm : y % 16 < 16 := Nat.mod_lt _ (by omega)
      obtain ⟨pre, h1, h2, h3, h4⟩ := hex_read f (y / 16) (hexD (y % 16) :: acc) (by rw [Nat.pow_succ] at h; omega) hf
      refine ⟨pre ++ [hexD (y % 16)], by rw [h1, List.append_assoc]; rfl, ?_, ?_, by simp⟩
      · rw [hval_snoc, h2, (hdig_hex _ hm).1]; omega
      · intro c hc
        rcases List.mem_append.1 hc with hc | hc
        · exact h3 c hc
        · rw [List.mem_singleton] at hc
          subst hc
          exact (hdig_hex _ hm).2
theorem hex_n {y : Nat} (h : y < 4294967296) : hval (hexN y) = y ∧ ∀ c ∈ hexN y, hexC c = true := by
  obtain ⟨pre, h1, h2, h3, _⟩ := hex_read 20 y [] (Nat.lt_of_lt_of_le h (by decide)) (by omega)
  unfold hexN
  rw [h1, List.append_nil]
  exact ⟨h2, h3⟩
theorem hx_cc {n m : Nat} (hn : n < 4294967296) (hm : m < 4294967296) {c d : UInt8} {u v : List UInt8} (hc : hexC c = false) (hd : hexC d = false) : (hexN n ++ c :: u = hexN m ++ d :: v) = (n = m ∧ c :: u = d :: v) := by
  apply propext
  constructor
  · intro h
    obtain ⟨h1, h2⟩ := peel (p := hexC) (u := c :: u) (v := d :: v) _ _ (hex_n hn).2 (hex_n hm).2 hc hd h
    exact ⟨by rw [← (hex_n hn).1, ← (hex_n hm).1, h1], h2⟩
  · rintro ⟨rfl, h⟩; rw [h]
theorem hx_00 {n m : Nat} (hn : n < 4294967296) (hm : m < 4294967296) : (hexN n = hexN m) = (n = m) := propext ⟨fun h => by rw [← (hex_n hn).1, ← (hex_n hm).1, h], fun h => by rw [h]⟩
end Go.V
