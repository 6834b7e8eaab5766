/- Floats: whole numbers among them, and what is done to these. -/
import Derived.Test.YtoaakfgdebkkaaaGreatDoorV3
import Derived.Test.YtoaakfgdebkkaaaGreatDoorVZ
import Derived.Test.YtoaakfgdebkkaaaGreatDoorLB
set_option linter.unusedVariables false
set_option linter.unusedSimpArgs false
set_option linter.unusedSectionVars false
/- Floats: whole numbers among them, and what is done to these. -/
/- Floats: whole numbers among them, and what is done to these. -/
namespace Go.V
open Go Ieee
abbrev DF : Format := double
theorem df_least : DF.leastPlace = -1074 := by decide
theorem df_binade : DF.binade = 2 ^ 52 := rfl
theorem df_sign : DF.signWeight = 2 ^ 63 := rfl
theorem df_inf : DF.infRung = 2047 * 2 ^ 52 := rfl
/-- What a word reads as, said by sign and rung. -/
theorem read_word (neg : Bool) (r : Nat) (h : r < 2047 * 2 ^ 52) : DF.read (DF.word neg r) = if r < 2 ^ 52 then .number neg r (-1074) else .number neg (2 ^ 52 + r % 2 ^ 52) (-1074 + (r / 2 ^ 52 - 1 : Nat)) := by
 have hr : r < 2 ^ 63 := Nat.lt_trans h (by decide)
 have h1 : (DF.word neg r / DF.signWeight % 2 == 1) = neg := by
  unfold Format.word
  rw [df_sign]
  cases neg with
  | true => simp only [if_true, beq_iff_eq]; omega
  | false => simp only [Bool.false_eq_true, if_false, beq_eq_false_iff_ne]; omega
 have h2 : DF.word neg r % DF.signWeight = r := by
  unfold Format.word
  rw [df_sign]
  cases neg <;> simp <;> omega
 have h3 : DF.read (DF.word neg r) = if r < DF.binade then .number neg r DF.leastPlace else if r < DF.infRung then .number neg (DF.binade + r % DF.binade) (DF.leastPlace + (r / DF.binade - 1 : Nat)) else if r = DF.infRung then .infinity neg else .nan neg (r - DF.infRung) := by
  unfold Format.read
  simp only [h1, h2]
 rw [h3]
 by_cases hb : r < 2 ^ 52
 · rw [if_pos (show r < DF.binade from hb), if_pos hb, df_least]
 · rw [if_neg (show ¬ r < DF.binade from hb), if_neg hb, if_pos (show r < DF.infRung from h), df_least]
   rfl
theorem cut_even (neg : Bool) (u t d : Nat) (hu : 0 < u) (hd : d ≤ t) : Toward.even.cut neg (u * 2 ^ t) d = u * 2 ^ (t - d) := by
 have hl : d ≤ (u * 2 ^ t).log2 + 2 := by
  have h1 : 2 ^ t ≤ u * 2 ^ t := Nat.le_mul_of_pos_left _ hu
  have h2 : t ≤ (u * 2 ^ t).log2 := (Nat.le_log2 (by have := Nat.pos_of_ne_zero (show (2 ^ t) ≠ 0 by simp); omega)).2 h1
  omega
 unfold Toward.cut
 simp only [Nat.min_eq_left hl, Nat.one_shiftLeft]
 have hm : u * 2 ^ t = u * 2 ^ (t - d) * 2 ^ d := by rw [Nat.mul_assoc, ← Nat.pow_add, Nat.sub_add_cancel hd]
 have h1 : u * 2 ^ t / 2 ^ d = u * 2 ^ (t - d) := by rw [hm, Nat.mul_div_cancel _ (Nat.two_pow_pos d)]
 have h2 : u * 2 ^ t % 2 ^ d = 0 := by rw [hm, Nat.mul_mod_left]
 rw [h1, h2]
 have h3 : ¬ 2 ^ d < 2 * 0 := by omega
 have h4 : (2 ^ d == 2 * 0) = false := by simp
 simp [h4]
theorem log2_bound {u : Nat} (hu : 0 < u) : 2 ^ u.log2 ≤ u ∧ u < 2 ^ (u.log2 + 1) := ⟨Nat.log2_self_le (by omega), Nat.lt_log2_self⟩
theorem log2_shift {u : Nat} (hu : 0 < u) (t : Nat) : (u * 2 ^ t).log2 = u.log2 + t := by
 have hb := log2_bound hu
 have h0 : u * 2 ^ t ≠ 0 := by have := Nat.mul_pos hu (Nat.two_pow_pos t); omega
 refine (Nat.log2_eq_iff h0).2 ⟨?_, ?_⟩
 · rw [Nat.pow_add]; exact Nat.mul_le_mul_right _ hb.1
 · rw [show u.log2 + t + 1 = (u.log2 + 1) + t by omega, Nat.pow_add]; exact Nat.mul_lt_mul_of_pos_right hb.2 (Nat.two_pow_pos t)
/-- The word nearest to a number of 53 digits reads as that number. -/
theorem read_nearest (neg : Bool) (u t : Nat) (place : Int) (hu : 0 < u) (h53 : u < 2 ^ 53) (h1 : -1074 ≤ place + t) (h2 : place + t ≤ 900) :
 ∃ k : Nat, DF.read (DF.nearest neg (u * 2 ^ t) place) = .number neg (u * 2 ^ k) (place + t - k) ∧ -1074 ≤ place + t - k := by
 have hb := log2_bound hu
 have hL : u.log2 ≤ 52 := by
  have := (Nat.log2_lt (n := u) (k := 53) (by omega)).2 h53
  omega
 have h0 : u * 2 ^ t ≠ 0 := by have := Nat.mul_pos hu (Nat.two_pow_pos t); omega
 unfold Format.nearest
 rw [if_neg h0, log2_shift hu]
 simp only [df_least, df_binade, df_inf]
 generalize hlast : max (place + ((u.log2 + t : Nat) : Int) - (DF.fractionBits : Nat)) (-1074) = last
 have hfb : (DF.fractionBits : Nat) = 52 := rfl
 rw [hfb] at hlast
 have hq : last ≤ place + t := by omega
 obtain ⟨k, hk⟩ : ∃ k : Nat, place + t - last = (k : Int) := ⟨(place + t - last).toNat, by omega⟩
 have hkept : Toward.even.cut neg ((u * 2 ^ t) <<< (place - last).toNat) (last - place).toNat = u * 2 ^ k := by
  by_cases hp : last ≤ place
  · have e1 : (last - place).toNat = 0 := by omega
    have e2 : k = t + (place - last).toNat := by omega
    rw [e1, Nat.shiftLeft_eq, Nat.mul_assoc, ← Nat.pow_add, ← e2, cut_even neg u k 0 hu (Nat.zero_le _), Nat.sub_zero]
  · have e1 : (place - last).toNat = 0 := by omega
    have e2 : k = t - (last - place).toNat := by omega
    rw [e1, Nat.shiftLeft_zero, cut_even neg u t _ hu (by omega), ← e2]
 rw [hkept]
 have hlow : (u * 2 ^ k) < 2 ^ 53 := by
  have : u * 2 ^ k < 2 ^ (u.log2 + 1 + k) := by rw [Nat.pow_add]; exact Nat.mul_lt_mul_of_pos_right hb.2 (Nat.two_pow_pos k)
  exact Nat.lt_of_lt_of_le this (Nat.pow_le_pow_right (by omega) (by omega))
 have hhigh : last = -1074 ∨ 2 ^ 52 ≤ u * 2 ^ k := by
  by_cases hx : last = -1074
  · exact .inl hx
  · right
    have e : u.log2 + k = 52 := by omega
    rw [← e, Nat.pow_add]
    exact Nat.mul_le_mul_right _ hb.1
 generalize hK : u * 2 ^ k = K at *
 have hK0 : 0 < K := by rw [← hK]; exact Nat.mul_pos hu (Nat.two_pow_pos k)
 obtain ⟨z, hz⟩ : ∃ z : Nat, last - -1074 = (z : Int) := ⟨(last - -1074).toNat, by omega⟩
 have hz' : (last - -1074).toNat = z := by omega
 have hzb : z ≤ 2044 := by omega
 rw [hz']
 have hr : z * 2 ^ 52 + K < 2047 * 2 ^ 52 := by omega
 rw [Nat.min_eq_left (Nat.le_of_lt hr), read_word neg _ hr]
 refine ⟨k, ?_, by omega⟩
 rw [hK]
 by_cases hs : z * 2 ^ 52 + K < 2 ^ 52
 · rw [if_pos hs]
   have : last = -1074 := by omega
   have hz0 : z = 0 := by omega
   subst hz0
   rw [Nat.zero_mul, Nat.zero_add]
   congr 1
   omega
 · rw [if_neg hs]
   have hKge : 2 ^ 52 ≤ K := by
    rcases hhigh with h | h
    · have : z = 0 := by omega
      subst this; omega
    · exact h
   have e1 : 2 ^ 52 + (z * 2 ^ 52 + K) % 2 ^ 52 = K := by omega
   have e2 : (z * 2 ^ 52 + K) / 2 ^ 52 - 1 = z := by omega
   rw [e1, e2]
   congr 1
   omega
end Go.V
/- Whole numbers as floats: products, sums, halves, the greater, the lesser. -/
namespace Go.V
open Go Ieee
def DV (d : Datum) (a e : Int) : Prop := ∃ (s : Bool) (k : Nat), d = .number s (a.natAbs * 2 ^ k) (e - k) ∧ -1074 ≤ e - k ∧ (a ≠ 0 → s = decide (a < 0))
def IV (x : Nat) (a e : Int) : Prop := DV (DF.read x) a e
theorem IV.write {a e place : Int} {s : Bool} {t : Nat} (hs : a ≠ 0 → s = decide (a < 0)) (h53 : a.natAbs < 2 ^ 53) (he : place + t = e) (h1 : -1074 ≤ e) (h2 : e ≤ 900) : IV (DF.nearest s (a.natAbs * 2 ^ t) place) a e := by
 by_cases h0 : a = 0
 · subst h0
   refine ⟨s, (e + 1074).toNat, ?_, by omega, by simp⟩
   have hn : DF.nearest s ((0 : Int).natAbs * 2 ^ t) place = DF.word s 0 := by
    unfold Format.nearest
    rw [if_pos (by simp)]
   rw [hn, read_word s 0 (by decide), if_pos (by decide)]
   simp only [Int.natAbs_zero, Nat.zero_mul]
   congr 1
   omega
 · obtain ⟨k, hk, hk'⟩ := read_nearest s a.natAbs t place (by omega) h53 (by omega) (by omega)
   exact ⟨s, k, by rw [hk, he], by omega, hs⟩
theorem IV.writeD {a e : Int} {d : Datum} (h : ∃ (s : Bool) (t : Nat) (place : Int), d = .number s (a.natAbs * 2 ^ t) place ∧ place + t = e ∧ (a ≠ 0 → s = decide (a < 0))) (h53 : a.natAbs < 2 ^ 53) (h1 : -1074 ≤ e) (h2 : e ≤ 900) : IV (DF.write d) a e := by
 obtain ⟨s, t, place, rfl, h3, h4⟩ := h
 exact IV.write h4 h53 h3 h1 h2
theorem IV.ofInt (n : Int) (h53 : n.natAbs < 2 ^ 53) : IV (FloatKind.f64.nearest n) n 0 := by
 have : FloatKind.f64.nearest n = DF.nearest (decide (n < 0)) (n.natAbs * 2 ^ 0) 0 := by
  rw [Nat.pow_zero, Nat.mul_one]; rfl
 rw [this]
 exact IV.write (fun _ => rfl) h53 (by simp) (by omega) (by omega)
theorem sgn_mul {a b : Int} {s t : Bool} (hs : a ≠ 0 → s = decide (a < 0)) (ht : b ≠ 0 → t = decide (b < 0)) (h : a * b ≠ 0) : (s ^^ t) = decide (a * b < 0) := by
 have ha : a ≠ 0 := fun e => h (by rw [e, Int.zero_mul])
 have hb : b ≠ 0 := fun e => h (by rw [e, Int.mul_zero])
 rw [hs ha, ht hb]
 rcases Int.lt_or_gt_of_ne ha with h1 | h1 <;> rcases Int.lt_or_gt_of_ne hb with h2 | h2
 · have := Int.mul_pos_of_neg_of_neg h1 h2
   simp [h1, h2]; omega
 · have := Int.mul_neg_of_neg_of_pos h1 h2
   have h3 : ¬ b < 0 := by omega
   simp [h1, h3, this]
 · have := Int.mul_neg_of_pos_of_neg h1 h2
   have h3 : ¬ a < 0 := by omega
   simp [h2, h3, this]
 · have := Int.mul_pos h1 h2
   have h3 : ¬ a < 0 := by omega
   have h4 : ¬ b < 0 := by omega
   simp [h3, h4]; omega
theorem IV.mul {x y : Nat} {a b : Int} (hx : IV x a 0) (hy : IV y b 0) (h : (a * b).natAbs < 2 ^ 53) : ∃ z, DF.mul x y = some z ∧ IV z (a * b) 0 := by
 obtain ⟨s, k, h1, h2, h3⟩ := hx
 obtain ⟨t, l, h4, h5, h6⟩ := hy
 unfold Format.mul
 rw [h1, h4]
 refine ⟨_, rfl, IV.writeD ⟨s ^^ t, k + l, 0 - k + (0 - l), ?_, by omega, sgn_mul h3 h6⟩ h (by omega) (by omega)⟩
 congr 1
 rw [Int.natAbs_mul, Nat.pow_add]
 simp only [Nat.mul_assoc, Nat.mul_left_comm]
theorem signed_of {a : Int} {s : Bool} (hs : a ≠ 0 → s = decide (a < 0)) (k B : Nat) : signed s (a.natAbs * 2 ^ k) B = a * 2 ^ (k + B) := by
 unfold signed
 rw [Nat.shiftLeft_eq, Nat.mul_assoc, ← Nat.pow_add]
 by_cases h0 : a = 0
 · subst h0; cases s <;> simp
 · rw [hs h0]
   by_cases hn : a < 0
   · simp only [hn, decide_true, if_true]
     rw [Int.natCast_mul, show ((a.natAbs : Nat) : Int) = -a by omega, Int.natCast_pow, Int.neg_mul, Int.neg_neg]
     rfl
   · simp only [hn, decide_false, Bool.false_eq_true, if_false]
     rw [Int.natCast_mul, show ((a.natAbs : Nat) : Int) = a by omega, Int.natCast_pow]
     rfl
theorem pow_pos_i (n : Nat) : (0 : Int) < 2 ^ n := Int.pow_pos (by decide)
theorem natAbs_mul_pow (a : Int) (n : Nat) : (a * 2 ^ n).natAbs = a.natAbs * 2 ^ n := by
 rw [Int.natAbs_mul, Int.natAbs_pow]; rfl
theorem mul_pow_neg (a : Int) (n : Nat) : a * 2 ^ n < 0 ↔ a < 0 := by
 have hp := pow_pos_i n
 constructor
 · intro h
   by_cases ha : a < 0
   · exact ha
   · have := Int.mul_nonneg (show 0 ≤ a by omega) (Int.le_of_lt hp); omega
 · intro h; exact Int.mul_neg_of_neg_of_pos h hp
theorem sum_dv {d d' : Datum} {a b : Int} (hx : DV d a 0) (hy : DV d' b 0) (h : (a + b).natAbs < 2 ^ 53) : ∃ z, (Datum.sum d d').map DF.write = some z ∧ IV z (a + b) 0 := by
 obtain ⟨s, k, rfl, h2, h3⟩ := hx
 obtain ⟨t, l, rfl, h5, h6⟩ := hy
 obtain ⟨B, hB⟩ : ∃ B : Nat, min ((0 : Int) - k) (0 - l) = -(B : Int) := ⟨(-(min ((0 : Int) - k) (0 - l))).toNat, by omega⟩
 have e1 : signed s (a.natAbs * 2 ^ k) ((0 : Int) - k - min ((0 : Int) - k) (0 - l)).toNat = a * 2 ^ B := by rw [signed_of h3]; congr 2; omega
 have e2 : signed t (b.natAbs * 2 ^ l) ((0 : Int) - l - min ((0 : Int) - k) (0 - l)).toNat = b * 2 ^ B := by rw [signed_of h6]; congr 2; omega
 refine ⟨_, rfl, IV.writeD ?_ h (by omega) (by omega)⟩
 simp only [e1, e2, ← Int.add_mul, natAbs_mul_pow]
 refine ⟨_, B, _, rfl, by omega, fun h0 => ?_⟩
 have h1 : ¬ (a + b) * 2 ^ B = 0 := by
  intro e
  rcases Int.mul_eq_zero.1 e with h' | h'
  · exact h0 h'
  · have := pow_pos_i B; omega
 rw [if_neg h1]
 exact decide_eq_decide.2 (mul_pow_neg _ _)
theorem DV.opp {d : Datum} {a e : Int} (h : DV d a e) : DV d.opposite (-a) e := by
 obtain ⟨s, k, rfl, h2, h3⟩ := h
 refine ⟨!s, k, by rw [Int.natAbs_neg]; rfl, h2, fun h0 => ?_⟩
 have : a ≠ 0 := by omega
 rw [h3 this]
 by_cases hn : a < 0
 · simp [hn]; omega
 · simp [hn]; omega
theorem IV.add {x y : Nat} {a b : Int} (hx : IV x a 0) (hy : IV y b 0) (h : (a + b).natAbs < 2 ^ 53) : ∃ z, DF.add x y = some z ∧ IV z (a + b) 0 := sum_dv hx hy h
theorem IV.sub {x y : Nat} {a b : Int} (hx : IV x a 0) (hy : IV y b 0) (h : (a - b).natAbs < 2 ^ 53) : ∃ z, DF.sub x y = some z ∧ IV z (a - b) 0 := sum_dv hx hy.opp h
theorem read_flip (x : Nat) : DF.read (x ^^^ 2 ^ 63) = (DF.read x).opposite := by
 have h1 : ∀ y : Nat, (y / DF.signWeight % 2 == 1) = y.testBit 63 := by
  intro y
  rw [Nat.testBit_eq_decide_div_mod_eq, df_sign]
  rfl
 have h2 : (x ^^^ 2 ^ 63) % DF.signWeight = x % DF.signWeight := by
  rw [df_sign]
  refine Nat.eq_of_testBit_eq fun i => ?_
  rw [Nat.testBit_mod_two_pow, Nat.testBit_mod_two_pow, Nat.testBit_xor, Nat.testBit_two_pow]
  by_cases hi : i < 63
  · have : ¬ 63 = i := by omega
    simp [hi, this]
  · simp [hi]
 unfold Format.read
 simp only [h1, h2, Nat.testBit_xor, Nat.testBit_two_pow_self, Bool.xor_true]
 split
 · rfl
 · split
   · rfl
   · split <;> rfl
theorem IV.neg {x : Nat} {a e : Int} (h : IV x a e) : IV (Op.negFloat .f64 x) (-a) e := by
 have : Op.negFloat .f64 x = x ^^^ 2 ^ 63 := rfl
 unfold IV
 rw [this, read_flip]
 exact DV.opp h
theorem read_lt {x : Nat} {s : Bool} {m : Nat} {p : Int} (h : DF.read x = .number s m p) : m < 2 ^ 53 := by
 unfold Format.read at h
 have hb := df_binade
 dsimp only at h
 split at h
 · injection h with _ h2 _; omega
 · split at h
   · injection h with _ h2 _
     have := Nat.mod_lt (x % DF.signWeight) (show 0 < DF.binade by rw [hb]; decide)
     omega
   · split at h <;> cases h
/-- A number halved fifteen times. -/
theorem IV.scale {x : Nat} {a : Int} (hx : IV x a 0) : ∃ z, DF.div x 4674736413210574848 = some z ∧ IV z a (-15) := by
 obtain ⟨s, k, h1, h2, h3⟩ := hx
 have hm := read_lt h1
 have hc : DF.read 4674736413210574848 = .number false (2 ^ 52) (-37) := by decide
 unfold Format.div
 rw [h1, hc]
 have h53 : a.natAbs < 2 ^ 53 := Nat.lt_of_le_of_lt (Nat.le_mul_of_pos_right _ (Nat.two_pow_pos k)) hm
 obtain ⟨more, hmore⟩ : ∃ more, DF.fractionBits + 2 + (2 ^ 52 : Nat).log2 - (a.natAbs * 2 ^ k).log2 = more := ⟨_, rfl⟩
 have hlog : (2 ^ 52 : Nat).log2 = 52 := by decide
 have hfb : (DF.fractionBits : Nat) = 52 := rfl
 have hmb : 52 ≤ more := by
  have : (a.natAbs * 2 ^ k).log2 ≤ 52 := by
   by_cases h0 : a.natAbs * 2 ^ k = 0
   · rw [h0]; decide
   · have := (Nat.log2_lt h0).2 hm; omega
  omega
 have hd : (a.natAbs * 2 ^ k) <<< more = a.natAbs * 2 ^ (k + (more - 52)) * 2 ^ 52 := by
  rw [Nat.shiftLeft_eq, Nat.mul_assoc, Nat.mul_assoc, ← Nat.pow_add, ← Nat.pow_add]
  congr 2; omega
 have h0 : ¬ (2 ^ 52 : Nat) = 0 := by decide
 have hq : Datum.quotient (DF.fractionBits + 2) (.number s (a.natAbs * 2 ^ k) (0 - k)) (.number false (2 ^ 52) (-37)) = some (.number s (a.natAbs * 2 ^ (k + (more - 52) + 1)) (0 - k - -37 - more - 1)) := by
  simp only [Datum.quotient]
  rw [if_neg h0]
  simp only [hmore, hd, Nat.mul_div_cancel _ (Nat.two_pow_pos 52), Nat.mul_mod_left, Bool.xor_false]
  congr 2
  rw [Nat.pow_succ]
  simp only [bne_self_eq_false, Bool.toNat_false, Nat.add_zero]
  ac_rfl
 rw [hq]
 exact ⟨_, rfl, IV.writeD ⟨s, _, _, rfl, by omega, h3⟩ h53 (by omega) (by omega)⟩
/-- What is cut off downwards. -/
theorem cut_down (neg : Bool) (n d : Nat) : Toward.down.cut neg n d = n / 2 ^ d + (neg && n % 2 ^ d != 0).toNat := by
 unfold Toward.cut
 simp only [Nat.one_shiftLeft]
 by_cases h : d ≤ n.log2 + 2
 · rw [Nat.min_eq_left h]
 · have hn : n < 2 ^ (n.log2 + 2) := Nat.lt_of_lt_of_le Nat.lt_log2_self (Nat.pow_le_pow_right (by omega) (by omega))
   have hn' : n < 2 ^ d := Nat.lt_of_lt_of_le hn (Nat.pow_le_pow_right (by omega) (by omega))
   rw [Nat.min_eq_right (by omega), Nat.div_eq_of_lt hn, Nat.mod_eq_of_lt hn, Nat.div_eq_of_lt hn', Nat.mod_eq_of_lt hn']
theorem cut_zero (neg : Bool) (n d : Nat) : Toward.zero.cut neg n d = n / 2 ^ d := by
 unfold Toward.cut
 simp only [Nat.one_shiftLeft]
 by_cases h : d ≤ n.log2 + 2
 · rw [Nat.min_eq_left h]; rfl
 · have hn : n < 2 ^ (n.log2 + 2) := Nat.lt_of_lt_of_le Nat.lt_log2_self (Nat.pow_le_pow_right (by omega) (by omega))
   have hn' : n < 2 ^ d := Nat.lt_of_lt_of_le hn (Nat.pow_le_pow_right (by omega) (by omega))
   rw [Nat.min_eq_right (by omega), Nat.div_eq_of_lt hn, Nat.div_eq_of_lt hn']; rfl
/-- The floor. -/
theorem IV.floor {x : Nat} {a : Int} (hx : IV x a (-15)) (h53 : a.natAbs < 2 ^ 52) : IV (DF.write ((DF.read x).integral .down)) (a / 32768) 0 := by
 obtain ⟨s, k, h1, h2, h3⟩ := hx
 rw [h1]
 have e1 : ((-15 : Int) - k).toNat = 0 := by omega
 have e2 : (-((-15 : Int) - k)).toNat = 15 + k := by omega
 have hI : Datum.integral .down (.number s (a.natAbs * 2 ^ k) (-15 - k)) = .number s (Toward.down.cut s ((a.natAbs * 2 ^ k) <<< ((-15 : Int) - k).toNat) (-((-15 : Int) - k)).toNat) 0 := rfl
 rw [hI, e1, e2, cut_down, Nat.shiftLeft_zero]
 have hp := Nat.two_pow_pos k
 have f1 : a.natAbs * 2 ^ k / 2 ^ (15 + k) = a.natAbs / 32768 := by
  rw [Nat.pow_add, Nat.mul_div_mul_right _ _ hp]
 have f2 : (a.natAbs * 2 ^ k % 2 ^ (15 + k) != 0) = (a.natAbs % 32768 != 0) := by
  rw [Nat.pow_add, Nat.mul_mod_mul_right]
  rcases Nat.eq_zero_or_pos (a.natAbs % 32768) with h | h
  · rw [show (2 : Nat) ^ 15 = 32768 from rfl, h]; simp
  · rw [show (2 : Nat) ^ 15 = 32768 from rfl]
    have := Nat.mul_pos h hp
    rw [bne_iff_ne.2 (by omega), bne_iff_ne.2 (by omega)]
 rw [f1, f2]
 have hbig : (a / 32768).natAbs < 2 ^ 53 := by omega
 have hmag : a ≠ 0 → a.natAbs / 32768 + (s && a.natAbs % 32768 != 0).toNat = (a / 32768).natAbs := by
  intro h0
  rw [h3 h0]
  by_cases hn : a < 0
  · by_cases hr : a.natAbs % 32768 = 0
    · simp [hn, hr]; omega
    · have : (a.natAbs % 32768 != 0) = true := by simpa using hr
      rw [this]; simp [hn]; omega
  · simp [hn]; omega
 by_cases h0 : a = 0
 · subst h0
   refine IV.writeD ⟨s, 0, 0, ?_, by simp, fun h => absurd rfl h⟩ (by decide) (by omega) (by omega)
   simp
 · rw [hmag h0]
   refine IV.writeD ⟨s, 0, 0, by simp, by simp, fun h => ?_⟩ hbig (by omega) (by omega)
   rw [h3 h0]
   exact decide_eq_decide.2 (by omega)
theorem DV.order {d d' : Datum} {a b : Int} (hx : DV d a 0) (hy : DV d' b 0) : d.order d' = some (compare a b) := by
 obtain ⟨s, k, rfl, h2, h3⟩ := hx
 obtain ⟨t, l, rfl, h5, h6⟩ := hy
 obtain ⟨B, hB⟩ : ∃ B : Nat, min ((0 : Int) - k) (0 - l) = -(B : Int) := ⟨(-(min ((0 : Int) - k) (0 - l))).toNat, by omega⟩
 have e1 : signed s (a.natAbs * 2 ^ k) ((0 : Int) - k - min ((0 : Int) - k) (0 - l)).toNat = a * 2 ^ B := by rw [signed_of h3]; congr 2; omega
 have e2 : signed t (b.natAbs * 2 ^ l) ((0 : Int) - l - min ((0 : Int) - k) (0 - l)).toNat = b * 2 ^ B := by rw [signed_of h6]; congr 2; omega
 show some (compare _ _) = _
 rw [e1, e2]
 congr 1
 have hp := pow_pos_i B
 show compareOfLessAndEq (a * 2 ^ B) (b * 2 ^ B) = compareOfLessAndEq a b
 unfold compareOfLessAndEq
 have c1 : (a * 2 ^ B < b * 2 ^ B) = (a < b) := propext ⟨fun h => Int.lt_of_mul_lt_mul_right h (Int.le_of_lt hp), fun h => Int.mul_lt_mul_of_pos_right h hp⟩
 have c2 : (a * 2 ^ B = b * 2 ^ B) = (a = b) := propext ⟨fun h => Int.eq_of_mul_eq_mul_right (by omega) h, fun h => by rw [h]⟩
 simp only [c1, c2]
theorem DV.toInt {d : Datum} {a : Int} (h : DV d a 0) : d.toInt .zero = some a := by
 obtain ⟨s, k, rfl, h2, h3⟩ := h
 have e1 : ((0 : Int) - k).toNat = 0 := by omega
 have e2 : (-((0 : Int) - k)).toNat = k := by omega
 show some (signed s (Toward.zero.cut s ((a.natAbs * 2 ^ k) <<< ((0 : Int) - k).toNat) (-((0 : Int) - k)).toNat) 0) = some a
 rw [e1, e2, cut_zero, Nat.shiftLeft_zero, Nat.mul_div_cancel _ (Nat.two_pow_pos k)]
 have := signed_of h3 0 0
 rw [Nat.pow_zero, Nat.mul_one] at this
 rw [this]
 simp
end Go.V
/- cplx: products of complex numbers. -/
namespace Go.V
open Go
set_option linter.unusedSimpArgs false
set_option linter.unusedVariables false
open Z in def ir122 : IFunc := ⟨11,[.tmp 4],(q (R [(o 4 (.move (W 0)))]) (q (R [(m 5 0),(o 6 (.call 134 [t5])),(m 7 1),(o 8 (.call 134 [t7])),(o 9 (.call 133 [t6,t8])),(o 10 (.call 132 [t9])),(m 4 10)]) .ret))⟩
open Z in def ir123 : IFunc := ⟨18,[.tmp 4],(q (R [(o 4 (.move (W 0)))]) (q (R [(m 6 1),(o 7 (.call 134 [t6])),(m 5 7)]) (q (R [(m 8 0),(o 9 (.call 134 [t8])),(m 10 5),(o 11 (.realP t10)),(m 12 5),(o 13 (.imagP t12)),(o 14 (.un .neg t13)),(o 15 (.cplx t11 t14)),(o 16 (.call 133 [t9,t15])),(o 17 (.call 132 [t16])),(m 4 17)]) .ret)))⟩
open Z in def ir132 : IFunc := ⟨13,[.tmp 2],(q (R [(o 2 (.move (W 0)))]) (q (R [(m 3 0),(o 4 (.realP t3)),(o 5 (.call 158 [t4])),(o 6 (.conv (.intInt .u32) t5)),(m 7 0),(o 8 (.imagP t7)),(o 9 (.call 158 [t8])),(o 10 (.conv (.intInt .u32) t9)),(o 11 (.bin .shl t10 (.c (.int .u64 16)))),(o 12 (.bin .or t6 t11)),(m 2 12)]) .ret))⟩
open Z in def ir133 : IFunc := ⟨8,[.tmp 4],(q (R [(o 4 (.move (.c (.complex .f64 0 0))))]) (q (R [(m 5 0),(m 6 1),(o 7 (.bin .mul t5 t6)),(m 4 7)]) .ret))⟩
open Z in def ir134 : IFunc := ⟨11,[.tmp 2],(q (R [(o 2 (.move (.c (.complex .f64 0 0))))]) (q (R [(m 3 0),(o 4 (.conv (.intInt .i16) t3)),(o 5 (.conv (.intFloat .f64) t4)),(m 6 0),(o 7 (.bin .shr t6 (.c (.int .u64 16)))),(o 8 (.conv (.intInt .i16) t7)),(o 9 (.conv (.intFloat .f64) t8)),(o 10 (.cplx t5 t9)),(m 2 10)]) .ret))⟩
open Z in def ir158 : IFunc := ⟨13,[.tmp 2],(q (R [(o 2 (.move (.c (.int .u16 0))))]) (q (q (R [(m 3 0),(o 4 (.call 171 [t3]))]) (.cond t4 (q (R [(o 2 (.move (.c (.int .u16 0))))]) .ret) .skip)) (q (R [(m 5 0),(o 6 (.bin .quo t5 (.c (.float .f64 4674736413210574848)))),(o 7 (.call 172 [t6])),(m 0 7)]) (q (R [(m 8 0),(o 9 (.call 174 [(.c (.float .f64 4674736138332667904)),t8])),(o 10 (.call 173 [(.c (.float .f64 13898108450065350656)),t9])),(o 11 (.conv (.floatInt .i16) t10)),(o 12 (.conv (.intInt .u16) t11)),(m 2 12)]) .ret))))⟩
open Z in def ir171 : IFunc := ⟨6,[.tmp 2],(q (R [(o 2 (.move F))]) (q (R [(m 3 0),(m 4 0),(o 5 (.bin .neq t3 t4)),(m 2 5)]) .ret))⟩
open Z in def ir172 : IFunc := ⟨7,[.tmp 2],(q (R [(o 2 (.move (.c (.float .f64 0))))]) (q (.cond T (q (R [(m 3 0),(o 4 (.call 183 [t3])),(m 2 4)]) .ret) .skip) (q (R [(m 5 0),(o 6 (.call 184 [t5])),(m 2 6)]) .ret)))⟩
open Z in def ir173 : IFunc := ⟨11,[.tmp 4],(q (R [(o 4 (.move (.c (.float .f64 0))))]) (q (.cond T (q (R [(m 5 0),(m 6 1),(o 7 (.call 185 [t5,t6])),(m 4 7)]) .ret) .skip) (q (R [(m 8 0),(m 9 1),(o 10 (.call 186 [t8,t9])),(m 4 10)]) .ret)))⟩
open Z in def ir174 : IFunc := ⟨11,[.tmp 4],(q (R [(o 4 (.move (.c (.float .f64 0))))]) (q (.cond T (q (R [(m 5 0),(m 6 1),(o 7 (.call 187 [t5,t6])),(m 4 7)]) .ret) .skip) (q (R [(m 8 0),(m 9 1),(o 10 (.call 188 [t8,t9])),(m 4 10)]) .ret)))⟩
theorem cplx_mul {a b c d p q r p' q' i : Nat} (h1 : DF.mul a c = some p) (h2 : DF.mul b d = some q) (h3 : DF.sub p q = some r) (h4 : DF.mul a d = some p') (h5 : DF.mul b c = some q') (h6 : DF.add p' q' = some i) : binV .mul (.complex .f64 a b) (.complex .f64 c d) = some (.complex .f64 r i) := by
 have k (op : BinOp) (x y z : Nat) (h : Op.floatArith op .f64 x y = pure (.float .f64 z)) : Op.Complex.arith op .f64 x y = pure z := by
  unfold Op.Complex.arith
  rw [h]
  rfl
 have m1 : Op.Complex.mul a c = pure p := k _ _ _ _ (by show (match DF.mul a c with | some r => (pure (.float .f64 r) : Sem Value) | none => _) = _; rw [h1])
 have m2 : Op.Complex.mul b d = pure q := k _ _ _ _ (by show (match DF.mul b d with | some r => (pure (.float .f64 r) : Sem Value) | none => _) = _; rw [h2])
 have m3 : Op.Complex.sub p q = pure r := k _ _ _ _ (by show (match DF.sub p q with | some r => (pure (.float .f64 r) : Sem Value) | none => _) = _; rw [h3])
 have m4 : Op.Complex.mul a d = pure p' := k _ _ _ _ (by show (match DF.mul a d with | some r => (pure (.float .f64 r) : Sem Value) | none => _) = _; rw [h4])
 have m5 : Op.Complex.mul b c = pure q' := k _ _ _ _ (by show (match DF.mul b c with | some r => (pure (.float .f64 r) : Sem Value) | none => _) = _; rw [h5])
 have m6 : Op.Complex.add p' q' = pure i := k _ _ _ _ (by show (match DF.add p' q' with | some r => (pure (.float .f64 r) : Sem Value) | none => _) = _; rw [h6])
 have hp : Op.Complex.product a b c d = (pure (r, i) : Sem (Nat × Nat)) := by
  unfold Op.Complex.product
  rw [m1, m2, m4, m5]
  show (do let x ← Op.Complex.sub p q; let y ← Op.Complex.add p' q'; pure (x, y) : Sem (Nat × Nat)) = _
  rw [m3, m6]
  rfl
 have : Op.complexOp .mul .f64 a b c d = (pure (.complex .f64 r i) : Sem Value) := by
  show (do let (e, f) ← Op.Complex.product a b c d; (pure (.complex .f64 e f) : Sem Value)) = _
  rw [hp]
  rfl
 show (if FloatKind.f64 = FloatKind.f64 then pureAV (Op.complexOp .mul .f64 a b c d) else none) = _
 rw [if_pos rfl, this]
 rfl
theorem flt_quo {a z : Nat} (h : DF.div a 4674736413210574848 = some z) : binV .quo (.float .f64 a) (.float .f64 4674736413210574848) = some (.float .f64 z) := by
 have : Op.floatArith .quo .f64 a 4674736413210574848 = (pure (.float .f64 z) : Sem Value) := by
  show (match DF.div a 4674736413210574848 with | some r => (pure (.float .f64 r) : Sem Value) | none => _) = _
  rw [h]
 show pureAV (Op.floatArith .quo .f64 a 4674736413210574848) = _
 rw [this]
 rfl
theorem flt_neq {x : Nat} {a : Int} (h : IV x a 0) : binV .neq (.float .f64 x) (.float .f64 x) = some (.bool false) := by
 have : Op.floatCmp .neq .f64 x x = (pure (.bool false) : Sem Value) := by
  show (pure (.bool (((DF.read x).order (DF.read x)) != some .eq)) : Sem Value) = _
  rw [DV.order h h]
  have : compare a a = .eq := by
   show compareOfLessAndEq a a = .eq
   unfold compareOfLessAndEq
   simp
  rw [this]
  rfl
 show pureAV (Op.floatCmp .neq .f64 x x) = _
 rw [this]
 rfl
theorem flt_ofInt (n : Int) : convV (.intFloat .f64) (.int .i16 n) = some (.float .f64 (FloatKind.f64.nearest n)) := rfl
theorem flt_toInt {x : Nat} {a : Int} (h : IV x a 0) (h1 : -32768 ≤ a) (h2 : a ≤ 32767) : convV (.floatInt .i16) (.float .f64 x) = some (.int .i16 a) := by
 show pureAV (Conv.floatToInt .f64 x .i16) = _
 unfold Conv.floatToInt
 have e : (FloatKind.f64.decode x).toInt .zero = some a := DV.toInt h
 rw [e]
 have e2 : IntKind.i16.min ≤ a ∧ a ≤ IntKind.i16.max := ⟨h1, h2⟩
 simp only [e2, and_self, if_true]
 show some (mkInt .i16 a) = _
 rw [mkInt_eq]
theorem wo_i2f (x : Opd) (T : Tab) (Q : Post) (fs : List Fr) (d : Bool) (l : List IOp) (dst : Option Nat) (w : List Opd) (e : Env) (s : St) : GoOps T Q d (⟨dst, none, w, .conv (.intFloat .f64) x⟩ :: l) fs e s ↔ GoR T Q d dst w (ofOpt s (convV (.intFloat .f64) (opd e x))) l fs e s := by
 rw [ops_ins rfl]
 rfl
theorem wo_f2i (x : Opd) (T : Tab) (Q : Post) (fs : List Fr) (d : Bool) (l : List IOp) (dst : Option Nat) (w : List Opd) (e : Env) (s : St) : GoOps T Q d (⟨dst, none, w, .conv (.floatInt .i16) x⟩ :: l) fs e s ↔ GoR T Q d dst w (ofOpt s (convV (.floatInt .i16) (opd e x))) l fs e s := by
 rw [ops_ins rfl]
 rfl
theorem flt_floor {x : Nat} {a : Int} (h : IV x a (-15)) (s : St) : extV .floor [.float .f64 x] s = .val (.float .f64 (DF.write ((DF.read x).integral .down))) s := by
 show ofOpt s (pureAV (Extern.MathFloor.toIntegral "math.archFloor" .down #[.float .f64 x])) = _
 obtain ⟨sg, k, h1, h2, h3⟩ := h
 have : Extern.MathFloor.toIntegral "math.archFloor" .down #[.float .f64 x] = (pure (.float .f64 (DF.write ((DF.read x).integral .down))) : Sem Value) := by
  show (match DF.read x with
   | .nan s t => _
   | d => (pure (.float .f64 (DF.write (d.integral .down))) : Sem Value)) = _
  rw [h1]
 rw [this]
 rfl
theorem dv_flags {d : Ieee.Datum} {a e : Int} (h : DV d a e) : d.isNaN = false ∧ (∀ b, (d == .infinity b) = false) := by
 obtain ⟨sg, k, rfl, _⟩ := h
 exact ⟨rfl, fun _ => rfl⟩
theorem dv_zero {d : Ieee.Datum} {a : Int} (h : DV d a 0) (hz : d.isZero = true) : a = 0 := by
 obtain ⟨sg, k, rfl, _, _⟩ := h
 have : a.natAbs * 2 ^ k = 0 := by
  unfold Ieee.Datum.isZero at hz
  split at hz
  · rename_i h'; injection h' with _ h2 _
  · cases hz
 have hp := Nat.two_pow_pos k
 rcases Nat.mul_eq_zero.1 this with h | h <;> omega
theorem flt_pick (name : String) (neg : Bool) (win : Ordering) {x y : Nat} {a b : Int} (hx : IV x a 0) (hy : IV y b 0) : ∃ z, pureAV (Extern.MathDim.pick name neg win #[.float .f64 x, .float .f64 y]) = some (.float .f64 z) ∧ (IV z a 0 ∨ IV z b 0) ∧ (compare a b = win → IV z a 0) ∧ (compare a b ≠ win → IV z b 0) := by
 have fx := dv_flags hx
 have fy := dv_flags hy
 have ho := DV.order hx hy
 have hr : Extern.MathDim.pick name neg win #[.float .f64 x, .float .f64 y] = (pure (.float .f64 (if (DF.read x == .infinity neg || DF.read y == .infinity neg) = true then FloatKind.f64.encode (.infinity neg) else if ((DF.read x).isNaN || (DF.read y).isNaN) = true then 0x7FF8000000000001 else if ((DF.read x).isZero && (DF.read y).isZero) = true then (if ((DF.read x).neg == neg) = true then x else y) else if ((DF.read x).order (DF.read y) == some win) = true then x else y)) : Sem Value) := rfl
 rw [hr]
 simp only [fx.1, fy.1, fx.2, fy.2, Bool.or_self, Bool.false_eq_true, if_false, ho]
 refine ⟨_, rfl, ?_⟩
 by_cases hz : ((DF.read x).isZero && (DF.read y).isZero) = true
 · rw [Bool.and_eq_true] at hz
   have ha := dv_zero hx hz.1
   have hb := dv_zero hy hz.2
   subst ha
   subst hb
   rw [if_pos (by rw [hz.1, hz.2]; rfl)]
   split
   · exact ⟨.inl hx, fun _ => hx, fun _ => hx⟩
   · exact ⟨.inl hy, fun _ => hy, fun _ => hy⟩
 · rw [if_neg hz]
   by_cases hc : compare a b = win
   · have : (some (compare a b) == some win) = true := by rw [hc]; cases win <;> rfl
     rw [if_pos this]
     exact ⟨.inl hx, fun _ => hx, fun h => absurd hc h⟩
   · have : ¬ (some (compare a b) == some win) = true := by
      intro h
      apply hc
      generalize compare a b = c at *
      cases c <;> cases win <;> first | rfl | cases h
     rw [if_neg this]
     exact ⟨.inr hy, fun h => absurd h hc, fun _ => hy⟩
theorem cmp_lt {a b : Int} : compare a b = .lt ↔ a < b := by
 show compareOfLessAndEq a b = .lt ↔ _
 unfold compareOfLessAndEq
 by_cases h : a < b
 · simp [h]
 · by_cases h2 : a = b <;> simp [h, h2]
theorem cmp_gt {a b : Int} : compare a b = .gt ↔ b < a := by
 show compareOfLessAndEq a b = .gt ↔ _
 unfold compareOfLessAndEq
 by_cases h : a < b
 · simp [h]; omega
 · by_cases h2 : a = b
   · simp [h2]
   · simp [h, h2]; omega
def clamp (z : Int) : Int := max (-32768) (min 32767 (z / 32768))
theorem clamp_le (z : Int) : -32768 ≤ clamp z ∧ clamp z ≤ 32767 := by unfold clamp; omega
def cre (w : Int) : Int := wrapF .i16 w
def cim (w : Int) : Int := wrapF .i16 (shrF .u32 w 16)
theorem wrap16_bd (w : Int) : -32768 ≤ wrapF .i16 w ∧ wrapF .i16 w ≤ 32767 := by
 show -32768 ≤ wrapBy 32768 65536 true w ∧ wrapBy 32768 65536 true w ≤ 32767
 have hs : ∀ r : Nat, Int.subNatNat r 65536 = (r : Int) - 65536 := fun r => Int.subNatNat_eq_coe
 have hb : ∀ m : Nat, -32768 ≤ (match true && Nat.ble 32768 (m % 65536) with | true => Int.subNatNat (m % 65536) 65536 | false => .ofNat (m % 65536)) ∧ (match true && Nat.ble 32768 (m % 65536) with | true => Int.subNatNat (m % 65536) 65536 | false => .ofNat (m % 65536)) ≤ 32767 := by
  intro m
  rw [hs]
  by_cases h : 32768 ≤ m % 65536
  · rw [Nat.ble_eq_true_of_le h]
    show -32768 ≤ ((m % 65536 : Nat) : Int) - (65536 : Nat) ∧ ((m % 65536 : Nat) : Int) - (65536 : Nat) ≤ 32767
    omega
  · rw [show Nat.ble 32768 (m % 65536) = false from Bool.eq_false_iff.2 fun e => h (Nat.le_of_ble_eq_true e)]
    show -32768 ≤ ((m % 65536 : Nat) : Int) ∧ ((m % 65536 : Nat) : Int) ≤ 32767
    omega
 have hc : ∀ m : Nat, -32768 ≤ (match true && Nat.ble 32768 (65536 - 1 - m % 65536) with | true => Int.subNatNat (65536 - 1 - m % 65536) 65536 | false => .ofNat (65536 - 1 - m % 65536)) ∧ (match true && Nat.ble 32768 (65536 - 1 - m % 65536) with | true => Int.subNatNat (65536 - 1 - m % 65536) 65536 | false => .ofNat (65536 - 1 - m % 65536)) ≤ 32767 := by
  intro m
  rw [hs]
  by_cases h : 32768 ≤ 65536 - 1 - m % 65536
  · rw [Nat.ble_eq_true_of_le h]
    show -32768 ≤ ((65536 - 1 - m % 65536 : Nat) : Int) - (65536 : Nat) ∧ ((65536 - 1 - m % 65536 : Nat) : Int) - (65536 : Nat) ≤ 32767
    omega
  · rw [show Nat.ble 32768 (65536 - 1 - m % 65536) = false from Bool.eq_false_iff.2 fun e => h (Nat.le_of_ble_eq_true e)]
    show -32768 ≤ ((65536 - 1 - m % 65536 : Nat) : Int) ∧ ((65536 - 1 - m % 65536 : Nat) : Int) ≤ 32767
    omega
 cases w with
 | ofNat m =>
  cases hlt : Nat.blt m 32768 with
  | true =>
   have : m < 32768 := Nat.le_of_ble_eq_true hlt
   have e : wrapBy 32768 65536 true (.ofNat m) = .ofNat m := by show (match Nat.blt m 32768 with | true => _ | false => _) = _; rw [hlt]
   rw [e]
   show -32768 ≤ (m : Int) ∧ (m : Int) ≤ 32767
   omega
  | false =>
   have e : wrapBy 32768 65536 true (.ofNat m) = (match true && Nat.ble 32768 (m % 65536) with | true => Int.subNatNat (m % 65536) 65536 | false => .ofNat (m % 65536)) := by show (match Nat.blt m 32768 with | true => _ | false => _) = _; rw [hlt]; rfl
   rw [e]
   exact hb m
 | negSucc m =>
  cases hlt : Nat.blt m 32768 with
  | true =>
   have : m < 32768 := Nat.le_of_ble_eq_true hlt
   have e : wrapBy 32768 65536 true (.negSucc m) = .negSucc m := by show (match true && Nat.blt m 32768 with | true => _ | false => _) = _; rw [hlt]; rfl
   rw [e]
   omega
  | false =>
   have e : wrapBy 32768 65536 true (.negSucc m) = (match true && Nat.ble 32768 (65536 - 1 - m % 65536) with | true => Int.subNatNat (65536 - 1 - m % 65536) 65536 | false => .ofNat (65536 - 1 - m % 65536)) := by show (match true && Nat.blt m 32768 with | true => _ | false => _) = _; rw [hlt]; rfl
   rw [e]
   exact hc m
def partF (z : Int) : Int := clamp z % 65536
def packF (x y : Int) : Int := rawF .or .u32 (partF x % 4294967296) (shlF .u32 (partF y % 4294967296) 16)
def cmulF (a b : Int) : Int := packF (cre a * cre b - cim a * cim b) (cre a * cim b + cim a * cre b)
def cconF (a b : Int) : Int := packF (cre a * cre b - cim a * -cim b) (cre a * -cim b + cim a * cre b)
section
variable {T : Tab}
structure CxTab (T : Tab) : Prop where
 mul : T 122 = some (.code ir122)
 con : T 123 = some (.code ir123)
 pack : T 132 = some (.code ir132)
 prod : T 133 = some (.code ir133)
 of : T 134 = some (.code ir134)
 part : T 158 = some (.code ir158)
 nan : T 171 = some (.code ir171)
 floor : T 172 = some (.code ir172)
 max : T 173 = some (.code ir173)
 min : T 174 = some (.code ir174)
 afloor : T 183 = some (.ext .floor)
 amax : T 185 = some (.ext .fmax)
 amin : T 187 = some (.ext .fmin)
theorem cof_ran (hC : CxTab T) (s : St) (w : Int) : Ran T 134 [.int .u32 w] s fun v s' => ∃ x y, v = .complex .f64 x y ∧ IV x (cre w) 0 ∧ IV y (cim w) 0 ∧ s' = s := by
 have q := raw_shr .u32 .u64 w 16 (by decide)
 refine ran_code hC.of (Nat.le_of_ble_eq_true rfl) ?_
 simp only [ir134, q, flt_ofInt, wo_i2f, wr, seval]
 have b1 := wrap16_bd w
 have b2 := wrap16_bd (shrF .u32 w 16)
 exact ⟨_, _, rfl, IV.ofInt (cre w) (by unfold cre; omega), IV.ofInt (cim w) (by unfold cim; omega)⟩
theorem nan_ran (hC : CxTab T) (s : St) {x : Nat} {a : Int} (h : IV x a 0) : Ran T 171 [.float .f64 x] s fun v s' => v = .bool false ∧ s' = s := by
 have q := flt_neq h
 refine ran_code hC.nan (Nat.le_of_ble_eq_true rfl) ?_
 simp only [ir171, q, wr, seval]
theorem floor_ran (hC : CxTab T) (s : St) {x : Nat} {a : Int} (h : IV x a (-15)) (h52 : a.natAbs < 2 ^ 52) : Ran T 172 [.float .f64 x] s fun v s' => ∃ z, v = .float .f64 z ∧ IV z (a / 32768) 0 ∧ s' = s := by
 refine ran_code hC.floor (Nat.le_of_ble_eq_true rfl) ?_
 generalize hQ : Fin _ _ = Q
 simp only [ir172, wr, seval]
 refine goCall_by (ran_ext hC.afloor (flt_floor h s) (K := fun v s' => ∃ z, v = .float .f64 z ∧ IV z (a / 32768) 0 ∧ s' = s) ⟨_, rfl, IV.floor h h52, rfl⟩) ?_
 rintro v s' ⟨z, rfl, hz, rfl⟩
 subst hQ
 simp only [ir172, wr, seval]
 exact ⟨z, rfl, hz⟩
theorem fmax_ran (hC : CxTab T) (s : St) {x y : Nat} {a b : Int} (hx : IV x a 0) (hy : IV y b 0) : Ran T 173 [.float .f64 x, .float .f64 y] s fun v s' => ∃ z, v = .float .f64 z ∧ IV z (max a b) 0 ∧ s' = s := by
 refine ran_code hC.max (Nat.le_of_ble_eq_true rfl) ?_
 generalize hQ : Fin _ _ = Q
 obtain ⟨z, h1, h2, h3, h4⟩ := flt_pick "math.archMax" false .gt hx hy
 have hz : IV z (max a b) 0 := by
  by_cases h : b < a
  · rw [show max a b = a by omega]; exact h3 (cmp_gt.2 h)
  · rw [show max a b = b by omega]; exact h4 fun e => h (cmp_gt.1 e)
 have he : extV .fmax [.float .f64 x, .float .f64 y] s = .val (.float .f64 z) s := by
  show ofOpt s (pureAV (Extern.MathDim.pick "math.archMax" false .gt #[.float .f64 x, .float .f64 y])) = _
  rw [h1]; rfl
 simp only [ir173, wr, seval]
 refine goCall_by (ran_ext hC.amax he (K := fun v s' => v = .float .f64 z ∧ s' = s) ⟨rfl, rfl⟩) ?_
 rintro v s' ⟨rfl, rfl⟩
 subst hQ
 simp only [ir173, wr, seval]
 exact ⟨z, rfl, hz⟩
theorem fmin_ran (hC : CxTab T) (s : St) {x y : Nat} {a b : Int} (hx : IV x a 0) (hy : IV y b 0) : Ran T 174 [.float .f64 x, .float .f64 y] s fun v s' => ∃ z, v = .float .f64 z ∧ IV z (min a b) 0 ∧ s' = s := by
 refine ran_code hC.min (Nat.le_of_ble_eq_true rfl) ?_
 generalize hQ : Fin _ _ = Q
 obtain ⟨z, h1, h2, h3, h4⟩ := flt_pick "math.archMin" true .lt hx hy
 have hz : IV z (min a b) 0 := by
  by_cases h : a < b
  · rw [show min a b = a by omega]; exact h3 (cmp_lt.2 h)
  · rw [show min a b = b by omega]; exact h4 fun e => h (cmp_lt.1 e)
 have he : extV .fmin [.float .f64 x, .float .f64 y] s = .val (.float .f64 z) s := by
  show ofOpt s (pureAV (Extern.MathDim.pick "math.archMin" true .lt #[.float .f64 x, .float .f64 y])) = _
  rw [h1]; rfl
 simp only [ir174, wr, seval]
 refine goCall_by (ran_ext hC.amin he (K := fun v s' => v = .float .f64 z ∧ s' = s) ⟨rfl, rfl⟩) ?_
 rintro v s' ⟨rfl, rfl⟩
 subst hQ
 simp only [ir174, wr, seval]
 exact ⟨z, rfl, hz⟩
theorem iv_c1 : IV 4674736138332667904 32767 0 := ⟨false, 38, by decide, by decide, by decide⟩
theorem iv_c2 : IV 13898108450065350656 (-32768) 0 := ⟨true, 37, by decide, by decide, by decide⟩
theorem part_ran (hC : CxTab T) (s : St) {x : Nat} {a : Int} (hx : IV x a 0) (h52 : a.natAbs < 2 ^ 52) : Ran T 158 [.float .f64 x] s fun v s' => v = .int .u16 (partF a) ∧ s' = s := by
 refine ran_code hC.part (Nat.le_of_ble_eq_true rfl) ?_
 generalize hQ : Fin _ _ = Q
 obtain ⟨y, hy, hy'⟩ := IV.scale hx
 have q := flt_quo hy
 simp only [ir158, wr, seval]
 refine goCall_by (nan_ran hC s hx) ?_
 rintro v s' ⟨rfl, rfl⟩
 simp only [q, wr, seval]
 refine goCall_by (floor_ran hC s' hy' h52) ?_
 rintro v s' ⟨z, rfl, hz, rfl⟩
 simp only [wr, seval]
 refine goCall_by (fmin_ran hC s' iv_c1 hz) ?_
 rintro v s' ⟨z2, rfl, hz2, rfl⟩
 simp only [wr, seval]
 refine goCall_by (fmax_ran hC s' iv_c2 hz2) ?_
 rintro v s' ⟨z3, rfl, hz3, rfl⟩
 have hc := clamp_le a
 have q2 := flt_toInt (a := clamp a) hz3 hc.1 hc.2
 simp only [q2, wo_f2i, wr, seval]
 subst hQ
 simp only [ir158, wr, seval]
 rfl
theorem pack_ran (hC : CxTab T) (s : St) {x y : Nat} {a b : Int} (hx : IV x a 0) (hy : IV y b 0) (h1 : a.natAbs < 2 ^ 52) (h2 : b.natAbs < 2 ^ 52) : Ran T 132 [.complex .f64 x y] s fun v s' => v = .int .u32 (packF a b) ∧ s' = s := by
 refine ran_code hC.pack (Nat.le_of_ble_eq_true rfl) ?_
 generalize hQ : Fin _ _ = Q
 simp only [ir132, wr, seval]
 refine goCall_by (part_ran hC s hx h1) ?_
 rintro v s' ⟨rfl, rfl⟩
 simp only [wr, seval]
 refine goCall_by (part_ran hC s' hy h2) ?_
 rintro v s' ⟨rfl, rfl⟩
 have q1 := raw_shl .u32 .u64 (partF b % 4294967296) 16 (by decide)
 have q2 := raw_or .u32 (partF a % 4294967296) (shlF .u32 (partF b % 4294967296) 16)
 simp only [q1, q2, wr, seval]
 subst hQ
 simp only [ir132, wr, seval]
 rfl
theorem bd_mul {a b : Int} (ha : -32768 ≤ a ∧ a ≤ 32768) (hb : -32768 ≤ b ∧ b ≤ 32768) : (a * b).natAbs ≤ 1073741824 := by
 rw [Int.natAbs_mul]
 exact Nat.mul_le_mul (show a.natAbs ≤ 32768 by omega) (show b.natAbs ≤ 32768 by omega)
theorem product_ran (hC : CxTab T) (s : St) {x y z t : Nat} {a b c d : Int} (hx : IV x a 0) (hy : IV y b 0) (hz : IV z c 0) (ht : IV t d 0) (ha : -32768 ≤ a ∧ a ≤ 32768) (hb : -32768 ≤ b ∧ b ≤ 32768) (hc : -32768 ≤ c ∧ c ≤ 32768) (hd : -32768 ≤ d ∧ d ≤ 32768) :
 Ran T 133 [.complex .f64 x y, .complex .f64 z t] s fun v s' => ∃ p q, v = .complex .f64 p q ∧ IV p (a * c - b * d) 0 ∧ IV q (a * d + b * c) 0 ∧ s' = s := by
 have e1 := bd_mul ha hc
 have e2 := bd_mul hb hd
 have e3 := bd_mul ha hd
 have e4 := bd_mul hb hc
 obtain ⟨p, p1, p2⟩ := IV.mul hx hz (by omega)
 obtain ⟨q, q1, q2⟩ := IV.mul hy ht (by omega)
 obtain ⟨r, r1, r2⟩ := IV.sub p2 q2 (by omega)
 obtain ⟨p', p3, p4⟩ := IV.mul hx ht (by omega)
 obtain ⟨q', q3, q4⟩ := IV.mul hy hz (by omega)
 obtain ⟨i, i1, i2⟩ := IV.add p4 q4 (by omega)
 have k := cplx_mul p1 q1 r1 p3 q3 i1
 refine ran_code hC.prod (Nat.le_of_ble_eq_true rfl) ?_
 simp only [ir133, k, wr, seval]
 exact ⟨r, i, rfl, r2, i2⟩
theorem cmul_ran (hC : CxTab T) (s : St) (a b : Int) : Ran T 122 [.int .u32 a, .int .u32 b] s fun v s' => v = .int .u32 (cmulF a b) ∧ s' = s := by
 refine ran_code hC.mul (Nat.le_of_ble_eq_true rfl) ?_
 generalize hQ : Fin _ _ = Q
 have b1 := wrap16_bd a
 have b2 := wrap16_bd (shrF .u32 a 16)
 have b3 := wrap16_bd b
 have b4 := wrap16_bd (shrF .u32 b 16)
 have c1 : -32768 ≤ cre a ∧ cre a ≤ 32768 := by unfold cre; omega
 have c2 : -32768 ≤ cim a ∧ cim a ≤ 32768 := by unfold cim; omega
 have c3 : -32768 ≤ cre b ∧ cre b ≤ 32768 := by unfold cre; omega
 have c4 : -32768 ≤ cim b ∧ cim b ≤ 32768 := by unfold cim; omega
 have e1 := bd_mul c1 c3
 have e2 := bd_mul c2 c4
 have e3 := bd_mul c1 c4
 have e4 := bd_mul c2 c3
 simp only [ir122, wr, seval]
 refine goCall_by (cof_ran hC s a) ?_
 rintro v s' ⟨x, y, rfl, hx, hy, rfl⟩
 simp only [wr, seval]
 refine goCall_by (cof_ran hC s' b) ?_
 rintro v s' ⟨z, t, rfl, hz, ht, rfl⟩
 simp only [wr, seval]
 refine goCall_by (product_ran hC s' hx hy hz ht c1 c2 c3 c4) ?_
 rintro v s' ⟨p, q, rfl, hp, hq, rfl⟩
 simp only [wr, seval]
 refine goCall_by (pack_ran hC s' hp hq (by omega) (by omega)) ?_
 rintro v s' ⟨rfl, rfl⟩
 simp only [wr, seval]
 subst hQ
 simp only [ir122, wr, seval]
 rfl
theorem ccon_ran (hC : CxTab T) (s : St) (a b : Int) : Ran T 123 [.int .u32 a, .int .u32 b] s fun v s' => v = .int .u32 (cconF a b) ∧ s' = s := by
 refine ran_code hC.con (Nat.le_of_ble_eq_true rfl) ?_
 generalize hQ : Fin _ _ = Q
 have b1 := wrap16_bd a
 have b2 := wrap16_bd (shrF .u32 a 16)
 have b3 := wrap16_bd b
 have b4 := wrap16_bd (shrF .u32 b 16)
 have c1 : -32768 ≤ cre a ∧ cre a ≤ 32768 := by unfold cre; omega
 have c2 : -32768 ≤ cim a ∧ cim a ≤ 32768 := by unfold cim; omega
 have c3 : -32768 ≤ cre b ∧ cre b ≤ 32768 := by unfold cre; omega
 have c4 : -32768 ≤ -cim b ∧ -cim b ≤ 32768 := by unfold cim; omega
 have e1 := bd_mul c1 c3
 have e2 := bd_mul c2 c4
 have e3 := bd_mul c1 c4
 have e4 := bd_mul c2 c3
 simp only [ir123, wr, seval]
 refine goCall_by (cof_ran hC s b) ?_
 rintro v s' ⟨z, t, rfl, hz, ht, rfl⟩
 simp only [wr, seval]
 refine goCall_by (cof_ran hC s' a) ?_
 rintro v s' ⟨x, y, rfl, hx, hy, rfl⟩
 have qn : unV .neg (.float .f64 t) = some (.float .f64 (Op.negFloat .f64 t)) := rfl
 simp only [qn, wr, seval]
 refine goCall_by (product_ran hC s' hx hy hz ht.neg c1 c2 c3 c4) ?_
 rintro v s' ⟨p, q, rfl, hp, hq, rfl⟩
 simp only [wr, seval]
 refine goCall_by (pack_ran hC s' hp hq (by omega) (by omega)) ?_
 rintro v s' ⟨rfl, rfl⟩
 simp only [wr, seval]
 subst hQ
 simp only [ir123, wr, seval]
 rfl
end
end Go.V
