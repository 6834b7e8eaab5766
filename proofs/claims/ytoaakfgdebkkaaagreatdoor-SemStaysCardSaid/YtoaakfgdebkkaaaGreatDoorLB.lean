/- bits: fields of words. -/
import Derived.Test.YtoaakfgdebkkaaaGreatDoorVZ
import Derived.Test.YtoaakfgdebkkaaaGreatDoorLA
set_option linter.unusedVariables false
set_option linter.unusedSimpArgs false
set_option linter.unusedSectionVars false
/- bits: fields of words. -/
/- bits: fields of words. -/
namespace Go.V
open Go
set_option linter.unusedSimpArgs false
set_option linter.unusedVariables false
open Z in def ir182 : IFunc := ⟨8,[.tmp 2],(q (R [(o 1 (.box t0)),(o 2 (.move (W 0)))]) (q (R [(f 3 1 1),(l 4 1 3),(o 5 (.bin .shl (.c (.int .u64 1)) t4)),(o 6 (.bin .sub t5 (.c (.int .u64 1)))),(o 7 (.conv (.intInt .u32) t6)),(m 2 7)]) .ret))⟩
open Z in def ir181 : IFunc := ⟨14,[.tmp 4],(q (R [(o 2 (.box t0)),(o 4 (.move (W 0)))]) (q (.regionP [(m 5 1),(o 6 (.conv (.intInt .u64) t5)),(f 7 0 2),(l 8 1 7),(o 9 (.bin .shr t6 t8)),(o 10 (.conv (.intInt .u32) t9)),(la 11 2 2),⟨some 12,none,[t7],(.call 182 [t11])⟩,(o 13 (.bin .and t10 t12)),(m 4 13)]) .ret))⟩
open Z in def ir170 : IFunc := ⟨26,[.tmp 6],(q (R [(o 3 (.box t0)),(o 6 (.move (W 0)))]) (q (q (R [(f 7 1 3),(l 8 1 7),(o 9 (.bin .eql t8 (I 0)))]) (.cond t9 (q (R [(m 10 1),(m 6 10)]) .ret) .skip)) (q (.regionP [(m 11 1),(la 12 2 3),(f 14 0 3),(l 15 1 14),(m 18 2),(la 19 2 3),(f 22 0 3),(l 23 1 22),⟨some 13,none,[t14,t3,t22],(.call 182 [t12])⟩,(o 16 (.bin .shl t13 t15)),(o 17 (.bin .andNot t11 t16)),⟨some 20,none,[t14,t22],(.call 182 [t19])⟩,(o 21 (.bin .and t18 t20)),(o 24 (.bin .shl t21 t23)),(o 25 (.bin .or t17 t24)),(m 6 25)]) .ret)))⟩
open Z in def ir177 : IFunc := ⟨24,[.tmp 2],(q (R [(o 1 (.box t0)),(o 2 (.move F))]) (q (R [(f 3 0 1),(l 4 1 3),(o 5 (.bin .geq t4 (I 0))),(m 6 5),(og 7 6 true (.fieldAddr 1 t1)),(og 8 6 true (.load false 1 t7)),(og 9 6 true (.bin .geq t8 (I 0))),(o 10 (.pick t6 t9 F)),(m 11 10),(og 12 11 true (.fieldAddr 0 t1)),(og 13 11 true (.load false 1 t12)),(og 14 11 true (.bin .leq t13 (I 32))),(o 15 (.pick t11 t14 F)),(m 16 15),(og 17 16 true (.fieldAddr 1 t1)),(og 18 16 true (.load false 1 t17)),(og 19 16 true (.fieldAddr 0 t1)),(og 20 16 true (.load false 1 t19)),(og 21 16 true (.bin .sub (I 32) t20)),(og 22 16 true (.bin .leq t18 t21)),(o 23 (.pick t16 t22 F)),(m 2 23)]) .ret))⟩
open Z in def ir166 : IFunc := ⟨21,[.tmp 8],(q (R [(o 8 (.move (W 0)))]) (q (R [(m 10 1),(m 11 2),(o 12 (.build [(i 0),(i 0)] [(0,1,t10),(1,1,t11)])),(o 9 (.alloc [(i 0),(i 0)])),(st 2 9 12)]) (q (q (R [(la 13 2 9),(o 14 (.call 177 [t13])),(o 15 (.un .not t14))]) (.cond t15 (q (R [(m 16 0),(m 8 16)]) .ret) .skip)) (q (R [(la 17 2 9),(m 18 0),(m 19 3),(o 20 (.call 170 [t17,t18,t19])),(m 8 20)]) .ret))))⟩
open Z in def ir169 : IFunc := ⟨17,[.tmp 6],(q (R [(o 6 (.move (W 0)))]) (q (R [(m 8 1),(m 9 2),(o 10 (.build [(i 0),(i 0)] [(0,1,t8),(1,1,t9)])),(o 7 (.alloc [(i 0),(i 0)])),(st 2 7 10)]) (q (q (R [(la 11 2 7),(o 12 (.call 177 [t11])),(o 13 (.un .not t12))]) (.cond t13 (q (R [(o 6 (.move (W 0)))]) .ret) .skip)) (q (R [(la 14 2 7),(m 15 0),(o 16 (.call 181 [t14,t15])),(m 6 16)]) .ret))))⟩
open Z in def ir180 : IFunc := ⟨27,[.tmp 4],(q (R [(mi 4 0)]) (q (q (R [(m 6 1),(o 7 (.bin .lss t6 (I 1))),(m 8 7),(og 9 8 false (.move t1)),(og 10 8 false (.bin .gtr t9 (I 32))),(o 11 (.pick t8 T t10))]) (.cond t11 (q (R [(mi 4 0)]) .ret) .skip)) (q (R [(m 12 1),(o 13 (.build [(i 0),(i 0)] [(0,1,(I 0)),(1,1,t12)])),(m 14 0),(o 15 (.call 181 [t13,t14])),(o 16 (.conv (.intInt .i64) t15)),(m 5 16)]) (q (q (R [(m 17 5),(m 18 1),(o 19 (.bin .sub t18 (I 1))),(o 20 (.bin .shr t17 t19)),(o 21 (.bin .eql t20 (I 1)))]) (.cond t21 (q (R [(m 22 5),(m 23 1),(o 24 (.bin .shl (I 1) t23)),(o 25 (.bin .sub t22 t24)),(m 4 25)]) .ret) .skip)) (q (R [(m 26 5),(m 4 26)]) .ret)))))⟩
def rawF (op : BinOp) (k : IntKind) (a b : Int) : Int := match pureAV (Op.intBits op k a b) with
 | some (.int _ z) => z
 | _ => 0
theorem raw_and (k : IntKind) (a b : Int) : binV .and (.int k a) (.int k b) = some (.int k (rawF .and k a b)) := by
 show binInt .and k a k b = _
 simp only [binInt, if_true, rawF, Op.intBits, Bool.false_eq_true, if_false, pureAV, mkInt_eq]
 rfl
theorem raw_or (k : IntKind) (a b : Int) : binV .or (.int k a) (.int k b) = some (.int k (rawF .or k a b)) := by
 show binInt .or k a k b = _
 simp only [binInt, if_true, rawF, Op.intBits, Bool.false_eq_true, if_false, pureAV, mkInt_eq]
 rfl
theorem raw_xor (k : IntKind) (a b : Int) : binV .xor (.int k a) (.int k b) = some (.int k (rawF .xor k a b)) := by
 show binInt .xor k a k b = _
 simp only [binInt, if_true, rawF, Op.intBits, Bool.false_eq_true, if_false, pureAV, mkInt_eq]
 rfl
theorem raw_not (k : IntKind) (a b : Int) : binV .andNot (.int k a) (.int k b) = some (.int k (rawF .andNot k a b)) := by
 show binInt .andNot k a k b = _
 simp only [binInt, if_true, rawF, Op.intBits, Bool.false_eq_true, if_false, pureAV, mkInt_eq]
 rfl
def shlF (k : IntKind) (a b : Int) : Int := wrapF k (a * Int.ofNat (Nat.pow 2 (min b.toNat k.bits)))
def shrF (k : IntKind) (a b : Int) : Int := Int.fdiv a (Int.ofNat (Nat.pow 2 (min b.toNat k.bits)))
theorem raw_shl (k j : IntKind) (a b : Int) (h : 0 ≤ b) : binV .shl (.int k a) (.int j b) = some (.int k (shlF k a b)) := by
 obtain ⟨m, rfl⟩ := Int.eq_ofNat_of_zero_le h
 show binInt .shl k a j (.ofNat m) = _
 simp only [binInt, mkInt_eq]
 rfl
theorem raw_shr (k j : IntKind) (a b : Int) (h : 0 ≤ b) : binV .shr (.int k a) (.int j b) = some (.int k (shrF k a b)) := by
 obtain ⟨m, rfl⟩ := Int.eq_ofNat_of_zero_le h
 show binInt .shr k a j (.ofNat m) = _
 simp only [binInt, mkInt_eq]
 rfl
section
variable {T : Tab}
structure BiTab (T : Tab) : Prop where
 mask : T 182 = some (.code ir182)
 get : T 181 = some (.code ir181)
 put : T 170 = some (.code ir170)
 is : T 177 = some (.code ir177)
 Put : T 166 = some (.code ir166)
 Get : T 169 = some (.code ir169)
 Fits : T 101 = some (.code ir101)
 Sext : T 180 = some (.code ir180)
theorem mask_ran (hB : BiTab T) {s : St} (hs : WFS s) {a n : Int} (hn : 0 ≤ n) : Ran T 182 [.agg [.int .i64 a, .int .i64 n]] s fun v s' => ∃ z : Int, v = .int .u32 z ∧ Ext s s' := by
 have hE : Ext s (s.add (.cells [.int .i64 a, .int .i64 n] 0 0 false)) := .add (.refl hs) _
 have q := raw_shl .u64 .i64 1 n hn
 refine ran_code hB.mask (Nat.le_of_ble_eq_true rfl) ?_
 simp only [ir182, q, wr, seval]
 exact ⟨_, rfl, hE⟩
theorem get_ran (hB : BiTab T) {s : St} (hs : WFS s) {a n w : Int} (ha : 0 ≤ a) (hn : 0 ≤ n) : Ran T 181 [.agg [.int .i64 a, .int .i64 n], .int .u32 w] s fun v s' => ∃ z : Int, v = .int .u32 z ∧ Ext s s' := by
 have hE : Ext s (s.add (.cells [.int .i64 a, .int .i64 n] 0 0 false)) := .add (.refl hs) _
 have q := fun w => raw_shr .u64 .i64 w a ha
 refine ran_code hB.get (Nat.le_of_ble_eq_true rfl) ?_
 generalize hQ : Fin _ _ = Q
 have hb1 : (s.add (.cells [.int .i64 a, .int .i64 n] 0 0 false)).heap.get s.next = some (.cells [.int .i64 a, .int .i64 n] 0 0 false) := by simp only [wr, seval]
 generalize hsB : s.add (.cells [.int .i64 a, .int .i64 n] 0 0 false) = sB at *
 have hn1 : s.next < sB.next := by rw [← hsB]; show s.next < s.next + 1; omega
 simp only [ir181, hsB, hb1, q, wr, seval]
 refine goCall ((mask_ran hB hE.1 hn).mono ?_)
 rintro v s2 ⟨z, rfl, hE2⟩
 have hb2 := (hE2.2.2 _ hn1).trans hb1
 refine ⟨by simp only [hb1, hb2, goR_watch, watch_cons, watch_nil, wat_ptr, wat_map, sameObj_refl, Bool.and_self, true_and, wr, seval], ?_⟩
 simp only [raw_and, wr, seval]
 subst hQ
 simp only [ir181, wr, seval]
 exact ⟨_, rfl, hE.trans hE2⟩
theorem put_ran (hB : BiTab T) {s : St} (hs : WFS s) {a n w u : Int} (ha : 0 ≤ a) (hn : 0 ≤ n) : Ran T 170 [.agg [.int .i64 a, .int .i64 n], .int .u32 w, .int .u32 u] s fun v s' => ∃ z : Int, v = .int .u32 z ∧ Ext s s' := by
 have hE : Ext s (s.add (.cells [.int .i64 a, .int .i64 n] 0 0 false)) := .add (.refl hs) _
 have q := fun w => raw_shl .u32 .i64 w a ha
 refine ran_code hB.put (Nat.le_of_ble_eq_true rfl) ?_
 generalize hQ : Fin _ _ = Q
 have hb1 : (s.add (.cells [.int .i64 a, .int .i64 n] 0 0 false)).heap.get s.next = some (.cells [.int .i64 a, .int .i64 n] 0 0 false) := by simp only [wr, seval]
 generalize hsB : s.add (.cells [.int .i64 a, .int .i64 n] 0 0 false) = sB at *
 have hn1 : s.next < sB.next := by rw [← hsB]; show s.next < s.next + 1; omega
 by_cases h0 : n = 0
 · subst h0
   simp only [ir170, hsB, hb1, wr, seval]
   subst hQ
   simp only [ir170, wr, seval]
   exact ⟨_, rfl, hE⟩
 · simp only [ir170, hsB, hb1, h0, wr, seval]
   refine goCall ((mask_ran hB hE.1 hn).mono ?_)
   rintro v s2 ⟨z, rfl, hE2⟩
   have hb2 := (hE2.2.2 _ hn1).trans hb1
   have hn2 := Nat.lt_of_lt_of_le hn1 hE2.2.1
   refine ⟨by simp only [hb1, hb2, goR_watch, watch_cons, watch_nil, wat_ptr, wat_map, sameObj_refl, Bool.and_self, true_and, wr, seval], ?_⟩
   simp only [raw_not, q, wr, seval]
   refine goCall ((mask_ran hB hE2.1 hn).mono ?_)
   rintro v s3 ⟨z3, rfl, hE3⟩
   have hb3 := (hE3.2.2 _ hn2).trans hb2
   refine ⟨by simp only [hb2, hb3, goR_watch, watch_cons, watch_nil, wat_ptr, wat_map, sameObj_refl, Bool.and_self, true_and, wr, seval], ?_⟩
   simp only [raw_and, raw_or, q, wr, seval]
   subst hQ
   simp only [ir170, wr, seval]
   exact ⟨_, rfl, (hE.trans hE2).trans hE3⟩
end
end Go.V
/- bits: Put, Get, Fits, Sext. -/
namespace Go.V
open Go
set_option linter.unusedSimpArgs false
set_option linter.unusedVariables false
section
variable {T : Tab}
def IsP (a n : Int) (b : Bool) : Prop := b = true → 0 ≤ a ∧ 0 ≤ n
theorem is_ran (hB : BiTab T) {s : St} (hs : WFS s) (a n : Int) : Ran T 177 [.agg [.int .i64 a, .int .i64 n]] s fun v s' => ∃ b : Bool, v = .bool b ∧ IsP a n b ∧ Ext s s' := by
 have hE : Ext s (s.add (.cells [.int .i64 a, .int .i64 n] 0 0 false)) := .add (.refl hs) _
 refine ran_code hB.is (Nat.le_of_ble_eq_true rfl) ?_
 by_cases h1 : 0 ≤ a
 · by_cases h2 : 0 ≤ n
   · by_cases h3 : a ≤ 32
     · simp only [ir177, h1, h2, h3, wr, seval]
       exact ⟨_, rfl, fun _ => ⟨h1, h2⟩, hE⟩
     · simp only [ir177, h1, h2, h3, wr, seval]
       refine ⟨_, rfl, ?_, hE⟩; intro h; cases h
   · simp only [ir177, h1, h2, wr, seval]
     refine ⟨_, rfl, ?_, hE⟩; intro h; cases h
 · simp only [ir177, h1, wr, seval]
   refine ⟨_, rfl, ?_, hE⟩; intro h; cases h
theorem bput_ran (hB : BiTab T) {s : St} (hs : WFS s) (a n w u : Int) : Ran T 166 [.int .u32 w, .int .i64 a, .int .i64 n, .int .u32 u] s fun v s' => ∃ z : Int, v = .int .u32 z ∧ Ext s s' := by
 have hE : Ext s (s.add (.cells [.int .i64 a, .int .i64 n] 0 0 false)) := .add (.refl hs) _
 refine ran_code hB.Put (Nat.le_of_ble_eq_true rfl) ?_
 generalize hQ : Fin _ _ = Q
 have hb1 : (s.add (.cells [.int .i64 a, .int .i64 n] 0 0 false)).heap.get s.next = some (.cells [.int .i64 a, .int .i64 n] 0 0 false) := by simp only [wr, seval]
 simp only [ir166, wr, seval]
 generalize hsB : s.add (.cells [.int .i64 a, .int .i64 n] 0 0 false) = sB at *
 have hn1 : s.next < sB.next := by rw [← hsB]; show s.next < s.next + 1; omega
 refine goCall_by (is_ran hB hE.1 a n) ?_
 rintro v s2 ⟨b, rfl, hb, hE2⟩
 have hb2 := (hE2.2.2 _ hn1).trans hb1
 cases b with
 | false =>
  simp only [wr, seval]
  subst hQ
  simp only [ir166, wr, seval]
  exact ⟨_, rfl, hE.trans hE2⟩
 | true =>
  obtain ⟨p1, p2⟩ := hb rfl
  simp only [hb2, wr, seval]
  refine goCall_by (put_ran hB hE2.1 p1 p2) ?_
  rintro v s3 ⟨z, rfl, hE3⟩
  simp only [wr, seval]
  subst hQ
  simp only [ir166, wr, seval]
  exact ⟨_, rfl, (hE.trans hE2).trans hE3⟩
theorem bget_ran (hB : BiTab T) {s : St} (hs : WFS s) (a n w : Int) : Ran T 169 [.int .u32 w, .int .i64 a, .int .i64 n] s fun v s' => ∃ z : Int, v = .int .u32 z ∧ Ext s s' := by
 have hE : Ext s (s.add (.cells [.int .i64 a, .int .i64 n] 0 0 false)) := .add (.refl hs) _
 refine ran_code hB.Get (Nat.le_of_ble_eq_true rfl) ?_
 generalize hQ : Fin _ _ = Q
 have hb1 : (s.add (.cells [.int .i64 a, .int .i64 n] 0 0 false)).heap.get s.next = some (.cells [.int .i64 a, .int .i64 n] 0 0 false) := by simp only [wr, seval]
 simp only [ir169, wr, seval]
 generalize hsB : s.add (.cells [.int .i64 a, .int .i64 n] 0 0 false) = sB at *
 have hn1 : s.next < sB.next := by rw [← hsB]; show s.next < s.next + 1; omega
 refine goCall_by (is_ran hB hE.1 a n) ?_
 rintro v s2 ⟨b, rfl, hb, hE2⟩
 have hb2 := (hE2.2.2 _ hn1).trans hb1
 cases b with
 | false =>
  simp only [wr, seval]
  subst hQ
  simp only [ir169, wr, seval]
  exact ⟨_, rfl, hE.trans hE2⟩
 | true =>
  obtain ⟨p1, p2⟩ := hb rfl
  simp only [hb2, wr, seval]
  refine goCall_by (get_ran hB hE2.1 p1 p2) ?_
  rintro v s3 ⟨z, rfl, hE3⟩
  simp only [wr, seval]
  subst hQ
  simp only [ir169, wr, seval]
  exact ⟨_, rfl, (hE.trans hE2).trans hE3⟩
theorem bfits_ran (hB : BiTab T) {s : St} (hs : WFS s) (a n sc : Int) (sg : Bool) : Ran T 101 [.int .i64 a, .int .i64 n, .int .i64 sc, .bool sg] s fun v s' => ∃ b : Bool, v = .bool b ∧ Ext s s' := by
 refine ran_code hB.Fits (Nat.le_of_ble_eq_true rfl) ?_
 by_cases h1 : n < 1
 · simp only [ir101, h1, wr, seval]
   exact ⟨_, rfl, .refl hs⟩
 · by_cases h2 : 32 < n
   · simp only [ir101, h1, h2, wr, seval]
     exact ⟨_, rfl, .refl hs⟩
   · by_cases h3 : sc < 0
     · simp only [ir101, h1, h2, h3, wr, seval]
       exact ⟨_, rfl, .refl hs⟩
     · by_cases h4 : 8 < sc
       · simp only [ir101, h1, h2, h3, h4, wr, seval]
         exact ⟨_, rfl, .refl hs⟩
       · have q1 := fun w => raw_shl .i64 .i64 w sc (by omega)
         have q2 := fun w => raw_shr .i64 .i64 w sc (by omega)
         have q3 := fun w => raw_shl .i64 .i64 w n (by omega)
         have w1 : wrapF .i64 (n - 1) = n - 1 := by rw [wrap_i64 _ (by omega) (by omega)]
         have q4 := fun w => raw_shl .i64 .i64 w (n - 1) (by omega)
         generalize hz : rawF .and .i64 a (wrapF .i64 (shlF .i64 1 sc - 1)) = z
         by_cases h5 : z = 0
         · subst h5
           cases sg with
           | false =>
            by_cases h6 : 0 ≤ shrF .i64 a sc
            · simp only [ir101, h1, h2, h3, h4, h6, q1, raw_and, hz, q2, q3, wr, seval]
              exact ⟨_, rfl, .refl hs⟩
            · simp only [ir101, h1, h2, h3, h4, h6, q1, raw_and, hz, q2, q3, wr, seval]
              exact ⟨_, rfl, .refl hs⟩
           | true =>
            by_cases h6 : 0 ≤ wrapF .i64 (shrF .i64 a sc + shlF .i64 1 (n - 1))
            · simp only [ir101, h1, h2, h3, h4, h6, q1, raw_and, hz, q2, w1, q4, q3, wr, seval]
              exact ⟨_, rfl, .refl hs⟩
            · simp only [ir101, h1, h2, h3, h4, h6, q1, raw_and, hz, q2, w1, q4, q3, wr, seval]
              exact ⟨_, rfl, .refl hs⟩
         · simp only [ir101, h1, h2, h3, h4, q1, raw_and, hz, h5, wr, seval]
           exact ⟨_, rfl, .refl hs⟩
theorem sext_ran (hB : BiTab T) {s : St} (hs : WFS s) (v n : Int) : Ran T 180 [.int .u32 v, .int .i64 n] s fun r s' => ∃ z : Int, r = .int .i64 z ∧ Ext s s' := by
 refine ran_code hB.Sext (Nat.le_of_ble_eq_true rfl) ?_
 generalize hQ : Fin _ _ = Q
 by_cases h1 : n < 1
 · simp only [ir180, h1, wr, seval]
   subst hQ
   simp only [ir180, wr, seval]
   exact ⟨_, rfl, .refl hs⟩
 · by_cases h2 : 32 < n
   · simp only [ir180, h1, h2, wr, seval]
     subst hQ
     simp only [ir180, wr, seval]
     exact ⟨_, rfl, .refl hs⟩
   · simp only [ir180, h1, h2, wr, seval]
     refine goCall_by (get_ran hB hs (Int.le_refl 0) (show 0 ≤ n by omega)) ?_
     rintro r s2 ⟨z, rfl, hE2⟩
     have w1 : wrapF .i64 (n - 1) = n - 1 := by rw [wrap_i64 _ (by omega) (by omega)]
     have q1 := fun w => raw_shr .i64 .i64 w (n - 1) (by omega)
     have q2 := fun w => raw_shl .i64 .i64 w n (by omega)
     by_cases h3 : shrF .i64 (wrapF .i64 z) (n - 1) = 1
     · simp only [w1, q1, q2, h3, wr, seval]
       subst hQ
       simp only [ir180, wr, seval]
       exact ⟨_, rfl, hE2⟩
     · simp only [w1, q1, q2, h3, wr, seval]
       subst hQ
       simp only [ir180, wr, seval]
       exact ⟨_, rfl, hE2⟩
end
end Go.V
/- sub: fields of small instructions. -/
namespace Go.V
open Go
set_option linter.unusedSimpArgs false
set_option linter.unusedVariables false
open Z in def ir178 : IFunc := ⟨19,[.tmp 2,.tmp 3],(q (R [(o 2 (.move (W 0))),(o 3 (.move F))]) (q (.block 0 (q (R [(m 5 0),(o 6 (.bin .lss t5 (B 8))),(m 4 6)]) (.cond t4 (q (R [(m 7 0),(o 8 (.conv (.intInt .u32) t7)),(m 2 8),(o 3 (.move T))]) .ret) (q (R [(m 10 0),(o 11 (.bin .geq t10 (B 16))),(m 12 11),(og 13 12 true (.move t0)),(og 14 12 true (.bin .lss t13 (B 24))),(o 15 (.pick t12 t14 F)),(m 9 15)]) (.cond t9 (q (R [(m 16 0),(o 17 (.bin .sub t16 (B 8))),(o 18 (.conv (.intInt .u32) t17)),(m 2 18),(o 3 (.move T))]) .ret) .skip))))) (q (R [(o 2 (.move (W 0))),(o 3 (.move F))]) .ret)))⟩
open Z in def ir179 : IFunc := ⟨10,[.tmp 2],(q (R [(o 2 (.move (B 0)))]) (q (q (R [(m 3 0),(o 4 (.bin .lss t3 (W 8)))]) (.cond t4 (q (R [(m 5 0),(o 6 (.conv (.intInt .u8) t5)),(m 2 6)]) .ret) .skip)) (q (R [(m 7 0),(o 8 (.bin .add t7 (W 8))),(o 9 (.conv (.intInt .u8) t8)),(m 2 9)]) .ret)))⟩
open Z in def ir167 : IFunc := ⟨67,[.tmp 4,.tmp 5],(q (R [(o 2 (.box t0)),(o 3 (.box t1)),(o 4 (.move (W 0))),(o 5 (.move F))]) (q (q (R [(f 8 0 2),(l 9 1 8)]) (.block 0 (q (R [(o 11 (.bin .eql t9 (I 1))),(m 10 11)]) (.cond t10 (q (R [(f 12 1 3),(l 13 1 12),(o 14 (.call 178 [t13])),(x 15 14 0),(x 16 14 1),(m 4 15),(m 5 16)]) .ret) (q (R [(o 18 (.bin .eql t9 (I 2))),(m 17 18)]) (.cond t17 (q (R [(f 19 2 3),(l 20 1 19),(o 21 (.call 178 [t20])),(x 22 21 0),(x 23 21 1),(m 4 22),(m 5 23)]) .ret) (q (R [(o 25 (.bin .eql t9 (I 3))),(m 24 25)]) (.cond t24 (q (R [(f 26 3 3),(l 27 1 26),(o 28 (.call 178 [t27])),(x 29 28 0),(x 30 28 1),(m 4 29),(m 5 30)]) .ret) (q (R [(o 32 (.bin .eql t9 (I 4))),(m 31 32)]) (.cond t31 (q (R [(f 34 1 3),(l 35 1 34),(o 36 (.call 178 [t35])),(m 33 36),(x 37 33 0),(x 38 33 1),(m 6 37),(m 7 38)]) (q (.region [(m 39 6),(m 40 7),(m 41 40),(og 42 41 true (.fieldAddr 1 t3)),(og 43 41 true (.load false 1 t42)),(og 44 41 true (.fieldAddr 2 t3)),(og 45 41 true (.load false 1 t44)),(og 46 41 true (.bin .eql t43 t45)),(o 47 (.pick t41 t46 F)),(m 4 39),(m 5 47)] true) .ret)) (q (q (R [(o 49 (.bin .eql t9 (I 5))),(m 48 49)]) (.cond t48 .skip (R [(o 50 (.bin .eql t9 (I 6))),(m 48 50)]))) (.cond t48 (q (.regionP [(f 51 10 3),(l 52 1 51),(f 53 2 2),(l 54 1 53),(o 55 (.bin .shr t52 t54)),(o 56 (.conv (.intInt .u32) t55)),(f 57 10 3),(l 58 1 57),(f 59 1 2),(l 60 1 59),(f 61 2 2),(l 62 1 61),(f 63 0 2),(l 64 1 63),(o 65 (.bin .eql t64 (I 6))),⟨some 66,none,[t51,t53],(.call 101 [t58,t60,t62,t65])⟩,(m 4 56),(m 5 66)]) .ret) .skip)))))))))))) (q (R [(o 4 (.move (W 0))),(o 5 (.move T))]) .ret)))⟩
open Z in def ir168 : IFunc := ⟨63,[],(q (R [(o 3 (.box t0))]) (q (R [(f 6 0 3),(l 7 1 6)]) (.block 0 (q (R [(o 9 (.bin .eql t7 (I 1))),(m 8 9)]) (.cond t8 (R [(m 10 1),(m 11 2),(o 12 (.call 179 [t11])),(k 13 10),(f 14 1 13),(st 1 14 12)]) (q (R [(o 16 (.bin .eql t7 (I 2))),(m 15 16)]) (.cond t15 (R [(m 17 1),(m 18 2),(o 19 (.call 179 [t18])),(k 20 17),(f 21 2 20),(st 1 21 19)]) (q (R [(o 23 (.bin .eql t7 (I 3))),(m 22 23)]) (.cond t22 (R [(m 24 1),(m 25 2),(o 26 (.call 179 [t25])),(k 27 24),(f 28 3 27),(st 1 28 26)]) (q (R [(o 30 (.bin .eql t7 (I 4))),(m 29 30)]) (.cond t29 (R [(m 31 1),(m 32 1),(m 33 2),(o 34 (.call 179 [t33])),(m 35 2),(o 36 (.call 179 [t35])),(k 37 31),(f 38 1 37),(st 1 38 34),(k 39 32),(f 40 2 39),(st 1 40 36)]) (q (R [(o 42 (.bin .eql t7 (I 5))),(m 41 42)]) (.cond t41 (R [(m 43 1),(m 44 2),(o 45 (.conv (.intInt .i64) t44)),(f 46 2 3),(l 47 1 46),(o 48 (.bin .shl t45 t47)),(k 49 43),(f 50 10 49),(st 1 50 48)]) (q (R [(o 52 (.bin .eql t7 (I 6))),(m 51 52)]) (.cond t51 (.regionP [(m 53 1),(m 54 2),(f 55 1 3),(l 56 1 55),(f 58 2 3),(l 59 1 58),⟨some 57,none,[t58],(.call 180 [t54,t56])⟩,(o 60 (.bin .shl t57 t59)),(k 61 53),(f 62 10 61),(st 1 62 60)]) .skip)))))))))))))))⟩
theorem i64_wrap (n : Int) : isI64 (wrapF .i64 n) = true := by
 rw [wrapF_eq]
 have h : -9223372036854775808 ≤ IntKind.wrap .i64 n ∧ IntKind.wrap .i64 n ≤ 9223372036854775807 := by
  unfold IntKind.wrap
  simp only [IntKind.signed, IntKind.bits, Bool.true_and, decide_eq_true_eq, Nat.reduceSub]
  have e1 : ((2 : Int) ^ 64) = 18446744073709551616 := by decide
  have e2 : ((2 : Int) ^ 63) = 9223372036854775808 := by decide
  simp only [e1, e2]
  have h1 := Int.emod_nonneg n (b := 18446744073709551616) (by decide)
  have h2 := Int.emod_lt_of_pos n (b := 18446744073709551616) (by decide)
  generalize n % 18446744073709551616 = m at *
  split <;> rename_i h <;> simp at h <;> omega
 simp only [isI64, h.1, h.2, decide_true, Bool.and_self]
theorem i64_shl (a b : Int) : isI64 (shlF .i64 a b) = true := i64_wrap _
section
variable {T : Tab}
structure SbTab (T : Tab) : Prop where
 bi : BiTab T
 small : T 178 = some (.code ir178)
 great : T 179 = some (.code ir179)
 puts : T 167 = some (.code ir167)
 takes : T 168 = some (.code ir168)
theorem small_ran (hB : SbTab T) {s : St} (hs : WFS s) (r : Int) : Ran T 178 [.int .u8 r] s fun v s' => ∃ (z : Int) (b : Bool), v = .tuple [.int .u32 z, .bool b] ∧ Ext s s' := by
 refine ran_code hB.small (Nat.le_of_ble_eq_true rfl) ?_
 by_cases h1 : r < 8
 · simp only [ir178, h1, wr, seval]
   exact ⟨_, _, rfl, .refl hs⟩
 · by_cases h2 : 16 ≤ r
   · by_cases h3 : r < 24
     · simp only [ir178, h1, h2, h3, wr, seval]
       exact ⟨_, _, rfl, .refl hs⟩
     · simp only [ir178, h1, h2, h3, wr, seval]
       exact ⟨_, _, rfl, .refl hs⟩
   · simp only [ir178, h1, h2, wr, seval]
     exact ⟨_, _, rfl, .refl hs⟩
theorem great_ran (hB : SbTab T) {s : St} (hs : WFS s) (r : Int) : Ran T 179 [.int .u32 r] s fun v s' => ∃ z : Int, v = .int .u8 z ∧ Ext s s' := by
 refine ran_code hB.great (Nat.le_of_ble_eq_true rfl) ?_
 by_cases h1 : r < 8
 · simp only [ir179, h1, wr, seval]
   exact ⟨_, rfl, .refl hs⟩
 · simp only [ir179, h1, wr, seval]
   exact ⟨_, rfl, .refl hs⟩
set_option maxHeartbeats 4000000 in
theorem puts_ran (hB : SbTab T) {s : St} (hs : WFS s) (kd bt sc : Int) (hsc : 0 ≤ sc) (i : In) : Ran T 167 [.agg [.int .i64 kd, .int .i64 bt, .int .i64 sc], .agg i.cells] s fun v s' => ∃ (z : Int) (b : Bool), v = .tuple [.int .u32 z, .bool b] ∧ Ext s s' := by
 have ci : i.cells = [.int .u8 i.op, .int .u8 i.d, .int .u8 i.s, .int .u8 i.t, .int .u8 i.n, .int .u8 i.pred, .int .u8 i.mode, .bool i.nw, .bool i.ext, .int .u16 i.count, .int .i64 i.imm] := rfl
 rw [ci]
 refine ran_code hB.puts (Nat.le_of_ble_eq_true rfl) ?_
 generalize hQ : Fin _ _ = Q
 have hE : Ext s ((s.add (.cells [.int .i64 kd, .int .i64 bt, .int .i64 sc] 0 0 false)).add (.cells [.int .u8 i.op, .int .u8 i.d, .int .u8 i.s, .int .u8 i.t, .int .u8 i.n, .int .u8 i.pred, .int .u8 i.mode, .bool i.nw, .bool i.ext, .int .u16 i.count, .int .i64 i.imm] 0 0 false)) := (Ext.refl hs).add _ |>.add _
 have hbf : ((s.add (.cells [.int .i64 kd, .int .i64 bt, .int .i64 sc] 0 0 false)).add (.cells [.int .u8 i.op, .int .u8 i.d, .int .u8 i.s, .int .u8 i.t, .int .u8 i.n, .int .u8 i.pred, .int .u8 i.mode, .bool i.nw, .bool i.ext, .int .u16 i.count, .int .i64 i.imm] 0 0 false)).heap.get s.next = some (.cells [.int .i64 kd, .int .i64 bt, .int .i64 sc] 0 0 false) := by simp only [wr, seval]
 have hbi : ((s.add (.cells [.int .i64 kd, .int .i64 bt, .int .i64 sc] 0 0 false)).add (.cells [.int .u8 i.op, .int .u8 i.d, .int .u8 i.s, .int .u8 i.t, .int .u8 i.n, .int .u8 i.pred, .int .u8 i.mode, .bool i.nw, .bool i.ext, .int .u16 i.count, .int .i64 i.imm] 0 0 false)).heap.get (s.next + 1) = some (.cells [.int .u8 i.op, .int .u8 i.d, .int .u8 i.s, .int .u8 i.t, .int .u8 i.n, .int .u8 i.pred, .int .u8 i.mode, .bool i.nw, .bool i.ext, .int .u16 i.count, .int .i64 i.imm] 0 0 false) := by simp only [wr, seval]
 generalize hsB : (s.add (.cells [.int .i64 kd, .int .i64 bt, .int .i64 sc] 0 0 false)).add (.cells [.int .u8 i.op, .int .u8 i.d, .int .u8 i.s, .int .u8 i.t, .int .u8 i.n, .int .u8 i.pred, .int .u8 i.mode, .bool i.nw, .bool i.ext, .int .u16 i.count, .int .i64 i.imm] 0 0 false) = sB at *
 have hn1 : s.next < sB.next := by rw [← hsB]; show s.next < s.next + 1 + 1; omega
 have hn2 : s.next + 1 < sB.next := by rw [← hsB]; show s.next + 1 < s.next + 1 + 1; omega
 have q1 := fun w => raw_shr .i64 .i64 w sc hsc
 by_cases h1 : kd = 1
 · subst h1
   simp only [ir167, hsB, hbf, hbi, wr, seval]
   refine goCall_by (small_ran hB hE.1 _) ?_
   rintro v s2 ⟨z, b, rfl, hE2⟩
   simp only [wr, seval]
   subst hQ; simp only [ir167, wr, seval]; exact ⟨_, _, rfl, hE.trans hE2⟩
 by_cases h2 : kd = 2
 · subst h2
   simp only [ir167, hsB, hbf, hbi, wr, seval]
   refine goCall_by (small_ran hB hE.1 _) ?_
   rintro v s2 ⟨z, b, rfl, hE2⟩
   simp only [wr, seval]
   subst hQ; simp only [ir167, wr, seval]; exact ⟨_, _, rfl, hE.trans hE2⟩
 by_cases h3 : kd = 3
 · subst h3
   simp only [ir167, hsB, hbf, hbi, wr, seval]
   refine goCall_by (small_ran hB hE.1 _) ?_
   rintro v s2 ⟨z, b, rfl, hE2⟩
   simp only [wr, seval]
   subst hQ; simp only [ir167, wr, seval]; exact ⟨_, _, rfl, hE.trans hE2⟩
 by_cases h4 : kd = 4
 · subst h4
   simp only [ir167, hsB, hbf, hbi, wr, seval]
   refine goCall_by (small_ran hB hE.1 _) ?_
   rintro v s2 ⟨z, b, rfl, hE2⟩
   have hb2 := (hE2.2.2 _ hn2).trans hbi
   cases b <;>
    (simp only [hb2, wr, seval]
     subst hQ; simp only [ir167, wr, seval]; exact ⟨_, _, rfl, hE.trans hE2⟩)
 by_cases h5 : kd = 5
 · subst h5
   simp only [ir167, hsB, hbf, hbi, q1, wr, seval]
   refine goCall ((bfits_ran hB.bi hE.1 _ _ _ _).mono ?_)
   rintro v s2 ⟨b, rfl, hE2⟩
   have hb1 := (hE2.2.2 _ hn1).trans hbf
   have hb2 := (hE2.2.2 _ hn2).trans hbi
   refine ⟨by simp only [hb1, hb2, hbf, hbi, goR_watch, watch_cons, watch_nil, wat_ptr, wat_map, sameObj_refl, Bool.and_self, true_and, wr, seval], ?_⟩
   simp only [wr, seval]
   subst hQ; simp only [ir167, wr, seval]; exact ⟨_, _, rfl, hE.trans hE2⟩
 by_cases h6 : kd = 6
 · subst h6
   simp only [ir167, hsB, hbf, hbi, q1, wr, seval]
   refine goCall ((bfits_ran hB.bi hE.1 _ _ _ _).mono ?_)
   rintro v s2 ⟨b, rfl, hE2⟩
   have hb1 := (hE2.2.2 _ hn1).trans hbf
   have hb2 := (hE2.2.2 _ hn2).trans hbi
   refine ⟨by simp only [hb1, hb2, hbf, hbi, goR_watch, watch_cons, watch_nil, wat_ptr, wat_map, sameObj_refl, Bool.and_self, true_and, wr, seval], ?_⟩
   simp only [wr, seval]
   subst hQ; simp only [ir167, wr, seval]; exact ⟨_, _, rfl, hE.trans hE2⟩
 simp only [ir167, hsB, hbf, hbi, h1, h2, h3, h4, h5, h6, wr, seval]
 subst hQ; simp only [ir167, wr, seval]; exact ⟨_, _, rfl, hE⟩
end
end Go.V
/- sub: what stands in a field. -/
namespace Go.V
open Go
set_option linter.unusedSimpArgs false
set_option linter.unusedVariables false
section
variable {T : Tab}
def Only (p : Nat) (s s' : St) : Prop := WFS s' ∧ s.next ≤ s'.next ∧ ∀ id, id < s.next → id ≠ p → s'.heap.get id = s.heap.get id
theorem Only.of {p : Nat} {s s' : St} (h : Ext s s') : Only p s s' := ⟨h.1, h.2.1, fun id h1 _ => h.2.2 id h1⟩
theorem Only.refl {p : Nat} {s : St} (h : WFS s) : Only p s s := .of (.refl h)
theorem Only.trans {p : Nat} {a b c : St} (h : Only p a b) (k : Only p b c) : Only p a c :=
 ⟨k.1, Nat.le_trans h.2.1 k.2.1, fun id h1 h2 => (k.2.2 id (Nat.lt_of_lt_of_le h1 h.2.1) h2).trans (h.2.2 id h1 h2)⟩
theorem Only.put {p : Nat} {a b : St} (h : Only p a b) (hp : p < b.next) (o : AObj) : Only p a (b.put p o) :=
 ⟨h.1.put hp o, h.2.1, fun id h1 h2 => by rw [put_get, if_neg h2]; exact h.2.2 id h1 h2⟩
theorem Only.ext {p : Nat} {s s' : St} (h : Only p s s') (hp : s.next ≤ p) : Ext s s' := ⟨h.1, h.2.1, fun id h1 => h.2.2 id h1 (by omega)⟩
theorem Only.ext2 {p : Nat} {a s s' : St} (h0 : Ext a s) (h : Only p s s') (hp : a.next ≤ p) : Ext a s' := ⟨h.1, Nat.le_trans h0.2.1 h.2.1, fun id h1 => (h.2.2 id (Nat.lt_of_lt_of_le h1 h0.2.1) (by omega)).trans (h0.2.2 id h1)⟩
def Turned (i : In) (p : Nat) (s s' : St) : Prop := ∃ i' : In, i'.op = i.op ∧ isI64 i'.imm = true ∧ s'.heap.get p = some (.cells i'.cells 0 0 false) ∧ Only p s s'
theorem turned_of {i i' : In} {p : Nat} {s s' : St} (h1 : i'.op = i.op) (h2 : isI64 i'.imm = true) (h : Only p s s') (hp : p < s'.next) : Turned i p s (s'.put p (.cells i'.cells 0 0 false)) :=
 ⟨i', h1, h2, by rw [put_get, if_pos rfl], h.put hp _⟩
set_option maxHeartbeats 4000000 in
theorem takes2_ran (hB : SbTab T) {s : St} (hs : WFS s) (kd bt sc : Int) (hsc : 0 ≤ sc) {p : Nat} (hp : p < s.next) {i : In} (hi : isI64 i.imm = true) (ho : s.heap.get p = some (.cells i.cells 0 0 false)) (u : Int) :
 Ran T 168 [.agg [.int .i64 kd, .int .i64 bt, .int .i64 sc], .ptr ⟨p, 0, 0, 11⟩, .int .u32 u] s fun _ s' => Turned i p s s' := by
 have ci : ∀ i : In, i.cells = [.int .u8 i.op, .int .u8 i.d, .int .u8 i.s, .int .u8 i.t, .int .u8 i.n, .int .u8 i.pred, .int .u8 i.mode, .bool i.nw, .bool i.ext, .int .u16 i.count, .int .i64 i.imm] := fun _ => rfl
 refine ran_code hB.takes (Nat.le_of_ble_eq_true rfl) ?_
 generalize hQ : Fin _ _ = Q
 have hE : Ext s (s.add (.cells [.int .i64 kd, .int .i64 bt, .int .i64 sc] 0 0 false)) := (Ext.refl hs).add _
 have hbf : (s.add (.cells [.int .i64 kd, .int .i64 bt, .int .i64 sc] 0 0 false)).heap.get s.next = some (.cells [.int .i64 kd, .int .i64 bt, .int .i64 sc] 0 0 false) := by simp only [wr, seval]
 have hbi : (s.add (.cells [.int .i64 kd, .int .i64 bt, .int .i64 sc] 0 0 false)).heap.get p = some (.cells i.cells 0 0 false) := by rw [hE.2.2 p hp]; exact ho
 generalize hsB : s.add (.cells [.int .i64 kd, .int .i64 bt, .int .i64 sc] 0 0 false) = sB at *
 have hn1 : s.next < sB.next := by rw [← hsB]; show s.next < s.next + 1; omega
 have hn2 : p < sB.next := Nat.lt_of_lt_of_le hp hE.2.1
 have hne : ¬ p = s.next := by omega
 have q1 := fun w => raw_shl .i64 .i64 w sc hsc
 by_cases h1 : kd = 1
 · subst h1
   simp only [ir168, hsB, hbf, hbi, wr, seval]
   refine goCall_by (great_ran hB hE.1 _) ?_
   rintro v s2 ⟨z, rfl, hE2⟩
   have hb2 := (hE2.2.2 _ hn2).trans hbi
   rw [ci] at hb2
   simp only [hb2, wr, seval]
   subst hQ; simp only [ir168, wr, seval]
   exact turned_of (i' := { i with d := z }) rfl hi (.of (hE.trans hE2)) (Nat.lt_of_lt_of_le hn2 hE2.2.1)
 by_cases h2 : kd = 2
 · subst h2
   simp only [ir168, hsB, hbf, hbi, wr, seval]
   refine goCall_by (great_ran hB hE.1 _) ?_
   rintro v s2 ⟨z, rfl, hE2⟩
   have hb2 := (hE2.2.2 _ hn2).trans hbi
   rw [ci] at hb2
   simp only [hb2, wr, seval]
   subst hQ; simp only [ir168, wr, seval]
   exact turned_of (i' := { i with s := z }) rfl hi (.of (hE.trans hE2)) (Nat.lt_of_lt_of_le hn2 hE2.2.1)
 by_cases h3 : kd = 3
 · subst h3
   simp only [ir168, hsB, hbf, hbi, wr, seval]
   refine goCall_by (great_ran hB hE.1 _) ?_
   rintro v s2 ⟨z, rfl, hE2⟩
   have hb2 := (hE2.2.2 _ hn2).trans hbi
   rw [ci] at hb2
   simp only [hb2, wr, seval]
   subst hQ; simp only [ir168, wr, seval]
   exact turned_of (i' := { i with t := z }) rfl hi (.of (hE.trans hE2)) (Nat.lt_of_lt_of_le hn2 hE2.2.1)
 by_cases h4 : kd = 4
 · subst h4
   simp only [ir168, hsB, hbf, hbi, wr, seval]
   refine goCall_by (great_ran hB hE.1 _) ?_
   rintro v s2 ⟨z, rfl, hE2⟩
   simp only [wr, seval]
   refine goCall_by (great_ran hB hE2.1 _) ?_
   rintro v s3 ⟨z3, rfl, hE3⟩
   have hb2 := ((hE2.trans hE3).2.2 _ hn2).trans hbi
   rw [ci] at hb2
   simp only [hb2, wr, seval]
   subst hQ; simp only [ir168, wr, seval]
   have hn3 := Nat.lt_of_lt_of_le hn2 (hE2.trans hE3).2.1
   exact turned_of (i' := { i with d := z, s := z3 }) rfl hi (.of ((hE.trans hE2).trans hE3)) hn3
 by_cases h5 : kd = 5
 · subst h5
   rw [ci] at hbi
   simp only [ir168, hsB, hbf, hbi, q1, wr, seval]
   subst hQ; simp only [ir168, wr, seval]
   exact turned_of (i' := { i with imm := shlF .i64 _ sc }) rfl (i64_shl _ _) (.of hE) hn2
 by_cases h6 : kd = 6
 · subst h6
   simp only [ir168, hsB, hbf, hbi, q1, wr, seval]
   refine goCall ((sext_ran hB.bi hE.1 _ _).mono ?_)
   rintro v s2 ⟨z, rfl, hE2⟩
   have hb1 := (hE2.2.2 _ hn1).trans hbf
   have hb2 := (hE2.2.2 _ hn2).trans hbi
   rw [ci] at hb2
   refine ⟨by simp only [hb1, hb2, hbf, hbi, goR_watch, watch_cons, watch_nil, wat_ptr, wat_map, sameObj_refl, Bool.and_self, true_and, wr, seval], ?_⟩
   simp only [hb2, q1, wr, seval]
   subst hQ; simp only [ir168, wr, seval]
   exact turned_of (i' := { i with imm := shlF .i64 z sc }) rfl (i64_shl _ _) (.of (hE.trans hE2)) (Nat.lt_of_lt_of_le hn2 hE2.2.1)
 simp only [ir168, hsB, hbf, hbi, h1, h2, h3, h4, h5, h6, wr, seval]
 subst hQ; simp only [ir168, wr, seval]
 exact ⟨i, rfl, hi, hbi, .of hE⟩
end
end Go.V
/- sub: an instruction by a row. -/
namespace Go.V
open Go
set_option linter.unusedSimpArgs false
set_option linter.unusedVariables false
section
open Z
abbrev lB4l1 : ICode := .seq (R [(m 41 8),(o 42 (.conv (.intInt .u16) t41)),(m 6 42),(o 7 (.move T))]) .ret
abbrev lB4l0 : ICode := .loop (q (R [(o 20 (.bin .lss t19 (I 3)))]) (q (.cond t20 .skip (.exit 0)) (q (.block 1 (q (R [(o 21 (.idxAgg 3 3 true t18 t19)),(o 11 (.alloc [(i 0),(i 0),(i 0)])),(st 3 11 21)]) (q (R [(la 23 3 11),(la 24 11 4),(o 25 (.call 167 [t23,t24])),(m 22 25),(x 26 22 0),(x 27 22 1),(m 12 26),(m 13 27)]) (q (q (R [(m 28 13),(o 29 (.un .not t28))]) (.cond t29 (q (R [(o 6 (.move (.c (.int .u16 0)))),(o 7 (.move F))]) .ret) .skip)) (q (R [(m 30 9),(f 31 1 11),(l 32 1 31),(o 33 (.bin .sub t30 t32)),(m 9 33)]) (R [(m 34 8),(m 35 9),(f 36 1 11),(l 37 1 36),(m 38 12),(o 39 (.call 166 [t34,t35,t37,t38])),(m 8 39)])))))) (R [(o 40 (.bin .add t19 (I 1))),(m 19 40)]))))
end
open Z in def ir155 : IFunc := ⟨43,[.tmp 6,.tmp 7],(q (R [(o 3 (.box t0)),(o 4 (.box t1)),(o 6 (.move (.c (.int .u16 0)))),(o 7 (.move F))]) (q (R [(m 14 2),(o 15 (.conv (.intInt .u32) t14)),(o 16 (.call 166 [(W 0),(I 11),(I 4),t15])),(m 8 16)]) (q (R [(mi 9 11)]) (q (q (R [(f 17 1 3),(la 18 9 17),(mi 19 0)]) (.block 0 lB4l0)) lB4l1))))⟩
open Z in def ir156 : IFunc := ⟨60,[.cell 2 true 11,.tmp 3],(q (R [(o 2 (.alloc [(b 0),(b 0),(b 0),(b 0),(b 0),(b 0),(b 0),z,z,(.int .u16 0),(i 0)])),(o 3 (.move F))]) (q (R [(m 10 0),(o 11 (.bin .shr t10 (.c (.int .u64 11)))),(o 12 (.conv (.intInt .i64) t11)),(m 4 12)]) (q (q (R [(m 13 4),(o 14 (.bin .lss t13 (I 1))),(m 15 14),(og 16 15 false (.move t4)),(og 17 15 false (.load false 1 (.c (P 0 0 0 1)))),(og 18 15 false (.lenSl t17)),(og 19 15 false (.bin .gtr t16 t18)),(o 20 (.pick t15 T t19))]) (.cond t20 (q (R [(o 21 (.build [(b 0),(b 0),(b 0),(b 0),(b 0),(b 0),(b 0),z,z,(.int .u16 0),(i 0)] [])),(st 11 2 21),(o 3 (.move F))]) .ret) .skip)) (q (R [(o 22 (.load false 1 (.c (P 0 0 0 1)))),(m 23 4),(o 24 (.bin .sub t23 (I 1))),(ix 25 10 22 24),(la 26 10 25),(o 5 (.alloc [(b 0),(i 0),(i 0),(i 0),(i 0),(i 0),(i 0),(i 0),(i 0),(i 0)])),(st 10 5 26)]) (q (R [(f 27 0 5),(l 28 1 27),(o 29 (.build [(b 0),(b 0),(b 0),(b 0),(b 0),(b 0),(b 0),z,z,(.int .u16 0),(i 0)] [(0,1,t28)])),(o 6 (.alloc [(b 0),(b 0),(b 0),(b 0),(b 0),(b 0),(b 0),z,z,(.int .u16 0),(i 0)])),(st 11 6 29)]) (q (R [(mi 7 11)]) (q (q (R [(f 30 1 5),(la 31 9 30),(mi 32 0)]) (.block 0 (.loop (q (R [(o 33 (.bin .lss t32 (I 3)))]) (q (.cond t33 .skip (.exit 0)) (q (.block 1 (q (R [(o 34 (.idxAgg 3 3 true t31 t32)),(o 9 (.alloc [(i 0),(i 0),(i 0)])),(st 3 9 34)]) (q (R [(m 35 7),(f 36 1 9),(l 37 1 36),(o 38 (.bin .sub t35 t37)),(m 7 38)]) (.regionP [(la 39 3 9),(m 40 0),(o 41 (.conv (.intInt .u32) t40)),(m 42 7),(f 43 1 9),(l 44 1 43),⟨some 45,none,[t9],(.call 169 [t41,t42,t44])⟩,(o 46 (.call 168 [t39,t6,t45]))])))) (R [(o 47 (.bin .add t32 (I 1))),(m 32 47)]))))))) (q (q (R [(m 48 0),(o 49 (.conv (.intInt .u32) t48)),(m 50 7),(o 51 (.call 169 [t49,(I 0),t50])),(o 52 (.bin .neq t51 (W 0))),(m 53 52),(og 54 53 false (.load true 11 t6)),(og 55 53 false (.call 43 [t54])),(og 56 53 false (.un .not t55)),(o 57 (.pick t53 T t56))]) (.cond t57 (q (R [(o 58 (.build [(b 0),(b 0),(b 0),(b 0),(b 0),(b 0),(b 0),z,z,(.int .u16 0),(i 0)] [])),(st 11 2 58),(o 3 (.move F))]) .ret) .skip)) (q (R [(la 59 11 6),(st 11 2 59),(o 3 (.move T))]) .ret)))))))))⟩
structure Rw where
 op : Int
 k0 : Int
 b0 : Int
 s0 : Int
 k1 : Int
 b1 : Int
 s1 : Int
 k2 : Int
 b2 : Int
 s2 : Int
def Rw.cells (r : Rw) : List AV := [.int .u8 r.op, .int .i64 r.k0, .int .i64 r.b0, .int .i64 r.s0, .int .i64 r.k1, .int .i64 r.b1, .int .i64 r.s1, .int .i64 r.k2, .int .i64 r.b2, .int .i64 r.s2]
def Rw.good (r : Rw) : Bool := isByte r.op && decide (0 ≤ r.s0) && decide (0 ≤ r.s1) && decide (0 ≤ r.s2)
section
variable {T : Tab}
structure RwTab (T : Tab) : Prop where
 sb : SbTab T
 of : T 155 = some (.code ir155)
 inst : T 156 = some (.code ir156)
set_option maxHeartbeats 8000000 in
theorem rowof_ran (hB : RwTab T) {s : St} (hs : WFS s) {r : Rw} (hr : r.good = true) (i : In) (c : Int) :
 Ran T 155 [.agg r.cells, .agg i.cells, .int .i64 c] s fun v s' => ∃ (z : Int) (b : Bool), v = .tuple [.int .u16 z, .bool b] ∧ Ext s s' := by
 have ci : i.cells = [.int .u8 i.op, .int .u8 i.d, .int .u8 i.s, .int .u8 i.t, .int .u8 i.n, .int .u8 i.pred, .int .u8 i.mode, .bool i.nw, .bool i.ext, .int .u16 i.count, .int .i64 i.imm] := rfl
 have cr : r.cells = [.int .u8 r.op, .int .i64 r.k0, .int .i64 r.b0, .int .i64 r.s0, .int .i64 r.k1, .int .i64 r.b1, .int .i64 r.s1, .int .i64 r.k2, .int .i64 r.b2, .int .i64 r.s2] := rfl
 simp only [Rw.good, Bool.and_eq_true, decide_eq_true_eq] at hr
 obtain ⟨⟨⟨hop, p0⟩, p1⟩, p2⟩ := hr
 have pts := fun (s : St) (hs : WFS s) (kd bt sc : Int) (h : 0 ≤ sc) => puts_ran hB.sb hs kd bt sc h i
 rw [ci] at pts
 refine ran_code hB.of (Nat.le_of_ble_eq_true rfl) ?_
 generalize hQ : Fin _ _ = Q
 have hE : Ext s ((s.add (.cells r.cells 0 0 false)).add (.cells i.cells 0 0 false)) := (Ext.refl hs).add _ |>.add _
 have hbr : ((s.add (.cells r.cells 0 0 false)).add (.cells i.cells 0 0 false)).heap.get s.next = some (.cells r.cells 0 0 false) := by simp only [wr, seval]
 have hbi : ((s.add (.cells r.cells 0 0 false)).add (.cells i.cells 0 0 false)).heap.get (s.next + 1) = some (.cells i.cells 0 0 false) := by simp only [wr, seval]
 rw [ci, cr] at hE hbr hbi
 rw [ci, cr]
 generalize hsB : (s.add (.cells [.int .u8 r.op, .int .i64 r.k0, .int .i64 r.b0, .int .i64 r.s0, .int .i64 r.k1, .int .i64 r.b1, .int .i64 r.s1, .int .i64 r.k2, .int .i64 r.b2, .int .i64 r.s2] 0 0 false)).add (.cells [.int .u8 i.op, .int .u8 i.d, .int .u8 i.s, .int .u8 i.t, .int .u8 i.n, .int .u8 i.pred, .int .u8 i.mode, .bool i.nw, .bool i.ext, .int .u16 i.count, .int .i64 i.imm] 0 0 false) = sB at *
 have hn1 : s.next < sB.next := by rw [← hsB]; show s.next < s.next + 1 + 1; omega
 have hn2 : s.next + 1 < sB.next := by rw [← hsB]; show s.next + 1 < s.next + 1 + 1; omega
 have step : ∀ (k : Nat) (e : Env) (s1 : St) (at0 w kd bt sc : Int), k < 3 → 0 ≤ sc → Ext sB s1 → opd e (.t 4) = .ptr ⟨s.next + 1, 0, 0, 11⟩ → opd e (.t 8) = .int .u32 w → opd e (.t 9) = .int .i64 at0 → opd e (.t 18) = .agg [.int .i64 r.k0, .int .i64 r.b0, .int .i64 r.s0, .int .i64 r.k1, .int .i64 r.b1, .int .i64 r.s1, .int .i64 r.k2, .int .i64 r.b2, .int .i64 r.s2] → opd e (.t 19) = .int .i64 (k : Int) →
  partAV true [.int .i64 r.k0, .int .i64 r.b0, .int .i64 r.s0, .int .i64 r.k1, .int .i64 r.b1, .int .i64 r.s1, .int .i64 r.k2, .int .i64 r.b2, .int .i64 r.s2] (k * 3) 3 = some (.agg [.int .i64 kd, .int .i64 bt, .int .i64 sc]) →
  (∀ (e : Env) (s1 : St) (at0 w : Int), Ext sB s1 → opd e (.t 4) = .ptr ⟨s.next + 1, 0, 0, 11⟩ → opd e (.t 8) = .int .u32 w → opd e (.t 9) = .int .i64 at0 → opd e (.t 18) = .agg [.int .i64 r.k0, .int .i64 r.b0, .int .i64 r.s0, .int .i64 r.k1, .int .i64 r.b1, .int .i64 r.s1, .int .i64 r.k2, .int .i64 r.b2, .int .i64 r.s2] → opd e (.t 19) = .int .i64 ((k + 1 : Nat) : Int) → Go T Q (lB4l0) [.block 0, .seq lB4l1] e s1) →
  Go T Q (lB4l0) [.block 0, .seq lB4l1] e s1 := by
  intro k e s1 at0 w kd bt sc hk hsc hE1 h4 h8 h9 h18 h19 hpart next
  have hk' : (k : Int) < 3 := by omega
  have hb1 := (hE1.2.2 _ hn2).trans hbi
  have hne : ¬ s.next + 1 = s1.next := by have := hE1.2.1; omega
  have w1 : wrapF .i64 ((k : Int) + 1) = ((k + 1 : Nat) : Int) := by rw [wrap_i64 _ (by omega) (by omega)]; omega
  have hEa := (Ext.refl hE1.1).add (.cells [.int .i64 kd, .int .i64 bt, .int .i64 sc] 0 0 false)
  have hba : (s1.add (.cells [.int .i64 kd, .int .i64 bt, .int .i64 sc] 0 0 false)).heap.get s1.next = some (.cells [.int .i64 kd, .int .i64 bt, .int .i64 sc] 0 0 false) := by simp only [wr, seval]
  have hna : s1.next < (s1.add (.cells [.int .i64 kd, .int .i64 bt, .int .i64 sc] 0 0 false)).next := by show s1.next < s1.next + 1; omega
  rw [go_loop]
  simp only [h4, h8, h9, h18, h19, hk, hk', hb1, hne, hpart, wr, seval]
  refine goCall_by (pts _ hEa.1 kd bt sc hsc) ?_
  rintro v s2 ⟨z, b, rfl, hE2⟩
  have hb2 := (hE2.2.2 _ hna).trans hba
  cases b with
  | false =>
   simp only [wr, seval]
   subst hQ
   simp only [ir155, wr, seval]
   exact ⟨_, _, rfl, ((hE.trans hE1).trans hEa).trans hE2⟩
  | true =>
   simp only [h4, h8, h9, h18, h19, hb2, wr, seval]
   refine goCall_by (bput_ran hB.sb.bi hE2.1 _ _ _ _) ?_
   rintro v s3 ⟨z3, rfl, hE3⟩
   simp only [h4, h8, h9, h18, h19, w1, wr, seval]
   refine next _ s3 (wrapF .i64 (at0 - bt)) z3 (((hE1.trans hEa).trans hE2).trans hE3) ?_ ?_ ?_ ?_ ?_
   all_goals simp only [h4, h8, h9, h18, h19, w1, wr, seval]
 simp only [ir155, hsB, hbr, wr, seval]
 refine goCall_by (bput_ran hB.sb.bi hE.1 _ _ _ _) ?_
 rintro v s2 ⟨z, rfl, hE2⟩
 have hb2 := (hE2.2.2 _ hn1).trans hbr
 simp only [hb2, wr, seval]
 refine step 0 _ s2 11 z r.k0 r.b0 r.s0 (by omega) p0 hE2 ?_ ?_ ?_ ?_ ?_ rfl ?_
 all_goals simp only [wr, seval]
 intro e s3 at0 w hE3 h4 h8 h9 h18 h19
 refine step 1 e s3 at0 w r.k1 r.b1 r.s1 (by omega) p1 hE3 h4 h8 h9 h18 h19 rfl ?_
 intro e s3 at0 w hE3 h4 h8 h9 h18 h19
 refine step 2 e s3 at0 w r.k2 r.b2 r.s2 (by omega) p2 hE3 h4 h8 h9 h18 h19 rfl ?_
 intro e s3 at0 w hE3 h4 h8 h9 h18 h19
 have hk : ¬ (((2 + 1 : Nat) : Int)) < 3 := by decide
 rw [go_loop]
 simp only [h8, h19, hk, wr, seval]
 subst hQ
 simp only [ir155, wr, seval]
 exact ⟨_, _, rfl, hE.trans hE3⟩
end
end Go.V
/- sub: a small one's instruction. -/
namespace Go.V
open Go
set_option linter.unusedSimpArgs false
set_option linter.unusedVariables false
section
open Z
abbrev lB5l1 : ICode := .seq (q (R [(m 48 0),(o 49 (.conv (.intInt .u32) t48)),(m 50 7),(o 51 (.call 169 [t49,(I 0),t50])),(o 52 (.bin .neq t51 (W 0))),(m 53 52),(og 54 53 false (.load true 11 t6)),(og 55 53 false (.call 43 [t54])),(og 56 53 false (.un .not t55)),(o 57 (.pick t53 T t56))]) (.cond t57 (q (R [(o 58 (.build [(b 0),(b 0),(b 0),(b 0),(b 0),(b 0),(b 0),z,z,(.int .u16 0),(i 0)] [])),(st 11 2 58),(o 3 (.move F))]) .ret) .skip)) (q (R [(la 59 11 6),(st 11 2 59),(o 3 (.move T))]) .ret)
abbrev lB5l0 : ICode := .loop (q (R [(o 33 (.bin .lss t32 (I 3)))]) (q (.cond t33 .skip (.exit 0)) (q (.block 1 (q (R [(o 34 (.idxAgg 3 3 true t31 t32)),(o 9 (.alloc [(i 0),(i 0),(i 0)])),(st 3 9 34)]) (q (R [(m 35 7),(f 36 1 9),(l 37 1 36),(o 38 (.bin .sub t35 t37)),(m 7 38)]) (.regionP [(la 39 3 9),(m 40 0),(o 41 (.conv (.intInt .u32) t40)),(m 42 7),(f 43 1 9),(l 44 1 43),⟨some 45,none,[t9],(.call 169 [t41,t42,t44])⟩,(o 46 (.call 168 [t39,t6,t45]))])))) (R [(o 47 (.bin .add t32 (I 1))),(m 32 47)]))))
end
/-- What the listed tables hold. -/
structure Glb (s : St) : Prop where
 wf : WFS s
 ends : s.heap.get 1 = some (.cells [.int .i64 0, .int .i64 14, .int .i64 16, .int .i64 10] 0 0 true)
 parse : s.heap.get 3 = some (.cells [.int .i64 14, .int .i64 2] 0 0 true)
 upper : s.heap.get 2 = some (.cells [.int .i64 16, .int .i64 16] 0 0 true)
 rows : ∃ (v : AV) (L : List Rw), s.heap.get 0 = some (.cells [v] 0 0 true) ∧ RdS s 10 L.length v (L.flatMap Rw.cells) ∧ L.length ≤ 100 ∧ ∀ r ∈ L, r.good = true
theorem Glb.lt {s : St} (h : Glb s) : 3 < s.next := Nat.lt_of_not_le fun hge => by have := h.wf 3 hge; rw [h.parse] at this; cases this
theorem Glb.ext {s s' : St} (h : Glb s) (hE : Ext s s') : Glb s' := by
 have hl := h.lt
 obtain ⟨v, L, h1, h2, h3, h4⟩ := h.rows
 exact ⟨hE.1, (hE.2.2 1 (by omega)).trans h.ends, (hE.2.2 3 (by omega)).trans h.parse, (hE.2.2 2 (by omega)).trans h.upper, v, L, (hE.2.2 0 (by omega)).trans h1, h2.ext hE, h3, h4⟩
section
variable {T : Tab}
theorem rw_at {s : St} {v : AV} {L : List Rw} (h : RdS s 10 L.length v (L.flatMap Rw.cells)) {k : Nat} {r : Rw} (hx : L[k]? = some r) : ∃ id lo inc' inc lim cap ex ro cs, v = .slice ⟨id, 0, inc, lim⟩ L.length cap ex 10 ∧ s.heap.get id = some (.cells cs lo inc' ro) ∧ lo ≤ inc ∧ inc ≤ inc' ∧ k * 10 + 10 ≤ lim ∧ (cs.drop (k * 10)).take 10 = r.cells ∧ k < L.length := by
 have hi : k < L.length := (List.getElem?_eq_some_iff.1 hx).1
 obtain ⟨id, lo, inc', inc, lim, cap, ex, ro, cs, h1, h2, h3, h4, h5, h6⟩ := RdS.at h hi
 refine ⟨id, lo, inc', inc, lim, cap, ex, ro, cs, h1, h2, h3, h4, by omega, ?_, hi⟩
 rw [h6 _ _ (by omega)]
 exact take_w (f := Rw.cells) (w := 10) (fun _ => rfl) L k r hx
def Sub (v : AV) (s s' : St) : Prop := ∃ (i : In) (b : Bool), v = .tuple [.agg i.cells, .bool b] ∧ Ext s s'
set_option maxHeartbeats 16000000 in
theorem sinst_ran (hB : RwTab T) (hI : InTab T) {s : St} (hg : Glb s) (w : Int) :
 Ran T 156 [.int .u16 w] s fun v s' => Sub v s s' := by
 have hs := hg.wf
 have hl4 := hg.lt
 obtain ⟨tv, L, g3, hL, hLn, hLg⟩ := hg.rows
 have hlen := len_op hL.lens
 have k1 := goCall_hook hI.right
 refine ran_code hB.inst (Nat.le_of_ble_eq_true rfl) ?_
 generalize hQ : Fin _ _ = Q
 have q1 := raw_shr .u16 .u64 w 11 (by decide)
 have hE0 : Ext s (s.add (.cells In.zero.cells 0 0 false)) := (Ext.refl hs).add _
 have c0 : In.zero.cells = [.int .u8 0, .int .u8 0, .int .u8 0, .int .u8 0, .int .u8 0, .int .u8 0, .int .u8 0, .bool false, .bool false, .int .u16 0, .int .i64 0] := rfl
 have h30 := (hE0.2.2 0 (by omega)).trans g3
 have h20 : (s.add (.cells In.zero.cells 0 0 false)).heap.get s.next = some (.cells In.zero.cells 0 0 false) := by simp only [wr, seval]
 rw [c0] at hE0 h30 h20
 have n3 : ¬ 0 = s.next := by omega
 generalize hc : wrapF .i64 (shrF .u16 w 11) = c
 have fin0 : ∀ s1, Ext s s1 → Sub (.tuple [.agg [.int .u8 0, .int .u8 0, .int .u8 0, .int .u8 0, .int .u8 0, .int .u8 0, .int .u8 0, .bool false, .bool false, .int .u16 0, .int .i64 0], .bool false]) s s1 := fun s1 h => ⟨In.zero, false, rfl, h⟩
 by_cases cl : c < 1
 · simp only [ir156, q1, hc, cl, wr, seval]
   subst hQ
   simp only [ir156, wr, seval]
   exact fin0 _ hE0
 by_cases cg : (L.length : Int) < c
 · simp only [ir156, q1, hc, cl, cg, g3, n3, ↓hlen, wr, seval]
   subst hQ
   simp only [ir156, wr, seval]
   exact fin0 _ hE0
 obtain ⟨k, hk⟩ := Int.eq_ofNat_of_zero_le (show 0 ≤ c - 1 by omega)
 have wc : wrapF .i64 (c - 1) = (k : Int) := by rw [wrap_i64 _ (by omega) (by omega)]; exact hk
 obtain ⟨r, hr⟩ : ∃ r, L[k]? = some r := ⟨_, List.getElem?_eq_getElem (by omega)⟩
 have rg := hLg r (List.mem_of_getElem? hr)
 simp only [Rw.good, Bool.and_eq_true, decide_eq_true_eq] at rg
 obtain ⟨⟨⟨hop, p0⟩, p1⟩, p2⟩ := rg
 obtain ⟨id, lo, inc', inc, lim, cap, ex, ro, cs, rfl, g1, g2, g4, g5, g6, g7⟩ := rw_at hL hr
 have hidn : id < s.next := Nat.lt_of_not_le fun hge => by rw [hs id hge] at g1; cases g1
 have hid : ¬ id = s.next := by omega
 have cr : r.cells = [.int .u8 r.op, .int .i64 r.k0, .int .i64 r.b0, .int .i64 r.s0, .int .i64 r.k1, .int .i64 r.b1, .int .i64 r.s1, .int .i64 r.k2, .int .i64 r.b2, .int .i64 r.s2] := rfl
 rw [cr] at g6
 have ci : ∀ i : In, i.cells = [.int .u8 i.op, .int .u8 i.d, .int .u8 i.s, .int .u8 i.t, .int .u8 i.n, .int .u8 i.pred, .int .u8 i.mode, .bool i.nw, .bool i.ext, .int .u16 i.count, .int .i64 i.imm] := fun _ => rfl
 -- the blocks
 have hE2 := (hE0.add (.cells r.cells 0 0 false)).add (.cells { In.zero with op := r.op }.cells 0 0 false)
 have e1 : ((((s.add (.cells [.int .u8 0, .int .u8 0, .int .u8 0, .int .u8 0, .int .u8 0, .int .u8 0, .int .u8 0, .bool false, .bool false, .int .u16 0, .int .i64 0] 0 0 false)).add (.cells r.cells 0 0 false)).add (.cells { In.zero with op := r.op }.cells 0 0 false)).heap.get s.next) = some (.cells In.zero.cells 0 0 false) := by simp only [wr, seval]; rfl
 have e2 : ((((s.add (.cells [.int .u8 0, .int .u8 0, .int .u8 0, .int .u8 0, .int .u8 0, .int .u8 0, .int .u8 0, .bool false, .bool false, .int .u16 0, .int .i64 0] 0 0 false)).add (.cells r.cells 0 0 false)).add (.cells { In.zero with op := r.op }.cells 0 0 false)).heap.get (s.next + 1)) = some (.cells r.cells 0 0 false) := by simp only [wr, seval]
 have e3 : ((((s.add (.cells [.int .u8 0, .int .u8 0, .int .u8 0, .int .u8 0, .int .u8 0, .int .u8 0, .int .u8 0, .bool false, .bool false, .int .u16 0, .int .i64 0] 0 0 false)).add (.cells r.cells 0 0 false)).add (.cells { In.zero with op := r.op }.cells 0 0 false)).heap.get (s.next + 2)) = some (.cells { In.zero with op := r.op }.cells 0 0 false) := by simp only [wr, seval]
 have cz : ({ In.zero with op := r.op } : In).cells = [.int .u8 r.op, .int .u8 0, .int .u8 0, .int .u8 0, .int .u8 0, .int .u8 0, .int .u8 0, .bool false, .bool false, .int .u16 0, .int .i64 0] := rfl
 rw [cr, cz] at hE2 e1 e2 e3
 rw [c0] at e1
 have n1 : s.next < (((s.add (.cells [.int .u8 0, .int .u8 0, .int .u8 0, .int .u8 0, .int .u8 0, .int .u8 0, .int .u8 0, .bool false, .bool false, .int .u16 0, .int .i64 0] 0 0 false)).add (.cells [.int .u8 r.op, .int .i64 r.k0, .int .i64 r.b0, .int .i64 r.s0, .int .i64 r.k1, .int .i64 r.b1, .int .i64 r.s1, .int .i64 r.k2, .int .i64 r.b2, .int .i64 r.s2] 0 0 false)).add (.cells [.int .u8 r.op, .int .u8 0, .int .u8 0, .int .u8 0, .int .u8 0, .int .u8 0, .int .u8 0, .bool false, .bool false, .int .u16 0, .int .i64 0] 0 0 false)).next := by show s.next < s.next + 1 + 1 + 1; omega
 have n2 : s.next + 2 < (((s.add (.cells [.int .u8 0, .int .u8 0, .int .u8 0, .int .u8 0, .int .u8 0, .int .u8 0, .int .u8 0, .bool false, .bool false, .int .u16 0, .int .i64 0] 0 0 false)).add (.cells [.int .u8 r.op, .int .i64 r.k0, .int .i64 r.b0, .int .i64 r.s0, .int .i64 r.k1, .int .i64 r.b1, .int .i64 r.s1, .int .i64 r.k2, .int .i64 r.b2, .int .i64 r.s2] 0 0 false)).add (.cells [.int .u8 r.op, .int .u8 0, .int .u8 0, .int .u8 0, .int .u8 0, .int .u8 0, .int .u8 0, .bool false, .bool false, .int .u16 0, .int .i64 0] 0 0 false)).next := by show s.next + 2 < s.next + 1 + 1 + 1; omega
 generalize hsB : ((s.add (.cells [.int .u8 0, .int .u8 0, .int .u8 0, .int .u8 0, .int .u8 0, .int .u8 0, .int .u8 0, .bool false, .bool false, .int .u16 0, .int .i64 0] 0 0 false)).add (.cells [.int .u8 r.op, .int .i64 r.k0, .int .i64 r.b0, .int .i64 r.s0, .int .i64 r.k1, .int .i64 r.b1, .int .i64 r.s1, .int .i64 r.k2, .int .i64 r.b2, .int .i64 r.s2] 0 0 false)).add (.cells [.int .u8 r.op, .int .u8 0, .int .u8 0, .int .u8 0, .int .u8 0, .int .u8 0, .int .u8 0, .bool false, .bool false, .int .u16 0, .int .i64 0] 0 0 false) = sB at hE2 e1 e2 e3 n1 n2
 have step : ∀ (k : Nat) (e : Env) (s1 : St) (at0 kd bt sc : Int) (i : In), k < 3 → 0 ≤ sc → Only (s.next + 2) sB s1 → i.op = r.op → isI64 i.imm = true → s1.heap.get (s.next + 2) = some (.cells i.cells 0 0 false) → opd e (.t 0) = .int .u16 w → opd e (.t 2) = .ptr ⟨s.next, 0, 0, 11⟩ → opd e (.t 6) = .ptr ⟨s.next + 2, 0, 0, 11⟩ → opd e (.t 7) = .int .i64 at0 → opd e (.t 31) = .agg [.int .i64 r.k0, .int .i64 r.b0, .int .i64 r.s0, .int .i64 r.k1, .int .i64 r.b1, .int .i64 r.s1, .int .i64 r.k2, .int .i64 r.b2, .int .i64 r.s2] → opd e (.t 32) = .int .i64 (k : Int) →
  partAV true [.int .i64 r.k0, .int .i64 r.b0, .int .i64 r.s0, .int .i64 r.k1, .int .i64 r.b1, .int .i64 r.s1, .int .i64 r.k2, .int .i64 r.b2, .int .i64 r.s2] (k * 3) 3 = some (.agg [.int .i64 kd, .int .i64 bt, .int .i64 sc]) →
  (∀ (e : Env) (s1 : St) (at0 : Int) (i : In), Only (s.next + 2) sB s1 → i.op = r.op → isI64 i.imm = true → s1.heap.get (s.next + 2) = some (.cells i.cells 0 0 false) → opd e (.t 0) = .int .u16 w → opd e (.t 2) = .ptr ⟨s.next, 0, 0, 11⟩ → opd e (.t 6) = .ptr ⟨s.next + 2, 0, 0, 11⟩ → opd e (.t 7) = .int .i64 at0 → opd e (.t 31) = .agg [.int .i64 r.k0, .int .i64 r.b0, .int .i64 r.s0, .int .i64 r.k1, .int .i64 r.b1, .int .i64 r.s1, .int .i64 r.k2, .int .i64 r.b2, .int .i64 r.s2] → opd e (.t 32) = .int .i64 ((k + 1 : Nat) : Int) → Go T Q (lB5l0) [.block 0, .seq lB5l1] e s1) →
  Go T Q (lB5l0) [.block 0, .seq lB5l1] e s1 := by
  intro k e s1 at0 kd bt sc i hk hsc hO hiop himm hi h0 h2 h6 h7 h31 h32 hpart next
  have hk' : (k : Int) < 3 := by omega
  have w1 : wrapF .i64 ((k : Int) + 1) = ((k + 1 : Nat) : Int) := by rw [wrap_i64 _ (by omega) (by omega)]; omega
  have hEa := (Ext.refl hO.1).add (.cells [.int .i64 kd, .int .i64 bt, .int .i64 sc] 0 0 false)
  have hba : (s1.add (.cells [.int .i64 kd, .int .i64 bt, .int .i64 sc] 0 0 false)).heap.get s1.next = some (.cells [.int .i64 kd, .int .i64 bt, .int .i64 sc] 0 0 false) := by simp only [wr, seval]
  have hna : s1.next < (s1.add (.cells [.int .i64 kd, .int .i64 bt, .int .i64 sc] 0 0 false)).next := by show s1.next < s1.next + 1; omega
  have hn2 := Nat.lt_of_lt_of_le n2 hO.2.1
  have hia := (hEa.2.2 _ hn2).trans hi
  rw [go_loop]
  simp only [h0, h2, h6, h7, h31, h32, hk, hk', hpart, wr, seval]
  refine goCall ((bget_ran hB.sb.bi hEa.1 _ _ _).mono ?_)
  rintro v s2 ⟨z, rfl, hE3⟩
  have hb2 := (hE3.2.2 _ hna).trans hba
  refine ⟨by simp only [hba, hb2, goR_watch, watch_cons, watch_nil, wat_ptr, wat_map, sameObj_refl, Bool.and_self, true_and, wr, seval], ?_⟩
  simp only [h0, h2, h6, h7, h31, h32, hk, hk', hpart, wr, seval]
  have hE4 := hEa.trans hE3
  refine goCall_by (takes2_ran hB.sb hE3.1 kd bt sc hsc (p := s.next + 2) (Nat.lt_of_lt_of_le hn2 hE4.2.1) himm ((hE4.2.2 _ hn2).trans hi) z) ?_
  rintro v s3 ⟨i', hop', himm', hi', hO3⟩
  simp only [h0, h2, h6, h7, h31, h32, w1, wr, seval]
  refine next _ s3 (wrapF .i64 (at0 - bt)) i' ((hO.trans (.of hE4)).trans hO3) (hop'.trans hiop) himm' hi' ?_ ?_ ?_ ?_ ?_ ?_
  all_goals simp only [h0, h2, h6, h7, h31, h32, w1, wr, seval]
 simp only [ir156, q1, hc, cl, cg, g3, n3, ↓hlen, wc, hid, g1, g2, g4, g5, g6, g7, hsB, e2, wr, seval]
 refine step 0 _ sB 11 r.k0 r.b0 r.s0 { In.zero with op := r.op } (by omega) p0 (.refl hE2.1) rfl rfl e3 ?_ ?_ ?_ ?_ ?_ ?_ rfl ?_
 all_goals simp only [wr, seval]
 intro e s3 at0 i hO hiop himm hi h0 h2 h6 h7 h31 h32
 refine step 1 e s3 at0 r.k1 r.b1 r.s1 i (by omega) p1 hO hiop himm hi h0 h2 h6 h7 h31 h32 rfl ?_
 intro e s3 at0 i hO hiop himm hi h0 h2 h6 h7 h31 h32
 refine step 2 e s3 at0 r.k2 r.b2 r.s2 i (by omega) p2 hO hiop himm hi h0 h2 h6 h7 h31 h32 rfl ?_
 intro e s3 at0 i hO hiop himm hi h0 h2 h6 h7 h31 h32
 have hk3 : ¬ (((2 + 1 : Nat) : Int)) < 3 := by decide
 have hOs : Ext s s3 := Only.ext2 hE2 hO (by omega)
 have hnB3 : s.next < s3.next := Nat.lt_of_lt_of_le n1 hO.2.1
 have hnC3 : s.next + 2 < s3.next := Nat.lt_of_lt_of_le n2 hO.2.1
 have hz3 := (hO.2.2 s.next n1 (by omega)).trans e1
 rw [go_loop]
 simp only [h0, h2, h6, h7, h32, hk3, wr, seval]
 refine goCall_by (bget_ran hB.sb.bi hO.1 _ _ _) ?_
 rintro v s4 ⟨z, rfl, hE4⟩
 have hz4 := (hE4.2.2 _ hnB3).trans hz3
 have hi4 := (hE4.2.2 _ hnC3).trans hi
 have hE5 := hOs.trans hE4
 have hE6 : Ext s (s4.put s.next (.cells [.int .u8 0, .int .u8 0, .int .u8 0, .int .u8 0, .int .u8 0, .int .u8 0, .int .u8 0, .bool false, .bool false, .int .u16 0, .int .i64 0] 0 0 false)) := ⟨hE5.1.put (Nat.lt_of_lt_of_le hnB3 hE4.2.1) _, hE5.2.1, fun id h1 => by rw [put_get, if_neg (by omega)]; exact hE5.2.2 id h1⟩
 have hoI : okI i = true := by simp only [okI, hiop, hop, himm, Bool.and_self]
 have q2 := fun s => inF_eq rightR i s hoI
 simp only [ci, rightR] at q2 hi4
 have putx : ∀ o, Ext s (s4.put s.next o) := fun o => ⟨hE5.1.put (Nat.lt_of_lt_of_le hnB3 hE4.2.1) o, hE5.2.1, fun id h1 => by rw [put_get, if_neg (by omega)]; exact hE5.2.2 id h1⟩
 have hne2 : ¬ s.next + 2 = s.next := by omega
 by_cases hz : z = 0
 · subst hz
   cases hR : rightF i with
   | true =>
    rw [hR] at q2
    simp only [h0, h2, h6, h7, hz4, hi4, k1, q2, wr, seval]
    subst hQ
    simp only [ir156, h2, wr, seval]
    exact ⟨i, true, rfl, putx _⟩
   | false =>
    rw [hR] at q2
    simp only [h0, h2, h6, h7, hz4, hi4, k1, q2, wr, seval]
    subst hQ
    simp only [ir156, h2, wr, seval]
    exact fin0 _ hE6
 · simp only [h0, h2, h6, h7, hz4, hi4, hz, wr, seval]
   subst hQ
   simp only [ir156, h2, wr, seval]
   exact fin0 _ hE6
end
end Go.V
/- sub: an instruction as a small one. -/
namespace Go.V
open Go
set_option linter.unusedSimpArgs false
set_option linter.unusedVariables false
section
open Z
abbrev lB6l1 : ICode := .seq (R [(o 2 (.move (.c (.int .u16 0)))),(o 3 (.move F))]) .ret
abbrev lB6l0 : ICode := .loop (q (R [(o 13 (.bin .lss t12 t11))]) (q (.cond t13 .skip (.exit 0)) (q (.block 1 (q (R [(m 14 12),(ix 15 10 10 12),(la 16 10 15),(o 5 (.alloc [(b 0),(i 0),(i 0),(i 0),(i 0),(i 0),(i 0),(i 0),(i 0),(i 0)])),(m 4 14),(st 10 5 16)]) (q (q (R [(f 17 0 5),(l 18 1 17),(f 19 0 1),(l 20 1 19),(o 21 (.bin .neq t18 t20))]) (.cond t21 (.exit 1) .skip)) (q (R [(la 23 10 5),(la 24 11 1),(m 25 4),(o 26 (.bin .add t25 (I 1))),(o 27 (.call 155 [t23,t24,t26])),(m 22 27),(x 28 22 0),(x 29 22 1),(m 6 28),(m 7 29)]) (q (R [(m 31 6),(o 32 (.call 156 [t31])),(m 30 32),(x 33 30 0),(x 34 30 1),(o 8 (.alloc [(b 0),(b 0),(b 0),(b 0),(b 0),(b 0),(b 0),z,z,(.int .u16 0),(i 0)])),(st 11 8 33),(m 9 34)]) (q (R [(m 35 7),(m 36 35),(og 37 36 true (.move t9)),(o 38 (.pick t36 t37 F)),(m 39 38),(og 40 39 true (.load true 11 t8)),(og 41 39 true (.load true 11 t1)),(og 42 39 true (.eq false (.agg [(0,1,false,(.prim .int)),(1,1,false,(.prim .int)),(2,1,false,(.prim .int)),(3,1,false,(.prim .int)),(4,1,false,(.prim .int)),(5,1,false,(.prim .int)),(6,1,false,(.prim .int)),(7,1,false,(.prim .bool)),(8,1,false,(.prim .bool)),(9,1,false,(.prim .int)),(10,1,false,(.prim .int))]) t40 t41)),(o 43 (.pick t39 t42 F))]) (.cond t43 (q (R [(m 44 6),(m 2 44),(o 3 (.move T))]) .ret) .skip))))))) (R [(o 45 (.bin .add t12 (I 1))),(m 12 45)]))))
end
open Z in def ir129 : IFunc := ⟨46,[.tmp 2,.tmp 3],(q (R [(o 1 (.box t0)),(o 2 (.move (.c (.int .u16 0)))),(o 3 (.move F))]) (q (q (R [(o 10 (.load false 1 (.c (P 0 0 0 1)))),(o 11 (.lenSl t10)),(mi 12 0)]) (.block 0 lB6l0)) lB6l1))⟩
section
variable {T : Tab}
set_option maxHeartbeats 16000000 in
theorem sof_ran (hO : T 129 = some (.code ir129)) (hB : RwTab T) (hI : InTab T) {s : St} (hg : Glb s) (i : In) :
 Ran T 129 [.agg i.cells] s fun v s' => ∃ (z : Int) (b : Bool), v = .tuple [.int .u16 z, .bool b] ∧ Ext s s' := by
 have hs := hg.wf
 have hl4 := hg.lt
 obtain ⟨tv, L, g3, hL, hLn, hLg⟩ := hg.rows
 have hlen := len_op hL.lens
 have ci : ∀ i : In, i.cells = [.int .u8 i.op, .int .u8 i.d, .int .u8 i.s, .int .u8 i.t, .int .u8 i.n, .int .u8 i.pred, .int .u8 i.mode, .bool i.nw, .bool i.ext, .int .u16 i.count, .int .i64 i.imm] := fun _ => rfl
 refine ran_code hO (Nat.le_of_ble_eq_true rfl) ?_
 generalize hQ : Fin _ _ = Q
 have hE0 : Ext s (s.add (.cells i.cells 0 0 false)) := (Ext.refl hs).add _
 have h30 := (hE0.2.2 0 (by omega)).trans g3
 have hi0 : (s.add (.cells i.cells 0 0 false)).heap.get s.next = some (.cells i.cells 0 0 false) := by simp only [wr, seval]
 rw [ci] at hE0 h30 hi0
 rw [ci]
 have n3 : ¬ 0 = s.next := by omega
 have nB : s.next < (s.add (.cells [.int .u8 i.op, .int .u8 i.d, .int .u8 i.s, .int .u8 i.t, .int .u8 i.n, .int .u8 i.pred, .int .u8 i.mode, .bool i.nw, .bool i.ext, .int .u16 i.count, .int .i64 i.imm] 0 0 false)).next := by show s.next < s.next + 1; omega
 generalize hsB : s.add (.cells [.int .u8 i.op, .int .u8 i.d, .int .u8 i.s, .int .u8 i.t, .int .u8 i.n, .int .u8 i.pred, .int .u8 i.mode, .bool i.nw, .bool i.ext, .int .u16 i.count, .int .i64 i.imm] 0 0 false) = sB at *
 have LL : ∀ (m k : Nat) (e : Env) (s1 : St), m + k = L.length → Ext sB s1 → opd e (.t 1) = .ptr ⟨s.next, 0, 0, 11⟩ → opd e (.t 10) = tv → opd e (.t 11) = .int .i64 (L.length : Int) → opd e (.t 12) = .int .i64 (k : Int) →
  Go T Q (lB6l0) [.block 0, .seq lB6l1] e s1 := by
  intro m
  induction m with
  | zero =>
   intro k e s1 hm hE h1 h10 h11 h12
   have hk : ¬ (k : Int) < (L.length : Int) := by omega
   rw [go_loop]
   simp only [h11, h12, hk, wr, seval]
   subst hQ
   simp only [ir129, wr, seval]
   exact ⟨_, _, rfl, hE0.trans hE⟩
  | succ m ih =>
   intro k e s1 hm hE h1 h10 h11 h12
   have hk : (k : Int) < (L.length : Int) := by omega
   have hkn : k < L.length := by omega
   obtain ⟨r, hr⟩ : ∃ r, L[k]? = some r := ⟨_, List.getElem?_eq_getElem hkn⟩
   have rg := hLg r (List.mem_of_getElem? hr)
   have hEs := hE0.trans hE
   obtain ⟨id, lo, inc', inc, lim, cap, ex, ro, cs, rfl, g1, g2, g4, g5, g6, g7⟩ := rw_at (hL.ext hEs) hr
   have cr : r.cells = [.int .u8 r.op, .int .i64 r.k0, .int .i64 r.b0, .int .i64 r.s0, .int .i64 r.k1, .int .i64 r.b1, .int .i64 r.s1, .int .i64 r.k2, .int .i64 r.b2, .int .i64 r.s2] := rfl
   have w1 : wrapF .i64 ((k : Int) + 1) = ((k + 1 : Nat) : Int) := by rw [wrap_i64 _ (by omega) (by omega)]; omega
   have hi1 := (hE.2.2 _ nB).trans hi0
   have hne : ¬ s.next = s1.next := by have := hE.2.1; omega
   have hE2 := (Ext.refl hE.1).add (.cells r.cells 0 0 false)
   have hof := rowof_ran hB hE2.1 rg i ((k + 1 : Nat) : Int)
   rw [cr] at g6 hE2 hof
   rw [ci] at hof
   rw [go_loop]
   by_cases hop : r.op = i.op
   · simp only [h1, h10, h11, h12, hk, hkn, g1, g2, g4, g5, g6, g7, hi1, hne, hop, w1, wr, seval]
     rw [hop] at hof hE2
     refine goCall_by hof ?_
     rintro v s2 ⟨z, b, rfl, hE3⟩
     simp only [wr, seval]
     refine goCall_by (sinst_ran hB hI (hg.ext ((hEs.trans hE2).trans hE3)) z) ?_
     rintro v s3 ⟨j, b3, rfl, hE4⟩
     have hE5 := (hE2.trans hE3).trans hE4
     have hi3 := ((hE.trans hE5).2.2 _ nB).trans hi0
     have hne3 : ¬ s.next = s3.next := by have := (hE.trans hE5).2.1; omega
     simp only [ci]
     have hE6 := (hE.trans hE5).add (.cells [.int .u8 j.op, .int .u8 j.d, .int .u8 j.s, .int .u8 j.t, .int .u8 j.n, .int .u8 j.pred, .int .u8 j.mode, .bool j.nw, .bool j.ext, .int .u16 j.count, .int .i64 j.imm] 0 0 false)
     cases b with
     | false =>
      simp only [h1, h10, h11, h12, hi3, hne3, w1, wr, seval]
      refine ih (k + 1) _ _ (by omega) hE6 ?_ ?_ ?_ ?_
      all_goals simp only [h1, h10, h11, h12, w1, wr, seval]
     | true =>
      cases b3 with
      | false =>
       simp only [h1, h10, h11, h12, hi3, hne3, w1, wr, seval]
       refine ih (k + 1) _ _ (by omega) hE6 ?_ ?_ ?_ ?_
       all_goals simp only [h1, h10, h11, h12, w1, wr, seval]
      | true =>
       by_cases hji : (⟨j.op, j.d, j.s, j.t, j.n, j.pred, j.mode, j.nw, j.ext, j.count, j.imm⟩ : In) = ⟨i.op, i.d, i.s, i.t, i.n, i.pred, i.mode, i.nw, i.ext, i.count, i.imm⟩
       · simp only [h1, h10, h11, h12, hi3, hne3, w1, eqIn', decide_eq_true hji, wr, seval]
         subst hQ
         simp only [ir129, wr, seval]
         exact ⟨_, _, rfl, hE0.trans hE6⟩
       · simp only [h1, h10, h11, h12, hi3, hne3, w1, eqIn', decide_eq_false hji, wr, seval]
         refine ih (k + 1) _ _ (by omega) hE6 ?_ ?_ ?_ ?_
         all_goals simp only [h1, h10, h11, h12, w1, wr, seval]
   · simp only [h1, h10, h11, h12, hk, hkn, g1, g2, g4, g5, g6, g7, hi1, hne, hop, w1, wr, seval]
     refine ih (k + 1) _ _ (by omega) (hE.trans hE2) ?_ ?_ ?_ ?_
     all_goals simp only [h1, h10, h11, h12, w1, wr, seval]
 simp only [ir129, hsB, h30, n3, ↓hlen, wr, seval]
 refine LL L.length 0 _ sB (by omega) (.refl hE0.1) ?_ ?_ ?_ ?_
 all_goals simp only [wr, seval]
 all_goals rfl
end
end Go.V
/- duplex: two as a word. -/
namespace Go.V
open Go
set_option linter.unusedSimpArgs false
set_option linter.unusedVariables false
open Z in def ir157 : IFunc := ⟨23,[.tmp 4],(q (R [(o 4 (.move (W 0)))]) (q (R [(o 6 (.idxArr 2 2 (.c (P 1 0 0 4)) (I 0))),(la 7 2 6),(m 8 0),(o 9 (.call 170 [t7,(W 0),t8])),(m 5 9)]) (q (.regionP [(o 10 (.load true 2 (.c (P 2 0 0 2)))),(m 11 5),(m 12 0),(o 13 (.idxArr 2 2 (.c (P 1 0 0 4)) (I 0))),(f 14 1 13),(l 15 1 14),(o 16 (.bin .shr t12 t15)),(o 17 (.call 170 [t10,t11,t16])),(m 5 17)]) (q (R [(o 18 (.load true 2 (.c (P 3 0 0 2)))),(m 19 5),(m 20 1),(o 21 (.conv (.intInt .u32) t20)),(o 22 (.call 170 [t18,t19,t21])),(m 4 22)]) .ret))))⟩
open Z in def ir130 : IFunc := ⟨6,[.tmp 2],(q (R [(o 1 (.box t0)),(o 2 (.move F))]) (q (R [(la 3 11 1),(o 4 (.call 69 [t3])),(o 5 (.bin .eql t4 (B 4))),(m 2 5)]) .ret))⟩
open Z in def ir131 : IFunc := ⟨12,[.tmp 4],(q (R [(o 4 (.move (W 0)))]) (q (R [(m 5 0),(o 6 (.conv (.intInt .u32) t5)),(o 7 (.bin .shl t6 (.c (.int .u64 15)))),(m 8 1),(o 9 (.conv (.intInt .u32) t8)),(o 10 (.bin .or t7 t9)),(o 11 (.call 157 [t10,(B 0)])),(m 4 11)]) .ret))⟩
open Z in def ir104 : IFunc := ⟨51,[.tmp 4,.tmp 5],(q (R [(o 2 (.box t0)),(o 3 (.box t1)),(o 4 (.move (W 0))),(o 5 (.move F))]) (q (R [(la 11 11 2),(o 12 (.call 129 [t11])),(m 10 12),(x 13 10 0),(x 14 10 1),(m 6 13),(m 7 14)]) (q (R [(la 16 11 3),(o 17 (.call 129 [t16])),(m 15 17),(x 18 15 0),(x 19 15 1),(m 8 18),(m 9 19)]) (q (q (R [(m 20 7),(o 21 (.un .not t20)),(m 22 21),(og 23 22 false (.move t9)),(og 24 22 false (.un .not t23)),(o 25 (.pick t22 T t24)),(m 26 25),(og 27 26 false (.load true 11 t2)),(og 28 26 false (.call 130 [t27])),(og 29 26 false (.move t28)),(og 30 29 true (.load true 11 t3)),(og 31 29 true (.call 130 [t30])),(og 32 26 false (.pick t29 t31 F)),(o 33 (.pick t26 T t32))]) (.cond t33 (q (R [(o 4 (.move (W 0))),(o 5 (.move F))]) .ret) .skip)) (q (q (R [(la 34 11 2),(o 35 (.call 130 [t34])),(m 36 35),(og 37 36 false (.load true 11 t3)),(og 38 36 false (.call 130 [t37])),(og 39 36 false (.un .not t38)),(og 40 36 false (.move t39)),(og 41 40 true (.move t6)),(og 42 40 true (.move t8)),(og 43 40 true (.bin .lss t41 t42)),(og 44 36 false (.pick t40 t43 F)),(o 45 (.pick t36 T t44))]) (.cond t45 (R [(m 46 8),(m 47 6),(m 6 46),(m 8 47)]) .skip)) (q (R [(m 48 6),(m 49 8),(o 50 (.call 131 [t48,t49])),(m 4 50),(o 5 (.move T))]) .ret))))))⟩
section
variable {T : Tab}
structure DuTab (T : Tab) : Prop where
 rw : RwTab T
 inn : InTab T
 of : T 129 = some (.code ir129)
 thirty : T 157 = some (.code ir157)
 store : T 130 = some (.code ir130)
 word : T 131 = some (.code ir131)
 pair : T 104 = some (.code ir104)
theorem thirty_ran (hD : DuTab T) {s : St} (hg : Glb s) (w p : Int) : Ran T 157 [.int .u32 w, .int .u8 p] s fun v s' => ∃ z : Int, v = .int .u32 z ∧ Ext s s' := by
 refine ran_code hD.thirty (Nat.le_of_ble_eq_true rfl) ?_
 generalize hQ : Fin _ _ = Q
 have q1 := fun w => raw_shr .u32 .i64 w 14 (by decide)
 simp only [ir157, hg.ends, hg.upper, hg.parse, wr, seval]
 refine goCall_by (put_ran hD.rw.sb.bi hg.wf (by decide) (by decide)) ?_
 rintro v s2 ⟨z, rfl, hE2⟩
 have g2 := hg.ext hE2
 simp only [g2.ends, g2.upper, g2.parse, q1, wr, seval]
 refine goCall_by (put_ran hD.rw.sb.bi hE2.1 (by decide) (by decide)) ?_
 rintro v s3 ⟨z3, rfl, hE3⟩
 have g3 := g2.ext hE3
 simp only [g3.ends, g3.upper, g3.parse, wr, seval]
 refine goCall_by (put_ran hD.rw.sb.bi hE3.1 (by decide) (by decide)) ?_
 rintro v s4 ⟨z4, rfl, hE4⟩
 simp only [wr, seval]
 subst hQ
 simp only [ir157, wr, seval]
 exact ⟨_, rfl, (hE2.trans hE3).trans hE4⟩
theorem word_ran (hD : DuTab T) {s : St} (hg : Glb s) (x y : Int) : Ran T 131 [.int .u16 x, .int .u16 y] s fun v s' => ∃ z : Int, v = .int .u32 z ∧ Ext s s' := by
 refine ran_code hD.word (Nat.le_of_ble_eq_true rfl) ?_
 generalize hQ : Fin _ _ = Q
 have q1 := fun w => raw_shl .u32 .u64 w 15 (by decide)
 simp only [ir131, q1, raw_or, wr, seval]
 refine goCall_by (thirty_ran hD hg _ _) ?_
 rintro v s2 ⟨z, rfl, hE2⟩
 simp only [wr, seval]
 subst hQ
 simp only [ir131, wr, seval]
 exact ⟨_, rfl, hE2⟩
theorem store_ran (hD : DuTab T) {s : St} (hs : WFS s) (i : In) (hi : i.ok = true) : Ran T 130 [.agg i.cells] s fun v s' => ∃ b : Bool, v = .bool b ∧ Ext s s' := by
 have b1 : isByte i.op = true := by simp only [In.ok, Bool.and_eq_true] at hi; exact hi.1
 have q2 := fun s => classH_eq i s b1
 have k2 := goCall_hook hD.inn.cls
 have ci : i.cells = [.int .u8 i.op, .int .u8 i.d, .int .u8 i.s, .int .u8 i.t, .int .u8 i.n, .int .u8 i.pred, .int .u8 i.mode, .bool i.nw, .bool i.ext, .int .u16 i.count, .int .i64 i.imm] := rfl
 have hE : Ext s (s.add (.cells i.cells 0 0 false)) := (Ext.refl hs).add _
 rw [ci] at hE
 simp only [ci] at q2
 rw [ci]
 refine ran_code hD.store (Nat.le_of_ble_eq_true rfl) ?_
 generalize hQ : Fin _ _ = Q
 simp only [ir130, k2, q2, wr, seval]
 subst hQ
 simp only [ir130, wr, seval]
 exact ⟨_, rfl, hE⟩
end
end Go.V
/- duplex: Pair; legal: Check, at last. -/
namespace Go.V
open Go
set_option linter.unusedSimpArgs false
set_option linter.unusedVariables false
section
variable {T : Tab}
set_option maxHeartbeats 16000000 in
theorem pair_ran (hD : DuTab T) {s : St} (hg : Glb s) (i j : In) (hi : i.ok = true) (hj : j.ok = true) : Ran T 104 [.agg i.cells, .agg j.cells] s fun v s' => ∃ (w : Int) (b : Bool), v = .tuple [.int .u32 w, .bool b] ∧ Ext s s' := by
 have hs := hg.wf
 have ci : ∀ i : In, i.cells = [.int .u8 i.op, .int .u8 i.d, .int .u8 i.s, .int .u8 i.t, .int .u8 i.n, .int .u8 i.pred, .int .u8 i.mode, .bool i.nw, .bool i.ext, .int .u16 i.count, .int .i64 i.imm] := fun _ => rfl
 have ofr := fun (s : St) (hg : Glb s) (i : In) => sof_ran hD.of hD.rw hD.inn hg i
 have str := fun (s : St) (hs : WFS s) (i : In) (hi : i.ok = true) => store_ran hD hs i hi
 simp only [ci] at ofr str
 refine ran_code hD.pair (Nat.le_of_ble_eq_true rfl) ?_
 generalize hQ : Fin _ _ = Q
 have hE : Ext s ((s.add (.cells i.cells 0 0 false)).add (.cells j.cells 0 0 false)) := (Ext.refl hs).add _ |>.add _
 have hbi : ((s.add (.cells i.cells 0 0 false)).add (.cells j.cells 0 0 false)).heap.get s.next = some (.cells i.cells 0 0 false) := by simp only [wr, seval]
 have hbj : ((s.add (.cells i.cells 0 0 false)).add (.cells j.cells 0 0 false)).heap.get (s.next + 1) = some (.cells j.cells 0 0 false) := by simp only [wr, seval]
 rw [ci, ci] at hE hbi hbj
 rw [ci, ci]
 generalize hsB : (s.add (.cells [.int .u8 i.op, .int .u8 i.d, .int .u8 i.s, .int .u8 i.t, .int .u8 i.n, .int .u8 i.pred, .int .u8 i.mode, .bool i.nw, .bool i.ext, .int .u16 i.count, .int .i64 i.imm] 0 0 false)).add (.cells [.int .u8 j.op, .int .u8 j.d, .int .u8 j.s, .int .u8 j.t, .int .u8 j.n, .int .u8 j.pred, .int .u8 j.mode, .bool j.nw, .bool j.ext, .int .u16 j.count, .int .i64 j.imm] 0 0 false) = sB at *
 have hn1 : s.next < sB.next := by rw [← hsB]; show s.next < s.next + 1 + 1; omega
 have hn2 : s.next + 1 < sB.next := by rw [← hsB]; show s.next + 1 < s.next + 1 + 1; omega
 have fin : ∀ (w : Int) (b : Bool) (s1 : St), Ext s s1 → ∃ (w' : Int) (b' : Bool), AV.tuple [.int .u32 w, .bool b] = .tuple [.int .u32 w', .bool b'] ∧ Ext s s1 := fun w b s1 h => ⟨w, b, rfl, h⟩
 simp only [ir104, hsB, hbi, wr, seval]
 refine goCall_by (ofr _ (hg.ext hE) i) ?_
 rintro v s2 ⟨x, b1, rfl, hE2⟩
 have hj2 := (hE2.2.2 _ hn2).trans hbj
 simp only [hj2, wr, seval]
 refine goCall_by (ofr _ (hg.ext (hE.trans hE2)) j) ?_
 rintro v s3 ⟨y, b2, rfl, hE3⟩
 have hF3 := hE2.trans hE3
 have hi3 := (hF3.2.2 _ hn1).trans hbi
 have hj3 := (hF3.2.2 _ hn2).trans hbj
 cases b1 with
 | false =>
  simp only [wr, seval]
  subst hQ; simp only [ir104, wr, seval]; exact fin _ _ _ (hE.trans hF3)
 | true =>
  cases b2 with
  | false =>
   simp only [wr, seval]
   subst hQ; simp only [ir104, wr, seval]; exact fin _ _ _ (hE.trans hF3)
  | true =>
   simp only [hi3, wr, seval]
   refine goCall_by (str _ hE3.1 i hi) ?_
   rintro v s4 ⟨c1, rfl, hE4⟩
   have hF4 := hF3.trans hE4
   have hj4 := (hF4.2.2 _ hn2).trans hbj
   have hi4 := (hF4.2.2 _ hn1).trans hbi
   cases c1 with
   | false =>
    simp only [hi4, hj4, wr, seval]
    refine goCall_by (str _ (hF4).1 i hi) ?_
    rintro v a5 ⟨d1, rfl, aE5⟩
    have aj5 := ((hF4).trans aE5).2.2 _ hn2 |>.trans hbj
    cases d1 with
    | true =>
     simp only [aj5, wr, seval]
     refine goCall_by (word_ran hD (hg.ext (hE.trans ((hF4).trans aE5))) y x) ?_
     rintro v a6 ⟨z, rfl, aE6⟩
     simp only [wr, seval]
     subst hQ; simp only [ir104, wr, seval]; exact fin _ _ _ ((hE.trans ((hF4).trans aE5)).trans aE6)
    | false =>
     simp only [aj5, wr, seval]
     refine goCall_by (str _ aE5.1 j hj) ?_
     rintro v a6 ⟨d2, rfl, aE6⟩
     have a46 := ((hF4).trans aE5).trans aE6
     cases d2 with
     | true =>
      simp only [wr, seval]
      refine goCall_by (word_ran hD (hg.ext (hE.trans a46)) x y) ?_
      rintro v a7 ⟨z, rfl, aE7⟩
      simp only [wr, seval]
      subst hQ; simp only [ir104, wr, seval]; exact fin _ _ _ ((hE.trans a46).trans aE7)
     | false =>
      by_cases hxy : x < y
      · simp only [hxy, wr, seval]
        refine goCall_by (word_ran hD (hg.ext (hE.trans a46)) y x) ?_
        rintro v a7 ⟨z, rfl, aE7⟩
        simp only [wr, seval]
        subst hQ; simp only [ir104, wr, seval]; exact fin _ _ _ ((hE.trans a46).trans aE7)
      · simp only [hxy, wr, seval]
        refine goCall_by (word_ran hD (hg.ext (hE.trans a46)) x y) ?_
        rintro v a7 ⟨z, rfl, aE7⟩
        simp only [wr, seval]
        subst hQ; simp only [ir104, wr, seval]; exact fin _ _ _ ((hE.trans a46).trans aE7)
   | true =>
    simp only [hj4, wr, seval]
    refine goCall_by (str _ hE4.1 j hj) ?_
    rintro v s5 ⟨c2, rfl, hE5⟩
    have hF5 := hF4.trans hE5
    have hi5 := (hF5.2.2 _ hn1).trans hbi
    cases c2 with
    | true =>
     simp only [wr, seval]
     subst hQ; simp only [ir104, wr, seval]; exact fin _ _ _ (hE.trans hF5)
    | false =>
     simp only [hi5, wr, seval]
     refine goCall_by (str _ (hF5).1 i hi) ?_
     rintro v b5 ⟨d1, rfl, bE5⟩
     have bj5 := ((hF5).trans bE5).2.2 _ hn2 |>.trans hbj
     cases d1 with
     | true =>
      simp only [bj5, wr, seval]
      refine goCall_by (word_ran hD (hg.ext (hE.trans ((hF5).trans bE5))) y x) ?_
      rintro v b6 ⟨z, rfl, bE6⟩
      simp only [wr, seval]
      subst hQ; simp only [ir104, wr, seval]; exact fin _ _ _ ((hE.trans ((hF5).trans bE5)).trans bE6)
     | false =>
      simp only [bj5, wr, seval]
      refine goCall_by (str _ bE5.1 j hj) ?_
      rintro v b6 ⟨d2, rfl, bE6⟩
      have b46 := ((hF5).trans bE5).trans bE6
      cases d2 with
      | true =>
       simp only [wr, seval]
       refine goCall_by (word_ran hD (hg.ext (hE.trans b46)) x y) ?_
       rintro v b7 ⟨z, rfl, bE7⟩
       simp only [wr, seval]
       subst hQ; simp only [ir104, wr, seval]; exact fin _ _ _ ((hE.trans b46).trans bE7)
      | false =>
       by_cases hxy : x < y
       · simp only [hxy, wr, seval]
         refine goCall_by (word_ran hD (hg.ext (hE.trans b46)) y x) ?_
         rintro v b7 ⟨z, rfl, bE7⟩
         simp only [wr, seval]
         subst hQ; simp only [ir104, wr, seval]; exact fin _ _ _ ((hE.trans b46).trans bE7)
       · simp only [hxy, wr, seval]
         refine goCall_by (word_ran hD (hg.ext (hE.trans b46)) x y) ?_
         rintro v b7 ⟨z, rfl, bE7⟩
         simp only [wr, seval]
         subst hQ; simp only [ir104, wr, seval]; exact fin _ _ _ ((hE.trans b46).trans bE7)
theorem pairB_of (hD : DuTab T) {s : St} (hg : Glb s) : PairB T s := fun s2 h2 i j hi hj => pair_ran hD (hg.ext h2) i j hi hj
end
end Go.V
