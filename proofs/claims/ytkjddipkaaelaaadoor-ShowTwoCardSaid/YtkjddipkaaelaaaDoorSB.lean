/- show: what its small functions say. -/
import Derived.Test.YtkjddipkaaelaaaDoorVZ
import Derived.Test.YtkjddipkaaelaaaDoorV71
import Derived.Test.YtkjddipkaaelaaaDoorVE
import Derived.Test.YtkjddipkaaelaaaDoorSA
import Derived.Test.YtkjddipkaaelaaaDoorPA
import Derived.Lib.ItoaLen
import Derived.KernelRfl
import Derived.IntWalk
set_option linter.unusedVariables false
set_option linter.unusedSimpArgs false
set_option linter.unusedSectionVars false
/- show: what its small functions say. -/
/- show: what its small functions say. -/
namespace Go.V
open Go
set_option linter.unusedSimpArgs false
set_option linter.unusedVariables false
def eqNat4 : AV → Bool
  | .int k n => decide (k = .u8) && decide (n = 4)
  | _ => false
def pTab (h : Tree AObj) : Bool := tabAt { s0 with heap := h } 0 Lib.pow10Tab && (match h.get 3 with
  | some (.cells cs 0 0 true) => Nat.beq cs.length 64 && (match cs[15]? with | some v => eqNat4 v | none => false)
  | _ => false)
structure PS (s : St) : Prop where
  wf : WFS s
  tab : pTab s.heap = true
theorem pTab_get {h h' : Tree AObj} (h0 : h'.get 0 = h.get 0) (h3 : h'.get 3 = h.get 3) : pTab h' = pTab h := by
  unfold pTab tabAt
  rw [h0, h3]
theorem pTab_has {h : Tree AObj} (hp : pTab h = true) : ∃ a b, h.get 0 = some a ∧ h.get 3 = some b := by
  unfold pTab tabAt at hp
  cases h0 : h.get 0 with
  | none => simp [h0] at hp
  | some a =>
    cases h3 : h.get 3 with
    | none => simp [h3] at hp
    | some b => exact ⟨a, b, rfl, rfl⟩
theorem pTab_put (s : St) (b : Nat) (o : AObj) (hb : s.heap.get b = none) (hp : pTab s.heap = true) : pTab (s.put b o).heap = true := by
  obtain ⟨x, y, h0, h3⟩ := pTab_has hp
  rw [← hp]
  refine pTab_get ?_ ?_
  · rw [put_get, if_neg]; intro e; rw [e, hb] at h0; cases h0
  · rw [put_get, if_neg]; intro e; rw [e, hb] at h3; cases h3
theorem PS.ext {s s' : St} (h : PS s) (hx : Ext s s') : PS s' := by
  obtain ⟨x, y, h0, h3⟩ := pTab_has h.tab
  have lt : ∀ {i o}, s.heap.get i = some o → i < s.next := fun {i o} e => Nat.lt_of_not_le fun hge => by
    rw [h.wf i hge] at e; cases e
  refine ⟨hx.1, ?_⟩
  rw [← h.tab]
  exact pTab_get (hx.2.2 0 (lt h0)) (hx.2.2 3 (lt h3))
theorem ps_add {s : St} (h : PS s) (o : AObj) : PS (s.add o) := h.ext (Ext.add (Ext.refl h.wf) _)
theorem PS.tab0 {s : St} (h : PS s) : tabAt s 0 Lib.pow10Tab = true := by
  have := h.tab
  simp only [pTab, Bool.and_eq_true] at this
  exact this.1
theorem gate_eq (g : List AV → Option AV) (args : List AV) {v : AV} (hg : g args = some v) (s : St) (h : PS s) : gateH pTab g args s = some (v, s) := gateH_eq h.tab hg
theorem itoa_eq (n : Int) (h1 : -9223372036854775808 ≤ n) (h2 : n ≤ 9223372036854775807) (s : St) (h : PS s) : itoaH 0 [.int .i64 n] s = some (.str (Lib.itoa n), s) := by
  simp only [itoaH, h1, h2, h.tab0, decide_true, Bool.and_self]
theorem fmt_eq (n : Int) (h1 : -9223372036854775808 ≤ n) (h2 : n ≤ 9223372036854775807) (s : St) (h : PS s) : fmtH 0 [.int .i64 n, .int .i64 10] s = some (.str (Lib.itoa n), s) := by
  simp only [fmtH, h1, h2, h.tab0, decide_true, Bool.and_self]
open Z in def ir51 : IFunc := ⟨5,[.tmp 2],(q (R [(o 2 (.move (sc [])))]) (q (R [(m 3 0),(o 4 (.call 70 [t3])),(m 2 4)]) .ret))⟩
open Z in def ir36 : IFunc := ⟨7,[.tmp 2],(q (R [(o 2 (.move (sc [])))]) (q (R [(m 3 0),(o 4 (.conv (.intInt .i64) t3)),(o 5 (.call 51 [t4])),(o 6 (.bin .add (sc [114]) t5)),(m 2 6)]) .ret))⟩
open Z in def ir31 : IFunc := ⟨7,[.tmp 2],(q (R [(o 2 (.move (sc [])))]) (q (R [(m 3 0),(o 4 (.conv (.intInt .i64) t3)),(o 5 (.call 51 [t4])),(o 6 (.bin .add (sc [112]) t5)),(m 2 6)]) .ret))⟩
open Z in def ir52 : IFunc := ⟨7,[.tmp 2],(q (R [(o 2 (.move (sc [])))]) (q (R [(m 3 0),(o 4 (.conv (.intInt .i64) t3)),(o 5 (.call 51 [t4])),(o 6 (.bin .add (sc [35]) t5)),(m 2 6)]) .ret))⟩
def regS (d : Int) : List UInt8 := 114 :: Lib.itoa d
def predS (d : Int) : List UInt8 := 112 :: Lib.itoa d
def countS (d : Int) : List UInt8 := 35 :: Lib.itoa d
def isU16 (n : Int) : Bool := decide (0 ≤ n) && decide (n < 65536)
/-- A function of a byte. -/
def byteT (r : Int → List UInt8) (args : List AV) : Option AV := match args with
  | [.int .u8 n] => match isByte n with
    | true => some (.str (r n))
    | false => none
  | _ => none
def u16T (r : Int → List UInt8) (args : List AV) : Option AV := match args with
  | [.int .u16 n] => match isU16 n with
    | true => some (.str (r n))
    | false => none
  | _ => none
def i64T (r : Int → List UInt8) (args : List AV) : Option AV := match args with
  | [.int .i64 n] => match isI64 n with
    | true => some (.str (r n))
    | false => none
  | _ => none
theorem byteT_ok {T : Tab} {f : FuncId} {r : Int → List UInt8} (h : ∀ s, PS s → ∀ n, isByte n = true → Ran T f [.int .u8 n] s fun v s' => v = .str (r n) ∧ Ext s s') (args : List AV) (v : AV) (hv : byteT r args = some v) :
    plain v = true ∧ ∀ s, WFS s → pTab s.heap = true → Ran T f args s fun v' s' => v' = v ∧ Ext s s' := by
  unfold byteT at hv
  split at hv
  · rename_i n
    split at hv
    · rename_i hn; cases hv; exact ⟨rfl, fun s hs hp => h s ⟨hs, hp⟩ n hn⟩
    · cases hv
  · cases hv
theorem u16T_ok {T : Tab} {f : FuncId} {r : Int → List UInt8} (h : ∀ s, PS s → ∀ n, isU16 n = true → Ran T f [.int .u16 n] s fun v s' => v = .str (r n) ∧ Ext s s') (args : List AV) (v : AV) (hv : u16T r args = some v) :
    plain v = true ∧ ∀ s, WFS s → pTab s.heap = true → Ran T f args s fun v' s' => v' = v ∧ Ext s s' := by
  unfold u16T at hv
  split at hv
  · rename_i n
    split at hv
    · rename_i hn; cases hv; exact ⟨rfl, fun s hs hp => h s ⟨hs, hp⟩ n hn⟩
    · cases hv
  · cases hv
theorem i64T_ok {T : Tab} {f : FuncId} {r : Int → List UInt8} (h : ∀ s, PS s → ∀ n, isI64 n = true → Ran T f [.int .i64 n] s fun v s' => v = .str (r n) ∧ Ext s s') (args : List AV) (v : AV) (hv : i64T r args = some v) :
    plain v = true ∧ ∀ s, WFS s → pTab s.heap = true → Ran T f args s fun v' s' => v' = v ∧ Ext s s' := by
  unfold i64T at hv
  split at hv
  · rename_i n
    split at hv
    · rename_i hn; cases hv; exact ⟨rfl, fun s hs hp => h s ⟨hs, hp⟩ n hn⟩
    · cases hv
  · cases hv
theorem byte_eq (r : Int → List UInt8) (n : Int) (h : isByte n = true) (s : St) (hs : PS s) : gateH pTab (byteT r) [.int .u8 n] s = some (.str (r n), s) := gate_eq _ _ (by simp only [byteT, h]) s hs
theorem u16_eq (r : Int → List UInt8) (n : Int) (h : isU16 n = true) (s : St) (hs : PS s) : gateH pTab (u16T r) [.int .u16 n] s = some (.str (r n), s) := gate_eq _ _ (by simp only [u16T, h]) s hs
theorem i64_eq (r : Int → List UInt8) (n : Int) (h : isI64 n = true) (s : St) (hs : PS s) : gateH pTab (i64T r) [.int .i64 n] s = some (.str (r n), s) := gate_eq _ _ (by simp only [i64T, h]) s hs
theorem isByte_iff {n : Int} : isByte n = true ↔ 0 ≤ n ∧ n < 256 := by
  cases n with
  | ofNat n => simp [isByte, Nat.blt_eq]; omega
  | negSucc n => simp [isByte]
theorem isI64_iff {n : Int} : isI64 n = true ↔ -9223372036854775808 ≤ n ∧ n ≤ 9223372036854775807 := by
  simp [isI64]
theorem isU16_iff {n : Int} : isU16 n = true ↔ 0 ≤ n ∧ n < 65536 := by
  simp [isU16]
theorem byte_i64 {n : Int} (h : isByte n = true) : isI64 n = true := by
  have := isByte_iff.1 h
  exact isI64_iff.2 ⟨by omega, by omega⟩
theorem u16_i64 {n : Int} (h : isU16 n = true) : isI64 n = true := by
  have := isU16_iff.1 h
  exact isI64_iff.2 ⟨by omega, by omega⟩
theorem itoa_len {n : Int} (h : isI64 n = true) : (Lib.itoa n).length ≤ 21 := Lib.itoa_length_le n (isI64_iff.1 h).1 (isI64_iff.1 h).2
theorem wrapI {n : Int} (h : isI64 n = true) : wrapF .i64 n = n := wrap_i64 n (isI64_iff.1 h).1 (isI64_iff.1 h).2
section
variable {T : Tab}
theorem number_ran (hc : T 51 = some (.code ir51)) (hi : T 70 = some (.hook (itoaH 0))) (s : St) (hs : PS s) (n : Int) (hn : isI64 n = true) :
    Ran T 51 [.int .i64 n] s fun v s' => v = .str (Lib.itoa n) ∧ Ext s s' := by
  refine ran_code hc (Nat.le_of_ble_eq_true rfl) ?_
  have k1 := goCall_hook hi
  have q1 := itoa_eq n (isI64_iff.1 hn).1 (isI64_iff.1 hn).2
  simp (disch := first | assumption | ((repeat (apply ps_add)); assumption) | ((try simp only [List.length_append, List.length_cons, List.length_nil]); omega)) only [ir51, k1, q1, wk, wk1, wk2, Option.some.injEq, exists_eq_left', decide_true, decide_false, seval, go_regionPw, pw_normal]
  exact Ext.refl hs.wf
theorem reg_ran (hc : T 36 = some (.code ir36)) (hi : T 51 = some (.hook (gateH pTab (i64T Lib.itoa)))) (s : St) (hs : PS s) (n : Int) (hn : isByte n = true) :
    Ran T 36 [.int .u8 n] s fun v s' => v = .str (regS n) ∧ Ext s s' := by
  refine ran_code hc (Nat.le_of_ble_eq_true rfl) ?_
  have k1 := goCall_hook hi
  have hn' := byte_i64 hn
  have q1 := i64_eq Lib.itoa n hn'
  have u1 := wrapI hn'
  have l1 := itoa_len hn'
  simp (disch := first | assumption | ((repeat (apply ps_add)); assumption) | ((try simp only [List.length_append, List.length_cons, List.length_nil]); omega)) only [ir36, k1, q1, u1, if_pos, wk, wk1, wk2, Option.some.injEq, exists_eq_left', decide_true, decide_false, seval, go_regionPw, pw_normal]
  exact ⟨rfl, Ext.refl hs.wf⟩
theorem pred_ran (hc : T 31 = some (.code ir31)) (hi : T 51 = some (.hook (gateH pTab (i64T Lib.itoa)))) (s : St) (hs : PS s) (n : Int) (hn : isByte n = true) :
    Ran T 31 [.int .u8 n] s fun v s' => v = .str (predS n) ∧ Ext s s' := by
  refine ran_code hc (Nat.le_of_ble_eq_true rfl) ?_
  have k1 := goCall_hook hi
  have hn' := byte_i64 hn
  have q1 := i64_eq Lib.itoa n hn'
  have u1 := wrapI hn'
  have l1 := itoa_len hn'
  simp (disch := first | assumption | ((repeat (apply ps_add)); assumption) | ((try simp only [List.length_append, List.length_cons, List.length_nil]); omega)) only [ir31, k1, q1, u1, if_pos, wk, wk1, wk2, Option.some.injEq, exists_eq_left', decide_true, decide_false, seval, go_regionPw, pw_normal]
  exact ⟨rfl, Ext.refl hs.wf⟩
theorem count_ran (hc : T 52 = some (.code ir52)) (hi : T 51 = some (.hook (gateH pTab (i64T Lib.itoa)))) (s : St) (hs : PS s) (n : Int) (hn : isU16 n = true) :
    Ran T 52 [.int .u16 n] s fun v s' => v = .str (countS n) ∧ Ext s s' := by
  refine ran_code hc (Nat.le_of_ble_eq_true rfl) ?_
  have k1 := goCall_hook hi
  have hn' := u16_i64 hn
  have q1 := i64_eq Lib.itoa n hn'
  have u1 := wrapI hn'
  have l1 := itoa_len hn'
  simp (disch := first | assumption | ((repeat (apply ps_add)); assumption) | ((try simp only [List.length_append, List.length_cons, List.length_nil]); omega)) only [ir52, k1, q1, u1, if_pos, wk, wk1, wk2, Option.some.injEq, exists_eq_left', decide_true, decide_false, seval, go_regionPw, pw_normal]
  exact ⟨rfl, Ext.refl hs.wf⟩
end
end Go.V
/- strconv: numbers to base 16. -/
namespace Go.V
open Go
set_option linter.unusedSimpArgs false
set_option linter.unusedVariables false
section
open Z
abbrev sF0l1 : ICode := .seq (R [(m 58 13),(o 59 (.bin .sub t58 (I 1))),(m 13 59)]) (R [(m 60 13),(m 61 1),(o 62 (.idxStr (sc [48,49,50,51,52,53,54,55,56,57,97,98,99,100,101,102,103,104,105,106,107,108,109,110,111,112,113,114,115,116,117,118,119,120,121,122]) t61)),(o 63 (.idxArr 65 1 t12 t60)),(st 1 63 62)])
abbrev sF0l2 : ICode := .seq (q (R [(m 89 3)]) (.cond t89 (q (R [(m 90 13),(o 91 (.bin .sub t90 (I 1))),(m 13 91)]) (R [(m 92 13),(o 93 (.idxArr 65 1 t12 t92)),(n (.store 1 t93 (B 45)))])) .skip)) (q (q (R [(m 94 4)]) (.cond t94 (q (R [(m 95 0),(m 96 13),(o 97 (.sliceArr 65 1 t12 (some t96) none none)),(o 98 (.bld (.app 5) t95 t97)),(m 10 98)]) .ret) .skip)) (q (R [(m 99 13),(o 100 (.sliceArr 65 1 t12 (some t99) none none)),(o 101 (.conv .bytesStr t100)),(m 11 101)]) .ret))
abbrev sF0l0 : ICode := .loop (q (q (R [(m 44 1),(m 45 15),(o 46 (.bin .geq t44 t45))]) (.cond t46 .skip (.exit 0))) (.block 1 (q (R [(m 47 13),(o 48 (.bin .sub t47 (I 1))),(m 13 48)]) (q (R [(m 49 13),(m 50 1),(m 51 16),(o 52 (.bin .and t50 t51)),(o 53 (.idxStr (sc [48,49,50,51,52,53,54,55,56,57,97,98,99,100,101,102,103,104,105,106,107,108,109,110,111,112,113,114,115,116,117,118,119,120,121,122]) t52)),(o 54 (.idxArr 65 1 t12 t49)),(st 1 54 53)]) (R [(m 55 1),(m 56 14),(o 57 (.bin .shr t55 t56)),(m 1 57)])))))
end
open Z in def ir69 : IFunc := ⟨102,[.tmp 10,.tmp 11],(q (R [(o 10 (.move (.c .nilSlice))),(o 11 (.move (sc [])))]) (q (q (R [(m 19 2),(o 20 (.bin .lss t19 (I 2))),(m 21 20),(og 22 21 false (.move t2)),(og 23 21 false (.bin .eql t22 (I 10))),(o 24 (.pick t21 T t23)),(m 25 24),(og 26 25 false (.move t2)),(og 27 25 false (.bin .gtr t26 (I 36))),(o 28 (.pick t25 T t27))]) (.cond t28 (R [(o 29 (.mkIface 9 (sc [115,116,114,99,111,110,118,58,32,105,108,108,101,103,97,108,32,65,112,112,101,110,100,73,110,116,47,70,111,114,109,97,116,73,110,116,32,98,97,115,101]))),(n (.panic t29))]) .skip)) (q (R [(o 12 (.alloc [(b 0),(b 0),(b 0),(b 0),(b 0),(b 0),(b 0),(b 0),(b 0),(b 0),(b 0),(b 0),(b 0),(b 0),(b 0),(b 0),(b 0),(b 0),(b 0),(b 0),(b 0),(b 0),(b 0),(b 0),(b 0),(b 0),(b 0),(b 0),(b 0),(b 0),(b 0),(b 0),(b 0),(b 0),(b 0),(b 0),(b 0),(b 0),(b 0),(b 0),(b 0),(b 0),(b 0),(b 0),(b 0),(b 0),(b 0),(b 0),(b 0),(b 0),(b 0),(b 0),(b 0),(b 0),(b 0),(b 0),(b 0),(b 0),(b 0),(b 0),(b 0),(b 0),(b 0),(b 0),(b 0)]))]) (q (R [(mi 13 65)]) (q (q (R [(m 30 3)]) (.cond t30 (R [(m 31 1),(o 32 (.un .neg t31)),(m 1 32)]) .skip)) (q (q (R [(m 33 2),(o 34 (.call 78 [t33]))]) (.cond t34 (q (R [(m 35 2),(o 36 (.conv (.intInt .u64) t35)),(o 37 (.call 79 [t36])),(o 38 (.conv (.intInt .u64) t37)),(m 14 38)]) (q (R [(m 39 2),(o 40 (.conv (.intInt .u64) t39)),(m 15 40)]) (q (R [(m 41 2),(o 42 (.conv (.intInt .u64) t41)),(o 43 (.bin .sub t42 (.c (.int .u64 1)))),(m 16 43)]) (q (.block 0 sF0l0) sF0l1)))) (q (R [(m 64 2),(o 65 (.conv (.intInt .u64) t64)),(m 17 65)]) (q (.block 2 (.loop (q (q (R [(m 66 1),(m 67 17),(o 68 (.bin .geq t66 t67))]) (.cond t68 .skip (.exit 2))) (.block 3 (q (R [(m 69 13),(o 70 (.bin .sub t69 (I 1))),(m 13 70)]) (q (R [(m 71 1),(m 72 17),(o 73 (.bin .quo t71 t72)),(m 18 73)]) (q (R [(m 74 13),(m 75 1),(m 76 18),(m 77 17),(o 78 (.bin .mul t76 t77)),(o 79 (.bin .sub t75 t78)),(o 80 (.idxStr (sc [48,49,50,51,52,53,54,55,56,57,97,98,99,100,101,102,103,104,105,106,107,108,109,110,111,112,113,114,115,116,117,118,119,120,121,122]) t79)),(o 81 (.idxArr 65 1 t12 t74)),(st 1 81 80)]) (R [(m 82 18),(m 1 82)])))))))) (q (R [(m 83 13),(o 84 (.bin .sub t83 (I 1))),(m 13 84)]) (R [(m 85 13),(m 86 1),(o 87 (.idxStr (sc [48,49,50,51,52,53,54,55,56,57,97,98,99,100,101,102,103,104,105,106,107,108,109,110,111,112,113,114,115,116,117,118,119,120,121,122]) t86)),(o 88 (.idxArr 65 1 t12 t85)),(st 1 88 87)])))))) sF0l2))))))⟩
open Z in def ir78 : IFunc := ⟨8,[.tmp 2],(q (R [(o 2 (.move F))]) (q (R [(m 3 0),(m 4 0),(o 5 (.bin .sub t4 (I 1))),(o 6 (.bin .and t3 t5)),(o 7 (.bin .eql t6 (I 0))),(m 2 7)]) .ret))⟩
open Z in def ir30 : IFunc := ⟨8,[.tmp 4],(q (R [(o 4 (.move (sc [])))]) (q (R [(m 5 0),(m 6 1),(o 7 (.call 50 [t5,t6])),(m 4 7)]) .ret))⟩
open Z in def ir50 : IFunc := ⟨54,[.tmp 4],(q (R [(o 4 (.move (sc [])))]) (q (q (R [(m 10 1),(o 11 (.bin .eql t10 (I 10)))]) (.cond t11 (q (q (R [(m 12 0),(o 13 (.bin .leq (I 0) t12)),(m 14 13),(og 15 14 true (.move t0)),(og 16 14 true (.bin .lss t15 (I 100))),(o 17 (.pick t14 t16 F))]) (.cond t17 (q (R [(m 18 0),(o 19 (.call 66 [t18])),(m 4 19)]) .ret) .skip)) (q (R [(o 5 (.alloc [(b 0),(b 0),(b 0),(b 0),(b 0),(b 0),(b 0),(b 0),(b 0),(b 0),(b 0),(b 0),(b 0),(b 0),(b 0),(b 0),(b 0),(b 0),(b 0),(b 0),(b 0),(b 0),(b 0),(b 0)]))]) (q (R [(m 20 0),(o 21 (.conv (.intInt .u64) t20)),(m 6 21)]) (q (q (R [(m 22 0),(o 23 (.bin .lss t22 (I 0)))]) (.cond t23 (R [(m 24 6),(o 25 (.un .neg t24)),(m 6 25)]) .skip)) (q (R [(m 26 6),(o 27 (.call 67 [t26])),(m 7 27)]) (q (R [(m 28 7),(o 29 (.bin .add (I 1) t28)),(o 30 (.sliceArr 24 1 t5 (some (I 1)) (some t29) none)),(m 31 6),(o 32 (.call 68 [t30,t31]))]) (q (q (R [(m 33 0),(o 34 (.bin .lss t33 (I 0)))]) (.cond t34 (q (R [(o 35 (.idxArr 24 1 t5 (I 0))),(n (.store 1 t35 (B 45)))]) (q (R [(m 36 7),(o 37 (.bin .add (I 1) t36)),(o 38 (.sliceArr 24 1 t5 none (some t37) none)),(o 39 (.conv .bytesStr t38)),(m 4 39)]) .ret)) .skip)) (q (R [(m 40 7),(o 41 (.bin .add (I 1) t40)),(o 42 (.sliceArr 24 1 t5 (some (I 1)) (some t41) none)),(o 43 (.conv .bytesStr t42)),(m 4 43)]) .ret)))))))) .skip)) (q (R [(m 45 0),(o 46 (.conv (.intInt .u64) t45)),(m 47 1),(m 48 0),(o 49 (.bin .lss t48 (I 0))),(o 50 (.call 69 [(.c .nilSlice),t46,t47,t49,F])),(m 44 50),(x 51 44 0),(x 52 44 1),(m 8 51),(m 9 52)]) (q (R [(m 53 9),(m 4 53)]) .ret))))⟩
open Z in def ir83 : IFunc := ⟨14,[.tmp 2],(q (R [(mi 2 0)]) (q (q (R [(m 3 0),(o 4 (.bin .eql t3 (.c (.int .u64 0))))]) (.cond t4 (q (R [(mi 2 64)]) .ret) .skip)) (q (R [(m 5 0),(m 6 0),(o 7 (.un .neg t6)),(o 8 (.bin .and t5 t7)),(o 9 (.bin .mul t8 (.c (.int .u64 285870213051353865)))),(o 10 (.bin .shr t9 (.c (.int .u64 58)))),(o 11 (.idxArr 64 1 (.c (P 3 0 0 64)) t10)),(l 12 1 11),(o 13 (.conv (.intInt .i64) t12)),(m 2 13)]) .ret)))⟩
open Z in def ir79 : IFunc := ⟨8,[.tmp 2],(q (R [(mi 2 0)]) (q (.cond F (q (R [(m 3 0),(o 4 (.conv (.intInt .u32) t3)),(o 5 (.call 82 [t4])),(m 2 5)]) .ret) .skip) (q (R [(m 6 0),(o 7 (.call 83 [t6])),(m 2 7)]) .ret)))⟩
def hexD (n : Nat) : UInt8 := if n < 10 then UInt8.ofNat (48 + n) else UInt8.ofNat (87 + n)
theorem bytesAV_map : ∀ bs : List UInt8, bytesAV (bs.map fun b => .int .u8 (b.toNat : Int)) = some bs
  | [] => rfl
  | b :: l => by
    have := bytesAV_map l
    show (match bytesAV (l.map fun b => .int .u8 (b.toNat : Int)) with | some r => some (UInt8.ofNat b.toNat :: r) | none => none) = _
    rw [this]
    simp
theorem wo_bytesStr {T : Tab} {Q : Post} {fs : List Fr} {d : Bool} {l : List IOp} {dst : Option Nat} {w : List Opd} {e : Env} {s : St} {x : Opd} {a : AAddr} {len c : Nat} {ex : Bool} {row : List AV} {bs : List UInt8} (hx : opd e x = .slice a len c ex 1) (hr : s.readAt a len = some row) (hb : bytesAV row = some bs) :
    GoOps T Q d (⟨dst, none, w, (.conv .bytesStr x)⟩ :: l) fs e s ↔ GoR T Q d dst w (.val (.str bs) s) l fs e s := by
  rw [ops_ins (i := .conv .bytesStr x) rfl, show insV e s (.conv .bytesStr x) = .val (.str bs) s by simp only [insV, evalIns, hx, hr, hb]]
def hexGo : Nat → Nat → List UInt8 → List UInt8
  | 0, _, acc => acc
  | f + 1, y, acc => if y < 16 then hexD y :: acc else hexGo f (y / 16) (hexD (y % 16) :: acc)
def hexN (x : Nat) : List UInt8 := hexGo 20 x []
def digs36 : List UInt8 := [48, 49, 50, 51, 52, 53, 54, 55, 56, 57, 97, 98, 99, 100, 101, 102, 103, 104, 105, 106, 107, 108, 109, 110, 111, 112, 113, 114, 115, 116, 117, 118, 119, 120, 121, 122]
theorem digs36_get : ∀ n, n < 16 → digs36[n]? = some (hexD n) := by decide
theorem shr64 (x : Nat) : binV .shr (.int .u64 (x : Int)) (.int .u64 4) = some (.int .u64 ((x / 16 : Nat) : Int)) := by
  show binInt .shr .u64 (x : Int) .u64 (Int.ofNat 4) = _
  simp only [binInt, mkInt_eq]
  congr 2
  have h3 : Int.ofNat (Nat.pow 2 (min 4 (IntKind.bits .u64))) = ((16 : Nat) : Int) := rfl
  rw [h3, Int.fdiv_eq_ediv_of_nonneg _ (Int.natCast_nonneg _)]
  rfl
theorem and64 (x : Nat) (h : x < 18446744073709551616) : binV .and (.int .u64 (x : Int)) (.int .u64 15) = some (.int .u64 ((x % 16 : Nat) : Int)) := by
  show binInt .and .u64 (x : Int) .u64 15 = _
  have h1 : Op.intBits .and .u64 (x : Int) 15 = (pure (.int .u64 ((x % 16 : Nat) : Int)) : Sem Value) := by
    simp only [Op.intBits]
    have hb : (BitVec.ofInt 64 (x : Int) &&& BitVec.ofInt 64 15).toNat = x % 16 := by
      rw [BitVec.toNat_and]
      have e1 : (BitVec.ofInt 64 (x : Int)).toNat = x := by simp [BitVec.toNat_ofInt]; omega
      have e2 : (BitVec.ofInt 64 15).toNat = 15 := by decide
      rw [e1, e2]
      exact Nat.and_two_pow_sub_one_eq_mod x 4
    show (pure (.int .u64 (IntKind.wrap .u64 ((BitVec.ofInt 64 (x : Int) &&& BitVec.ofInt 64 15).toNat : Int))) : Sem Value) = _
    rw [hb]
    have e3 : IntKind.wrap .u64 ((x % 16 : Nat) : Int) = ((x % 16 : Nat) : Int) := IntWalk.u64_in _ (by omega)
    rw [e3]
  simp only [binInt, if_true, h1]
  show pureAV (.pure (.int .u64 _)) = _
  simp only [pureAV, mkInt_eq]
theorem pow2_16 : binV .and (.int .i64 16) (.int .i64 15) = some (.int .i64 0) := by kernel_rfl
section
variable {T : Tab}
theorem pow_ran (hc : T 78 = some (.code ir78)) (s : St) : Ran T 78 [.int .i64 16] s fun v s' => v = .bool true ∧ s' = s := by
  refine ran_code hc (Nat.le_of_ble_eq_true rfl) ?_
  simp only [ir78, pow2_16, wk, wk1, wk2, Option.some.injEq, exists_eq_left', decide_true, decide_false, seval, go_regionPw, pw_normal]
theorem row_set (n : Nat) (acc : List AV) (v : AV) : spliceAt (List.replicate (n + 1) (.int .u8 0) ++ acc) n [v] = List.replicate n (.int .u8 0) ++ (v :: acc) := by
  unfold spliceAt
  rw [List.take_append_of_le_length (by simp), List.take_replicate, Nat.min_eq_left (by omega)]
  rw [List.drop_append_of_le_length (by simp), List.drop_replicate]
  simp
def rowH (acc : List UInt8) (k : Nat) : List AV := List.replicate (65 - k) (.int .u8 0) ++ acc.map fun b => .int .u8 (b.toNat : Int)
structure FbE (e : Env) (p y k : Nat) : Prop where
  h1 : opd e (.t 1) = .int .u64 (y : Int)
  h3 : opd e (.t 3) = .bool false
  h4 : opd e (.t 4) = .bool false
  h10 : opd e (.t 10) = .nilSlice
  h12 : opd e (.t 12) = .ptr ⟨p, 0, 0, 65⟩
  h13 : opd e (.t 13) = .int .i64 ((65 - k : Nat) : Int)
  h14 : opd e (.t 14) = .int .u64 4
  h15 : opd e (.t 15) = .int .u64 16
  h16 : opd e (.t 16) = .int .u64 15
set_option maxHeartbeats 4000000 in
theorem fb_loop {Q : Post} {s0 : St} {p : Nat} (hp0 : s0.next ≤ p) {R : List UInt8}
    (K : ∀ (e : Env) (s : St) (y k : Nat) (acc : List UInt8), FbE e p y k → y < 16 → R = hexD y :: acc → k < 30 → acc.length = k → Ext s0 s → p < s.next → s.heap.get p = some (.cells (rowH acc k) 0 0 false) → Ret T Q [.seq sF0l1, .seq sF0l2] .normal e s) :
    ∀ (f y k : Nat) (acc : List UInt8) (e : Env) (s : St), y < 16 ^ (f + 1) → y < 18446744073709551616 → hexGo (f + 1) y acc = R → k + f < 30 → acc.length = k → FbE e p y k → Ext s0 s → p < s.next → s.heap.get p = some (.cells (rowH acc k) 0 0 false) →
      Go T Q (sF0l0) [.block 0, .seq sF0l1, .seq sF0l2] e s := by
  intro f
  induction f with
  | zero =>
    intro y k acc e s hy hyb hR hk hl ⟨h1, h3, h4, h10, h12, h13, h14, h15, h16⟩ hE hps ho
    have hy' : ¬ (16 : Int) ≤ (y : Int) := by have : y < 16 := by simpa using hy
                                              omega
    have hlt : y < 16 := by simpa using hy
    rw [go_loop]
    generalize ([.seq sF0l1, .seq sF0l2] : List Fr) = FF at *
    simp only [h1, h15, hy', wk, wk1, wk2, Option.some.injEq, exists_eq_left', decide_true, decide_false, seval, go_regionPw, pw_normal]
    refine K _ s y k acc ⟨?_, ?_, ?_, ?_, ?_, ?_, ?_, ?_, ?_⟩ hlt ?_ (by omega) hl hE hps ho
    any_goals simp only [h1, h3, h4, h10, h12, h13, h14, h15, h16, wk, wk1, wk2, Option.some.injEq, exists_eq_left', decide_true, decide_false, seval, go_regionPw, pw_normal]
    rw [← hR]; simp [hexGo, hlt]
  | succ f ih =>
    intro y k acc e s hy hyb hR hk hl ⟨h1, h3, h4, h10, h12, h13, h14, h15, h16⟩ hE hps ho
    by_cases hlt : y < 16
    · have hy' : ¬ (16 : Int) ≤ (y : Int) := by omega
      rw [go_loop]
      generalize ([.seq sF0l1, .seq sF0l2] : List Fr) = FF at *
      simp only [h1, h15, hy', wk, wk1, wk2, Option.some.injEq, exists_eq_left', decide_true, decide_false, seval, go_regionPw, pw_normal]
      refine K _ s y k acc ⟨?_, ?_, ?_, ?_, ?_, ?_, ?_, ?_, ?_⟩ hlt ?_ (by omega) hl hE hps ho
      any_goals simp only [h1, h3, h4, h10, h12, h13, h14, h15, h16, wk, wk1, wk2, Option.some.injEq, exists_eq_left', decide_true, decide_false, seval, go_regionPw, pw_normal]
      rw [← hR]; simp [hexGo, hlt]
    · have hy' : (16 : Int) ≤ (y : Int) := by omega
      obtain ⟨m, hm⟩ : ∃ m, m = 64 - k := ⟨_, rfl⟩
      have u1 : wrapF .i64 (((65 - k : Nat) : Int) - 1) = (m : Int) := by rw [wrap_i64 _ (by omega) (by omega)]; omega
      have k1 := and64 y hyb
      have m1 : ([48, 49, 50, 51, 52, 53, 54, 55, 56, 57, 97, 98, 99, 100, 101, 102, 103, 104, 105, 106, 107, 108, 109, 110, 111, 112, 113, 114, 115, 116, 117, 118, 119, 120, 121, 122] : List UInt8)[y % 16]? = some (hexD (y % 16)) := digs36_get _ (Nat.mod_lt _ (by omega))
      have s1 := shr64 y
      have hrow : rowH acc k = List.replicate (m + 1) (.int .u8 0) ++ acc.map fun b => .int .u8 (b.toNat : Int) := by unfold rowH; rw [show 65 - k = m + 1 by omega]
      have hset := row_set m (acc.map fun b => .int .u8 (b.toNat : Int)) (.int .u8 ((hexD (y % 16)).toNat : Int))
      rw [hrow] at ho
      have hix : m < 65 := by omega
      have hi1 : m + 1 ≤ 65 := by omega
      rw [go_loop]
      generalize ([.seq sF0l1, .seq sF0l2] : List Fr) = FF at *
      generalize hB : List.replicate (m + 1) (AV.int .u8 0) ++ acc.map (fun b => AV.int .u8 (b.toNat : Int)) = B at ho hset
      simp only [h1, h12, h13, h14, h15, h16, hy', u1, k1, m1, s1, hix, hi1, ho, hset, Nat.mul_one, wk, wk1, wk2, Option.some.injEq, exists_eq_left', decide_true, decide_false, seval, go_regionPw, pw_normal]
      refine ih (y / 16) (k + 1) (hexD (y % 16) :: acc) _ _ ?_ ?_ ?_ ?_ ?_ ⟨?_, ?_, ?_, ?_, ?_, ?_, ?_, ?_, ?_⟩ (hE.put hp0 hps _) ?_ ?_
      all_goals (try simp only [h1, h3, h4, h10, h12, h13, h14, h15, h16, wk, wk1, wk2, Option.some.injEq, exists_eq_left', decide_true, decide_false, seval, go_regionPw, pw_normal])
      all_goals clear K ih m1
      · rw [Nat.pow_succ] at hy; omega
      · omega
      · rw [← hR, hexGo.eq_def (f + 1 + 1)]; simp only [hlt, if_false]
      · omega
      · simp [hl]
      · rw [hm]
      · exact hps
      · unfold rowH; rw [show 65 - (k + 1) = m by omega]; rfl
theorem tz64_ran (hc : T 83 = some (.code ir83)) (s : St) (hp : PS s) : Ran T 83 [.int .u64 16] s fun v s' => v = .int .i64 4 ∧ s' = s := by
  refine ran_code hc (Nat.le_of_ble_eq_true rfl) ?_
  have ht := hp.tab
  simp only [pTab, Bool.and_eq_true] at ht
  obtain ⟨_, ht⟩ := ht
  split at ht
  · rename_i cs ho
    simp only [Bool.and_eq_true] at ht
    obtain ⟨h1, h2⟩ := ht
    have hl : cs.length = 64 := Nat.eq_of_beq_eq_true h1
    split at h2
    · rename_i v hv
      have e : v = .int .u8 4 := by
        cases v with
        | int k n => simp only [eqNat4, Bool.and_eq_true, decide_eq_true_eq] at h2; rw [h2.1, h2.2]
        | _ => cases h2
      subst e
      have a1 : binV .and (.int .u64 16) (.int .u64 18446744073709551600) = some (.int .u64 16) := by kernel_rfl
      have a2 : binV .mul (.int .u64 16) (.int .u64 285870213051353865) = some (.int .u64 4573923408821661840) := by kernel_rfl
      have a3 : binV .shr (.int .u64 4573923408821661840) (.int .u64 58) = some (.int .u64 15) := by kernel_rfl
      have a4 : List.take 1 (List.drop 15 cs) = [.int .u8 4] := by
        have h15 : 15 < cs.length := by omega
        rw [List.drop_eq_getElem_cons h15, List.take_succ_cons, List.take_zero]
        rw [List.getElem?_eq_getElem h15] at hv
        rw [Option.some.inj hv]
      have a5 : wrapF .i64 4 = 4 := by kernel_rfl
      simp only [ir83, a1, a2, a3, a4, a5, ho, hv, wk, wk1, wk2, Option.some.injEq, exists_eq_left', decide_true, decide_false, seval, go_regionPw, pw_normal]
    · cases h2
  · cases ht
theorem tz_ran (hc : T 79 = some (.code ir79)) (h64 : T 83 = some (.code ir83)) (s : St) (hp : PS s) : Ran T 79 [.int .u64 16] s fun v s' => v = .int .i64 4 ∧ s' = s := by
  refine ran_code hc (Nat.le_of_ble_eq_true rfl) ?_
  simp only [ir79, wk, wk1, wk2, Option.some.injEq, exists_eq_left', decide_true, decide_false, seval, go_regionPw, pw_normal]
  refine goCall_by (tz64_ran h64 s hp) ?_
  rintro v s' ⟨rfl, rfl⟩
  simp only [wk, wk1, wk2, Option.some.injEq, exists_eq_left', decide_true, decide_false, seval, go_regionPw, pw_normal]
theorem sa_lo (s : St) (p m : Nat) (cs : List AV) (hm : m < 65) (ho : s.heap.get p = some (.cells cs 0 0 false)) : sliceArrV s 65 1 (.ptr ⟨p, 0, 0, 65⟩) (some (.int .i64 (m : Int))) none none = some (.slice ⟨p, m, 0, 65⟩ (65 - m) (65 - m) true 1) := by
  unfold sliceArrV St.readAt
  simp only [ho]
  show (match (if 0 ≤ 0 ∧ 0 ≤ 0 ∧ 0 + 65 * 1 ≤ 65 then some ((cs.drop 0).take (65 * 1)) else none) with
    | some _ => sliceSlV 1 (.slice ⟨p, 0, 0, 65⟩ 65 65 true 1) (some (.int .i64 (m : Int))) none none
    | none => none) = _
  rw [if_pos (by omega)]
  have hm' : m ≤ 65 := by omega
  simp [sliceSlV, sliceBd, hm']
  intro h; omega
set_option maxHeartbeats 4000000 in
theorem fb_ran (hc : T 69 = some (.code ir69)) (hpw : T 78 = some (.code ir78)) (ht : T 79 = some (.code ir79)) (h64 : T 83 = some (.code ir83)) (s : St) (hp : PS s) (x : Nat) (hx : x < 18446744073709551616) :
    Ran T 69 [.nilSlice, .int .u64 (x : Int), .int .i64 16, .bool false, .bool false] s fun v s' => v = .tuple [.nilSlice, .str (hexN x)] ∧ Ext s s' := by
  refine ran_code hc (Nat.le_of_ble_eq_true rfl) ?_
  generalize hQ : Fin _ _ = Q
  have hp1 := ps_add hp (.cells (rowH [] 0) 0 0 false)
  have hz : [AV.int .u8 0, AV.int .u8 0, AV.int .u8 0, AV.int .u8 0, AV.int .u8 0, AV.int .u8 0, AV.int .u8 0, AV.int .u8 0, AV.int .u8 0, AV.int .u8 0, AV.int .u8 0, AV.int .u8 0, AV.int .u8 0, AV.int .u8 0, AV.int .u8 0, AV.int .u8 0, AV.int .u8 0, AV.int .u8 0, AV.int .u8 0, AV.int .u8 0, AV.int .u8 0, AV.int .u8 0, AV.int .u8 0, AV.int .u8 0, AV.int .u8 0, AV.int .u8 0, AV.int .u8 0, AV.int .u8 0, AV.int .u8 0, AV.int .u8 0, AV.int .u8 0, AV.int .u8 0, AV.int .u8 0, AV.int .u8 0, AV.int .u8 0, AV.int .u8 0, AV.int .u8 0, AV.int .u8 0, AV.int .u8 0, AV.int .u8 0, AV.int .u8 0, AV.int .u8 0, AV.int .u8 0, AV.int .u8 0, AV.int .u8 0, AV.int .u8 0, AV.int .u8 0, AV.int .u8 0, AV.int .u8 0, AV.int .u8 0, AV.int .u8 0, AV.int .u8 0, AV.int .u8 0, AV.int .u8 0, AV.int .u8 0, AV.int .u8 0, AV.int .u8 0, AV.int .u8 0, AV.int .u8 0, AV.int .u8 0, AV.int .u8 0, AV.int .u8 0, AV.int .u8 0, AV.int .u8 0, AV.int .u8 0] = rowH [] 0 := rfl
  have LL := fb_loop (T := T) (Q := Q) (s0 := s) (p := s.next) (Nat.le_refl _) (R := hexN x) ?_ 19 x 0 []
  · simp only [ir69, wk, wk1, wk2, Option.some.injEq, exists_eq_left', decide_true, decide_false, seval, go_regionPw, pw_normal]
    rw [hz]
    refine goCall_by (pow_ran hpw _) ?_
    rintro v s1 ⟨rfl, rfl⟩
    simp only [wk, wk1, wk2, Option.some.injEq, exists_eq_left', decide_true, decide_false, seval, go_regionPw, pw_normal]
    refine goCall_by (tz_ran ht h64 _ hp1) ?_
    rintro v s1 ⟨rfl, rfl⟩
    simp only [wk, wk1, wk2, Option.some.injEq, exists_eq_left', decide_true, decide_false, seval, go_regionPw, pw_normal]
    refine LL _ _ ?_ hx rfl (by omega) rfl ⟨?_, ?_, ?_, ?_, ?_, ?_, ?_, ?_, ?_⟩ ?_ ?_ ?_
    all_goals clear hz LL
    · exact Nat.lt_of_lt_of_le hx (by decide)
    all_goals (try simp only [wk, wk1, wk2, Option.some.injEq, exists_eq_left', decide_true, decide_false, seval, go_regionPw, pw_normal])
    · exact .add (.refl hp.wf) _
    · omega
  · rintro e s1 y k acc ⟨h1, h3, h4, h10, h12, h13, h14, h15, h16⟩ hy hR hk hl hE hps ho
    clear hz
    obtain ⟨m, hm⟩ : ∃ m, m = 64 - k := ⟨_, rfl⟩
    have u1 : wrapF .i64 (((65 - k : Nat) : Int) - 1) = (m : Int) := by rw [wrap_i64 _ (by omega) (by omega)]; omega
    have m1 : ([48, 49, 50, 51, 52, 53, 54, 55, 56, 57, 97, 98, 99, 100, 101, 102, 103, 104, 105, 106, 107, 108, 109, 110, 111, 112, 113, 114, 115, 116, 117, 118, 119, 120, 121, 122] : List UInt8)[y]? = some (hexD y) := digs36_get _ hy
    have hrow : rowH acc k = List.replicate (m + 1) (.int .u8 0) ++ acc.map fun b => .int .u8 (b.toNat : Int) := by unfold rowH; rw [show 65 - k = m + 1 by omega]
    have hset := row_set m (acc.map fun b => .int .u8 (b.toNat : Int)) (.int .u8 ((hexD y).toNat : Int))
    rw [hrow] at ho
    have hix : m < 65 := by omega
    have hi1 : m + 1 ≤ 65 := by omega
    generalize hB : List.replicate (m + 1) (AV.int .u8 0) ++ acc.map (fun b => AV.int .u8 (b.toNat : Int)) = B at ho hset
    simp only [h1, h3, h4, h10, h12, h13, h14, h15, h16, u1, m1, hix, hi1, ho, hset, Nat.mul_one, wk, wk1, wk2, Option.some.injEq, exists_eq_left', decide_true, decide_false, seval, go_regionPw, pw_normal]
    have hl2 : (List.replicate m (AV.int .u8 0) ++ AV.int .u8 ((hexD y).toNat : Int) :: acc.map (fun b => AV.int .u8 (b.toNat : Int))).length = 65 := by simp [hl]; omega
    have hg : (s1.put s.next (.cells (List.replicate m (AV.int .u8 0) ++ AV.int .u8 ((hexD y).toNat : Int) :: acc.map (fun b => AV.int .u8 (b.toNat : Int))) 0 0 false)).heap.get s.next = some (.cells (List.replicate m (AV.int .u8 0) ++ AV.int .u8 ((hexD y).toNat : Int) :: acc.map (fun b => AV.int .u8 (b.toNat : Int))) 0 0 false) := by rw [put_get, if_pos rfl]
    rw [sa_lo _ _ _ _ hix hg]
    simp only [wk, wk1, wk2, Option.some.injEq, exists_eq_left', decide_true, decide_false, seval, go_regionPw, pw_normal]
    refine (wo_bytesStr (a := ⟨s.next, m, 0, 65⟩) (len := 65 - m) (c := 65 - m) (ex := true) (bs := hexD y :: acc) (row := (hexD y :: acc).map fun b => .int .u8 (b.toNat : Int)) (by simp only [wk, wk1, wk2, Option.some.injEq, exists_eq_left', decide_true, decide_false, seval, go_regionPw, pw_normal]) ?_ (bytesAV_map (hexD y :: acc))).2 ?_
    · unfold St.readAt
      rw [hg]
      show (if 0 ≤ 0 ∧ 0 ≤ 0 ∧ m + (65 - m) ≤ 65 then some _ else none) = _
      rw [if_pos (by omega), List.drop_append_of_le_length (by simp), List.drop_replicate, Nat.sub_self]
      rw [List.take_of_length_le (by simp [hl]; omega)]
      rfl
    · subst hQ
      simp only [ir69, h10, hR, wk, wk1, wk2, Option.some.injEq, exists_eq_left', decide_true, decide_false, seval, go_regionPw, pw_normal]
      exact hE.put (Nat.le_refl _) hps _
theorem fmt16_ran (hc : T 30 = some (.code ir30)) (hi : T 50 = some (.code ir50)) (hb : T 69 = some (.code ir69)) (hpw : T 78 = some (.code ir78)) (ht : T 79 = some (.code ir79)) (h64 : T 83 = some (.code ir83)) (s : St) (hp : PS s) (x : Nat) (hx : x ≤ 9223372036854775807) :
    Ran T 30 [.int .i64 (x : Int), .int .i64 16] s fun v s' => v = .str (hexN x) ∧ Ext s s' := by
  refine ran_code hc (Nat.le_of_ble_eq_true rfl) ?_
  have hn : ¬ (x : Int) < 0 := by omega
  have u1 : wrapF .u64 (x : Int) = (x : Int) := wrap_in .u64 _ (by simp [IntKind.min, IntKind.signed]) (by simp [IntKind.max, IntKind.signed, IntKind.bits]; omega)
  simp only [ir30, wk, wk1, wk2, Option.some.injEq, exists_eq_left', decide_true, decide_false, seval, go_regionPw, pw_normal]
  refine goCall_by (K := fun v s' => v = .str (hexN x) ∧ Ext s s') ?_ ?_
  · refine ran_code hi (Nat.le_of_ble_eq_true rfl) ?_
    simp only [ir50, hn, u1, wk, wk1, wk2, Option.some.injEq, exists_eq_left', decide_true, decide_false, seval, go_regionPw, pw_normal]
    refine goCall_by (fb_ran hb hpw ht h64 s hp x (by omega)) ?_
    rintro v s1 ⟨rfl, hE⟩
    simp only [wk, wk1, wk2, Option.some.injEq, exists_eq_left', decide_true, decide_false, seval, go_regionPw, pw_normal]
    exact hE
  · rintro v s1 ⟨rfl, hE⟩
    simp only [wk, wk1, wk2, Option.some.injEq, exists_eq_left', decide_true, decide_false, seval, go_regionPw, pw_normal]
    exact hE
def hexT (args : List AV) : Option AV := match args with
  | [.int .i64 (.ofNat x), .int .i64 16] => match Nat.ble x 9223372036854775807 with
    | true => some (.str (hexN x))
    | false => none
  | _ => none
theorem hexT_ok (hc : T 30 = some (.code ir30)) (hi : T 50 = some (.code ir50)) (hb : T 69 = some (.code ir69)) (hpw : T 78 = some (.code ir78)) (ht : T 79 = some (.code ir79)) (h64 : T 83 = some (.code ir83)) (args : List AV) (v : AV) (hv : hexT args = some v) :
    plain v = true ∧ ∀ s, WFS s → pTab s.heap = true → Ran T 30 args s fun v' s' => v' = v ∧ Ext s s' := by
  unfold hexT at hv
  split at hv
  · rename_i x
    split at hv
    · rename_i hx
      cases hv
      exact ⟨rfl, fun s hs hp => fmt16_ran hc hi hb hpw ht h64 s ⟨hs, hp⟩ x (Nat.le_of_ble_eq_true hx)⟩
    · cases hv
  · cases hv
/-- FormatInt to base 10, out of the shelf, and to base 16. -/
def fmt2 (args : List AV) (s : St) : Option (AV × St) := match args with
  | [.int .i64 (.ofNat x), .int .i64 16] => gateH pTab hexT [.int .i64 (.ofNat x), .int .i64 16] s
  | _ => fmtH 0 args s
theorem fmt2_16 (x : Nat) (h : x ≤ 9223372036854775807) (s : St) (hs : PS s) : fmt2 [.int .i64 (x : Int), .int .i64 16] s = some (.str (hexN x), s) := by
  show gateH pTab hexT [.int .i64 (.ofNat x), .int .i64 16] s = _
  exact gate_eq _ _ (by simp only [hexT, Nat.ble_eq_true_of_le h]) s hs
theorem fmt2_10 (n : Int) (h1 : -9223372036854775808 ≤ n) (h2 : n ≤ 9223372036854775807) (s : St) (hs : PS s) : fmt2 [.int .i64 n, .int .i64 10] s = some (.str (Lib.itoa n), s) := by
  rw [← fmt_eq n h1 h2 s hs]
  unfold fmt2
  split
  · rename_i h; simp at h
  · rfl
theorem fmt2_entry {P : Prog} {f : Nat} (h1 : EntryOk2 P f (.hook (fmtH 0))) (h2 : EntryOk2 P f (.hook (gateH pTab hexT))) : EntryOk2 P f (.hook fmt2) := by
  cases h1 with
  | old e => exact e.elim
  | hook a1 b1 =>
    cases h2 with
    | old e => exact e.elim
    | hook a2 b2 =>
      have key : ∀ args, fmt2 args = gateH pTab hexT args ∨ fmt2 args = fmtH 0 args := by
        intro args
        by_cases hq : ∃ x, args = [.int .i64 (.ofNat x), .int .i64 16]
        · obtain ⟨x, rfl⟩ := hq; exact .inl rfl
        · right
          funext s
          unfold fmt2
          split
          · rename_i x; exact absurd ⟨x, rfl⟩ hq
          · rfl
      refine .hook (fun args => ?_) (fun args => ?_)
      · rcases key args with e | e
        · exact fun s r hr => a2 args s r (by rw [← hr]; show _ = ofBoth (fmt2 args s); rw [e])
        · exact fun s r hr => a1 args s r (by rw [← hr]; show _ = ofBoth (fmt2 args s); rw [e])
      · rcases key args with e | e
        · have := b2 args; rw [← e] at this; exact this
        · have := b1 args; rw [← e] at this; exact this
end
end Go.V
/- show: imm, condition, place, store, right. -/
namespace Go.V
open Go
set_option linter.unusedSimpArgs false
set_option linter.unusedVariables false
open Z in def ir53 : IFunc := ⟨26,[.tmp 0],(q (R [(o 0 (.move (.c .nilMap)))]) (q (R [(o 1 .mkMap),(o 2 (.build [(s [])] [(0,1,(sc [97,100,100]))])),(n (.mapSet (.int .u8) t1 (B 2) t2)),(o 3 (.build [(s [])] [(0,1,(sc [115,117,98]))])),(n (.mapSet (.int .u8) t1 (B 3) t3)),(o 4 (.build [(s [])] [(0,1,(sc [97,110,100]))])),(n (.mapSet (.int .u8) t1 (B 4) t4)),(o 5 (.build [(s [])] [(0,1,(sc [111,114]))])),(n (.mapSet (.int .u8) t1 (B 5) t5)),(o 6 (.build [(s [])] [(0,1,(sc [120,111,114]))])),(n (.mapSet (.int .u8) t1 (B 6) t6)),(o 7 (.build [(s [])] [(0,1,(sc [97,100,100]))])),(n (.mapSet (.int .u8) t1 (B 7) t7)),(o 8 (.build [(s [])] [(0,1,(sc [99,109,112,46,101,113]))])),(n (.mapSet (.int .u8) t1 (B 10) t8)),(o 9 (.build [(s [])] [(0,1,(sc [99,109,112,46,103,116]))])),(n (.mapSet (.int .u8) t1 (B 11) t9)),(o 10 (.build [(s [])] [(0,1,(sc [99,109,112,46,103,116,117]))])),(n (.mapSet (.int .u8) t1 (B 12) t10)),(o 11 (.build [(s [])] [(0,1,(sc [99,109,112,46,101,113]))])),(n (.mapSet (.int .u8) t1 (B 13) t11)),(o 12 (.build [(s [])] [(0,1,(sc [109,117,120]))])),(n (.mapSet (.int .u8) t1 (B 14) t12)),(o 13 (.build [(s [])] [(0,1,(sc [97,115,108]))])),(n (.mapSet (.int .u8) t1 (B 15) t13)),(o 14 (.build [(s [])] [(0,1,(sc [108,115,114]))])),(n (.mapSet (.int .u8) t1 (B 16) t14)),(o 15 (.build [(s [])] [(0,1,(sc [97,115,114]))])),(n (.mapSet (.int .u8) t1 (B 17) t15)),(o 16 (.build [(s [])] [(0,1,(sc [109,112,121]))])),(n (.mapSet (.int .u8) t1 (B 18) t16)),(o 17 (.build [(s [])] [(0,1,(sc [99,109,112,121]))])),(n (.mapSet (.int .u8) t1 (B 19) t17)),(o 18 (.build [(s [])] [(0,1,(sc [99,109,112,121,99]))])),(n (.mapSet (.int .u8) t1 (B 20) t18)),(o 19 (.build [(s [])] [(0,1,(sc [109,101,109,119]))])),(n (.mapSet (.int .u8) t1 (B 21) t19)),(o 20 (.build [(s [])] [(0,1,(sc [109,101,109,104]))])),(n (.mapSet (.int .u8) t1 (B 22) t20)),(o 21 (.build [(s [])] [(0,1,(sc [109,101,109,98]))])),(n (.mapSet (.int .u8) t1 (B 23) t21)),(o 22 (.build [(s [])] [(0,1,(sc [109,101,109,119]))])),(n (.mapSet (.int .u8) t1 (B 24) t22)),(o 23 (.build [(s [])] [(0,1,(sc [109,101,109,104]))])),(n (.mapSet (.int .u8) t1 (B 25) t23)),(o 24 (.build [(s [])] [(0,1,(sc [109,101,109,98]))])),(n (.mapSet (.int .u8) t1 (B 26) t24)),(m 25 1),(m 0 25)]) .ret))⟩
open Z in def ir54 : IFunc := ⟨13,[.tmp 2],(q (R [(o 1 (.box t0)),(o 2 (.move (sc [])))]) (q (R [(f 4 10 1),(l 5 1 4),(o 6 (.call 30 [t5,(I 10)])),(o 7 (.bin .add (sc [35]) t6)),(m 3 7)]) (q (q (R [(f 8 8 1),(l 9 1 8)]) (.cond t9 (q (R [(m 10 3),(o 11 (.bin .add (sc [35]) t10)),(m 2 11)]) .ret) .skip)) (q (R [(m 12 3),(m 2 12)]) .ret))))⟩
open Z in def ir18 : IFunc := ⟨24,[.tmp 2],(q (R [(o 1 (.box t0)),(o 2 (.move (sc [])))]) (q (R [(o 3 (.move (sc []))),(o 4 (.move (sc [])))]) (q (q (R [(f 5 6 1),(l 6 1 5)]) (.block 0 (q (R [(o 8 (.bin .eql t6 (B 0))),(m 7 8)]) (.cond t7 (q (R [(o 2 (.move (sc [])))]) .ret) (q (q (R [(o 10 (.bin .eql t6 (B 2))),(m 9 10)]) (.cond t9 .skip (R [(o 11 (.bin .eql t6 (B 4))),(m 9 11)]))) (.cond t9 (R [(o 3 (.move (sc [33])))]) .skip)))))) (q (q (R [(f 12 6 1),(l 13 1 12),(o 14 (.bin .geq t13 (B 3)))]) (.cond t14 (R [(o 4 (.move (sc [46,110,101,119])))]) .skip)) (q (R [(m 15 3),(o 16 (.bin .add (sc [105,102,32,40]) t15)),(f 17 5 1),(l 18 1 17),(o 19 (.call 31 [t18])),(o 20 (.bin .add t16 t19)),(m 21 4),(o 22 (.bin .add t20 t21)),(o 23 (.bin .add t22 (sc [41,32]))),(m 2 23)]) .ret)))))⟩
open Z in def ir37 : IFunc := ⟨18,[.tmp 2],(q (R [(o 1 (.box t0)),(o 2 (.move (sc [])))]) (q (.regionP [(f 4 0 1),(l 5 1 4),(f 9 2 1),(l 10 1 9),(la 14 11 1),⟨some 3,none,[t4,t9,t1],(.call 53 [])⟩,(o 6 (.lookup (.int .u8) (.agg [(s [])]) false t3 t5)),(o 7 (.field 0 1 false t6)),(o 8 (.bin .add t7 (sc [40]))),⟨some 11,none,[t4,t1,t3],(.call 36 [t10])⟩,(o 12 (.bin .add t8 t11)),(o 13 (.bin .add t12 (sc [43]))),⟨some 15,none,[t4,t3],(.call 54 [t14])⟩,(o 16 (.bin .add t13 t15)),(o 17 (.bin .add t16 (sc [41]))),(m 2 17)]) .ret))⟩
open Z in def ir35 : IFunc := ⟨16,[.tmp 2],(q (R [(o 1 (.box t0)),(o 2 (.move (sc [])))]) (q (.regionP [(la 4 11 1),(f 7 3 1),(l 8 1 7),⟨some 5,none,[t7],(.call 37 [t4])⟩,(o 6 (.bin .add t5 (sc [32,61,32]))),(o 9 (.call 36 [t8])),(o 10 (.bin .add t6 t9)),(m 3 10)]) (q (q (R [(f 11 7 1),(l 12 1 11)]) (.cond t12 (R [(m 13 3),(o 14 (.bin .add t13 (sc [46,110,101,119]))),(m 3 14)]) .skip)) (q (R [(m 15 3),(m 2 15)]) .ret))))⟩
open Z in def ir38 : IFunc := ⟨55,[.tmp 2],(q (R [(o 1 (.box t0)),(o 2 (.move (sc [])))]) (q (R [(f 4 2 1),(l 5 1 4),(o 6 (.call 36 [t5])),(m 3 6)]) (q (q (R [(f 7 0 1),(l 8 1 7)]) (.block 0 (q (R [(o 16 (.bin .eql t8 (B 9))),(m 15 16)]) (.cond t15 (q (R [(m 17 3),(m 2 17)]) .ret) (q (R [(o 19 (.bin .eql t8 (B 8))),(m 18 19)]) (.cond t18 (q (R [(la 20 11 1),(o 21 (.call 54 [t20])),(m 2 21)]) .ret) (q (q (R [(o 23 (.bin .eql t8 (B 7))),(m 22 23)]) (.cond t22 .skip (q (R [(o 24 (.bin .eql t8 (B 13))),(m 22 24)]) (.cond t22 .skip (q (R [(o 25 (.bin .eql t8 (B 15))),(m 22 25)]) (.cond t22 .skip (q (R [(o 26 (.bin .eql t8 (B 16))),(m 22 26)]) (.cond t22 .skip (R [(o 27 (.bin .eql t8 (B 17))),(m 22 27)]))))))))) (.cond t22 (R [(m 28 3),(la 29 11 1),(o 30 (.call 54 [t29])),(o 31 (.bin .add (sc [44]) t30)),(o 32 (.bin .add t28 t31)),(m 3 32)]) (q (R [(o 34 (.bin .eql t8 (B 14))),(m 33 34)]) (.cond t33 (.regionP [(f 35 5 1),(l 36 1 35),(m 39 3),(f 42 3 1),(l 43 1 42),⟨some 37,none,[t42],(.call 31 [t36])⟩,(o 38 (.bin .add t37 (sc [44]))),(o 40 (.bin .add t38 t39)),(o 41 (.bin .add t40 (sc [44]))),(o 44 (.call 36 [t43])),(o 45 (.bin .add t41 t44)),(m 3 45)]) (R [(m 9 3),(f 10 3 1),(l 11 1 10),(o 12 (.call 36 [t11])),(o 13 (.bin .add (sc [44]) t12)),(o 14 (.bin .add t9 t13)),(m 3 14)]))))))))))) (q (.regionP [(f 47 0 1),(l 48 1 47),(m 52 3),⟨some 46,none,[t47],(.call 53 [])⟩,(o 49 (.lookup (.int .u8) (.agg [(s [])]) false t46 t48)),(o 50 (.field 0 1 false t49)),(o 51 (.bin .add t50 (sc [40]))),(o 53 (.bin .add t51 t52)),(o 54 (.bin .add t53 (sc [41]))),(m 2 54)]) .ret))))⟩
def wordsL : List (Int × List UInt8) := [(2, [97, 100, 100]), (3, [115, 117, 98]), (4, [97, 110, 100]), (5, [111, 114]), (6, [120, 111, 114]), (7, [97, 100, 100]), (10, [99, 109, 112, 46, 101, 113]), (11, [99, 109, 112, 46, 103, 116]), (12, [99, 109, 112, 46, 103, 116, 117]), (13, [99, 109, 112, 46, 101, 113]), (14, [109, 117, 120]), (15, [97, 115, 108]), (16, [108, 115, 114]), (17, [97, 115, 114]), (18, [109, 112, 121]), (19, [99, 109, 112, 121]), (20, [99, 109, 112, 121, 99]), (21, [109, 101, 109, 119]), (22, [109, 101, 109, 104]), (23, [109, 101, 109, 98]), (24, [109, 101, 109, 119]), (25, [109, 101, 109, 104]), (26, [109, 101, 109, 98])]
def wEs : List (Int × List UInt8) → Nat → List AEntry
  | [], _ => []
  | (k, t) :: l, i => ⟨.int .u8 k, .agg [.str t], i⟩ :: wEs l (i + 1)
def wAt (op : Int) : List (Int × List UInt8) → List UInt8
  | [] => []
  | (k, t) :: l => if op = k then t else wAt op l
def wordS (op : Int) : List UInt8 := wAt op wordsL
theorem wAt_len (op : Int) : ∀ l : List (Int × List UInt8), (∀ x ∈ l, x.2.length ≤ 7) → (wAt op l).length ≤ 7
  | [], _ => by simp [wAt]
  | (k, t) :: l, h => by
    unfold wAt
    split
    · exact h _ List.mem_cons_self
    · exact wAt_len op l fun x hx => h x (List.mem_cons_of_mem _ hx)
theorem wordS_len (op : Int) : (wordS op).length ≤ 7 := wAt_len op _ (by decide)
theorem wFind (op : Int) : ∀ (l : List (Int × List UInt8)) (i j : Nat), (findV (.int .u8) (.int .u8 op) (wEs l i) j).map (lookRes (.agg [.str []]) false) = some (.agg [.str (wAt op l)])
  | [], i, j => rfl
  | (k, t) :: l, i, j => by
    simp only [wEs, findV, keyEq, if_true, wAt]
    by_cases h : op = k
    · simp only [h, decide_true, if_true]; rfl
    · simp only [h, decide_false, if_false]; exact wFind op l (i + 1) (j + 1)
theorem look_words (op : Int) : lookIn (.int .u8) (.agg [.str []]) false (.int .u8 op) (wEs wordsL 0) = some (.agg [.str (wordS op)]) := by
  have := wFind op wordsL 0 0
  unfold lookIn
  cases h : findV (.int .u8) (.int .u8 op) (wEs wordsL 0) 0 with
  | none => rw [h] at this; cases this
  | some r => rw [h] at this; exact this
def wordsG (args : List AV) : Option (AV × List AObj) := match args with
  | [] => some (.map 0, [.map (wEs wordsL 0) 23])
  | _ => none
theorem wEs_sh (d : Nat) : ∀ (l : List (Int × List UInt8)) (i : Nat), shEnts d (wEs l i) = wEs l i
  | [], _ => rfl
  | (k, t) :: l, i => by
    simp only [wEs, shEnts, wEs_sh d l (i + 1), AV.sh, AV.shs]
theorem words_eq (s : St) : litH wordsG [] s = some (.map s.next, s.add (.map (wEs wordsL 0) 23)) := by
  simp only [litH, wordsG, addAll, AObj.sh, wEs_sh]
  simp [AV.sh]
def lookO (o : Option AObj) (op : Int) : Option AV := match o with
  | some (.map es _) => lookIn (.int .u8) (.agg [.str []]) false (.int .u8 op) es
  | _ => none
theorem lookW (s : St) (i : Nat) (op : Int) : lookupV s (.int .u8) (.agg [.str []]) false (.map i) (.int .u8 op) = lookO (s.heap.get i) op := rfl
theorem lookWs (op : Int) : lookO (some (.map (wEs wordsL 0) 23)) op = some (.agg [.str (wordS op)]) := look_words op
def immS (i : In) : List UInt8 := if i.ext = true then 35 :: 35 :: Lib.itoa i.imm else 35 :: Lib.itoa i.imm
def condS (i : In) : List UInt8 := if i.mode = 0 then [] else [105, 102, 32, 40] ++ ((if i.mode = 2 ∨ i.mode = 4 then [33] else []) ++ (predS i.pred ++ ((if 3 ≤ i.mode then [46, 110, 101, 119] else []) ++ [41, 32])))
def placeS (i : In) : List UInt8 := wordS i.op ++ (40 :: (regS i.s ++ (43 :: (immS i ++ [41]))))
def storeS (i : In) : List UInt8 := placeS i ++ (32 :: 61 :: 32 :: (regS i.t ++ (if i.nw = true then [46, 110, 101, 119] else [])))
def argS (i : In) : List UInt8 := if i.op = 7 ∨ i.op = 13 ∨ i.op = 15 ∨ i.op = 16 ∨ i.op = 17 then regS i.s ++ (44 :: immS i) else if i.op = 14 then predS i.pred ++ (44 :: (regS i.s ++ (44 :: regS i.t))) else regS i.s ++ (44 :: regS i.t)
def rightS (i : In) : List UInt8 := if i.op = 9 then regS i.s else if i.op = 8 then immS i else wordS i.op ++ (40 :: (argS i ++ [41]))
theorem ok_imm {i : In} (h : i.ok = true) : isI64 i.imm = true := by
  simp only [In.ok, Bool.and_eq_true] at h; exact h.2.2.2.2.2.2.2.2.2
theorem ok_bytes {i : In} (h : i.ok = true) : isByte i.op = true ∧ isByte i.d = true ∧ isByte i.s = true ∧ isByte i.t = true ∧ isByte i.n = true ∧ isByte i.pred = true ∧ isByte i.mode = true ∧ isU16 i.count = true := by
  simp only [In.ok, Bool.and_eq_true] at h
  obtain ⟨a1, a2, a3, a4, a5, a6, a7, a8, a9, _⟩ := h
  exact ⟨a1, a2, a3, a4, a5, a6, a7, by simp only [isU16, a8, a9, Bool.and_self]⟩
theorem reg_len {n : Int} (h : isByte n = true) : (regS n).length ≤ 22 := by
  have := itoa_len (byte_i64 h)
  simp only [regS, List.length_cons]; omega
theorem pred_len {n : Int} (h : isByte n = true) : (predS n).length ≤ 22 := by
  have := itoa_len (byte_i64 h)
  simp only [predS, List.length_cons]; omega
theorem imm_len {i : In} (h : i.ok = true) : (immS i).length ≤ 23 := by
  have := itoa_len (ok_imm h)
  unfold immS
  split <;> simp only [List.length_cons] <;> omega
theorem place_len {i : In} (h : i.ok = true) : (placeS i).length ≤ 60 := by
  obtain ⟨_, _, h3, _⟩ := ok_bytes h
  have l1 := wordS_len i.op
  have l2 := reg_len h3
  have l3 := imm_len h
  simp only [placeS, List.length_append, List.length_cons, List.length_nil]; omega
theorem arg_len {i : In} (h : i.ok = true) : (argS i).length ≤ 70 := by
  obtain ⟨_, _, h3, h4, _, h6, _⟩ := ok_bytes h
  have l1 := reg_len h4
  have l2 := reg_len h3
  have l3 := imm_len h
  have l4 := pred_len h6
  unfold argS
  split
  · simp only [List.length_append, List.length_cons, List.length_nil]; omega
  · split <;> (simp only [List.length_append, List.length_cons, List.length_nil]; omega)
/-- A function of an instruction. -/
def inT (r : In → List UInt8) (args : List AV) : Option AV := match args with
  | [x] => match getIn x with
    | some i => match i.ok with
      | true => some (.str (r i))
      | false => none
    | none => none
  | _ => none
theorem getIn_cells (i : In) : getIn (.agg i.cells) = some i := rfl
theorem inT_ok {T : Tab} {f : FuncId} {r : In → List UInt8} (h : ∀ s, PS s → ∀ i : In, i.ok = true → Ran T f [.agg i.cells] s fun v s' => v = .str (r i) ∧ Ext s s') (args : List AV) (v : AV) (hv : inT r args = some v) :
    plain v = true ∧ ∀ s, WFS s → pTab s.heap = true → Ran T f args s fun v' s' => v' = v ∧ Ext s s' := by
  unfold inT at hv
  split at hv
  · rename_i x
    split at hv
    · rename_i i hx
      split at hv
      · rename_i hi
        cases hv
        rw [getIn_eq hx]
        exact ⟨rfl, fun s hs hp => h s ⟨hs, hp⟩ i hi⟩
      · cases hv
    · cases hv
  · cases hv
theorem in_eq (r : In → List UInt8) (i : In) (h : i.ok = true) (s : St) (hs : PS s) : gateH pTab (inT r) [.agg i.cells] s = some (.str (r i), s) := gate_eq _ _ (by simp only [inT, getIn_cells, h]) s hs
section
variable {T : Tab}
theorem imm_ran (hc : T 54 = some (.code ir54)) (hf : T 30 = some (.hook fmt2)) (s : St) (hp : PS s) (i : In) (hi : i.ok = true) :
    Ran T 54 [.agg i.cells] s fun v s' => v = .str (immS i) ∧ Ext s s' := by
  refine ran_code hc (Nat.le_of_ble_eq_true rfl) ?_
  have hs := hp.wf
  have ho := ok_imm hi
  obtain ⟨b1, b2, b3, b4, b5, b6, b7, b8⟩ := ok_bytes hi
  have k1 := goCall_hook hf
  have q1 := fmt2_10 i.imm (isI64_iff.1 ho).1 (isI64_iff.1 ho).2
  have l1 := itoa_len ho
  generalize hQ : Fin _ _ = Q
  simp (disch := first | assumption | ((repeat (apply ps_add)); assumption) | ((try simp only [List.length_append, List.length_cons, List.length_nil]); omega)) only [ir54, In.cells, k1, q1, if_pos, goR_watch, watch_cons, watch_nil, wat_ptr, wat_map, sameObj_refl, Bool.and_self, true_and, wk, wk1, wk2, Option.some.injEq, exists_eq_left', decide_true, decide_false, seval, go_regionPw, pw_normal]
  repeat' ((first | refine goC_split (fun h => ?_) (fun h => ?_) | refine goG_split_t (fun h => ?_) (fun h => ?_) | refine goG_split_f (fun h => ?_) (fun h => ?_)) <;> (try simp only [Bool.not_eq_true', Bool.not_eq_false'] at h) <;> (try simp (disch := first | assumption | ((repeat (apply ps_add)); assumption) | ((try simp only [List.length_append, List.length_cons, List.length_nil]); omega)) only [h, In.cells, k1, q1, if_pos, goR_watch, watch_cons, watch_nil, wat_ptr, wat_map, sameObj_refl, Bool.and_self, true_and, wk, wk1, wk2, Option.some.injEq, exists_eq_left', decide_true, decide_false, seval, go_regionPw, pw_normal]))
  all_goals subst hQ
  all_goals simp only [ir54, wk, wk1, wk2, Option.some.injEq, exists_eq_left', decide_true, decide_false, seval, go_regionPw, pw_normal]
  all_goals refine ⟨?_, by (repeat (first | exact Ext.refl hs | refine Ext.add ?_ _))⟩
  all_goals simp_all [immS]
theorem condition_ran (hc : T 18 = some (.code ir18)) (hp' : T 31 = some (.hook (gateH pTab (byteT predS)))) (s : St) (hp : PS s) (i : In) (hi : i.ok = true) :
    Ran T 18 [.agg i.cells] s fun v s' => v = .str (condS i) ∧ Ext s s' := by
  refine ran_code hc (Nat.le_of_ble_eq_true rfl) ?_
  have hs := hp.wf
  have ho := ok_imm hi
  obtain ⟨b1, b2, b3, b4, b5, b6, b7, b8⟩ := ok_bytes hi
  have k1 := goCall_hook hp'
  have q1 := byte_eq predS i.pred b6
  have l1 := pred_len b6
  generalize hQ : Fin _ _ = Q
  simp (disch := first | assumption | ((repeat (apply ps_add)); assumption) | ((try simp only [List.length_append, List.length_cons, List.length_nil]); omega)) only [ir18, In.cells, k1, q1, if_pos, goR_watch, watch_cons, watch_nil, wat_ptr, wat_map, sameObj_refl, Bool.and_self, true_and, wk, wk1, wk2, Option.some.injEq, exists_eq_left', decide_true, decide_false, seval, go_regionPw, pw_normal]
  repeat' ((first | refine goC_split (fun h => ?_) (fun h => ?_) | refine goG_split_t (fun h => ?_) (fun h => ?_) | refine goG_split_f (fun h => ?_) (fun h => ?_)) <;> (try simp only [Bool.not_eq_true', Bool.not_eq_false'] at h) <;> (try simp (disch := first | assumption | ((repeat (apply ps_add)); assumption) | ((try simp only [List.length_append, List.length_cons, List.length_nil]); omega)) only [h, In.cells, k1, q1, if_pos, goR_watch, watch_cons, watch_nil, wat_ptr, wat_map, sameObj_refl, Bool.and_self, true_and, wk, wk1, wk2, Option.some.injEq, exists_eq_left', decide_true, decide_false, seval, go_regionPw, pw_normal]))
  all_goals subst hQ
  all_goals simp only [ir18, wk, wk1, wk2, Option.some.injEq, exists_eq_left', decide_true, decide_false, seval, go_regionPw, pw_normal]
  all_goals refine ⟨?_, by (repeat (first | exact Ext.refl hs | refine Ext.add ?_ _))⟩
  all_goals simp_all [condS]
theorem place_ran (hc : T 37 = some (.code ir37)) (hr : T 36 = some (.hook (gateH pTab (byteT regS))))(hm : T 54 = some (.hook (gateH pTab (inT immS))))(hw : T 53 = some (.hook (litH wordsG))) (s : St) (hp : PS s) (i : In) (hi : i.ok = true) :
    Ran T 37 [.agg i.cells] s fun v s' => v = .str (placeS i) ∧ Ext s s' := by
  refine ran_code hc (Nat.le_of_ble_eq_true rfl) ?_
  have hs := hp.wf
  have ho := ok_imm hi
  obtain ⟨b1, b2, b3, b4, b5, b6, b7, b8⟩ := ok_bytes hi
  have k1 := goCall_hook hr
  have k2 := goCall_hook hm
  have k3 := goCall_hook hw
  have q1 := byte_eq regS i.s b3
  have q2 := in_eq immS i hi
  have q3 := words_eq
  have l1 := reg_len b3
  have l2 := imm_len hi
  have l3 := wordS_len i.op
  simp only [In.cells] at q2
  generalize hQ : Fin _ _ = Q
  simp (disch := first | assumption | ((repeat (apply ps_add)); assumption) | ((try simp only [List.length_append, List.length_cons, List.length_nil]); omega)) only [ir37, In.cells, k1, k2, k3, q1, q2, q3, lookW, lookWs, if_pos, goR_watch, watch_cons, watch_nil, wat_ptr, wat_map, sameObj_refl, Bool.and_self, true_and, wk, wk1, wk2, Option.some.injEq, exists_eq_left', decide_true, decide_false, seval, go_regionPw, pw_normal]
  repeat' ((first | refine goC_split (fun h => ?_) (fun h => ?_) | refine goG_split_t (fun h => ?_) (fun h => ?_) | refine goG_split_f (fun h => ?_) (fun h => ?_)) <;> (try simp only [Bool.not_eq_true', Bool.not_eq_false'] at h) <;> (try simp (disch := first | assumption | ((repeat (apply ps_add)); assumption) | ((try simp only [List.length_append, List.length_cons, List.length_nil]); omega)) only [h, In.cells, k1, k2, k3, q1, q2, q3, lookW, lookWs, if_pos, goR_watch, watch_cons, watch_nil, wat_ptr, wat_map, sameObj_refl, Bool.and_self, true_and, wk, wk1, wk2, Option.some.injEq, exists_eq_left', decide_true, decide_false, seval, go_regionPw, pw_normal]))
  all_goals subst hQ
  all_goals simp only [ir37, wk, wk1, wk2, Option.some.injEq, exists_eq_left', decide_true, decide_false, seval, go_regionPw, pw_normal]
  all_goals refine ⟨?_, by (repeat (first | exact Ext.refl hs | refine Ext.add ?_ _))⟩
  all_goals simp_all [placeS]
theorem store_ran (hc : T 35 = some (.code ir35)) (hr : T 36 = some (.hook (gateH pTab (byteT regS))))(hl : T 37 = some (.hook (gateH pTab (inT placeS)))) (s : St) (hp : PS s) (i : In) (hi : i.ok = true) :
    Ran T 35 [.agg i.cells] s fun v s' => v = .str (storeS i) ∧ Ext s s' := by
  refine ran_code hc (Nat.le_of_ble_eq_true rfl) ?_
  have hs := hp.wf
  have ho := ok_imm hi
  obtain ⟨b1, b2, b3, b4, b5, b6, b7, b8⟩ := ok_bytes hi
  have k1 := goCall_hook hr
  have k2 := goCall_hook hl
  have q1 := byte_eq regS i.t b4
  have q2 := in_eq placeS i hi
  have l1 := reg_len b4
  have l2 := place_len hi
  simp only [In.cells] at q2
  generalize hQ : Fin _ _ = Q
  simp (disch := first | assumption | ((repeat (apply ps_add)); assumption) | ((try simp only [List.length_append, List.length_cons, List.length_nil]); omega)) only [ir35, In.cells, k1, k2, q1, q2, if_pos, goR_watch, watch_cons, watch_nil, wat_ptr, wat_map, sameObj_refl, Bool.and_self, true_and, wk, wk1, wk2, Option.some.injEq, exists_eq_left', decide_true, decide_false, seval, go_regionPw, pw_normal]
  repeat' ((first | refine goC_split (fun h => ?_) (fun h => ?_) | refine goG_split_t (fun h => ?_) (fun h => ?_) | refine goG_split_f (fun h => ?_) (fun h => ?_)) <;> (try simp only [Bool.not_eq_true', Bool.not_eq_false'] at h) <;> (try simp (disch := first | assumption | ((repeat (apply ps_add)); assumption) | ((try simp only [List.length_append, List.length_cons, List.length_nil]); omega)) only [h, In.cells, k1, k2, q1, q2, if_pos, goR_watch, watch_cons, watch_nil, wat_ptr, wat_map, sameObj_refl, Bool.and_self, true_and, wk, wk1, wk2, Option.some.injEq, exists_eq_left', decide_true, decide_false, seval, go_regionPw, pw_normal]))
  all_goals subst hQ
  all_goals simp only [ir35, wk, wk1, wk2, Option.some.injEq, exists_eq_left', decide_true, decide_false, seval, go_regionPw, pw_normal]
  all_goals refine ⟨?_, by (repeat (first | exact Ext.refl hs | refine Ext.add ?_ _))⟩
  all_goals simp_all [storeS]
theorem right_ran2 (hc : T 38 = some (.code ir38)) (hr : T 36 = some (.hook (gateH pTab (byteT regS))))(hp' : T 31 = some (.hook (gateH pTab (byteT predS))))(hm : T 54 = some (.hook (gateH pTab (inT immS))))(hw : T 53 = some (.hook (litH wordsG))) (s : St) (hp : PS s) (i : In) (hi : i.ok = true) :
    Ran T 38 [.agg i.cells] s fun v s' => v = .str (rightS i) ∧ Ext s s' := by
  refine ran_code hc (Nat.le_of_ble_eq_true rfl) ?_
  have hs := hp.wf
  have ho := ok_imm hi
  obtain ⟨b1, b2, b3, b4, b5, b6, b7, b8⟩ := ok_bytes hi
  have k1 := goCall_hook hr
  have k2 := goCall_hook hm
  have k3 := goCall_hook hw
  have k4 := goCall_hook hp'
  have q1 := byte_eq regS i.s b3
  have q1' := byte_eq regS i.t b4
  have q2 := in_eq immS i hi
  have q3 := words_eq
  have q4 := byte_eq predS i.pred b6
  have l1 := reg_len b3
  have l1' := reg_len b4
  have l2 := imm_len hi
  have l3 := wordS_len i.op
  have l4 := pred_len b6
  simp only [In.cells] at q2
  generalize hQ : Fin _ _ = Q
  simp (disch := first | assumption | ((repeat (apply ps_add)); assumption) | ((try simp only [List.length_append, List.length_cons, List.length_nil]); omega)) only [ir38, In.cells, k1, k2, k3, k4, q1, q1', q2, q3, q4, lookW, lookWs, if_pos, goR_watch, watch_cons, watch_nil, wat_ptr, wat_map, sameObj_refl, Bool.and_self, true_and, wk, wk1, wk2, Option.some.injEq, exists_eq_left', decide_true, decide_false, seval, go_regionPw, pw_normal]
  repeat' ((first | refine goC_split (fun h => ?_) (fun h => ?_) | refine goG_split_t (fun h => ?_) (fun h => ?_) | refine goG_split_f (fun h => ?_) (fun h => ?_)) <;> (try simp only [Bool.not_eq_true', Bool.not_eq_false'] at h) <;> (try simp (disch := first | assumption | ((repeat (apply ps_add)); assumption) | ((try simp only [List.length_append, List.length_cons, List.length_nil]); omega)) only [h, In.cells, k1, k2, k3, k4, q1, q1', q2, q3, q4, lookW, lookWs, if_pos, goR_watch, watch_cons, watch_nil, wat_ptr, wat_map, sameObj_refl, Bool.and_self, true_and, wk, wk1, wk2, Option.some.injEq, exists_eq_left', decide_true, decide_false, seval, go_regionPw, pw_normal]))
  all_goals subst hQ
  all_goals simp only [ir38, wk, wk1, wk2, Option.some.injEq, exists_eq_left', decide_true, decide_false, seval, go_regionPw, pw_normal]
  all_goals refine ⟨?_, by (repeat (first | exact Ext.refl hs | refine Ext.add ?_ _))⟩
  all_goals simp_all [rightS, argS]
end
end Go.V
/- show: branch, bare. -/
namespace Go.V
open Go
set_option linter.unusedSimpArgs false
set_option linter.unusedVariables false
open Z in def ir34 : IFunc := ⟨45,[.tmp 4],(q (R [(o 2 (.box t0)),(o 4 (.move (sc [])))]) (q (R [(f 6 4 2),(l 7 1 6),(o 8 (.conv (.intInt .i64) t7)),(o 9 (.call 51 [t8])),(o 10 (.bin .add (sc [108,111,111,112]) t9)),(o 11 (.bin .add t10 (sc [40]))),(m 12 1),(o 13 (.bin .add t11 t12)),(o 14 (.bin .add t13 (sc [44]))),(m 5 14)]) (q (q (R [(f 15 0 2),(l 16 1 15)]) (.block 0 (q (R [(o 18 (.bin .eql t16 (B 27))),(m 17 18)]) (.cond t17 (q (R [(m 19 1),(o 20 (.bin .add (sc [106,117,109,112,32]) t19)),(m 4 20)]) .ret) (q (R [(o 22 (.bin .eql t16 (B 28))),(m 21 22)]) (.cond t21 (q (R [(f 23 2 2),(l 24 1 23),(o 25 (.call 36 [t24])),(o 26 (.bin .add (sc [106,117,109,112,114,32]) t25)),(m 4 26)]) .ret) (q (R [(o 28 (.bin .eql t16 (B 29))),(m 27 28)]) (.cond t27 (q (R [(m 29 1),(o 30 (.bin .add (sc [99,97,108,108,32]) t29)),(m 4 30)]) .ret) (q (R [(o 32 (.bin .eql t16 (B 30))),(m 31 32)]) (.cond t31 (q (R [(m 33 5),(f 34 9 2),(l 35 1 34),(o 36 (.call 52 [t35])),(o 37 (.bin .add t33 t36)),(o 38 (.bin .add t37 (sc [41]))),(m 4 38)]) .ret) .skip)))))))))) (q (R [(m 39 5),(f 40 2 2),(l 41 1 40),(o 42 (.call 36 [t41])),(o 43 (.bin .add t39 t42)),(o 44 (.bin .add t43 (sc [41]))),(m 4 44)]) .ret))))⟩
open Z in def ir19 : IFunc := ⟨60,[.tmp 4],(q (R [(o 2 (.box t0)),(o 4 (.move (sc [])))]) (q (R [(la 9 11 2),(o 10 (.call 32 [t9])),(m 8 10),(x 11 8 0),(x 12 8 1),(m 5 11),(m 6 12)]) (q (q (R [(la 13 11 2),(o 14 (.call 33 [t13])),(m 7 14)]) (.block 0 (q (R [(f 16 0 2),(l 17 1 16),(o 18 (.bin .eql t17 (B 1))),(m 15 18)]) (.cond t15 (q (R [(o 4 (.move (sc [110,111,112])))]) .ret) (q (R [(m 20 7),(o 21 (.bin .eql t20 (B 5))),(m 22 21),(og 23 22 false (.move t7)),(og 24 22 false (.bin .eql t23 (B 6))),(o 25 (.pick t22 T t24)),(m 19 25)]) (.cond t19 (q (R [(la 26 11 2),(m 27 1),(o 28 (.call 34 [t26,t27])),(m 4 28)]) .ret) (q (R [(m 30 7),(o 31 (.bin .eql t30 (B 4))),(m 29 31)]) (.cond t29 (q (R [(la 32 11 2),(o 33 (.call 35 [t32])),(m 4 33)]) .ret) (q (R [(m 35 7),(o 36 (.bin .eql t35 (B 3))),(m 34 36)]) (.cond t34 (q (.regionP [(f 37 1 2),(l 38 1 37),(la 41 11 2),⟨some 39,none,[t2],(.call 36 [t38])⟩,(o 40 (.bin .add t39 (sc [32,61,32]))),(o 42 (.call 37 [t41])),(o 43 (.bin .add t40 t42)),(m 4 43)]) .ret) (q (R [(m 45 6),(m 44 45)]) (.cond t44 (q (.regionP [(f 46 1 2),(l 47 1 46),(la 50 11 2),⟨some 48,none,[t2],(.call 31 [t47])⟩,(o 49 (.bin .add t48 (sc [32,61,32]))),(o 51 (.call 38 [t50])),(o 52 (.bin .add t49 t51)),(m 4 52)]) .ret) .skip)))))))))))) (q (.regionP [(f 53 1 2),(l 54 1 53),(la 57 11 2),⟨some 55,none,[t2],(.call 36 [t54])⟩,(o 56 (.bin .add t55 (sc [32,61,32]))),(o 58 (.call 38 [t57])),(o 59 (.bin .add t56 t58)),(m 4 59)]) .ret))))⟩
def loopS (i : In) (tg : List UInt8) : List UInt8 := [108, 111, 111, 112] ++ (Lib.itoa i.n ++ (40 :: (tg ++ [44])))
def branchS (i : In) (tg : List UInt8) : List UInt8 := if i.op = 27 then [106, 117, 109, 112, 32] ++ tg else if i.op = 28 then [106, 117, 109, 112, 114, 32] ++ regS i.s else if i.op = 29 then [99, 97, 108, 108, 32] ++ tg else if i.op = 30 then loopS i tg ++ (countS i.count ++ [41]) else loopS i tg ++ (regS i.s ++ [41])
def bareS (i : In) (tg : List UInt8) : List UInt8 := if i.op = 1 then [110, 111, 112] else if classF i.op = 5 ∨ classF i.op = 6 then branchS i tg else if classF i.op = 4 then storeS i else if classF i.op = 3 then regS i.d ++ (32 :: 61 :: 32 :: placeS i) else if (writesPredF i).2 = true then predS i.d ++ (32 :: 61 :: 32 :: rightS i) else regS i.d ++ (32 :: 61 :: 32 :: rightS i)
theorem store_len {i : In} (h : i.ok = true) : (storeS i).length ≤ 90 := by
  obtain ⟨_, _, _, h4, _⟩ := ok_bytes h
  have l1 := reg_len h4
  have l2 := place_len h
  unfold storeS
  split <;> (simp only [List.length_append, List.length_cons, List.length_nil]; omega)
theorem right_len {i : In} (h : i.ok = true) : (rightS i).length ≤ 80 := by
  obtain ⟨_, _, h3, _⟩ := ok_bytes h
  have l1 := reg_len h3
  have l2 := imm_len h
  have l3 := arg_len h
  have l4 := wordS_len i.op
  unfold rightS
  split
  · omega
  · split
    · omega
    · simp only [List.length_append, List.length_cons, List.length_nil]; omega
theorem count_len {n : Int} (h : isU16 n = true) : (countS n).length ≤ 22 := by
  have := itoa_len (u16_i64 h)
  simp only [countS, List.length_cons]; omega
theorem branch_len {i : In} (h : i.ok = true) {tg : List UInt8} (ht : tg.length ≤ 100) : (branchS i tg).length ≤ 200 := by
  obtain ⟨_, _, h3, _, h5, _, _, h8⟩ := ok_bytes h
  have l1 := reg_len h3
  have l2 := count_len h8
  have l3 := itoa_len (byte_i64 h5)
  unfold branchS loopS
  repeat' split
  all_goals (simp only [List.length_append, List.length_cons, List.length_nil]; omega)
/-- A function of an instruction and what its target is named. -/
def in2T (r : In → List UInt8 → List UInt8) (args : List AV) : Option AV := match args with
  | [x, .str tg] => match getIn x with
    | some i => match i.ok && decide (tg.length ≤ 100) with
      | true => some (.str (r i tg))
      | false => none
    | none => none
  | _ => none
theorem in2T_ok {T : Tab} {f : FuncId} {r : In → List UInt8 → List UInt8} (h : ∀ s, PS s → ∀ i : In, i.ok = true → ∀ tg : List UInt8, tg.length ≤ 100 → Ran T f [.agg i.cells, .str tg] s fun v s' => v = .str (r i tg) ∧ Ext s s') (args : List AV) (v : AV) (hv : in2T r args = some v) :
    plain v = true ∧ ∀ s, WFS s → pTab s.heap = true → Ran T f args s fun v' s' => v' = v ∧ Ext s s' := by
  unfold in2T at hv
  split at hv
  · rename_i x tg
    split at hv
    · rename_i i hx
      split at hv
      · rename_i hi
        cases hv
        simp only [Bool.and_eq_true, decide_eq_true_eq] at hi
        rw [getIn_eq hx]
        exact ⟨rfl, fun s hs hp => h s ⟨hs, hp⟩ i hi.1 tg hi.2⟩
      · cases hv
    · cases hv
  · cases hv
theorem in2_eq (r : In → List UInt8 → List UInt8) (i : In) (h : i.ok = true) (tg : List UInt8) (ht : tg.length ≤ 100) (s : St) (hs : PS s) : gateH pTab (in2T r) [.agg i.cells, .str tg] s = some (.str (r i tg), s) := gate_eq _ _ (by simp only [in2T, getIn_cells, h, ht, decide_true, Bool.and_self]) s hs
section
variable {T : Tab}
theorem branch_ran (hc : T 34 = some (.code ir34)) (hr : T 36 = some (.hook (gateH pTab (byteT regS)))) (hn : T 51 = some (.hook (gateH pTab (i64T Lib.itoa)))) (hk : T 52 = some (.hook (gateH pTab (u16T countS)))) (s : St) (hp : PS s) (i : In) (hi : i.ok = true) (tg : List UInt8) (ht : tg.length ≤ 100) :
    Ran T 34 [.agg i.cells, .str tg] s fun v s' => v = .str (branchS i tg) ∧ Ext s s' := by
  refine ran_code hc (Nat.le_of_ble_eq_true rfl) ?_
  have hs := hp.wf
  have ho := ok_imm hi
  obtain ⟨b1, b2, b3, b4, b5, b6, b7, b8⟩ := ok_bytes hi
  have k1 := goCall_hook hr
  have k2 := goCall_hook hn
  have k3 := goCall_hook hk
  have q1 := byte_eq regS i.s b3
  have q2 := i64_eq Lib.itoa i.n (byte_i64 b5)
  have q3 := u16_eq countS i.count b8
  have u1 := wrapI (byte_i64 b5)
  have l1 := reg_len b3
  have l2 := itoa_len (byte_i64 b5)
  have l3 := count_len b8
  generalize hQ : Fin _ _ = Q
  simp (disch := first | assumption | ((repeat (apply ps_add)); assumption) | ((try simp only [List.length_append, List.length_cons, List.length_nil]); omega)) only [ir34, In.cells, k1, k2, k3, q1, q2, q3, u1, if_pos, goR_watch, watch_cons, watch_nil, wat_ptr, wat_map, sameObj_refl, Bool.and_self, true_and, wk, wk1, wk2, Option.some.injEq, exists_eq_left', decide_true, decide_false, seval, go_regionPw, pw_normal]
  repeat' ((first | refine goC_split (fun h => ?_) (fun h => ?_) | refine goG_split_t (fun h => ?_) (fun h => ?_) | refine goG_split_f (fun h => ?_) (fun h => ?_)) <;> (try simp only [Bool.not_eq_true', Bool.not_eq_false'] at h) <;> (try simp (disch := first | assumption | ((repeat (apply ps_add)); assumption) | ((try simp only [List.length_append, List.length_cons, List.length_nil]); omega)) only [h, In.cells, k1, k2, k3, q1, q2, q3, u1, if_pos, goR_watch, watch_cons, watch_nil, wat_ptr, wat_map, sameObj_refl, Bool.and_self, true_and, wk, wk1, wk2, Option.some.injEq, exists_eq_left', decide_true, decide_false, seval, go_regionPw, pw_normal]))
  all_goals subst hQ
  all_goals simp only [ir34, wk, wk1, wk2, Option.some.injEq, exists_eq_left', decide_true, decide_false, seval, go_regionPw, pw_normal]
  all_goals refine ⟨?_, by (repeat (first | exact Ext.refl hs | refine Ext.add ?_ _))⟩
  all_goals simp_all [branchS, loopS]
theorem bare_ran (hc : T 19 = some (.code ir19)) (hr : T 36 = some (.hook (gateH pTab (byteT regS)))) (hp' : T 31 = some (.hook (gateH pTab (byteT predS)))) (hb : T 34 = some (.hook (gateH pTab (in2T branchS)))) (hst : T 35 = some (.hook (gateH pTab (inT storeS)))) (hpl : T 37 = some (.hook (gateH pTab (inT placeS)))) (hri : T 38 = some (.hook (gateH pTab (inT rightS))))
    (hwp : T 32 = some (.hook (pureH (inF writesPredR)))) (hcl : T 33 = some (.hook (pureH classG))) (s : St) (hp : PS s) (i : In) (hi : i.ok = true) (tg : List UInt8) (ht : tg.length ≤ 100) :
    Ran T 19 [.agg i.cells, .str tg] s fun v s' => v = .str (bareS i tg) ∧ Ext s s' := by
  refine ran_code hc (Nat.le_of_ble_eq_true rfl) ?_
  have hs := hp.wf
  have ho := ok_imm hi
  obtain ⟨b1, b2, b3, b4, b5, b6, b7, b8⟩ := ok_bytes hi
  have hoI : okI i = true := by simp only [okI, b1, ho, Bool.and_self]
  have k1 := goCall_hook hr
  have k2 := goCall_hook hp'
  have k3 := goCall_hook hb
  have k4 := goCall_hook hst
  have k5 := goCall_hook hpl
  have k6 := goCall_hook hri
  have k7 := goCall_hook hwp
  have k8 := goCall_hook hcl
  have q1 := byte_eq regS i.d b2
  have q2 := byte_eq predS i.d b2
  have q3 := in2_eq branchS i hi tg ht
  have q4 := in_eq storeS i hi
  have q5 := in_eq placeS i hi
  have q6 := in_eq rightS i hi
  have q7 := fun s => inF_eq writesPredR i s hoI
  have q8 := fun s => classH_eq i s b1
  have l1 := reg_len b2
  have l2 := pred_len b2
  have l3 := place_len hi
  have l4 := right_len hi
  have l5 := store_len hi
  simp only [In.cells, writesPredR] at q3 q4 q5 q6 q7 q8
  generalize hQ : Fin _ _ = Q
  simp (disch := first | assumption | ((repeat (apply ps_add)); assumption) | ((try simp only [List.length_append, List.length_cons, List.length_nil]); omega)) only [ir19, In.cells, k1, k2, k3, k4, k5, k6, k7, k8, q1, q2, q3, q4, q5, q6, q7, q8, if_pos, goR_watch, watch_cons, watch_nil, wat_ptr, wat_map, sameObj_refl, Bool.and_self, true_and, wk, wk1, wk2, Option.some.injEq, exists_eq_left', decide_true, decide_false, seval, go_regionPw, pw_normal]
  repeat' ((first | refine goC_split (fun h => ?_) (fun h => ?_) | refine goG_split_t (fun h => ?_) (fun h => ?_) | refine goG_split_f (fun h => ?_) (fun h => ?_)) <;> (try simp only [Bool.not_eq_true', Bool.not_eq_false'] at h) <;> (try simp (disch := first | assumption | ((repeat (apply ps_add)); assumption) | ((try simp only [List.length_append, List.length_cons, List.length_nil]); omega)) only [h, In.cells, k1, k2, k3, k4, k5, k6, k7, k8, q1, q2, q3, q4, q5, q6, q7, q8, if_pos, goR_watch, watch_cons, watch_nil, wat_ptr, wat_map, sameObj_refl, Bool.and_self, true_and, wk, wk1, wk2, Option.some.injEq, exists_eq_left', decide_true, decide_false, seval, go_regionPw, pw_normal]))
  all_goals subst hQ
  all_goals simp only [ir19, wk, wk1, wk2, Option.some.injEq, exists_eq_left', decide_true, decide_false, seval, go_regionPw, pw_normal]
  all_goals refine ⟨?_, by (repeat (first | exact Ext.refl hs | refine Ext.add ?_ _))⟩
  all_goals simp_all [bareS]
end
end Go.V
/- show: target, Inst. -/
namespace Go.V
open Go
set_option linter.unusedSimpArgs false
set_option linter.unusedVariables false
open Z in def ir17 : IFunc := ⟨24,[.tmp 4],(q (R [(o 2 (.box t0)),(o 4 (.move (sc [])))]) (q (R [(o 5 (.move (sc [])))]) (q (q (R [(m 6 1),(o 7 (.eq true (.nilable .fn) t6 (.c .nilFunc)))]) (.cond t7 (R [(m 8 1),(f 9 10 2),(l 10 1 9),(o 11 (.conv (.intInt .u32) t10)),(o 12 (.callVal t8 [t11])),(m 5 12)]) .skip)) (q (q (R [(m 13 5),(o 14 (.bin .eql t13 (sc [])))]) (.cond t14 (R [(f 15 10 2),(l 16 1 15),(o 17 (.call 30 [t16,(I 16)])),(o 18 (.bin .add (sc [48,120]) t17)),(m 5 18)]) .skip)) (q (q (R [(f 19 8 2),(l 20 1 19)]) (.cond t20 (q (R [(m 21 5),(o 22 (.bin .add (sc [35,35]) t21)),(m 4 22)]) .ret) .skip)) (q (R [(m 23 5),(m 4 23)]) .ret))))))⟩
open Z in def ir7 : IFunc := ⟨26,[.tmp 4],(q (R [(o 2 (.box t0)),(o 4 (.move (sc [])))]) (q (q (R [(la 8 11 2),(o 9 (.call 5 [t8])),(o 10 (.un .not t9))]) (.cond t10 (q (R [(o 4 (.move (sc [])))]) .ret) .skip)) (q (R [(o 5 (.move (sc [])))]) (q (q (R [(la 12 11 2),(o 13 (.call 16 [t12])),(m 11 13),(x 14 11 0),(x 15 11 1),(m 6 14),(m 7 15)]) (q (R [(m 16 7)]) (.cond t16 (R [(la 17 11 2),(m 18 1),(o 19 (.call 17 [t17,t18])),(m 5 19)]) .skip))) (q (.regionP [(la 20 11 2),(la 22 11 2),(m 23 5),⟨some 21,none,[t2],(.call 18 [t20])⟩,(o 24 (.call 19 [t22,t23])),(o 25 (.bin .add t21 t24)),(m 4 25)]) .ret)))))⟩
open Z in def ir8 : IFunc := ⟨5,[.tmp 3],(q (R [(o 3 (.move (sc [])))]) (q (R [(l 4 1 1),(m 3 4)]) .ret))⟩
def targetS (i : In) (nm : List UInt8) : List UInt8 := (if i.ext = true then [35, 35] else []) ++ (if nm = [] then 48 :: 120 :: hexN i.imm.toNat else nm)
/-- What a name's function answers: nil, or always the same. -/
def Nm (T : Tab) (fv : AV) (nm : List UInt8) (s : St) : Prop := (fv = .nilFunc ∧ nm = []) ∨ ∃ id, fv = .func 8 [] [.ptr ⟨id, 0, 0, 1⟩] ∧ T 8 = some (.code ir8) ∧ id < s.next ∧ s.heap.get id = some (.cells [.str nm] 0 0 false)
theorem Nm.ext {T : Tab} {fv : AV} {nm : List UInt8} {s s' : St} (h : Nm T fv nm s) (hE : Ext s s') : Nm T fv nm s' := by
  rcases h with h | ⟨id, h1, h2, h3, h4⟩
  · exact .inl h
  · exact .inr ⟨id, h1, h2, by have := hE.2.1; omega, by rw [hE.2.2 id h3]; exact h4⟩
theorem hexGo_len : ∀ (f y : Nat) (acc : List UInt8), (hexGo f y acc).length ≤ acc.length + f
  | 0, y, acc => by simp [hexGo]
  | f + 1, y, acc => by
    unfold hexGo
    split
    · simp only [List.length_cons]; omega
    · have := hexGo_len f (y / 16) (hexD (y % 16) :: acc)
      simp only [List.length_cons] at this; omega
theorem hexN_len (x : Nat) : (hexN x).length ≤ 20 := by have := hexGo_len 20 x []; simpa [hexN] using this
theorem fn_nil : eqV (.nilable .fn) .nilFunc .nilFunc = some true := rfl
theorem fn_func (f : Nat) (l m : List AV) : eqV (.nilable .fn) (.func f l m) .nilFunc = some false := rfl
theorem target_len (i : In) {nm : List UInt8} (h : nm.length ≤ 60) : (targetS i nm).length ≤ 70 := by
  have := hexN_len i.imm.toNat
  unfold targetS
  split <;> split <;> (simp only [List.length_append, List.length_cons, List.length_nil]; omega)
section
variable {T : Tab}
theorem nm_ran {id : Nat} (hc : T 8 = some (.code ir8)) (s : St) (a : AV) {nm : List UInt8} (h : s.heap.get id = some (.cells [.str nm] 0 0 false)) : Ran T 8 [a, .ptr ⟨id, 0, 0, 1⟩] s fun v s' => v = .str nm ∧ s' = s := by
  refine ran_code hc (Nat.le_of_ble_eq_true rfl) ?_
  simp only [ir8, h, wk, wk1, wk2, Option.some.injEq, exists_eq_left', decide_true, decide_false, seval, go_regionPw, pw_normal]
set_option maxHeartbeats 4000000 in
theorem targetS_ran (hc : T 17 = some (.code ir17)) (hf : T 30 = some (.hook fmt2)) (s : St) (hp : PS s) (i : In) (hi : i.ok = true) (h0 : 0 ≤ i.imm) {fv : AV} {nm : List UInt8} (hl : nm.length ≤ 60) (hn : Nm T fv nm s) :
    Ran T 17 [.agg i.cells, fv] s fun v s' => v = .str (targetS i nm) ∧ Ext s s' := by
  refine ran_code hc (Nat.le_of_ble_eq_true rfl) ?_
  have hs := hp.wf
  have ho := ok_imm hi
  obtain ⟨x, hx⟩ := Int.eq_ofNat_of_zero_le h0
  have hx1 : x ≤ 9223372036854775807 := by have := isI64_iff.1 ho; omega
  have k1 := goCall_hook hf
  have q1 := fmt2_16 x hx1
  have l1 := hexN_len x
  rcases hn with ⟨rfl, rfl⟩ | ⟨id, rfl, h2, h3, h4⟩
  · clear hf hc
    generalize hQ : Fin _ _ = Q
    simp (disch := first | assumption | ((repeat (apply ps_add)); assumption) | ((try simp only [List.length_append, List.length_cons, List.length_nil]); omega)) only [ir17, In.cells, k1, q1, hx, fn_nil, if_pos, goR_watch, watch_cons, watch_nil, wat_ptr, wat_map, sameObj_refl, Bool.and_self, true_and, wk, wk1, wk2, Option.some.injEq, exists_eq_left', decide_true, decide_false, seval, go_regionPw, pw_normal]
    repeat' ((first | refine goC_split (fun h => ?_) (fun h => ?_) | refine goG_split_t (fun h => ?_) (fun h => ?_) | refine goG_split_f (fun h => ?_) (fun h => ?_)) <;> (try simp only [Bool.not_eq_true', Bool.not_eq_false', decide_eq_true_eq, decide_eq_false_iff_not] at h) <;> (try simp (disch := first | assumption | ((repeat (apply ps_add)); assumption) | ((try simp only [List.length_append, List.length_cons, List.length_nil]); omega)) only [h, In.cells, k1, q1, hx, fn_nil, fn_func, if_pos, goR_watch, watch_cons, watch_nil, wat_ptr, wat_map, sameObj_refl, Bool.and_self, true_and, wk, wk1, wk2, Option.some.injEq, exists_eq_left', decide_true, decide_false, seval, go_regionPw, pw_normal]))
    all_goals subst hQ
    all_goals simp only [ir17, wk, wk1, wk2, Option.some.injEq, exists_eq_left', decide_true, decide_false, seval, go_regionPw, pw_normal]
    all_goals refine ⟨?_, by (repeat (first | exact Ext.refl hs | refine Ext.add ?_ _))⟩
    all_goals simp_all [targetS]
  · generalize hQ : Fin _ _ = Q
    simp (disch := first | assumption | ((repeat (apply ps_add)); assumption) | ((try simp only [List.length_append, List.length_cons, List.length_nil]); omega)) only [ir17, In.cells, k1, q1, hx, fn_func, if_pos, goR_watch, watch_cons, watch_nil, wat_ptr, wat_map, sameObj_refl, Bool.and_self, true_and, goCV_func, wk, wk1, wk2, Option.some.injEq, exists_eq_left', decide_true, decide_false, seval, go_regionPw, pw_normal]
    refine goCall_by (nm_ran h2 _ _ (by rw [add_get, if_neg (by omega)]; exact h4)) ?_
    rintro v s2 ⟨rfl, rfl⟩
    by_cases hm : nm = []
    · subst hm
      simp (disch := first | assumption | ((repeat (apply ps_add)); assumption) | ((try simp only [List.length_append, List.length_cons, List.length_nil]); omega)) only [In.cells, k1, q1, hx, if_pos, goR_watch, watch_cons, watch_nil, wat_ptr, wat_map, sameObj_refl, Bool.and_self, true_and, wk, wk1, wk2, Option.some.injEq, exists_eq_left', decide_true, decide_false, seval, go_regionPw, pw_normal]
      repeat' ((first | refine goC_split (fun h => ?_) (fun h => ?_) | refine goG_split_t (fun h => ?_) (fun h => ?_) | refine goG_split_f (fun h => ?_) (fun h => ?_)) <;> (try simp only [Bool.not_eq_true', Bool.not_eq_false', decide_eq_true_eq, decide_eq_false_iff_not] at h) <;> (try simp (disch := first | assumption | ((repeat (apply ps_add)); assumption) | ((try simp only [List.length_append, List.length_cons, List.length_nil]); omega)) only [h, In.cells, k1, q1, hx, fn_nil, fn_func, if_pos, goR_watch, watch_cons, watch_nil, wat_ptr, wat_map, sameObj_refl, Bool.and_self, true_and, wk, wk1, wk2, Option.some.injEq, exists_eq_left', decide_true, decide_false, seval, go_regionPw, pw_normal]))
      all_goals subst hQ
      all_goals simp only [ir17, wk, wk1, wk2, Option.some.injEq, exists_eq_left', decide_true, decide_false, seval, go_regionPw, pw_normal]
      all_goals refine ⟨?_, by (repeat (first | exact Ext.refl hs | refine Ext.add ?_ _))⟩
      all_goals simp_all [targetS]
    · simp (disch := first | assumption | ((repeat (apply ps_add)); assumption) | ((try simp only [List.length_append, List.length_cons, List.length_nil]); omega)) only [In.cells, k1, q1, hx, hm, if_pos, goR_watch, watch_cons, watch_nil, wat_ptr, wat_map, sameObj_refl, Bool.and_self, true_and, wk, wk1, wk2, Option.some.injEq, exists_eq_left', decide_true, decide_false, seval, go_regionPw, pw_normal]
      repeat' ((first | refine goC_split (fun h => ?_) (fun h => ?_) | refine goG_split_t (fun h => ?_) (fun h => ?_) | refine goG_split_f (fun h => ?_) (fun h => ?_)) <;> (try simp only [Bool.not_eq_true', Bool.not_eq_false', decide_eq_true_eq, decide_eq_false_iff_not] at h) <;> (try simp (disch := first | assumption | ((repeat (apply ps_add)); assumption) | ((try simp only [List.length_append, List.length_cons, List.length_nil]); omega)) only [h, In.cells, k1, q1, hx, fn_nil, fn_func, if_pos, goR_watch, watch_cons, watch_nil, wat_ptr, wat_map, sameObj_refl, Bool.and_self, true_and, wk, wk1, wk2, Option.some.injEq, exists_eq_left', decide_true, decide_false, seval, go_regionPw, pw_normal]))
      all_goals subst hQ
      all_goals simp only [ir17, wk, wk1, wk2, Option.some.injEq, exists_eq_left', decide_true, decide_false, seval, go_regionPw, pw_normal]
      all_goals refine ⟨?_, by (repeat (first | exact Ext.refl hs | refine Ext.add ?_ _))⟩
      all_goals simp_all [targetS]
theorem sokF_all (i : In) : ∀ (fs : List Fld) (b : Bool), okF i fs b = true → b = true ∧ ∀ f ∈ fs, holdsSpec i f = true
  | [], b, h => ⟨h, by simp⟩
  | f :: fs, b, h => by
    have h' : okF i fs (b && holdsSpec i f) = true := h
    obtain ⟨h1, h2⟩ := sokF_all i fs _ h'
    simp only [Bool.and_eq_true] at h1
    refine ⟨h1.1, fun g hg => ?_⟩
    rcases List.mem_cons.1 hg with rfl | hg
    · exact h1.2
    · exact h2 g hg
theorem sright_holds {i : In} (h : rightF i = true) : ∀ f ∈ fieldsOf i.op, holdsSpec i f = true := by
  simp only [rightF, Bool.and_eq_true] at h
  exact (sokF_all i _ _ h.1).2
theorem shas_fld {op k : Int} (h : hasF op k = true) : ∃ f ∈ fieldsOf op, f.kind = k := by
  unfold hasF at h
  obtain ⟨f, h1, h2⟩ := List.any_eq_true.1 h
  exact ⟨f, h1, of_decide_eq_true h2⟩
theorem imm_target {i : In} (h : rightF i = true) (ht : hasF i.op 10 = true) : 0 ≤ i.imm ∧ i.imm < 4294967296 := by
  obtain ⟨f, hf, hk⟩ := shas_fld ht
  have := sright_holds h f hf
  unfold holdsSpec at this
  simp [hk] at this
  exact ⟨this.1, this.2.1⟩
def namedS (i : In) (nm : List UInt8) : List UInt8 := if hasF i.op 10 = true then targetS i nm else []
def instS (i : In) (nm : List UInt8) : List UInt8 := if rightF i = true then condS i ++ bareS i (namedS i nm) else []
theorem named_len (i : In) {nm : List UInt8} (h : nm.length ≤ 60) : (namedS i nm).length ≤ 70 := by
  unfold namedS
  split
  · exact target_len i h
  · simp
theorem cond_len {i : In} (h : i.ok = true) : (condS i).length ≤ 40 := by
  obtain ⟨_, _, _, _, _, h6, _⟩ := ok_bytes h
  have := pred_len h6
  unfold condS
  repeat' split
  all_goals (simp only [List.length_append, List.length_cons, List.length_nil]; omega)
theorem bare_len {i : In} (h : i.ok = true) {tg : List UInt8} (ht : tg.length ≤ 100) : (bareS i tg).length ≤ 300 := by
  obtain ⟨_, h2, _⟩ := ok_bytes h
  have l1 := reg_len h2
  have l2 := pred_len h2
  have l3 := branch_len h ht
  have l4 := store_len h
  have l5 := place_len h
  have l6 := right_len h
  unfold bareS
  repeat' split
  all_goals ((try simp only [List.length_append, List.length_cons, List.length_nil]); omega)
set_option maxHeartbeats 4000000 in
theorem inst_ran (hc : T 7 = some (.code ir7)) (hr : T 5 = some (.hook (pureH (inF rightR)))) (htg : T 16 = some (.hook (pureH (inF targetR)))) (hcd : T 18 = some (.hook (gateH pTab (inT condS)))) (hb : T 19 = some (.hook (gateH pTab (in2T bareS)))) (ht : T 17 = some (.code ir17)) (hf : T 30 = some (.hook fmt2))
    (s : St) (hp : PS s) (i : In) (hi : i.ok = true) {fv : AV} {nm : List UInt8} (hl : nm.length ≤ 60) (hn : Nm T fv nm s) :
    Ran T 7 [.agg i.cells, fv] s fun v s' => v = .str (instS i nm) ∧ Ext s s' := by
  refine ran_code hc (Nat.le_of_ble_eq_true rfl) ?_
  have hs := hp.wf
  have ho := ok_imm hi
  obtain ⟨b1, b2, b3, b4, b5, b6, b7, b8⟩ := ok_bytes hi
  have hoI : okI i = true := by simp only [okI, b1, ho, Bool.and_self]
  have k1 := goCall_hook hr
  have k2 := goCall_hook htg
  have k3 := goCall_hook hcd
  have k4 := goCall_hook hb
  have q1 := fun s => inF_eq rightR i s hoI
  have q2 := fun s => inF_eq targetR i s hoI
  have q3 := in_eq condS i hi
  have q4 := in2_eq bareS i hi (namedS i nm) (by have := named_len i hl; omega)
  have l1 := cond_len hi
  have l2 := bare_len hi (tg := namedS i nm) (by have := named_len i hl; omega)
  have cells : i.cells = [.int .u8 i.op, .int .u8 i.d, .int .u8 i.s, .int .u8 i.t, .int .u8 i.n, .int .u8 i.pred, .int .u8 i.mode, .bool i.nw, .bool i.ext, .int .u16 i.count, .int .i64 i.imm] := rfl
  simp only [cells, rightR, targetR, targetF] at q1 q2 q3 q4
  by_cases hR : rightF i = true
  · by_cases hT : hasF i.op 10 = true
    · have e1 : instS i nm = condS i ++ bareS i (namedS i nm) := by simp only [instS, hR, if_true]
      have e2 : namedS i nm = targetS i nm := by simp only [namedS, hT, if_true]
      simp only [hR, hT, and_self, if_true] at q1 q2
      simp (disch := first | assumption | ((repeat (apply ps_add)); assumption) | ((try simp only [List.length_append, List.length_cons, List.length_nil]); omega)) only [ir7, cells, k1, k2, k3, k4, q1, q2, q3, q4, if_pos, goR_watch, watch_cons, watch_nil, wat_ptr, wat_map, sameObj_refl, Bool.and_self, true_and, wk, wk1, wk2, Option.some.injEq, exists_eq_left', decide_true, decide_false, seval, go_regionPw, pw_normal]
      have hp1 := ps_add hp (.cells i.cells 0 0 false)
      refine goCall_by (targetS_ran ht hf _ hp1 i hi (imm_target hR hT).1 hl (hn.ext (.add (.refl hs) _))) ?_
      rintro v s2 ⟨rfl, hE⟩
      have hp2 := hp1.ext hE
      have ho : s2.heap.get s.next = some (.cells i.cells 0 0 false) := by
        rw [hE.2.2 s.next (by show s.next < s.next + 1; omega), add_get, if_pos rfl]
      rw [cells] at ho
      rw [e2] at q4 l2
      simp (disch := first | assumption | ((repeat (apply ps_add)); assumption) | ((try simp only [List.length_append, List.length_cons, List.length_nil]); omega)) only [k3, k4, q3, q4, ho, if_pos, goR_watch, watch_cons, watch_nil, wat_ptr, wat_map, sameObj_refl, Bool.and_self, true_and, wk, wk1, wk2, Option.some.injEq, exists_eq_left', decide_true, decide_false, seval, go_regionPw, pw_normal]
      exact ⟨by rw [e1, e2], (Ext.add (.refl hs) _).trans hE⟩
    · have e1 : instS i nm = condS i ++ bareS i [] := by rw [instS, if_pos hR, namedS, if_neg hT]
      have e2 : namedS i nm = [] := by rw [namedS, if_neg hT]
      simp only [hR, hT, and_false, if_true, if_false] at q1 q2
      rw [e2] at q4 l2
      simp (disch := first | assumption | ((repeat (apply ps_add)); assumption) | ((try simp only [List.length_append, List.length_cons, List.length_nil]); omega)) only [ir7, cells, k1, k2, k3, k4, q1, q2, q3, q4, if_pos, goR_watch, watch_cons, watch_nil, wat_ptr, wat_map, sameObj_refl, Bool.and_self, true_and, wk, wk1, wk2, Option.some.injEq, exists_eq_left', decide_true, decide_false, seval, go_regionPw, pw_normal]
      exact ⟨by rw [e1], Ext.add (.refl hs) _⟩
  · have e1 : instS i nm = [] := by rw [instS, if_neg hR]
    simp only [hR] at q1
    simp (disch := first | assumption | ((repeat (apply ps_add)); assumption) | ((try simp only [List.length_append, List.length_cons, List.length_nil]); omega)) only [ir7, cells, k1, q1, if_pos, goR_watch, watch_cons, watch_nil, wat_ptr, wat_map, sameObj_refl, Bool.and_self, true_and, wk, wk1, wk2, Option.some.injEq, exists_eq_left', decide_true, decide_false, seval, go_regionPw, pw_normal]
    exact ⟨by rw [e1], Ext.add (.refl hs) _⟩
end
end Go.V
