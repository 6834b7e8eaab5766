/- States compared; what a packet leaves as it was, in plain Lean. -/
import Derived.Test.YtoaakfgdebkkaaaGreatDoorSM
import Derived.Test.YtoaakfgdebkkaaaGreatDoorVZ
import Derived.Test.YtoaakfgdebkkaaaGreatDoorVF
import Derived.Test.YtoaakfgdebkkaaaGreatDoorV54
import Derived.Test.YtoaakfgdebkkaaaGreatDoorVE
import Derived.Test.YtoaakfgdebkkaaaGreatDoorV66
import Derived.Test.YtoaakfgdebkkaaaGreatDoorV67
set_option linter.unusedVariables false
set_option linter.unusedSimpArgs false
set_option linter.unusedSectionVars false
/- States compared; what a packet leaves as it was, in plain Lean. -/
/- States compared; what a packet leaves as it was, in plain Lean. -/
namespace Go.V
open Go
set_option linter.unusedSimpArgs false
set_option linter.unusedVariables false
theorem Ms.d0 {m : Ms} (h : m.Ok) : m.cells.take 32 = m.r.map c32 := by
 unfold Ms.cells
 exact List.take_left' (by simp [h.r])
theorem Ms.d1' {m : Ms} (h : m.Ok) : m.cells.drop 32 = m.p.map mB ++ (m.a.map c32 ++ (m.c.map c32 ++ [.int .u32 m.pc, .int .u8 m.f])) := by
 unfold Ms.cells
 exact List.drop_left' (by simp [h.r])
theorem Ms.d2' {m : Ms} (h : m.Ok) : m.cells.drop 36 = m.a.map c32 ++ (m.c.map c32 ++ [.int .u32 m.pc, .int .u8 m.f]) := by
 rw [show 36 = 32 + 4 from rfl, ← List.drop_drop, Ms.d1' h]
 exact List.drop_left' (by simp [h.p])
theorem Ms.d3' {m : Ms} (h : m.Ok) : m.cells.drop 38 = m.c.map c32 ++ [.int .u32 m.pc, .int .u8 m.f] := by
 rw [show 38 = 36 + 2 from rfl, ← List.drop_drop, Ms.d2' h]
 exact List.drop_left' (by simp [h.a])
theorem Ms.d4' {m : Ms} (h : m.Ok) : m.cells.drop 40 = [.int .u32 m.pc, .int .u8 m.f] := by
 rw [show 40 = 38 + 2 from rfl, ← List.drop_drop, Ms.d3' h]
 exact List.drop_left' (by simp [h.c])
theorem Ms.d1 {m : Ms} (h : m.Ok) : (m.cells.drop 32).take 4 = m.p.map mB := by rw [Ms.d1' h]; exact List.take_left' (by simp [h.p])
theorem Ms.d2 {m : Ms} (h : m.Ok) : (m.cells.drop 36).take 2 = m.a.map c32 := by rw [Ms.d2' h]; exact List.take_left' (by simp [h.a])
theorem Ms.d3 {m : Ms} (h : m.Ok) : (m.cells.drop 38).take 2 = m.c.map c32 := by rw [Ms.d3' h]; exact List.take_left' (by simp [h.c])
deriving instance DecidableEq for Ms
theorem eqP {α : Type} [DecidableEq α] (k : PK) (f : α → AV) (hf : ∀ a b, primEq k (f a) (f b) = some (decide (a = b))) : ∀ (n i : Nat) (xs ys : List α), i + n = xs.length → ys.length = xs.length →
 eqParts ((List.range' i n).map fun j => (j, 1, false, .prim k)) (xs.map f) (ys.map f) = some (decide (xs.drop i = ys.drop i))
 | 0, i, xs, ys, h1, h2 => by
  rw [List.drop_of_length_le (by omega), List.drop_of_length_le (by omega)]
  simp [eqParts]
 | n + 1, i, xs, ys, h1, h2 => by
  have hx : i < xs.length := by omega
  have hy : i < ys.length := by omega
  have e1 : (xs.map f)[i]? = some (f xs[i]) := by simp [hx]
  have e2 : (ys.map f)[i]? = some (f ys[i]) := by simp [hy]
  rw [List.range'_succ, List.map_cons]
  simp only [eqParts, partAV, e1, e2, eqV, hf]
  have ex := List.drop_eq_getElem_cons hx
  have ey := List.drop_eq_getElem_cons hy
  by_cases h : xs[i] = ys[i]
  · rw [decide_eq_true h]
    simp only []
    rw [eqP k f hf n (i + 1) xs ys (by omega) h2]
    exact congrArg some (decide_eq_decide.2 ⟨fun e => by rw [ex, ey, h, e], fun e => by rw [ex, ey] at e; exact (List.cons.inj e).2⟩)
  · rw [decide_eq_false h]
    simp only []
    exact congrArg some (decide_eq_false (fun e => by rw [ex, ey] at e; exact h (List.cons.inj e).1)).symm
theorem eq_ints : ∀ a b : Int, primEq .int (.int .u32 a) (.int .u32 b) = some (decide (a = b)) := by
 intro a b
 simp only [primEq, if_true]
theorem eq_bools : ∀ a b : Bool, primEq .bool (.bool a) (.bool b) = some (decide (a = b)) := by
 intro a b; cases a <;> cases b <;> rfl
theorem eq_byte : ∀ a b : Int, primEq .int (.int .u8 a) (.int .u8 b) = some (decide (a = b)) := by
 intro a b
 simp only [primEq, if_true]
theorem part_end {cs : List AV} {n : Nat} {a b : AV} (h : cs.drop n = [a, b]) : cs[n]? = some a ∧ cs[n + 1]? = some b := by
 have e1 : (cs.drop n)[0]? = some a := by rw [h]; rfl
 have e2 : (cs.drop n)[1]? = some b := by rw [h]; rfl
 rw [List.getElem?_drop] at e1 e2
 exact ⟨e1, e2⟩
theorem eq_state {m q : Ms} (hm : m.Ok) (hq : q.Ok) : eqV (.agg [(0, 32, true, (.agg [(0, 1, false, (.prim .int)), (1, 1, false, (.prim .int)), (2, 1, false, (.prim .int)), (3, 1, false, (.prim .int)), (4, 1, false, (.prim .int)), (5, 1, false, (.prim .int)), (6, 1, false, (.prim .int)), (7, 1, false, (.prim .int)), (8, 1, false, (.prim .int)), (9, 1, false, (.prim .int)), (10, 1, false, (.prim .int)), (11, 1, false, (.prim .int)), (12, 1, false, (.prim .int)), (13, 1, false, (.prim .int)), (14, 1, false, (.prim .int)), (15, 1, false, (.prim .int)), (16, 1, false, (.prim .int)), (17, 1, false, (.prim .int)), (18, 1, false, (.prim .int)), (19, 1, false, (.prim .int)), (20, 1, false, (.prim .int)), (21, 1, false, (.prim .int)), (22, 1, false, (.prim .int)), (23, 1, false, (.prim .int)), (24, 1, false, (.prim .int)), (25, 1, false, (.prim .int)), (26, 1, false, (.prim .int)), (27, 1, false, (.prim .int)), (28, 1, false, (.prim .int)), (29, 1, false, (.prim .int)), (30, 1, false, (.prim .int)), (31, 1, false, (.prim .int))])), (32, 4, true, (.agg [(0, 1, false, (.prim .bool)), (1, 1, false, (.prim .bool)), (2, 1, false, (.prim .bool)), (3, 1, false, (.prim .bool))])), (36, 2, true, (.agg [(0, 1, false, (.prim .int)), (1, 1, false, (.prim .int))])), (38, 2, true, (.agg [(0, 1, false, (.prim .int)), (1, 1, false, (.prim .int))])), (40, 1, false, (.prim .int)), (41, 1, false, (.prim .int))]) (.agg m.cells) (.agg q.cells) = some (decide (m = q)) := by
 have r1 := eqP .int (c32) eq_ints 32 0 m.r q.r (by rw [hm.r]) (by rw [hm.r, hq.r])
 have r2 := eqP .bool mB eq_bools 4 0 m.p q.p (by rw [hm.p]) (by rw [hm.p, hq.p])
 have r3 := eqP .int (c32) eq_ints 2 0 m.a q.a (by rw [hm.a]) (by rw [hm.a, hq.a])
 have r4 := eqP .int (c32) eq_ints 2 0 m.c q.c (by rw [hm.c]) (by rw [hm.c, hq.c])
 simp only [List.range', List.map_cons, List.map_nil, List.drop_zero, Nat.zero_add, Nat.reduceAdd] at r1 r2 r3 r4
 have p1 := part_end (Ms.d4' hm)
 have p2 := part_end (Ms.d4' hq)
 simp only [Nat.reduceAdd] at p1 p2
 rw [eqV, eqParts]
 simp only [partAV, List.drop_zero, Ms.d0 hm, Ms.d0 hq, eqV, r1]
 by_cases h1 : m.r = q.r
 case neg => rw [decide_eq_false h1, decide_eq_false (fun e => h1 (by rw [e]))]
 rw [decide_eq_true h1]
 simp only []
 rw [eqParts]
 simp only [partAV, Ms.d1 hm, Ms.d1 hq, eqV, r2]
 by_cases h2 : m.p = q.p
 case neg => rw [decide_eq_false h2, decide_eq_false (fun e => h2 (by rw [e]))]
 rw [decide_eq_true h2]
 simp only []
 rw [eqParts]
 simp only [partAV, Ms.d2 hm, Ms.d2 hq, eqV, r3]
 by_cases h3 : m.a = q.a
 case neg => rw [decide_eq_false h3, decide_eq_false (fun e => h3 (by rw [e]))]
 rw [decide_eq_true h3]
 simp only []
 rw [eqParts]
 simp only [partAV, Ms.d3 hm, Ms.d3 hq, eqV, r4]
 by_cases h4 : m.c = q.c
 case neg => rw [decide_eq_false h4, decide_eq_false (fun e => h4 (by rw [e]))]
 rw [decide_eq_true h4]
 simp only []
 rw [eqParts]
 simp only [partAV, p1.1, p2.1, eqV, eq_ints]
 by_cases h5 : m.pc = q.pc
 case neg => rw [decide_eq_false h5, decide_eq_false (fun e => h5 (by rw [e]))]
 rw [decide_eq_true h5]
 simp only []
 rw [eqParts]
 simp only [partAV, p1.2, p2.2, eqV, eq_byte]
 by_cases h6 : m.f = q.f
 case neg => rw [decide_eq_false h6, decide_eq_false (fun e => h6 (by rw [e]))]
 rw [decide_eq_true h6]
 simp only [eqParts]
 have : m = q := by cases m; cases q; simp_all
 rw [decide_eq_true this]

/-- What the law marks. -/
structure Mk where
 r : List Bool
 p : List Bool
 lo : Bool
 br : Bool
 st : Bool
def mk0 : Mk := ⟨List.replicate 32 false, List.replicate 4 false, false, false, false⟩
def markF (i : In) (M : Mk) : Mk :=
 if i.op = 1 then M
 else if i.op = 10 ∨ i.op = 11 ∨ i.op = 12 ∨ i.op = 13 then { M with p := M.p.set (i.d.toNat % 4) true }
 else if i.op = 24 ∨ i.op = 25 ∨ i.op = 26 then { M with st := true }
 else if i.op = 27 ∨ i.op = 28 then { M with br := true }
 else if i.op = 29 then { M with br := true, r := M.r.set 31 true }
 else if i.op = 30 ∨ i.op = 31 then { M with lo := true }
 else { M with r := M.r.set (i.d.toNat % 32) true }
def marksF : List In → Mk → Mk
 | [], M => M
 | i :: l, M => marksF l (markF i M)
structure Inv (w : Ms) (M : Mk) (z : Stp) : Prop where
 r : ∀ k : Nat, M.r[k]? = some false → z.now.r[k]? = w.r[k]?
 p : ∀ k : Nat, M.p[k]? = some false → z.now.p[k]? = w.p[k]?
 lo : M.lo = false → z.now.a = w.a ∧ z.now.c = w.c
 st : z.pis = true → M.st = true
 br : z.go = true → M.br = true
 f : z.now.f = w.f
theorem set_false {l : List Bool} {j k : Nat} (h : (l.set j true)[k]? = some false) : l[k]? = some false ∧ (j = k → ¬ j < l.length) := by
 rw [List.getElem?_set] at h
 by_cases e : j = k
 · subst e
   rw [if_pos rfl] at h
   by_cases hj : j < l.length
   · rw [if_pos hj] at h; cases h
   · rw [if_neg hj] at h; cases h
 · rw [if_neg e] at h
   exact ⟨h, fun e' => absurd e' e⟩
theorem Inv.mark {w : Ms} {M : Mk} {z : Stp} (h : Inv w M z) (i : In) : Inv w (markF i M) z := by
 unfold markF
 repeat' split
 · exact h
 · exact ⟨h.r, fun k hk => h.p k (set_false hk).1, h.lo, h.st, h.br, h.f⟩
 · exact ⟨h.r, h.p, h.lo, fun _ => rfl, h.br, h.f⟩
 · exact ⟨h.r, h.p, h.lo, h.st, fun _ => rfl, h.f⟩
 · exact ⟨fun k hk => h.r k (set_false hk).1, h.p, h.lo, h.st, fun _ => rfl, h.f⟩
 · exact ⟨h.r, h.p, fun e => (by cases e), h.st, h.br, h.f⟩
 · exact ⟨fun k hk => h.r k (set_false hk).1, h.p, h.lo, h.st, h.br, h.f⟩
theorem isC_op {i : In} (hi : isByte i.op = true) (h : isC i.op.toNat = true) : i.op = 10 ∨ i.op = 11 ∨ i.op = 12 ∨ i.op = 13 := by
 obtain ⟨n, e, hn⟩ := byte_nat hi
 rw [e] at h ⊢
 unfold isC at h
 simp at h
 omega
theorem stN_op {i : In} (hi : isByte i.op = true) (h : 0 < stN i.op.toNat) : i.op = 24 ∨ i.op = 25 ∨ i.op = 26 := by
 obtain ⟨n, e, hn⟩ := byte_nat hi
 rw [e] at h ⊢
 rw [show Int.toNat (n : Int) = n from rfl] at h
 unfold stN at h
 split at h <;> first | omega | simp_all
theorem ldN_op {i : In} (hi : isByte i.op = true) (h : 0 < ldN i.op.toNat) : i.op = 21 ∨ i.op = 22 ∨ i.op = 23 := by
 obtain ⟨n, e, hn⟩ := byte_nat hi
 rw [e] at h ⊢
 rw [show Int.toNat (n : Int) = n from rfl] at h
 unfold ldN at h
 split at h <;> first | omega | simp_all
theorem isV_op {i : In} (hi : isByte i.op = true) (h : isV i.op.toNat = true) : (2 ≤ i.op ∧ i.op ≤ 9) ∨ (15 ≤ i.op ∧ i.op ≤ 20) := by
 obtain ⟨n, e, hn⟩ := byte_nat hi
 rw [e] at h ⊢
 unfold isV at h
 simp at h
 omega
theorem Inv.does {w : Ms} {M : Mk} {z : Stp} {p : Pk} {m : AV} (h : Inv w M z) (hk : Kin p w m z) (hr : M.r.length = 32) (hp : M.p.length = 4) {i : In} (hi : i.Byt) (me : List ME) (L : List In) (next : Int) : Inv w (markF i M) (doesF me L next i z) := by
 unfold doesF
 by_cases hc : isC i.op.toNat = true
 · have ho := isC_op hi.op hc
   rw [if_neg (by omega), if_pos hc]
   unfold markF
   rw [if_neg (by omega), if_pos ho]
   refine ⟨h.r, fun k hkk => ?_, h.lo, h.st, h.br, h.f⟩
   have h2 := set_false hkk
   show (z.now.p.set (i.d.toNat % 4) _)[k]? = _
   rw [List.getElem?_set_ne (fun e => h2.2 e (by rw [hp]; omega))]
   exact h.p k h2.1
 · by_cases hs : 0 < stN i.op.toNat
   · have ho := stN_op hi.op hs
     rw [if_neg (by omega), if_neg hc, if_pos hs]
     unfold markF
     rw [if_neg (by omega), if_neg (by omega), if_pos ho]
     exact ⟨h.r, h.p, h.lo, fun _ => rfl, h.br, h.f⟩
   · by_cases hv : isV i.op.toNat = true ∨ 0 < ldN i.op.toNat ∨ i.op = 14
     · have ho : (2 ≤ i.op ∧ i.op ≤ 9) ∨ (14 ≤ i.op ∧ i.op ≤ 23) := by
        rcases hv with h' | h' | h'
        · have := isV_op hi.op h'; omega
        · have := ldN_op hi.op h'; omega
        · omega
       rw [if_neg (by omega), if_neg hc, if_neg hs, if_pos hv]
       unfold markF
       rw [if_neg (by omega), if_neg (by omega), if_neg (by omega), if_neg (by omega), if_neg (by omega), if_neg (by omega)]
       refine ⟨fun k hkk => ?_, h.p, h.lo, h.st, h.br, h.f⟩
       have h2 := set_false hkk
       show (z.now.r.set (i.d.toNat % 32) _)[k]? = _
       rw [List.getElem?_set_ne (fun e => h2.2 e (by rw [hr]; omega))]
       exact h.r k h2.1
     · by_cases h30 : i.op = 30
       · rw [if_neg (by omega), if_neg hc, if_neg hs, if_neg hv, if_pos h30]
         unfold markF
         rw [if_neg (by omega), if_neg (by omega), if_neg (by omega), if_neg (by omega), if_neg (by omega), if_pos (.inl h30)]
         exact ⟨h.r, h.p, fun e => (by cases e), h.st, h.br, h.f⟩
       by_cases h31 : i.op = 31
       · rw [if_neg (by omega), if_neg hc, if_neg hs, if_neg hv, if_neg h30, if_pos h31]
         unfold markF
         rw [if_neg (by omega), if_neg (by omega), if_neg (by omega), if_neg (by omega), if_neg (by omega), if_pos (.inr h31)]
         exact ⟨h.r, h.p, fun e => (by cases e), h.st, h.br, h.f⟩
       by_cases h27 : i.op = 27
       · rw [if_neg (by omega), if_neg hc, if_neg hs, if_neg hv, if_neg h30, if_neg h31, if_pos (.inl h27)]
         unfold markF
         rw [if_neg (by omega), if_neg (by omega), if_neg (by omega), if_pos (.inl h27)]
         exact ⟨h.r, h.p, h.lo, h.st, fun _ => rfl, h.f⟩
       by_cases h29 : i.op = 29
       · rw [if_pos h29, if_neg hc, if_neg hs, if_neg hv, if_neg h30, if_neg h31, if_pos (.inr h29)]
         unfold markF
         rw [if_neg (by omega), if_neg (by omega), if_neg (by omega), if_neg (by omega), if_pos h29]
         refine ⟨fun k hkk => ?_, h.p, h.lo, h.st, fun _ => rfl, h.f⟩
         have h2 := set_false hkk
         show (z.now.r.set 31 _)[k]? = _
         rw [List.getElem?_set_ne (fun e => h2.2 e (by rw [hr]; omega))]
         exact h.r k h2.1
       by_cases h28 : i.op = 28
       · rw [if_neg h29, if_neg hc, if_neg hs, if_neg hv, if_neg h30, if_neg h31, if_neg (by omega), if_pos h28]
         unfold markF
         rw [if_neg (by omega), if_neg (by omega), if_neg (by omega), if_pos (.inr h28)]
         exact ⟨h.r, h.p, h.lo, h.st, fun _ => rfl, h.f⟩
       rw [if_neg h29, if_neg hc, if_neg hs, if_neg hv, if_neg h30, if_neg h31, if_neg (by omega), if_neg h28]
       exact h.mark i
theorem markF_len (i : In) (M : Mk) : (markF i M).r.length = M.r.length ∧ (markF i M).p.length = M.p.length := by
 unfold markF
 repeat' split
 all_goals simp
theorem marksF_len : ∀ (l : List In) (M : Mk), (marksF l M).r.length = M.r.length ∧ (marksF l M).p.length = M.p.length
 | [], M => ⟨rfl, rfl⟩
 | i :: l, M => by
  have h1 := marksF_len l (markF i M)
  have h2 := markF_len i M
  exact ⟨h1.1.trans h2.1, h1.2.trans h2.2⟩
theorem Inv.all {w : Ms} {p : Pk} {m : AV} (me : List ME) (L : List In) (next : Int) : ∀ (l : List In) (M : Mk) (z : Stp), (∀ i ∈ l, i.ok = true) → Inv w M z → Kin p w m z → M.r.length = 32 → M.p.length = 4 → Inv w (marksF l M) (alldoF me L next l z) ∧ Kin p w m (alldoF me L next l z)
 | [], M, z, _, h, hk, _, _ => ⟨h, hk⟩
 | i :: l, M, z, hok, h, hk, hr, hp => by
  have hl := markF_len i M
  have hi := In.byt (hok i (List.mem_cons_self ..))
  unfold alldoF marksF
  by_cases hd : dueF z.was L i = true
  · rw [if_pos hd]
    exact Inv.all me L next l _ _ (fun j hj => hok j (List.mem_cons_of_mem _ hj)) (h.does hk hr hp hi me L next) (hk.does me L next i) (hl.1.trans hr) (hl.2.trans hp)
  · rw [if_neg hd]
    exact Inv.all me L next l _ _ (fun j hj => hok j (List.mem_cons_of_mem _ hj)) (h.mark i) hk (hl.1.trans hr) (hl.2.trans hp)
/-- What stays behind a packet that does not fault. -/
structure Stay (w : Ms) (M : Mk) (q : Pk) (next : Int) (t : Ms) (pis : Bool) : Prop where
 ok : t.Ok
 r : ∀ k : Nat, M.r[k]? = some false → t.r[k]? = w.r[k]?
 p : ∀ k : Nat, M.p[k]? = some false → t.p[k]? = w.p[k]?
 a : M.lo = false → t.a = w.a
 c0 : M.lo = false → q.e0 = false → t.c[0]? = w.c[0]?
 c1 : M.lo = false → q.e1 = false → t.c[1]? = w.c[1]?
 st : pis = true → M.st = true
 br : M.br = true ∨ q.e0 = true ∨ q.e1 = true ∨ t.pc = next
 f : t.f = w.f
theorem stay (p : Pk) {w : Ms} (hw : w.Ok) (me : List ME) (next : Int) (m : AV) (hok : ∀ i ∈ p.L, i.ok = true) (hf : w.f = 0) (hff : faultsF w p.L p.L 0 = 0) : Stay w (marksF p.L mk0) p next (doM p w me next m).1 (doM p w me next m).2.1 := by
 have h0 : Inv w mk0 (stp0 p w m) := ⟨fun _ _ => rfl, fun _ _ => rfl, fun _ => ⟨rfl, rfl⟩, fun e => (by cases e), fun e => (by cases e), rfl⟩
 have k0 : Kin p w m (stp0 p w m) := ⟨rfl, rfl, rfl, rfl, rfl, hw⟩
 obtain ⟨h1, k1⟩ := Inv.all (w := w) (p := p) (m := m) me p.L next p.L mk0 (stp0 p w m) hok h0 k0 rfl rfl
 unfold doM
 rw [if_neg (by simp [hf]), if_neg (by simp [hff])]
 generalize alldoF me p.L next p.L (stp0 p w m) = z at *
 generalize marksF p.L mk0 = M at *
 show Stay w M p next (if z.go = true then z else turnsF next z).now (if z.go = true then z else turnsF next z).pis
 by_cases hg : z.go = true
 · rw [if_pos hg]
   exact ⟨k1.ok, h1.r, h1.p, fun e => (h1.lo e).1, fun e _ => by rw [(h1.lo e).2], fun e _ => by rw [(h1.lo e).2], h1.st, .inl (h1.br hg), h1.f⟩
 · rw [if_neg hg]
   have kt := k1.turns next
   unfold turnsF at kt ⊢
   have e0 := k1.e0
   have e1 := k1.e1
   by_cases c0 : z.e0 = true ∧ 1 < z.was.c.getD 0 0
   · rw [if_pos c0] at kt ⊢
     refine ⟨kt.ok, h1.r, h1.p, fun e => (h1.lo e).1, fun e e' => ?_, fun e _ => ?_, h1.st, .inr (.inl (e0 ▸ c0.1)), h1.f⟩
     · rw [← e0, c0.1] at e'; cases e'
     · show (z.now.c.set 0 _)[1]? = _
       rw [List.getElem?_set_ne (by decide), (h1.lo e).2]
   · rw [if_neg c0] at kt ⊢
     by_cases c1 : z.e1 = true ∧ 1 < z.was.c.getD 1 0
     · rw [if_pos c1] at kt ⊢
       refine ⟨kt.ok, h1.r, h1.p, fun e => (h1.lo e).1, fun e _ => ?_, fun e e' => ?_, h1.st, .inr (.inr (.inl (e1 ▸ c1.1))), h1.f⟩
       · show (z.now.c.set 1 _)[0]? = _
         rw [List.getElem?_set_ne (by decide), (h1.lo e).2]
       · rw [← e1, c1.1] at e'; cases e'
     · rw [if_neg c1] at kt ⊢
       exact ⟨kt.ok, h1.r, h1.p, fun e => (h1.lo e).1, fun e _ => by show z.now.c[0]? = _; rw [(h1.lo e).2], fun e _ => by show z.now.c[1]? = _; rw [(h1.lo e).2], h1.st, .inr (.inr (.inr rfl)), h1.f⟩
theorem faultsF_cases (w : Ms) (L : List In) : ∀ (l : List In) (g : Int), (g = 0 ∨ g = 3 ∨ g = 4) → faultsF w L l g = 0 ∨ faultsF w L l g = 3 ∨ faultsF w L l g = 4
 | [], g, h => h
 | i :: l, g, h => by
  unfold faultsF
  refine faultsF_cases w L l _ ?_
  have hf : faultyF w i = 0 ∨ faultyF w i = 3 ∨ faultyF w i = 4 := by
   unfold faultyF
   repeat' split
   all_goals simp
  repeat' split
  all_goals first | exact hf | exact h
end Go.V
/- The law SemStays answers true. -/
namespace Go.V
open Go
set_option linter.unusedSimpArgs false
set_option linter.unusedVariables false
section
open Z
abbrev sL1l1 : ICode := .seq (R [(m 211 16),(m 212 211),(og 213 212 false (.fieldAddr 1 t4)),(og 214 212 false (.load false 1 t213)),(o 215 (.pick t212 T t214)),(m 216 215),(og 217 216 false (.fieldAddr 2 t4)),(og 218 216 false (.load false 1 t217)),(o 219 (.pick t216 T t218)),(m 220 219),(og 221 220 false (.fieldAddr 40 t10)),(og 222 220 false (.load false 1 t221)),(og 223 220 false (.move t1)),(og 224 220 false (.bin .eql t222 t223)),(o 225 (.pick t220 T t224)),(m 226 225),(og 227 226 true (.call 7 [])),(o 228 (.pick t226 t227 F)),(m 8 228)]) .ret
abbrev sL1l2 : ICode := .seq (R [(m 166 15),(o 167 (.un .not t166)),(m 168 167),(og 169 168 true (.fieldAddr 36 t10)),(og 170 168 true (.load true 2 t169)),(og 171 168 true (.fieldAddr 36 t6)),(og 172 168 true (.load true 2 t171)),(og 173 168 true (.eq true (.agg [(0,1,false,(.prim .int)),(1,1,false,(.prim .int))]) t170 t172)),(og 174 168 true (.move t173)),(og 175 174 false (.fieldAddr 1 t4)),(og 176 174 false (.load false 1 t175)),(og 177 174 false (.un .not t176)),(og 178 174 false (.move t177)),(og 179 178 true (.fieldAddr 38 t10)),(og 180 178 true (.idxArr 2 1 t179 (I 0))),(og 181 178 true (.load false 1 t180)),(og 182 178 true (.fieldAddr 38 t6)),(og 183 178 true (.idxArr 2 1 t182 (I 0))),(og 184 178 true (.load false 1 t183)),(og 185 178 true (.bin .neq t181 t184)),(og 186 174 false (.pick t178 t185 F)),(og 187 168 true (.pick t174 T t186)),(og 188 168 true (.move t187)),(og 189 188 false (.fieldAddr 2 t4)),(og 190 188 false (.load false 1 t189)),(og 191 188 false (.un .not t190)),(og 192 188 false (.move t191)),(og 193 192 true (.fieldAddr 38 t10)),(og 194 192 true (.idxArr 2 1 t193 (I 1))),(og 195 192 true (.load false 1 t194)),(og 196 192 true (.fieldAddr 38 t6)),(og 197 192 true (.idxArr 2 1 t196 (I 1))),(og 198 192 true (.load false 1 t197)),(og 199 192 true (.bin .neq t195 t198)),(og 200 188 false (.pick t192 t199 F)),(og 201 168 true (.pick t188 T t200)),(o 202 (.pick t168 t201 F)),(m 203 202),(og 204 203 false (.fieldAddr 0 t11)),(og 205 203 false (.load false 1 t204)),(og 206 203 false (.move t205)),(og 207 206 true (.move t17)),(og 208 206 true (.un .not t207)),(og 209 203 false (.pick t206 t208 F)),(o 210 (.pick t203 T t209))]) (.cond t210 lG1l1 .skip)
abbrev sL1l0 : ICode := .seq sL1l2 sL1l1
end
open Z in def ir3 : IFunc := ⟨229,[.tmp 8],(q (R [(o 4 (.box t0)),(o 6 (.box t2)),(o 8 (.move F))]) (q (q (R [(f 22 0 4),(l 23 1 22),(o 24 (.lenSl t23)),(o 25 (.bin .gtr t24 (I 4))),(m 26 25),(og 27 26 false (.move t3)),(og 28 26 false (.call 5 [t27])),(o 29 (.pick t26 T t28)),(m 30 29),(og 31 30 false (.load true 5 t4)),(og 32 30 false (.call 6 [t31])),(og 33 30 false (.bin .neq t32 (I 0))),(o 34 (.pick t30 T t33))]) (.cond t34 (q (R [(o 35 (.call 7 [])),(m 8 35)]) .ret) .skip)) (q (R [(m 36 3),(o 37 (.call 8 [t36])),(m 9 37)]) (q (R [(la 39 5 4),(m 40 1),(la 41 42 6),(m 42 9),(o 43 (.call 9 [t39,t40,t41,t42])),(m 38 43),(x 44 38 0),(x 45 38 1),(o 10 (.alloc [(w 0),(w 0),(w 0),(w 0),(w 0),(w 0),(w 0),(w 0),(w 0),(w 0),(w 0),(w 0),(w 0),(w 0),(w 0),(w 0),(w 0),(w 0),(w 0),(w 0),(w 0),(w 0),(w 0),(w 0),(w 0),(w 0),(w 0),(w 0),(w 0),(w 0),(w 0),(w 0),z,z,z,z,(w 0),(w 0),(w 0),(w 0),(w 0),(b 0)])),(o 11 (.alloc [z,(w 0),(i 0),(w 0)])),(st 42 10 44),(st 4 11 45)]) (q (q (R [(f 46 41 6),(l 47 1 46),(o 48 (.bin .neq t47 (B 0)))]) (.cond t48 (q (R [(la 49 42 10),(la 50 42 6),(o 51 (.eq false (.agg [(0,32,true,(.agg [(0,1,false,(.prim .int)),(1,1,false,(.prim .int)),(2,1,false,(.prim .int)),(3,1,false,(.prim .int)),(4,1,false,(.prim .int)),(5,1,false,(.prim .int)),(6,1,false,(.prim .int)),(7,1,false,(.prim .int)),(8,1,false,(.prim .int)),(9,1,false,(.prim .int)),(10,1,false,(.prim .int)),(11,1,false,(.prim .int)),(12,1,false,(.prim .int)),(13,1,false,(.prim .int)),(14,1,false,(.prim .int)),(15,1,false,(.prim .int)),(16,1,false,(.prim .int)),(17,1,false,(.prim .int)),(18,1,false,(.prim .int)),(19,1,false,(.prim .int)),(20,1,false,(.prim .int)),(21,1,false,(.prim .int)),(22,1,false,(.prim .int)),(23,1,false,(.prim .int)),(24,1,false,(.prim .int)),(25,1,false,(.prim .int)),(26,1,false,(.prim .int)),(27,1,false,(.prim .int)),(28,1,false,(.prim .int)),(29,1,false,(.prim .int)),(30,1,false,(.prim .int)),(31,1,false,(.prim .int))])),(32,4,true,(.agg [(0,1,false,(.prim .bool)),(1,1,false,(.prim .bool)),(2,1,false,(.prim .bool)),(3,1,false,(.prim .bool))])),(36,2,true,(.agg [(0,1,false,(.prim .int)),(1,1,false,(.prim .int))])),(38,2,true,(.agg [(0,1,false,(.prim .int)),(1,1,false,(.prim .int))])),(40,1,false,(.prim .int)),(41,1,false,(.prim .int))]) t49 t50)),(m 52 51),(og 53 52 true (.fieldAddr 0 t11)),(og 54 52 true (.load false 1 t53)),(og 55 52 true (.un .not t54)),(o 56 (.pick t52 t55 F)),(m 57 56),(og 58 57 true (.call 7 [])),(o 59 (.pick t57 t58 F)),(m 8 59)]) .ret) .skip)) (q (q (R [(f 60 41 10),(l 61 1 60),(o 62 (.bin .neq t61 (B 0)))]) (.cond t62 (q (R [(la 63 42 10),(o 12 (.alloc [(w 0),(w 0),(w 0),(w 0),(w 0),(w 0),(w 0),(w 0),(w 0),(w 0),(w 0),(w 0),(w 0),(w 0),(w 0),(w 0),(w 0),(w 0),(w 0),(w 0),(w 0),(w 0),(w 0),(w 0),(w 0),(w 0),(w 0),(w 0),(w 0),(w 0),(w 0),(w 0),z,z,z,z,(w 0),(w 0),(w 0),(w 0),(w 0),(b 0)])),(st 42 12 63)]) (q (R [(f 64 41 12),(n (.store 1 t64 (B 0)))]) (q (R [(la 65 42 12),(la 66 42 6),(o 67 (.eq false (.agg [(0,32,true,(.agg [(0,1,false,(.prim .int)),(1,1,false,(.prim .int)),(2,1,false,(.prim .int)),(3,1,false,(.prim .int)),(4,1,false,(.prim .int)),(5,1,false,(.prim .int)),(6,1,false,(.prim .int)),(7,1,false,(.prim .int)),(8,1,false,(.prim .int)),(9,1,false,(.prim .int)),(10,1,false,(.prim .int)),(11,1,false,(.prim .int)),(12,1,false,(.prim .int)),(13,1,false,(.prim .int)),(14,1,false,(.prim .int)),(15,1,false,(.prim .int)),(16,1,false,(.prim .int)),(17,1,false,(.prim .int)),(18,1,false,(.prim .int)),(19,1,false,(.prim .int)),(20,1,false,(.prim .int)),(21,1,false,(.prim .int)),(22,1,false,(.prim .int)),(23,1,false,(.prim .int)),(24,1,false,(.prim .int)),(25,1,false,(.prim .int)),(26,1,false,(.prim .int)),(27,1,false,(.prim .int)),(28,1,false,(.prim .int)),(29,1,false,(.prim .int)),(30,1,false,(.prim .int)),(31,1,false,(.prim .int))])),(32,4,true,(.agg [(0,1,false,(.prim .bool)),(1,1,false,(.prim .bool)),(2,1,false,(.prim .bool)),(3,1,false,(.prim .bool))])),(36,2,true,(.agg [(0,1,false,(.prim .int)),(1,1,false,(.prim .int))])),(38,2,true,(.agg [(0,1,false,(.prim .int)),(1,1,false,(.prim .int))])),(40,1,false,(.prim .int)),(41,1,false,(.prim .int))]) t65 t66)),(m 68 67),(og 69 68 true (.fieldAddr 0 t11)),(og 70 68 true (.load false 1 t69)),(og 71 68 true (.un .not t70)),(o 72 (.pick t68 t71 F)),(m 73 72),(og 74 73 true (.fieldAddr 41 t10)),(og 75 73 true (.load false 1 t74)),(og 76 73 true (.bin .eql t75 (B 3))),(og 77 73 true (.move t76)),(og 78 77 false (.fieldAddr 41 t10)),(og 79 77 false (.load false 1 t78)),(og 80 77 false (.bin .eql t79 (B 4))),(og 81 73 true (.pick t77 T t80)),(o 82 (.pick t73 t81 F)),(m 83 82),(og 84 83 true (.call 7 [])),(o 85 (.pick t83 t84 F)),(m 8 85)]) .ret))) .skip)) (q (R [(o 13 (.alloc [z,z,z,z,z,z,z,z,z,z,z,z,z,z,z,z,z,z,z,z,z,z,z,z,z,z,z,z,z,z,z,z]))]) (q (R [(o 14 (.alloc [z,z,z,z]))]) (q (R [(o 15 (.move F)),(o 16 (.move F)),(o 17 (.move F))]) (q (q (R [(mi 18 0)]) (.block 0 (.loop (q (q (R [(m 86 18),(f 87 0 4),(l 88 1 87),(o 89 (.lenSl t88)),(o 90 (.bin .lss t86 t89))]) (.cond t90 .skip (.exit 0))) (q (.block 1 (q (R [(f 93 0 4),(l 94 1 93),(m 95 18),(ix 96 11 94 95),(la 97 11 96),(o 19 (.alloc [(b 0),(b 0),(b 0),(b 0),(b 0),(b 0),(b 0),z,z,(.int .u16 0),(i 0)])),(st 11 19 97)]) (q (R [(f 98 0 19),(l 99 1 98)]) (.block 2 (q (R [(o 105 (.bin .eql t99 (B 1))),(m 104 105)]) (.cond t104 .skip (q (q (R [(o 107 (.bin .eql t99 (B 10))),(m 106 107)]) (.cond t106 .skip (q (R [(o 108 (.bin .eql t99 (B 11))),(m 106 108)]) (.cond t106 .skip (q (R [(o 109 (.bin .eql t99 (B 12))),(m 106 109)]) (.cond t106 .skip (R [(o 110 (.bin .eql t99 (B 13))),(m 106 110)]))))))) (.cond t106 (R [(f 111 1 19),(l 112 1 111),(o 113 (.bin .rem t112 (B 4))),(o 114 (.idxArr 4 1 t14 t113)),(n (.store 1 t114 T))]) (q (q (R [(o 116 (.bin .eql t99 (B 24))),(m 115 116)]) (.cond t115 .skip (q (R [(o 117 (.bin .eql t99 (B 25))),(m 115 117)]) (.cond t115 .skip (R [(o 118 (.bin .eql t99 (B 26))),(m 115 118)]))))) (.cond t115 (R [(o 17 (.move T))]) (q (q (R [(o 120 (.bin .eql t99 (B 27))),(m 119 120)]) (.cond t119 .skip (R [(o 121 (.bin .eql t99 (B 28))),(m 119 121)]))) (.cond t119 (R [(o 16 (.move T))]) (q (R [(o 123 (.bin .eql t99 (B 29))),(m 122 123)]) (.cond t122 (q (R [(o 16 (.move T))]) (R [(o 124 (.idxArr 32 1 t13 (I 31))),(n (.store 1 t124 T))])) (q (q (R [(o 126 (.bin .eql t99 (B 30))),(m 125 126)]) (.cond t125 .skip (R [(o 127 (.bin .eql t99 (B 31))),(m 125 127)]))) (.cond t125 (R [(o 15 (.move T))]) (R [(f 100 1 19),(l 101 1 100),(o 102 (.bin .rem t101 (B 32))),(o 103 (.idxArr 32 1 t13 t102)),(n (.store 1 t103 T))]))))))))))))))))) (R [(m 91 18),(o 92 (.bin .add t91 (I 1))),(m 18 92)])))))) (q (q (R [(mi 20 0)]) (.block 3 (.loop (q (q (R [(m 128 20),(o 129 (.bin .lss t128 (I 32)))]) (.cond t129 .skip (.exit 3))) (q (.block 4 (q (.region [(m 132 20),(o 133 (.idxArr 32 1 t13 t132)),(l 134 1 133),(o 135 (.un .not t134)),(m 136 135),(og 137 136 true (.move t20)),(og 138 136 true (.fieldAddr 0 t10)),(og 139 136 true (.idxArr 32 1 t138 t137)),(og 140 136 true (.load false 1 t139)),(og 141 136 true (.move t20)),(og 142 136 true (.fieldAddr 0 t6)),(og 143 136 true (.idxArr 32 1 t142 t141)),(og 144 136 true (.load false 1 t143)),(og 145 136 true (.bin .neq t140 t144)),(o 146 (.pick t136 t145 F))] true) (.cond t146 lG1l1 .skip))) (R [(m 130 20),(o 131 (.bin .add t130 (I 1))),(m 20 131)])))))) (q (q (R [(mi 21 0)]) (.block 5 (.loop (q (q (R [(m 147 21),(o 148 (.bin .lss t147 (I 4)))]) (.cond t148 .skip (.exit 5))) (q (.block 6 (q (.region [(m 151 21),(o 152 (.idxArr 4 1 t14 t151)),(l 153 1 152),(o 154 (.un .not t153)),(m 155 154),(og 156 155 true (.move t21)),(og 157 155 true (.fieldAddr 32 t10)),(og 158 155 true (.idxArr 4 1 t157 t156)),(og 159 155 true (.load false 1 t158)),(og 160 155 true (.move t21)),(og 161 155 true (.fieldAddr 32 t6)),(og 162 155 true (.idxArr 4 1 t161 t160)),(og 163 155 true (.load false 1 t162)),(og 164 155 true (.eq true (.prim .bool) t159 t163)),(o 165 (.pick t155 t164 F))] true) (.cond t165 lG1l1 .skip))) (R [(m 149 21),(o 150 (.bin .add t149 (I 1))),(m 21 150)])))))) sL1l0))))))))))))⟩
/-- The memory's blocks while the law goes on. -/
structure Fx (s : St) (n : Nat) (p : Pk) (w t : Ms) (q : Bool × Int × Int × Int) (M : Mk) (s1 : St) : Prop where
 e : Ext s s1
 h0 : s.next + 2 ≤ n
 hn : n + 4 ≤ s1.next
 c4 : s1.heap.get s.next = some (.cells p.cells 0 0 false)
 c6 : s1.heap.get (s.next + 1) = some (.cells w.cells 0 0 false)
 c10 : s1.heap.get n = some (.cells t.cells 0 0 false)
 c11 : s1.heap.get (n + 1) = some (.cells (putC q) 0 0 false)
 c13 : s1.heap.get (n + 2) = some (.cells (M.r.map mB) 0 0 false)
 c14 : s1.heap.get (n + 3) = some (.cells (M.p.map mB) 0 0 false)
structure Fe (s : St) (n : Nat) (next : Int) (M : Mk) (e : Env) : Prop where
 t1 : opd e (.t 1) = .int .u32 next
 t4 : opd e (.t 4) = .ptr ⟨s.next, 0, 0, 5⟩
 t6 : opd e (.t 6) = .ptr ⟨s.next + 1, 0, 0, 42⟩
 t10 : opd e (.t 10) = .ptr ⟨n, 0, 0, 42⟩
 t11 : opd e (.t 11) = .ptr ⟨n + 1, 0, 0, 4⟩
 t13 : opd e (.t 13) = .ptr ⟨n + 2, 0, 0, 32⟩
 t14 : opd e (.t 14) = .ptr ⟨n + 3, 0, 0, 4⟩
 t15 : opd e (.t 15) = .bool M.lo
 t16 : opd e (.t 16) = .bool M.br
 t17 : opd e (.t 17) = .bool M.st
theorem Ms.g_r {m : Ms} {i : Nat} {v : Int} (h : m.r[i]? = some v) : List.take 1 (List.drop i m.cells) = [.int .u32 v] := by
 have := seg_get [] (m.p.map mB ++ (m.a.map c32 ++ (m.c.map c32 ++ [.int .u32 m.pc, .int .u8 m.f]))) m.r c32 0 i v rfl h
 rw [Nat.zero_add] at this
 exact this
theorem Ms.g_p {m : Ms} (hm : m.Ok) {i : Nat} {v : Bool} (h : m.p[i]? = some v) : List.take 1 (List.drop (32 + i) m.cells) = [.bool v] :=
 seg_get (m.r.map c32) (m.a.map c32 ++ (m.c.map c32 ++ [.int .u32 m.pc, .int .u8 m.f])) m.p mB 32 i v (by simp [hm.r]) h
theorem Ms.g_c {m : Ms} (hm : m.Ok) {i : Nat} {v : Int} (h : m.c[i]? = some v) : List.take 1 (List.drop (38 + i) m.cells) = [.int .u32 v] := by
 have e : m.cells = ((m.r.map c32 ++ m.p.map mB) ++ m.a.map c32) ++ (m.c.map c32 ++ [.int .u32 m.pc, .int .u8 m.f]) := by simp [Ms.cells, List.append_assoc]
 rw [e]
 exact seg_get _ _ m.c c32 38 i v (by simp [hm.r, hm.p, hm.a]) h
theorem Ms.g_pc {m : Ms} (hm : m.Ok) : List.take 1 (List.drop 40 m.cells) = [.int .u32 m.pc] := by
 rw [Ms.d4' hm]; rfl
theorem two_of {l : List Int} (h : l.length = 2) : ∃ a b, l = [a, b] := by
 match l, h with
 | [a, b], _ => exact ⟨a, b, rfl⟩
section
variable {T : Tab}
structure SsTab (T : Tab) : Prop where
 sm : SmTab T
 mo : MoTab T
 lg : LgTab T
 du : DuTab T
 law : T 3 = some (.code ir3)
/-- awake answers true. -/
def Awk (T : Tab) (s : St) : Prop := ∀ s', Ext s s' → Ran T 7 [] s' fun v s'' => v = .bool true ∧ Ext s' s''
set_option maxHeartbeats 32000000 in
theorem tail_go {s : St} {n : Nat} {p : Pk} {w t : Ms} {q : Bool × Int × Int × Int} {M : Mk} {next : Int} (hw : w.Ok) (ht : Stay w M p next t q.1) (hA : Awk T s) {Q : Post} (hQ : ∀ e s', opd e (.t 8) = .bool true → Q .ret e s') (e : Env) (s1 : St) (hF : Fx s n p w t q M s1) (hE : Fe s n next M e) :
 Go T Q (sL1l0) [] e s1 := by
 obtain ⟨t1, t4, t6, t10, t11, t13, t14, t15, t16, t17⟩ := hE
 obtain ⟨f0, f1, f2, c4, c6, c10, c11, c13, c14⟩ := hF
 have hlw := Ms.len hw
 have hlt := Ms.len ht.ok
 simp only [Pk.cells] at c4
 simp only [putC] at c11
 obtain ⟨a0, a1, ha⟩ := two_of hw.a
 obtain ⟨b0, b1, hb⟩ := two_of ht.ok.a
 obtain ⟨x0, x1, hx⟩ := two_of hw.c
 obtain ⟨y0, y1, hy⟩ := two_of ht.ok.c
 have da := Ms.d2 hw
 have db := Ms.d2 ht.ok
 rw [ha] at da
 rw [hb] at db
 simp only [List.map_cons, List.map_nil] at da db
 have gx0 : List.take 1 (List.drop 38 w.cells) = [.int .u32 x0] := Ms.g_c hw (i := 0) (by rw [hx]; rfl)
 have gx1 : List.take 1 (List.drop 39 w.cells) = [.int .u32 x1] := Ms.g_c hw (i := 1) (by rw [hx]; rfl)
 have gy0 : List.take 1 (List.drop 38 t.cells) = [.int .u32 y0] := Ms.g_c ht.ok (i := 0) (by rw [hy]; rfl)
 have gy1 : List.take 1 (List.drop 39 t.cells) = [.int .u32 y1] := Ms.g_c ht.ok (i := 1) (by rw [hy]; rfl)
 have gpc := Ms.g_pc ht.ok
 have eqa : ∀ u v, eqV (.agg [(0, 1, false, .prim .int), (1, 1, false, .prim .int)]) (.agg [.int .u32 u, .int .u32 v]) (.agg [.int .u32 u, .int .u32 v]) = some true := by
  intro u v
  simp [eqV, eqParts, partAV, primEq]
 have A := hA s1 f0
 have last : ∀ (e : Env), opd e (.t 1) = .int .u32 next → opd e (.t 4) = .ptr ⟨s.next, 0, 0, 5⟩ → opd e (.t 10) = .ptr ⟨n, 0, 0, 42⟩ → opd e (.t 16) = .bool M.br → Go T Q (sL1l1) [] e s1 := by
  intro e t1 t4 t10 t16
  have fin : ∀ e, opd e (.t 226) = .bool true → GoCall T Q false (some 227) [] 7 [] [⟨some 228, none, [], .pick (.t 226) (.t 227) (.c (.bool false))⟩, ⟨some 8, none, [], .move (.t 228)⟩] [.seq .ret] e s1 := by
   intro e h226
   refine goCall_by A ?_
   rintro v s2 ⟨rfl, hE2⟩
   simp only [h226, wr, seval]
   exact hQ _ _ (by simp only [wr, seval])
  cases hbr : M.br with
  | true =>
   rw [hbr] at t16
   simp only [t1, t4, t10, t16, wr, seval]
   exact fin _ (by simp only [wr, seval])
  | false =>
   rw [hbr] at t16
   cases he0 : p.e0 with
   | true =>
    rw [he0] at c4
    simp only [t1, t4, t10, t16, c4, wr, seval]
    exact fin _ (by simp only [wr, seval])
   | false =>
    rw [he0] at c4
    cases he1 : p.e1 with
    | true =>
     rw [he1] at c4
     simp only [t1, t4, t10, t16, c4, wr, seval]
     exact fin _ (by simp only [wr, seval])
    | false =>
     rw [he1] at c4
     have hpc : t.pc = next := by
      rcases ht.br with h | h | h | h
      · rw [hbr] at h; cases h
      · rw [he0] at h; cases h
      · rw [he1] at h; cases h
      · exact h
     rw [hpc] at gpc
     simp only [t1, t4, t10, t16, c4, c10, hlt, gpc, wr, seval]
     exact fin _ (by simp only [wr, seval])
 have hput : q.1 = true → M.st = true := ht.st
 show Go T Q (.seq (sL1l2) (sL1l1)) [] e s1
 generalize ((sL1l1) : ICode) = RC at last ⊢
 cases hlo : M.lo with
 | true =>
  rw [hlo] at t15
  cases hq : q.1 with
  | true =>
   rw [hput hq] at t17
   rw [hq] at c11
   simp only [t4, t6, t10, t11, t15, t17, c4, c6, c10, c11, wr, seval]
   exact last _ (by simp only [t1, wr, seval]) (by simp only [t4, wr, seval]) (by simp only [t10, wr, seval]) (by simp only [t16, wr, seval])
  | false =>
   rw [hq] at c11
   simp only [t4, t6, t10, t11, t15, t17, c4, c6, c10, c11, wr, seval]
   exact last _ (by simp only [t1, wr, seval]) (by simp only [t4, wr, seval]) (by simp only [t10, wr, seval]) (by simp only [t16, wr, seval])
 | false =>
  rw [hlo] at t15
  have hta := ht.a hlo
  rw [ha, hb] at hta
  obtain ⟨rfl, rfl⟩ : b0 = a0 ∧ b1 = a1 := by
   injection hta with h1 h2
   injection h2 with h2 _
   exact ⟨h1, h2⟩
  have hc0 : p.e0 = false → y0 = x0 := fun h => by
   have := ht.c0 hlo h
   rw [hx, hy] at this
   exact Option.some.inj this
  have hc1 : p.e1 = false → y1 = x1 := fun h => by
   have := ht.c1 hlo h
   rw [hx, hy] at this
   exact Option.some.inj this
  cases he0 : p.e0 <;> cases he1 : p.e1
  all_goals
   rw [he0, he1] at c4
   simp only [he0, he1, true_implies, Bool.true_eq_false, false_implies] at hc0 hc1
  all_goals try (rw [hc0] at gy0)
  all_goals try (rw [hc1] at gy1)
  all_goals
   cases hq : q.1 with
   | true =>
    rw [hput hq] at t17
    rw [hq] at c11
    simp only [t4, t6, t10, t11, t15, t17, c4, c6, c10, c11, hlt, hlw, da, db, eqa, gx0, gx1, gy0, gy1, wr, seval]
    exact last _ (by simp only [t1, wr, seval]) (by simp only [t4, wr, seval]) (by simp only [t10, wr, seval]) (by simp only [t16, wr, seval])
   | false =>
    rw [hq] at c11
    simp only [t4, t6, t10, t11, t15, t17, c4, c6, c10, c11, hlt, hlw, da, db, eqa, gx0, gx1, gy0, gy1, wr, seval]
    exact last _ (by simp only [t1, wr, seval]) (by simp only [t4, wr, seval]) (by simp only [t10, wr, seval]) (by simp only [t16, wr, seval])
end
end Go.V
/- The law SemStays: its loops. -/
namespace Go.V
open Go
set_option linter.unusedSimpArgs false
set_option linter.unusedVariables false
section
open Z
abbrev sL2l2 : ICode := .loop (q (q (R [(m 128 20),(o 129 (.bin .lss t128 (I 32)))]) (.cond t129 .skip (.exit 3))) (q (.block 4 (q (.region [(m 132 20),(o 133 (.idxArr 32 1 t13 t132)),(l 134 1 133),(o 135 (.un .not t134)),(m 136 135),(og 137 136 true (.move t20)),(og 138 136 true (.fieldAddr 0 t10)),(og 139 136 true (.idxArr 32 1 t138 t137)),(og 140 136 true (.load false 1 t139)),(og 141 136 true (.move t20)),(og 142 136 true (.fieldAddr 0 t6)),(og 143 136 true (.idxArr 32 1 t142 t141)),(og 144 136 true (.load false 1 t143)),(og 145 136 true (.bin .neq t140 t144)),(o 146 (.pick t136 t145 F))] true) (.cond t146 lG1l1 .skip))) (R [(m 130 20),(o 131 (.bin .add t130 (I 1))),(m 20 131)])))
abbrev sL2l1 : ICode := .loop (q (q (R [(m 147 21),(o 148 (.bin .lss t147 (I 4)))]) (.cond t148 .skip (.exit 5))) (q (.block 6 (q (.region [(m 151 21),(o 152 (.idxArr 4 1 t14 t151)),(l 153 1 152),(o 154 (.un .not t153)),(m 155 154),(og 156 155 true (.move t21)),(og 157 155 true (.fieldAddr 32 t10)),(og 158 155 true (.idxArr 4 1 t157 t156)),(og 159 155 true (.load false 1 t158)),(og 160 155 true (.move t21)),(og 161 155 true (.fieldAddr 32 t6)),(og 162 155 true (.idxArr 4 1 t161 t160)),(og 163 155 true (.load false 1 t162)),(og 164 155 true (.eq true (.prim .bool) t159 t163)),(o 165 (.pick t155 t164 F))] true) (.cond t165 lG1l1 .skip))) (R [(m 149 21),(o 150 (.bin .add t149 (I 1))),(m 21 150)])))
abbrev sL2l0 : ICode := .seq (q (R [(mi 21 0)]) (.block 5 sL2l1)) sL1l0
end
section
variable {T : Tab}
theorem Fe.set {s : St} {n : Nat} {next : Int} {M : Mk} {e e' : Env} (h : Fe s n next M e) (h1 : opd e' (.t 1) = opd e (.t 1)) (h4 : opd e' (.t 4) = opd e (.t 4)) (h6 : opd e' (.t 6) = opd e (.t 6)) (h10 : opd e' (.t 10) = opd e (.t 10)) (h11 : opd e' (.t 11) = opd e (.t 11)) (h13 : opd e' (.t 13) = opd e (.t 13)) (h14 : opd e' (.t 14) = opd e (.t 14)) (h15 : opd e' (.t 15) = opd e (.t 15)) (h16 : opd e' (.t 16) = opd e (.t 16)) (h17 : opd e' (.t 17) = opd e (.t 17)) : Fe s n next M e' :=
 ⟨h1.trans h.t1, h4.trans h.t4, h6.trans h.t6, h10.trans h.t10, h11.trans h.t11, h13.trans h.t13, h14.trans h.t14, h15.trans h.t15, h16.trans h.t16, h17.trans h.t17⟩
theorem eqb (b : Bool) : eqV (.prim .bool) (.bool b) (.bool b) = some true := by cases b <;> rfl
set_option maxHeartbeats 16000000 in
theorem loop_p {s : St} {n : Nat} {p : Pk} {w t : Ms} {q : Bool × Int × Int × Int} {M : Mk} {next : Int} (hw : w.Ok) (ht : Stay w M p next t q.1) (hMp : M.p.length = 4) {Q : Post} (s1 : St) (hF : Fx s n p w t q M s1) (K : ∀ e, Fe s n next M e → Go T Q (sL1l0) [] e s1) :
 ∀ (m k : Nat) (e : Env), m + k = 4 → Fe s n next M e → opd e (.t 21) = .int .i64 (k : Int) → Go T Q (sL2l1) [.block 5, .seq sL1l0] e s1 := by
 intro m
 have hlw := Ms.len hw
 have hlt := Ms.len ht.ok
 have c6 := hF.c6
 have c10 := hF.c10
 have c14 := hF.c14
 generalize ((sL1l0) : ICode) = RC at K ⊢
 induction m with
 | zero =>
  intro k e hk hE h21
  have hk' : ¬ (k : Int) < 4 := by omega
  have hE' := hE
  obtain ⟨t1, t4, t6, t10, t11, t13, t14, t15, t16, t17⟩ := hE'
  rw [go_loop]
  simp only [h21, hk', wr, seval]
  exact K _ (hE.set (by simp only [wr, seval]) (by simp only [wr, seval]) (by simp only [wr, seval]) (by simp only [wr, seval]) (by simp only [wr, seval]) (by simp only [wr, seval]) (by simp only [wr, seval]) (by simp only [wr, seval]) (by simp only [wr, seval]) (by simp only [wr, seval]))
 | succ m ih =>
  intro k e hk hE h21
  have hk' : (k : Int) < 4 := by omega
  have hk2 : k < 4 := by omega
  have hk3 : k + 1 ≤ 4 := by omega
  have hk5 : 32 + (k + 1) ≤ 42 := by omega
  have hE' := hE
  obtain ⟨t1, t4, t6, t10, t11, t13, t14, t15, t16, t17⟩ := hE'
  have w1 : wrapF .i64 ((k : Int) + 1) = ((k + 1 : Nat) : Int) := by rw [wrap_i64 _ (by omega) (by omega)]; omega
  obtain ⟨b, hb⟩ : ∃ b, M.p[k]? = some b := ⟨_, List.getElem?_eq_getElem (by omega)⟩
  have tb := takeM mB M.p k b hb
  rw [go_loop]
  cases b with
  | true =>
   simp only [h21, hk', hk2, hk3, t14, c14, tb, wr, seval]
   refine ih (k + 1) _ (by omega) ?_ ?_
   · exact hE.set (by simp only [wr, seval]) (by simp only [wr, seval]) (by simp only [wr, seval]) (by simp only [wr, seval]) (by simp only [wr, seval]) (by simp only [wr, seval]) (by simp only [wr, seval]) (by simp only [wr, seval]) (by simp only [wr, seval]) (by simp only [wr, seval])
   · simp only [h21, w1, wr, seval]
  | false =>
   obtain ⟨u, hu⟩ : ∃ u, w.p[k]? = some u := ⟨_, List.getElem?_eq_getElem (by rw [hw.p]; omega)⟩
   have hu' := (ht.p k hb).trans hu
   have g1 := Ms.g_p hw hu
   have g2 := Ms.g_p ht.ok hu'
   simp only [h21, hk', hk2, hk3, hk5, t6, t10, t14, c6, c10, c14, tb, g1, g2, hlw, hlt, eqb, wr, seval]
   refine ih (k + 1) _ (by omega) ?_ ?_
   · exact hE.set (by simp only [wr, seval]) (by simp only [wr, seval]) (by simp only [wr, seval]) (by simp only [wr, seval]) (by simp only [wr, seval]) (by simp only [wr, seval]) (by simp only [wr, seval]) (by simp only [wr, seval]) (by simp only [wr, seval]) (by simp only [wr, seval])
   · simp only [h21, w1, wr, seval]
set_option maxHeartbeats 16000000 in
theorem loop_r {s : St} {n : Nat} {p : Pk} {w t : Ms} {q : Bool × Int × Int × Int} {M : Mk} {next : Int} (hw : w.Ok) (ht : Stay w M p next t q.1) (hMr : M.r.length = 32) {Q : Post} (s1 : St) (hF : Fx s n p w t q M s1) (K : ∀ e, Fe s n next M e → Go T Q (sL2l0) [] e s1) :
 ∀ (m k : Nat) (e : Env), m + k = 32 → Fe s n next M e → opd e (.t 20) = .int .i64 (k : Int) → Go T Q (sL2l2) [.block 3, .seq sL2l0] e s1 := by
 intro m
 have hlw := Ms.len hw
 have hlt := Ms.len ht.ok
 have c6 := hF.c6
 have c10 := hF.c10
 have c13 := hF.c13
 generalize ((sL2l0) : ICode) = RC at K ⊢
 induction m with
 | zero =>
  intro k e hk hE h20
  have hk' : ¬ (k : Int) < 32 := by omega
  have hE' := hE
  obtain ⟨t1, t4, t6, t10, t11, t13, t14, t15, t16, t17⟩ := hE'
  rw [go_loop]
  simp only [h20, hk', wr, seval]
  exact K _ (hE.set (by simp only [wr, seval]) (by simp only [wr, seval]) (by simp only [wr, seval]) (by simp only [wr, seval]) (by simp only [wr, seval]) (by simp only [wr, seval]) (by simp only [wr, seval]) (by simp only [wr, seval]) (by simp only [wr, seval]) (by simp only [wr, seval]))
 | succ m ih =>
  intro k e hk hE h20
  have hk' : (k : Int) < 32 := by omega
  have hk2 : k < 32 := by omega
  have hk3 : k + 1 ≤ 32 := by omega
  have hk5 : k + 1 ≤ 42 := by omega
  have hE' := hE
  obtain ⟨t1, t4, t6, t10, t11, t13, t14, t15, t16, t17⟩ := hE'
  have w1 : wrapF .i64 ((k : Int) + 1) = ((k + 1 : Nat) : Int) := by rw [wrap_i64 _ (by omega) (by omega)]; omega
  obtain ⟨b, hb⟩ : ∃ b, M.r[k]? = some b := ⟨_, List.getElem?_eq_getElem (by omega)⟩
  have tb := takeM mB M.r k b hb
  rw [go_loop]
  cases b with
  | true =>
   simp only [h20, hk', hk2, hk3, t13, c13, tb, wr, seval]
   refine ih (k + 1) _ (by omega) ?_ ?_
   · exact hE.set (by simp only [wr, seval]) (by simp only [wr, seval]) (by simp only [wr, seval]) (by simp only [wr, seval]) (by simp only [wr, seval]) (by simp only [wr, seval]) (by simp only [wr, seval]) (by simp only [wr, seval]) (by simp only [wr, seval]) (by simp only [wr, seval])
   · simp only [h20, w1, wr, seval]
  | false =>
   obtain ⟨u, hu⟩ : ∃ u, w.r[k]? = some u := ⟨_, List.getElem?_eq_getElem (by rw [hw.r]; omega)⟩
   have hu' := (ht.r k hb).trans hu
   have g1 := Ms.g_r hu
   have g2 := Ms.g_r hu'
   simp only [h20, hk', hk2, hk3, hk5, t6, t10, t13, c6, c10, c13, tb, g1, g2, hlw, hlt, wr, seval]
   refine ih (k + 1) _ (by omega) ?_ ?_
   · exact hE.set (by simp only [wr, seval]) (by simp only [wr, seval]) (by simp only [wr, seval]) (by simp only [wr, seval]) (by simp only [wr, seval]) (by simp only [wr, seval]) (by simp only [wr, seval]) (by simp only [wr, seval]) (by simp only [wr, seval]) (by simp only [wr, seval])
   · simp only [h20, w1, wr, seval]
end
end Go.V
/- The law SemStays: what it marks. -/
namespace Go.V
open Go
set_option linter.unusedSimpArgs false
set_option linter.unusedVariables false
section
open Z
abbrev sL3l1 : ICode := .loop (q (q (R [(m 86 18),(f 87 0 4),(l 88 1 87),(o 89 (.lenSl t88)),(o 90 (.bin .lss t86 t89))]) (.cond t90 .skip (.exit 0))) (q (.block 1 (q (R [(f 93 0 4),(l 94 1 93),(m 95 18),(ix 96 11 94 95),(la 97 11 96),(o 19 (.alloc [(b 0),(b 0),(b 0),(b 0),(b 0),(b 0),(b 0),z,z,(.int .u16 0),(i 0)])),(st 11 19 97)]) (q (R [(f 98 0 19),(l 99 1 98)]) (.block 2 (q (R [(o 105 (.bin .eql t99 (B 1))),(m 104 105)]) (.cond t104 .skip (q (q (R [(o 107 (.bin .eql t99 (B 10))),(m 106 107)]) (.cond t106 .skip (q (R [(o 108 (.bin .eql t99 (B 11))),(m 106 108)]) (.cond t106 .skip (q (R [(o 109 (.bin .eql t99 (B 12))),(m 106 109)]) (.cond t106 .skip (R [(o 110 (.bin .eql t99 (B 13))),(m 106 110)]))))))) (.cond t106 (R [(f 111 1 19),(l 112 1 111),(o 113 (.bin .rem t112 (B 4))),(o 114 (.idxArr 4 1 t14 t113)),(n (.store 1 t114 T))]) (q (q (R [(o 116 (.bin .eql t99 (B 24))),(m 115 116)]) (.cond t115 .skip (q (R [(o 117 (.bin .eql t99 (B 25))),(m 115 117)]) (.cond t115 .skip (R [(o 118 (.bin .eql t99 (B 26))),(m 115 118)]))))) (.cond t115 (R [(o 17 (.move T))]) (q (q (R [(o 120 (.bin .eql t99 (B 27))),(m 119 120)]) (.cond t119 .skip (R [(o 121 (.bin .eql t99 (B 28))),(m 119 121)]))) (.cond t119 (R [(o 16 (.move T))]) (q (R [(o 123 (.bin .eql t99 (B 29))),(m 122 123)]) (.cond t122 (q (R [(o 16 (.move T))]) (R [(o 124 (.idxArr 32 1 t13 (I 31))),(n (.store 1 t124 T))])) (q (q (R [(o 126 (.bin .eql t99 (B 30))),(m 125 126)]) (.cond t125 .skip (R [(o 127 (.bin .eql t99 (B 31))),(m 125 127)]))) (.cond t125 (R [(o 15 (.move T))]) (R [(f 100 1 19),(l 101 1 100),(o 102 (.bin .rem t101 (B 32))),(o 103 (.idxArr 32 1 t13 t102)),(n (.store 1 t103 T))]))))))))))))))))) (R [(m 91 18),(o 92 (.bin .add t91 (I 1))),(m 18 92)])))
abbrev sL3l0 : ICode := .seq (q (R [(mi 20 0)]) (.block 3 sL2l2)) sL2l0
end
theorem Fx.add {s : St} {n : Nat} {p : Pk} {w t : Ms} {q : Bool × Int × Int × Int} {M : Mk} {s1 : St} (h : Fx s n p w t q M s1) (o : AObj) : Fx s n p w t q M (s1.add o) := by
 have a0 := h.h0
 have a1 := h.hn
 refine ⟨h.e.add o, h.h0, Nat.le_succ_of_le h.hn, ?_, ?_, ?_, ?_, ?_, ?_⟩
 all_goals rw [add_get, if_neg (by omega)]
 · exact h.c4
 · exact h.c6
 · exact h.c10
 · exact h.c11
 · exact h.c13
 · exact h.c14
theorem Fx.setr {s : St} {n : Nat} {p : Pk} {w t : Ms} {q : Bool × Int × Int × Int} {M M' : Mk} {s1 : St} (h : Fx s n p w t q M s1) (hp : M'.p = M.p) : Fx s n p w t q M' (s1.put (n + 2) (.cells (M'.r.map mB) 0 0 false)) := by
 have a0 := h.h0
 have a1 := h.hn
 refine ⟨Ext.put h.e (by omega) (by omega) _, h.h0, h.hn, ?_, ?_, ?_, ?_, ?_, ?_⟩
 · rw [put_get, if_neg (by omega)]; exact h.c4
 · rw [put_get, if_neg (by omega)]; exact h.c6
 · rw [put_get, if_neg (by omega)]; exact h.c10
 · rw [put_get, if_neg (by omega)]; exact h.c11
 · rw [put_get, if_pos rfl]
 · rw [put_get, if_neg (by omega), hp]; exact h.c14
theorem Fx.setp {s : St} {n : Nat} {p : Pk} {w t : Ms} {q : Bool × Int × Int × Int} {M M' : Mk} {s1 : St} (h : Fx s n p w t q M s1) (hr : M'.r = M.r) : Fx s n p w t q M' (s1.put (n + 3) (.cells (M'.p.map mB) 0 0 false)) := by
 have a0 := h.h0
 have a1 := h.hn
 refine ⟨Ext.put h.e (by omega) (by omega) _, h.h0, h.hn, ?_, ?_, ?_, ?_, ?_, ?_⟩
 · rw [put_get, if_neg (by omega)]; exact h.c4
 · rw [put_get, if_neg (by omega)]; exact h.c6
 · rw [put_get, if_neg (by omega)]; exact h.c10
 · rw [put_get, if_neg (by omega)]; exact h.c11
 · rw [put_get, if_neg (by omega), hr]; exact h.c13
 · rw [put_get, if_pos rfl]
theorem Fx.same {s : St} {n : Nat} {p : Pk} {w t : Ms} {q : Bool × Int × Int × Int} {M M' : Mk} {s1 : St} (h : Fx s n p w t q M s1) (hr : M'.r = M.r) (hp : M'.p = M.p) : Fx s n p w t q M' s1 :=
 ⟨h.e, h.h0, h.hn, h.c4, h.c6, h.c10, h.c11, by rw [hr]; exact h.c13, by rw [hp]; exact h.c14⟩
section
variable {T : Tab}
set_option maxHeartbeats 32000000 in
theorem loop_i {s : St} {n : Nat} {p : Pk} {w t : Ms} {q : Bool × Int × Int × Int} {next : Int} (hx : RdI s p.x p.L) (hok : ∀ i ∈ p.L, i.ok = true) (hL : p.L.length ≤ 100) {Q : Post} (K : ∀ e s1, Fx s n p w t q (marksF p.L mk0) s1 → Fe s n next (marksF p.L mk0) e → Go T Q (sL3l0) [] e s1) :
 ∀ (m k : Nat) (M : Mk) (e : Env) (s1 : St), m + k = p.L.length → marksF p.L mk0 = marksF (p.L.drop k) M → M.r.length = 32 → M.p.length = 4 → Fx s n p w t q M s1 → Fe s n next M e → opd e (.t 18) = .int .i64 (k : Int) → Go T Q (sL3l1) [.block 0, .seq sL3l0] e s1 := by
 intro m
 generalize ((sL3l0) : ICode) = RC at K ⊢
 have hlen := len_op hx.lens
 induction m with
 | zero =>
  intro k M e s1 hk hm hMr hMp hF hE h18
  have hk' : ¬ (k : Int) < (p.L.length : Int) := by omega
  have c4 := hF.c4
  simp only [Pk.cells] at c4
  obtain ⟨t1, t4, t6, t10, t11, t13, t14, t15, t16, t17⟩ := id hE
  rw [List.drop_eq_nil_of_le (by omega)] at hm
  have hm : marksF p.L mk0 = M := hm
  rw [go_loop]
  simp only [h18, t4, c4, hlen, hk', wr, seval]
  refine K _ s1 (by rw [hm]; exact hF) ?_
  rw [hm]
  exact ⟨by simp only [t1, wr, seval], by simp only [t4, wr, seval], by simp only [t6, wr, seval], by simp only [t10, wr, seval], by simp only [t11, wr, seval], by simp only [t13, wr, seval], by simp only [t14, wr, seval], by simp only [t15, wr, seval], by simp only [t16, wr, seval], by simp only [t17, wr, seval]⟩
 | succ m ih =>
  intro k M e s1 hk hm hMr hMp hF hE h18
  have hk' : (k : Int) < (p.L.length : Int) := by omega
  have c4 := hF.c4
  have c13 := hF.c13
  have c14 := hF.c14
  have a0 := hF.h0
  have a1 := hF.hn
  simp only [Pk.cells] at c4
  obtain ⟨t1, t4, t6, t10, t11, t13, t14, t15, t16, t17⟩ := id hE
  obtain ⟨i, hi⟩ : ∃ i, p.L[k]? = some i := ⟨_, List.getElem?_eq_getElem (by omega)⟩
  have hik := hok i (List.mem_of_getElem? hi)
  have hb := In.byt hik
  obtain ⟨iid, lo, inc', inc, lim, cap, ex, ro, cs, hzx, g1, g2, g3, g4, g5, g6⟩ := (hx.ext hF.e).at hi
  have hdrop : p.L.drop k = i :: p.L.drop (k + 1) := by
   obtain ⟨hq, he⟩ := List.getElem?_eq_some_iff.1 hi
   rw [List.drop_eq_getElem_cons hq, he]
  have w1 : wrapF .i64 ((k : Int) + 1) = ((k + 1 : Nat) : Int) := by rw [wrap_i64 _ (by omega) (by omega)]; omega
  have hm' : marksF p.L mk0 = marksF (p.L.drop (k + 1)) (markF i M) := by rw [hm, hdrop]; rfl
  have hml := markF_len i M
  have md4 : Int.tmod i.d 4 = ((i.d.toNat % 4 : Nat) : Int) := rem8 hb.d 4
  have md32 : Int.tmod i.d 32 = ((i.d.toNat % 32 : Nat) : Int) := rem8 hb.d 32
  have b4 : i.d.toNat % 4 < 4 := by omega
  have b32 : i.d.toNat % 32 < 32 := by omega
  have d4 : i.d.toNat % 4 + 1 ≤ 4 := by omega
  have d32 : i.d.toNat % 32 + 1 ≤ 32 := by omega
  have sp4 := spl_map mB M.p (i.d.toNat % 4) true (by omega)
  have sp32 := spl_map mB M.r (i.d.toNat % 32) true (by omega)
  have sp31 := spl_map mB M.r 31 true (by omega)
  simp only [mB] at sp4 sp32 sp31
  have n1 : ¬ n + 2 = s1.next := by omega
  have n2 : ¬ n + 3 = s1.next := by omega
  have n1' : ¬ s1.next = n + 2 := by omega
  have n2' : ¬ s1.next = n + 3 := by omega
  have mlr : (M.r.map mB).length = 32 := by rw [List.length_map]; exact hMr
  have mlp : (M.p.map mB).length = 4 := by rw [List.length_map]; exact hMp
  simp only [In.cells] at g5
  rw [hzx] at c4
  rw [go_loop]
  by_cases h1 : i.op = 1
  · have hmk : markF i M = M := by unfold markF; simp [h1]
    simp only [h18, t4, t13, t14, c4, c13, c14, hk', g1, g2, g3, g4, g5, g6, n1, n2, n1', n2', mlr, mlp, h1, wr, seval]
    refine ih (k + 1) (markF i M) _ _ (by omega) hm' (hml.1.trans hMr) (hml.2.trans hMp) ?_ ?_ ?_
    · rw [hmk]; exact (hF.add _).same rfl rfl
    · rw [hmk]
      exact ⟨by simp only [t1, wr, seval], by simp only [t4, wr, seval], by simp only [t6, wr, seval], by simp only [t10, wr, seval], by simp only [t11, wr, seval], by simp only [t13, wr, seval], by simp only [t14, wr, seval], by simp only [t15, wr, seval], by simp only [t16, wr, seval], by simp only [t17, wr, seval]⟩
    · simp only [h18, w1, wr, seval]
  by_cases h10 : i.op = 10
  · have hmk : markF i M = { M with p := M.p.set (i.d.toNat % 4) true } := by unfold markF; simp [h10]
    simp only [h18, t4, t13, t14, c4, c13, c14, hk', g1, g2, g3, g4, g5, g6, n1, n2, n1', n2', mlr, mlp, md4, b4, d4, sp4, h10, wr, seval]
    refine ih (k + 1) (markF i M) _ _ (by omega) hm' (hml.1.trans hMr) (hml.2.trans hMp) ?_ ?_ ?_
    · rw [hmk]; exact (Fx.setp (M' := { M with p := M.p.set (i.d.toNat % 4) true }) hF rfl).add _
    · rw [hmk]
      exact ⟨by simp only [t1, wr, seval], by simp only [t4, wr, seval], by simp only [t6, wr, seval], by simp only [t10, wr, seval], by simp only [t11, wr, seval], by simp only [t13, wr, seval], by simp only [t14, wr, seval], by simp only [t15, wr, seval], by simp only [t16, wr, seval], by simp only [t17, wr, seval]⟩
    · simp only [h18, w1, wr, seval]
  by_cases h11 : i.op = 11
  · have hmk : markF i M = { M with p := M.p.set (i.d.toNat % 4) true } := by unfold markF; simp [h11]
    simp only [h18, t4, t13, t14, c4, c13, c14, hk', g1, g2, g3, g4, g5, g6, n1, n2, n1', n2', mlr, mlp, md4, b4, d4, sp4, h11, wr, seval]
    refine ih (k + 1) (markF i M) _ _ (by omega) hm' (hml.1.trans hMr) (hml.2.trans hMp) ?_ ?_ ?_
    · rw [hmk]; exact (Fx.setp (M' := { M with p := M.p.set (i.d.toNat % 4) true }) hF rfl).add _
    · rw [hmk]
      exact ⟨by simp only [t1, wr, seval], by simp only [t4, wr, seval], by simp only [t6, wr, seval], by simp only [t10, wr, seval], by simp only [t11, wr, seval], by simp only [t13, wr, seval], by simp only [t14, wr, seval], by simp only [t15, wr, seval], by simp only [t16, wr, seval], by simp only [t17, wr, seval]⟩
    · simp only [h18, w1, wr, seval]
  by_cases h12 : i.op = 12
  · have hmk : markF i M = { M with p := M.p.set (i.d.toNat % 4) true } := by unfold markF; simp [h12]
    simp only [h18, t4, t13, t14, c4, c13, c14, hk', g1, g2, g3, g4, g5, g6, n1, n2, n1', n2', mlr, mlp, md4, b4, d4, sp4, h12, wr, seval]
    refine ih (k + 1) (markF i M) _ _ (by omega) hm' (hml.1.trans hMr) (hml.2.trans hMp) ?_ ?_ ?_
    · rw [hmk]; exact (Fx.setp (M' := { M with p := M.p.set (i.d.toNat % 4) true }) hF rfl).add _
    · rw [hmk]
      exact ⟨by simp only [t1, wr, seval], by simp only [t4, wr, seval], by simp only [t6, wr, seval], by simp only [t10, wr, seval], by simp only [t11, wr, seval], by simp only [t13, wr, seval], by simp only [t14, wr, seval], by simp only [t15, wr, seval], by simp only [t16, wr, seval], by simp only [t17, wr, seval]⟩
    · simp only [h18, w1, wr, seval]
  by_cases h13 : i.op = 13
  · have hmk : markF i M = { M with p := M.p.set (i.d.toNat % 4) true } := by unfold markF; simp [h13]
    simp only [h18, t4, t13, t14, c4, c13, c14, hk', g1, g2, g3, g4, g5, g6, n1, n2, n1', n2', mlr, mlp, md4, b4, d4, sp4, h13, wr, seval]
    refine ih (k + 1) (markF i M) _ _ (by omega) hm' (hml.1.trans hMr) (hml.2.trans hMp) ?_ ?_ ?_
    · rw [hmk]; exact (Fx.setp (M' := { M with p := M.p.set (i.d.toNat % 4) true }) hF rfl).add _
    · rw [hmk]
      exact ⟨by simp only [t1, wr, seval], by simp only [t4, wr, seval], by simp only [t6, wr, seval], by simp only [t10, wr, seval], by simp only [t11, wr, seval], by simp only [t13, wr, seval], by simp only [t14, wr, seval], by simp only [t15, wr, seval], by simp only [t16, wr, seval], by simp only [t17, wr, seval]⟩
    · simp only [h18, w1, wr, seval]
  by_cases h24 : i.op = 24
  · have hmk : markF i M = { M with st := true } := by unfold markF; simp [h24]
    simp only [h18, t4, t13, t14, c4, c13, c14, hk', g1, g2, g3, g4, g5, g6, n1, n2, n1', n2', mlr, mlp, h24, wr, seval]
    refine ih (k + 1) (markF i M) _ _ (by omega) hm' (hml.1.trans hMr) (hml.2.trans hMp) ?_ ?_ ?_
    · rw [hmk]; exact (hF.add _).same rfl rfl
    · rw [hmk]
      exact ⟨by simp only [t1, wr, seval], by simp only [t4, wr, seval], by simp only [t6, wr, seval], by simp only [t10, wr, seval], by simp only [t11, wr, seval], by simp only [t13, wr, seval], by simp only [t14, wr, seval], by simp only [t15, wr, seval], by simp only [t16, wr, seval], by simp only [t17, wr, seval]⟩
    · simp only [h18, w1, wr, seval]
  by_cases h25 : i.op = 25
  · have hmk : markF i M = { M with st := true } := by unfold markF; simp [h25]
    simp only [h18, t4, t13, t14, c4, c13, c14, hk', g1, g2, g3, g4, g5, g6, n1, n2, n1', n2', mlr, mlp, h25, wr, seval]
    refine ih (k + 1) (markF i M) _ _ (by omega) hm' (hml.1.trans hMr) (hml.2.trans hMp) ?_ ?_ ?_
    · rw [hmk]; exact (hF.add _).same rfl rfl
    · rw [hmk]
      exact ⟨by simp only [t1, wr, seval], by simp only [t4, wr, seval], by simp only [t6, wr, seval], by simp only [t10, wr, seval], by simp only [t11, wr, seval], by simp only [t13, wr, seval], by simp only [t14, wr, seval], by simp only [t15, wr, seval], by simp only [t16, wr, seval], by simp only [t17, wr, seval]⟩
    · simp only [h18, w1, wr, seval]
  by_cases h26 : i.op = 26
  · have hmk : markF i M = { M with st := true } := by unfold markF; simp [h26]
    simp only [h18, t4, t13, t14, c4, c13, c14, hk', g1, g2, g3, g4, g5, g6, n1, n2, n1', n2', mlr, mlp, h26, wr, seval]
    refine ih (k + 1) (markF i M) _ _ (by omega) hm' (hml.1.trans hMr) (hml.2.trans hMp) ?_ ?_ ?_
    · rw [hmk]; exact (hF.add _).same rfl rfl
    · rw [hmk]
      exact ⟨by simp only [t1, wr, seval], by simp only [t4, wr, seval], by simp only [t6, wr, seval], by simp only [t10, wr, seval], by simp only [t11, wr, seval], by simp only [t13, wr, seval], by simp only [t14, wr, seval], by simp only [t15, wr, seval], by simp only [t16, wr, seval], by simp only [t17, wr, seval]⟩
    · simp only [h18, w1, wr, seval]
  by_cases h27 : i.op = 27
  · have hmk : markF i M = { M with br := true } := by unfold markF; simp [h27]
    simp only [h18, t4, t13, t14, c4, c13, c14, hk', g1, g2, g3, g4, g5, g6, n1, n2, n1', n2', mlr, mlp, h27, wr, seval]
    refine ih (k + 1) (markF i M) _ _ (by omega) hm' (hml.1.trans hMr) (hml.2.trans hMp) ?_ ?_ ?_
    · rw [hmk]; exact (hF.add _).same rfl rfl
    · rw [hmk]
      exact ⟨by simp only [t1, wr, seval], by simp only [t4, wr, seval], by simp only [t6, wr, seval], by simp only [t10, wr, seval], by simp only [t11, wr, seval], by simp only [t13, wr, seval], by simp only [t14, wr, seval], by simp only [t15, wr, seval], by simp only [t16, wr, seval], by simp only [t17, wr, seval]⟩
    · simp only [h18, w1, wr, seval]
  by_cases h28 : i.op = 28
  · have hmk : markF i M = { M with br := true } := by unfold markF; simp [h28]
    simp only [h18, t4, t13, t14, c4, c13, c14, hk', g1, g2, g3, g4, g5, g6, n1, n2, n1', n2', mlr, mlp, h28, wr, seval]
    refine ih (k + 1) (markF i M) _ _ (by omega) hm' (hml.1.trans hMr) (hml.2.trans hMp) ?_ ?_ ?_
    · rw [hmk]; exact (hF.add _).same rfl rfl
    · rw [hmk]
      exact ⟨by simp only [t1, wr, seval], by simp only [t4, wr, seval], by simp only [t6, wr, seval], by simp only [t10, wr, seval], by simp only [t11, wr, seval], by simp only [t13, wr, seval], by simp only [t14, wr, seval], by simp only [t15, wr, seval], by simp only [t16, wr, seval], by simp only [t17, wr, seval]⟩
    · simp only [h18, w1, wr, seval]
  by_cases h29 : i.op = 29
  · have hmk : markF i M = { M with br := true, r := M.r.set 31 true } := by unfold markF; simp [h29]
    simp only [h18, t4, t13, t14, c4, c13, c14, hk', g1, g2, g3, g4, g5, g6, n1, n2, n1', n2', mlr, mlp, sp31, h29, wr, seval]
    refine ih (k + 1) (markF i M) _ _ (by omega) hm' (hml.1.trans hMr) (hml.2.trans hMp) ?_ ?_ ?_
    · rw [hmk]; exact (Fx.setr (M' := { M with br := true, r := M.r.set 31 true }) hF rfl).add _
    · rw [hmk]
      exact ⟨by simp only [t1, wr, seval], by simp only [t4, wr, seval], by simp only [t6, wr, seval], by simp only [t10, wr, seval], by simp only [t11, wr, seval], by simp only [t13, wr, seval], by simp only [t14, wr, seval], by simp only [t15, wr, seval], by simp only [t16, wr, seval], by simp only [t17, wr, seval]⟩
    · simp only [h18, w1, wr, seval]
  by_cases h30 : i.op = 30
  · have hmk : markF i M = { M with lo := true } := by unfold markF; simp [h30]
    simp only [h18, t4, t13, t14, c4, c13, c14, hk', g1, g2, g3, g4, g5, g6, n1, n2, n1', n2', mlr, mlp, h30, wr, seval]
    refine ih (k + 1) (markF i M) _ _ (by omega) hm' (hml.1.trans hMr) (hml.2.trans hMp) ?_ ?_ ?_
    · rw [hmk]; exact (hF.add _).same rfl rfl
    · rw [hmk]
      exact ⟨by simp only [t1, wr, seval], by simp only [t4, wr, seval], by simp only [t6, wr, seval], by simp only [t10, wr, seval], by simp only [t11, wr, seval], by simp only [t13, wr, seval], by simp only [t14, wr, seval], by simp only [t15, wr, seval], by simp only [t16, wr, seval], by simp only [t17, wr, seval]⟩
    · simp only [h18, w1, wr, seval]
  by_cases h31 : i.op = 31
  · have hmk : markF i M = { M with lo := true } := by unfold markF; simp [h31]
    simp only [h18, t4, t13, t14, c4, c13, c14, hk', g1, g2, g3, g4, g5, g6, n1, n2, n1', n2', mlr, mlp, h31, wr, seval]
    refine ih (k + 1) (markF i M) _ _ (by omega) hm' (hml.1.trans hMr) (hml.2.trans hMp) ?_ ?_ ?_
    · rw [hmk]; exact (hF.add _).same rfl rfl
    · rw [hmk]
      exact ⟨by simp only [t1, wr, seval], by simp only [t4, wr, seval], by simp only [t6, wr, seval], by simp only [t10, wr, seval], by simp only [t11, wr, seval], by simp only [t13, wr, seval], by simp only [t14, wr, seval], by simp only [t15, wr, seval], by simp only [t16, wr, seval], by simp only [t17, wr, seval]⟩
    · simp only [h18, w1, wr, seval]
  have hmk : markF i M = { M with r := M.r.set (i.d.toNat % 32) true } := by unfold markF; simp [h1, h10, h11, h12, h13, h24, h25, h26, h27, h28, h29, h30, h31]
  simp only [h18, t4, t13, t14, c4, c13, c14, hk', g1, g2, g3, g4, g5, g6, n1, n2, n1', n2', mlr, mlp, md32, b32, d32, sp32, h1, h10, h11, h12, h13, h24, h25, h26, h27, h28, h29, h30, h31, wr, seval]
  refine ih (k + 1) (markF i M) _ _ (by omega) hm' (hml.1.trans hMr) (hml.2.trans hMp) ?_ ?_ ?_
  · rw [hmk]; exact (Fx.setr (M' := { M with r := M.r.set (i.d.toNat % 32) true }) hF rfl).add _
  · rw [hmk]
    exact ⟨by simp only [t1, wr, seval], by simp only [t4, wr, seval], by simp only [t6, wr, seval], by simp only [t10, wr, seval], by simp only [t11, wr, seval], by simp only [t13, wr, seval], by simp only [t14, wr, seval], by simp only [t15, wr, seval], by simp only [t16, wr, seval], by simp only [t17, wr, seval]⟩
  · simp only [h18, w1, wr, seval]
end
end Go.V
/- The law SemStays: all of it. -/
namespace Go.V
open Go
set_option linter.unusedSimpArgs false
set_option linter.unusedVariables false
theorem Acts.up {b b' : Nat} {s : St} {x : AV} {l : List Act} (h : Acts b s x l) (hb : b ≤ b') : Acts b' s x l := by
 refine ⟨h.ok, ?_⟩
 rcases h.sl with h | ⟨h0, id, cap, h1, h2, h3, h4⟩
 · exact .inl h
 · exact .inr ⟨h0, id, cap, h1, Nat.lt_of_lt_of_le h2 hb, h3, h4⟩
section
variable {T : Tab}
set_option maxHeartbeats 32000000 in
theorem sstays_ran (hT : SsTab T) {s : St} (hg : Glb s) (hA : Awk T s) {p : Pk} {w : Ms} (hw : w.Ok) (hwr : ∀ x ∈ w.r, 0 ≤ x ∧ x < 4294967296) (hx : RdI s p.x p.L) (hxc : p.x.isCell = true) (hok : ∀ i ∈ p.L, i.ok = true) {x : AV} {l : List Act} (hl : Acts s.next s x l) (next : Int) :
 Ran T 3 [.agg p.cells, .int .u32 next, .agg w.cells, x] s fun v s' => v = .bool true := by
 have hs := hg.wf
 have hlw := Ms.len hw
 have hall := Ms.all w
 have tw : List.take 42 w.cells = w.cells := List.take_of_length_le (by omega)
 have hlen := len_op hx.lens
 refine ran_code hT.law (Nat.le_of_ble_eq_true rfl) ?_
 generalize hQ : Fin _ _ = Q
 have hQ1 : ∀ e s', opd e (.t 8) = .bool true → Q .ret e s' := by
  intro e s' h8
  subst hQ
  simp only [ir3, h8, wr, seval]
 have hE0 : Ext s ((s.add (.cells p.cells 0 0 false)).add (.cells w.cells 0 0 false)) := ((Ext.refl hs).add _).add _
 by_cases h4 : 4 < p.L.length
 · have h4' : (4 : Int) < (p.L.length : Int) := by omega
   simp only [ir3, Pk.cells, hlw, hlen, h4', wr, seval]
   refine goCall_by (hA _ (by simpa only [Pk.cells] using hE0)) ?_
   rintro v s2 ⟨rfl, hE2⟩
   simp only [wr, seval]
   exact hQ1 _ _ (by simp only [wr, seval])
 · have h4' : ¬ (4 : Int) < (p.L.length : Int) := by omega
   have c4 : ((s.add (.cells p.cells 0 0 false)).add (.cells w.cells 0 0 false)).heap.get s.next = some (.cells p.cells 0 0 false) := by
    rw [add_get, if_neg (by show ¬ s.next = s.next + 1; omega), add_get, if_pos rfl]
   have c6 : ((s.add (.cells p.cells 0 0 false)).add (.cells w.cells 0 0 false)).heap.get (s.next + 1) = some (.cells w.cells 0 0 false) := by
    rw [add_get]; exact if_pos rfl
   obtain ⟨sA, hsA⟩ : ∃ sA, sA = ((s.add (.cells p.cells 0 0 false)).add (.cells w.cells 0 0 false)) := ⟨_, rfl⟩
   have nA : sA.next = s.next + 2 := by rw [hsA]; rfl
   rw [← hsA] at hE0 c4 c6
   simp only [Pk.cells] at hsA c4
   simp only [ir3, Pk.cells, hlw, hlen, h4', wr, seval]
   rw [← hsA]
   refine goCall_by (agreat_ran hT.mo.great (hl.ext hE0)) ?_
   rintro v s2 ⟨rfl, rfl⟩
   cases hgr : great l with
   | true =>
    simp only [wr, seval]
    refine goCall_by (hA _ hE0) ?_
    rintro v s2 ⟨rfl, hE2⟩
    simp only [wr, seval]
    exact hQ1 _ _ (by simp only [wr, seval])
   | false =>
    simp only [great, Bool.or_eq_false_iff, decide_eq_false_iff_not] at hgr
    have hl60 : l.length ≤ 60 := by omega
    have hb60 : ∀ a ∈ l, a.b.length ≤ 60 := fun a ha => by
     have := List.any_eq_false.1 hgr.2 a ha
     simp at this
     omega
    have hck := lcheck_ran hT.lg (pairB_of hT.du (hg.ext hE0)) hE0.1 (hx.ext hE0) hok (by omega) hxc (e0 := p.e0) (e1 := p.e1) (raw := p.rw) (dup := p.du)
    simp only [c4, wr, seval]
    refine goCall_by hck ?_
    rintro v s3 ⟨n, rfl, hE3⟩
    have hE4 := hE0.trans hE3
    have c43 := (hE3.2.2 s.next (by omega)).trans c4
    have c63 := (hE3.2.2 (s.next + 1) (by omega)).trans c6
    by_cases hn : n = 0
    · simp only [hn, wr, seval]
      refine goCall_by (memory_ran hT.mo hE4.1 hl60 hb60 (hl.ext hE4) hE4.2.1) ?_
      rintro v s5 ⟨pm, r, me, c, rfl, hpm, hr, hc36, hM, hE5⟩
      have hE6 := hE4.trans hE5
      have c45 := (hE5.2.2 s.next (by have := hE3.2.1; omega)).trans c43
      have c65 := (hE5.2.2 (s.next + 1) (by have := hE3.2.1; omega)).trans c63
      have hdo := do_ran hT.sm hE6.1 hw hwr (hx.ext hE6) hxc hok (by omega) hM next
      simp only [Pk.cells] at hdo
      simp only [c45, c65, hlw, tw, wr, seval]
      refine goCall_by hdo ?_
      rintro v s7 ⟨rfl, hE7⟩
      have hE8 := hE6.trans hE7
      have c47 := (hE7.2.2 s.next (by have := hE3.2.1; have := hE5.2.1; omega)).trans c45
      have c67 := (hE7.2.2 (s.next + 1) (by have := hE3.2.1; have := hE5.2.1; omega)).trans c65
      have nn : s.next + 2 ≤ s7.next := by have := hE3.2.1; have := hE5.2.1; have := hE7.2.1; omega
      have q1 : ¬ s.next = s7.next := by omega
      have q2 : ¬ s.next = s7.next + 1 := by omega
      have q3 : ¬ s.next + 1 = s7.next := by omega
      have q4 : ¬ s.next + 1 = s7.next + 1 := by omega
      have q5 : ¬ s.next = s7.next + 2 := by omega
      have q6 : ¬ s.next + 1 = s7.next + 2 := by omega
      have q7 : ¬ s.next = s7.next + 3 := by omega
      have q8 : ¬ s.next + 1 = s7.next + 3 := by omega
      have es := eq_state hw hw
      rw [decide_eq_true rfl] at es
      by_cases hf : w.f = 0
      · by_cases hff : faultsF w p.L p.L 0 = 0
        · -- no fault
          have hst := stay p hw me next (mptr pm) hok hf hff
          have rf := Ms.rd_f hw
          generalize hD : doM p w me next (mptr pm) = D at *
          obtain ⟨t, q⟩ := D
          have hst : Stay w (marksF p.L mk0) p next t q.1 := hst
          have ht := hst.ok
          have hlt := Ms.len ht
          have halt := Ms.all t
          have tt : List.take 42 t.cells = t.cells := List.take_of_length_le (by omega)
          have rft := Ms.rd_f ht
          have f0 : t.f = 0 := hst.f.trans hf
          rw [f0] at rft
          rw [hf] at rf
          have K := fun e s1 (hF : Fx s s7.next p w t q (marksF p.L mk0) s1) (hE : Fe s s7.next next (marksF p.L mk0) e) => tail_go hw hst hA hQ1 e s1 hF hE
          have hml := marksF_len p.L mk0
          simp only [putC, c67, hlw, hlt, halt, tt, rf, rft, q1, q2, q3, q4, List.drop_nil, wr, seval]
          refine loop_i (n := s7.next) (w := w) (t := t) (q := q) (next := next) hx hok (by omega) ?_ p.L.length 0 mk0 _ _ (by omega) (by rw [List.drop_zero]) rfl rfl ?_ ?_ ?_
          · intro e s1 hF hE
            simp only [wr, seval]
            refine loop_r hw hst hml.1 s1 hF ?_ 32 0 _ (by omega) ⟨by simp only [hE.t1, wr, seval], by simp only [hE.t4, wr, seval], by simp only [hE.t6, wr, seval], by simp only [hE.t10, wr, seval], by simp only [hE.t11, wr, seval], by simp only [hE.t13, wr, seval], by simp only [hE.t14, wr, seval], by simp only [hE.t15, wr, seval], by simp only [hE.t16, wr, seval], by simp only [hE.t17, wr, seval]⟩ (by simp only [wr, seval])
            intro e hE
            simp only [wr, seval]
            refine loop_p hw hst hml.2 s1 hF (fun e hE => K e s1 hF hE) 4 0 _ (by omega) ⟨by simp only [hE.t1, wr, seval], by simp only [hE.t4, wr, seval], by simp only [hE.t6, wr, seval], by simp only [hE.t10, wr, seval], by simp only [hE.t11, wr, seval], by simp only [hE.t13, wr, seval], by simp only [hE.t14, wr, seval], by simp only [hE.t15, wr, seval], by simp only [hE.t16, wr, seval], by simp only [hE.t17, wr, seval]⟩ (by simp only [wr, seval])
          · refine ⟨(((hE8.add _).add _).add _).add _, nn, by show s7.next + 4 ≤ s7.next + 1 + 1 + 1 + 1; omega, ?_, ?_, ?_, ?_, ?_, ?_⟩
            · simp only [c47, q1, q2, q5, q7, wr, seval]
              rfl
            · simp only [c67, q3, q4, q6, q8, wr, seval]
            all_goals simp only [wr, seval]
            all_goals rfl
          · exact ⟨by simp only [wr, seval], by simp only [wr, seval], by simp only [wr, seval], by simp only [wr, seval], by simp only [wr, seval], by simp only [wr, seval], by simp only [wr, seval], by simp only [wr, seval]; rfl, by simp only [wr, seval]; rfl, by simp only [wr, seval]; rfl⟩
          · simp only [wr, seval]
        · -- a fault
          have hd : doM p w me next (mptr pm) = ({ w with f := faultsF w p.L p.L 0 }, false, 0, 0, 0) := by
           unfold doM
           rw [if_neg (by simp [hf]), if_pos hff]
          have hcs := faultsF_cases w p.L p.L 0 (.inl rfl)
          rw [hd]
          generalize faultsF w p.L p.L 0 = g at *
          obtain ⟨t, htt⟩ : ∃ t, t = ({ w with f := g } : Ms) := ⟨_, rfl⟩
          have ht : t.Ok := by rw [htt]; exact ⟨hw.r, hw.p, hw.a, hw.c⟩
          have rf := Ms.rd_f hw
          rw [hf] at rf
          have rft := Ms.rd_f ht
          have hlt := Ms.len ht
          have halt := Ms.all t
          have tt : List.take 42 t.cells = t.cells := List.take_of_length_le (by omega)
          have wf := Ms.wr_f ht 0
          have hback : ({ t with f := 0 } : Ms) = w := by
           rw [htt]
           cases w
           simp only at hf
           subst hf
           rfl
          rw [hback] at wf
          have htf : t.f = g := by rw [htt]
          rw [htf] at rft
          show GoOps T Q false _ _ (putV _ _ (.tuple [.agg (Ms.cells { w with f := g }), .agg (putC (false, 0, 0, 0))])) s7
          rw [← htt]
          rcases hcs with h | h | h
          · exact absurd h hff
          · subst h
            simp only [putC, c67, hlw, hlt, halt, hall, tt, tw, rf, rft, wf, es, q1, q2, q3, q4, q5, q6, List.drop_nil, wr, seval]
            refine goCall_by (hA _ (by first | exact (((hE8.add _).add _).add _) | exact Ext.put (((hE8.add _).add _).add _) (by omega) (by show s7.next + 2 < s7.next + 1 + 1 + 1; omega) _)) ?_
            rintro v s8 ⟨rfl, hE9⟩
            simp only [wr, seval]
            exact hQ1 _ _ (by simp only [wr, seval])
          · subst h
            simp only [putC, c67, hlw, hlt, halt, hall, tt, tw, rf, rft, wf, es, q1, q2, q3, q4, q5, q6, List.drop_nil, wr, seval]
            refine goCall_by (hA _ (by first | exact (((hE8.add _).add _).add _) | exact Ext.put (((hE8.add _).add _).add _) (by omega) (by show s7.next + 2 < s7.next + 1 + 1 + 1; omega) _)) ?_
            rintro v s8 ⟨rfl, hE9⟩
            simp only [wr, seval]
            exact hQ1 _ _ (by simp only [wr, seval])
      · have hd : doM p w me next (mptr pm) = (w, false, 0, 0, 0) := by
         unfold doM
         rw [if_pos hf]
        have rf := Ms.rd_f hw
        rw [hd]
        simp only [putC, c67, hlw, hall, tw, rf, hf, es, q1, q2, q3, q4, List.drop_nil, wr, seval]
        refine goCall_by (hA _ ((hE8.add _).add _)) ?_
        rintro v s8 ⟨rfl, hE2⟩
        simp only [wr, seval]
        exact hQ1 _ _ (by simp only [wr, seval])
    · simp only [hn, wr, seval]
      refine goCall_by (hA _ hE4) ?_
      rintro v s4 ⟨rfl, hE2⟩
      simp only [wr, seval]
      exact hQ1 _ _ (by simp only [wr, seval])
end
end Go.V
/- Functions in the small language. -/
namespace Go.V
open Go Go.V.Z
def ir7 : IFunc := ⟨65,[.tmp 0],(q (R [(o 0 (.move F))]) (q (R [(o 1 (.alloc [(w 0),(w 0),(w 0),(w 0),(w 0),(w 0),(w 0),(w 0),(w 0),(w 0),(w 0),(w 0),(w 0),(w 0),(w 0),(w 0),(w 0),(w 0),(w 0),(w 0),(w 0),(w 0),(w 0),(w 0),(w 0),(w 0),(w 0),(w 0),(w 0),(w 0),(w 0),(w 0),z,z,z,z,(w 0),(w 0),(w 0),(w 0),(w 0),(b 0)]))]) (q (R [(f 6 0 1),(o 7 (.idxArr 32 1 t6 (I 1))),(n (.store 1 t7 (W 5)))]) (q (R [(f 8 0 1),(o 9 (.idxArr 32 1 t8 (I 2))),(n (.store 1 t9 (W 7)))]) (q (.region [(o 11 (.build [(b 0),(b 0),(b 0),(b 0),(b 0),(b 0),(b 0),z,z,(.int .u16 0),(i 0)] [(0,1,(B 9)),(1,1,(B 1)),(2,1,(B 2))])),(o 12 (.build [(b 0),(b 0),(b 0),(b 0),(b 0),(b 0),(b 0),z,z,(.int .u16 0),(i 0)] [(0,1,(B 9)),(1,1,(B 2)),(2,1,(B 1))])),(la 15 42 1),⟨some 16,none,[t1],(.call 18 [])⟩,(o 13 (.buildSlice 2 11 [(b 0),(b 0),(b 0),(b 0),(b 0),(b 0),(b 0),z,z,(.int .u16 0),(i 0)] [(0,11,t11),(11,11,t12)])),(o 14 (.build [.nilSlice,z,z,z,z] [(0,1,t13)])),(o 17 (.call 9 [t14,(W 8),t15,t16])),(m 10 17),(x 18 10 0),(x 19 10 1),(o 2 (.alloc [(w 0),(w 0),(w 0),(w 0),(w 0),(w 0),(w 0),(w 0),(w 0),(w 0),(w 0),(w 0),(w 0),(w 0),(w 0),(w 0),(w 0),(w 0),(w 0),(w 0),(w 0),(w 0),(w 0),(w 0),(w 0),(w 0),(w 0),(w 0),(w 0),(w 0),(w 0),(w 0),z,z,z,z,(w 0),(w 0),(w 0),(w 0),(w 0),(b 0)])),(o 3 (.alloc [z,(w 0),(i 0),(w 0)])),(st 42 2 18),(st 4 3 19)] true) (q (.region [(o 21 (.build [(b 0),(b 0),(b 0),(b 0),(b 0),(b 0),(b 0),z,z,(.int .u16 0),(i 0)] [(0,1,(B 13)),(2,1,(B 1)),(10,1,(I 5))])),(o 22 (.build [(b 0),(b 0),(b 0),(b 0),(b 0),(b 0),(b 0),z,z,(.int .u16 0),(i 0)] [(0,1,(B 27)),(6,1,(B 3)),(10,1,(I 64))])),(la 25 42 1),⟨some 26,none,[t1],(.call 18 [])⟩,(o 23 (.buildSlice 2 11 [(b 0),(b 0),(b 0),(b 0),(b 0),(b 0),(b 0),z,z,(.int .u16 0),(i 0)] [(0,11,t21),(11,11,t22)])),(o 24 (.build [.nilSlice,z,z,z,z] [(0,1,t23)])),(o 27 (.call 9 [t24,(W 8),t25,t26])),(m 20 27),(x 28 20 0),(x 29 20 1),(o 4 (.alloc [(w 0),(w 0),(w 0),(w 0),(w 0),(w 0),(w 0),(w 0),(w 0),(w 0),(w 0),(w 0),(w 0),(w 0),(w 0),(w 0),(w 0),(w 0),(w 0),(w 0),(w 0),(w 0),(w 0),(w 0),(w 0),(w 0),(w 0),(w 0),(w 0),(w 0),(w 0),(w 0),z,z,z,z,(w 0),(w 0),(w 0),(w 0),(w 0),(b 0)])),(o 5 (.alloc [z,(w 0),(i 0),(w 0)])),(st 42 4 28),(st 4 5 29)] true) (q (R [(f 30 0 2),(o 31 (.idxArr 32 1 t30 (I 1))),(l 32 1 31),(o 33 (.bin .eql t32 (W 7))),(m 34 33),(og 35 34 true (.fieldAddr 0 t2)),(og 36 34 true (.idxArr 32 1 t35 (I 2))),(og 37 34 true (.load false 1 t36)),(og 38 34 true (.bin .eql t37 (W 5))),(o 39 (.pick t34 t38 F)),(m 40 39),(og 41 40 true (.fieldAddr 40 t2)),(og 42 40 true (.load false 1 t41)),(og 43 40 true (.bin .eql t42 (W 8))),(o 44 (.pick t40 t43 F)),(m 45 44),(og 46 45 true (.fieldAddr 0 t3)),(og 47 45 true (.load false 1 t46)),(og 48 45 true (.un .not t47)),(o 49 (.pick t45 t48 F)),(m 50 49),(og 51 50 true (.fieldAddr 32 t4)),(og 52 50 true (.idxArr 4 1 t51 (I 0))),(og 53 50 true (.load false 1 t52)),(o 54 (.pick t50 t53 F)),(m 55 54),(og 56 55 true (.fieldAddr 40 t4)),(og 57 55 true (.load false 1 t56)),(og 58 55 true (.bin .eql t57 (W 64))),(o 59 (.pick t55 t58 F)),(m 60 59),(og 61 60 true (.fieldAddr 0 t5)),(og 62 60 true (.load false 1 t61)),(og 63 60 true (.un .not t62)),(o 64 (.pick t60 t63 F)),(m 0 64)]) .ret)))))))⟩
end Go.V
namespace Go.V
open Go
set_option linter.unusedSimpArgs false
set_option linter.unusedVariables false
def gd0 : DataW Unit := .slice [.agg [.lit (.int .u8 8), .agg [.agg [.lit (.int .i64 1), .lit (.int .i64 4), .lit (.int .i64 0)], .agg [.lit (.int .i64 5), .lit (.int .i64 7), .lit (.int .i64 0)], .agg [.lit (.int .i64 0), .lit (.int .i64 0), .lit (.int .i64 0)]]], .agg [.lit (.int .u8 7), .agg [.agg [.lit (.int .i64 4), .lit (.int .i64 4), .lit (.int .i64 0)], .agg [.lit (.int .i64 6), .lit (.int .i64 7), .lit (.int .i64 0)], .agg [.lit (.int .i64 0), .lit (.int .i64 0), .lit (.int .i64 0)]]], .agg [.lit (.int .u8 9), .agg [.agg [.lit (.int .i64 1), .lit (.int .i64 4), .lit (.int .i64 0)], .agg [.lit (.int .i64 2), .lit (.int .i64 4), .lit (.int .i64 0)], .agg [.lit (.int .i64 0), .lit (.int .i64 0), .lit (.int .i64 0)]]], .agg [.lit (.int .u8 2), .agg [.agg [.lit (.int .i64 4), .lit (.int .i64 4), .lit (.int .i64 0)], .agg [.lit (.int .i64 3), .lit (.int .i64 4), .lit (.int .i64 0)], .agg [.lit (.int .i64 0), .lit (.int .i64 0), .lit (.int .i64 0)]]], .agg [.lit (.int .u8 21), .agg [.agg [.lit (.int .i64 1), .lit (.int .i64 4), .lit (.int .i64 0)], .agg [.lit (.int .i64 2), .lit (.int .i64 4), .lit (.int .i64 0)], .agg [.lit (.int .i64 5), .lit (.int .i64 3), .lit (.int .i64 2)]]], .agg [.lit (.int .u8 24), .agg [.agg [.lit (.int .i64 2), .lit (.int .i64 4), .lit (.int .i64 0)], .agg [.lit (.int .i64 3), .lit (.int .i64 4), .lit (.int .i64 0)], .agg [.lit (.int .i64 5), .lit (.int .i64 3), .lit (.int .i64 2)]]], .agg [.lit (.int .u8 23), .agg [.agg [.lit (.int .i64 1), .lit (.int .i64 4), .lit (.int .i64 0)], .agg [.lit (.int .i64 2), .lit (.int .i64 4), .lit (.int .i64 0)], .agg [.lit (.int .i64 5), .lit (.int .i64 3), .lit (.int .i64 0)]]], .agg [.lit (.int .u8 26), .agg [.agg [.lit (.int .i64 2), .lit (.int .i64 4), .lit (.int .i64 0)], .agg [.lit (.int .i64 3), .lit (.int .i64 4), .lit (.int .i64 0)], .agg [.lit (.int .i64 5), .lit (.int .i64 3), .lit (.int .i64 0)]]], .agg [.lit (.int .u8 13), .agg [.agg [.lit (.int .i64 2), .lit (.int .i64 4), .lit (.int .i64 0)], .agg [.lit (.int .i64 5), .lit (.int .i64 7), .lit (.int .i64 0)], .agg [.lit (.int .i64 0), .lit (.int .i64 0), .lit (.int .i64 0)]]]] []
def gt0 : Ty := (.slice (.struct [.int .u8, .arr 3 (.struct [.int .i64, .int .i64, .int .i64])]))
def gd1 : DataW Unit := .agg [.agg [.lit (.int .i64 0), .lit (.int .i64 14)], .agg [.lit (.int .i64 16), .lit (.int .i64 10)]]
def gt1 : Ty := (.arr 2 (.struct [.int .i64, .int .i64]))
def gd2 : DataW Unit := .agg [.lit (.int .i64 16), .lit (.int .i64 16)]
def gt2 : Ty := (.struct [.int .i64, .int .i64])
def gd3 : DataW Unit := .agg [.lit (.int .i64 14), .lit (.int .i64 2)]
def gt3 : Ty := (.struct [.int .i64, .int .i64])
def gst (ty : Ty) (d : DataW Unit) (g : Nat) (s : St) : St := match layD ty d s with
 | some (l, s1) => s1.put g (.cells l 0 0 true)
 | none => s
def sG : St := (gdummy 4 (gst gt3 gd3 3 (gst gt2 gd2 2 (gst gt1 gd1 1 (gst gt0 gd0 0 { s0 with next := 5 })))))
def lawCode : List (Nat × FnImp) := [(7, .code ir7), (9, .code ir9), (25, .code ir25), (24, .code ir24), (57, .code ir57), (90, .code ir90), (89, .code ir89), (51, .code ir51), (85, .code ir85), (54, .code ir54), (86, .code ir86), (123, .code ir123), (132, .code ir132), (158, .code ir158), (173, .code ir173), (171, .code ir171), (174, .code ir174), (172, .code ir172), (133, .code ir133), (134, .code ir134), (122, .code ir122), (121, .code ir121), (120, .code ir120), (119, .code ir119), (118, .code ir118), (117, .code ir117), (116, .code ir116), (115, .code ir115), (114, .code ir114), (113, .code ir113), (112, .code ir112), (111, .code ir111), (110, .code ir110), (109, .code ir109), (108, .code ir108), (107, .code ir107), (106, .code ir106), (55, .code ir55), (87, .code ir87), (56, .code ir56), (88, .code ir88), (23, .code ir23), (53, .code ir53), (22, .code ir22), (52, .code ir52), (18, .code ir18)]
def lawExt : List (Nat × FnImp) := [(185, .ext .fmax), (187, .ext .fmin), (183, .ext .floor)]
def lawHooks : List (Nat × FnImp) := []
def lawH2 : List (Nat × FnImp) := []
noncomputable def t_law : List (Nat × FnImp) := lawCode ++ (lawExt ++ (lawH2 ++ lawHooks))
def lawDfr : List (Nat × DFn) := []
end Go.V
/- A packet, a state, acts that came in. -/
namespace Go.V
open Go Go.RowKit Go.ChangeShapes Go.WideShapes Go.ChangeAt
theorem isByte_of {n : Int} (h1 : 0 ≤ n) (h2 : n ≤ 255) : isByte n = true := by
 cases n with
 | ofNat n => simp only [isByte]; exact Nat.ble_eq_true_of_le (by have : (n : Int) ≤ 255 := h2; omega)
 | negSucc n => exact absurd h1 (by omega)
def instTy : Ty := .struct [.int .u8, .int .u8, .int .u8, .int .u8, .int .u8, .int .u8, .int .u8, .bool, .bool, .int .u16, .int .i64]
def pkTy : Ty := .struct [.slice instTy, .bool, .bool, .bool, .bool]
theorem wfs_lt {s : St} (hw : WFS s) {id : Nat} {o : AObj} (h : s.heap.get id = some o) : id < s.next := by
 refine Nat.lt_of_not_le fun hge => ?_
 rw [hw id hge] at h; cases h
theorem u8_of {s : St} {c : List AV} (h : Shape s (.int .u8) c) : ∃ n : Int, c = [.int .u8 n] ∧ isByte n = true := by
 simp only [Shape] at h
 obtain ⟨d, rfl, d0, d1⟩ := h
 simp [IntKind.min, IntKind.max, IntKind.signed, IntKind.bits] at d0 d1
 exact ⟨d, rfl, isByte_of d0 d1⟩
theorem inst_of {s : St} {c : List AV} (h : Shape s instTy c) : ∃ i : In, c = i.cells ∧ i.ok = true := by
 simp only [instTy, Shape, Shapes] at h
 obtain ⟨_, _, rfl, h0, _, _, rfl, h1, _, _, rfl, h2, _, _, rfl, h3, _, _, rfl, h4, _, _, rfl, h5, _, _, rfl, h6, _, _, rfl, ⟨b7, rfl⟩, _, _, rfl, ⟨b8, rfl⟩, _, _, rfl, ⟨n9, rfl, a9, c9⟩, _, _, rfl, ⟨n10, rfl, a10, c10⟩, rfl⟩ := h
 obtain ⟨n0, rfl, k0⟩ := u8_of (s := s) (by simpa only [Shape] using h0)
 obtain ⟨n1, rfl, k1⟩ := u8_of (s := s) (by simpa only [Shape] using h1)
 obtain ⟨n2, rfl, k2⟩ := u8_of (s := s) (by simpa only [Shape] using h2)
 obtain ⟨n3, rfl, k3⟩ := u8_of (s := s) (by simpa only [Shape] using h3)
 obtain ⟨n4, rfl, k4⟩ := u8_of (s := s) (by simpa only [Shape] using h4)
 obtain ⟨n5, rfl, k5⟩ := u8_of (s := s) (by simpa only [Shape] using h5)
 obtain ⟨n6, rfl, k6⟩ := u8_of (s := s) (by simpa only [Shape] using h6)
 simp [IntKind.min, IntKind.max, IntKind.signed, IntKind.bits] at a9 c9 a10 c10
 refine ⟨⟨n0, n1, n2, n3, n4, n5, n6, b7, b8, n9, n10⟩, rfl, ?_⟩
 simp only [In.ok, isI64, k0, k1, k2, k3, k4, k5, k6, Bool.true_and, Bool.and_eq_true, decide_eq_true_eq]
 omega
theorem inst_many {s : St} : ∀ {cs : List (List AV)}, (∀ c ∈ cs, Shape s instTy c) → ∃ L : List In, cs.flatten = L.flatMap In.cells ∧ L.length = cs.length ∧ ∀ i ∈ L, i.ok = true
 | [], _ => ⟨[], rfl, rfl, by simp⟩
 | c :: cs, h => by
  obtain ⟨a, rfl, ha⟩ := inst_of (h c List.mem_cons_self)
  obtain ⟨l, h1, h2, h3⟩ := inst_many fun c hc => h c (List.mem_cons_of_mem _ hc)
  refine ⟨a :: l, ?_, ?_, ?_⟩
  · rw [List.flatten_cons, List.flatMap_cons, h1]
  · simp [h2]
  · intro x hx
    rcases List.mem_cons.1 hx with rfl | hx
    · exact ha
    · exact h3 x hx
theorem cells_len11 (L : List In) : (L.flatMap In.cells).length = L.length * 11 := by
 induction L with
 | nil => rfl
 | cons n l ih => rw [List.flatMap_cons, List.length_append, ih, show n.cells.length = 11 from rfl, List.length_cons]; omega
theorem insts_in {s : St} (hw : WFS s) {c : List AV} (h : Shape s (.slice instTy) c) : ∃ x L, c = [x] ∧ RdI s x L ∧ (∀ i ∈ L, i.ok = true) ∧ x.isCell = true := by
 simp only [Shape] at h
 rcases h with rfl | rfl | ⟨id, len, cap, cs, rfl, h0, hc, hg, hl, hs⟩
 · exact ⟨_, [], rfl, ⟨by simp, .inl ⟨rfl, .inl rfl⟩⟩, by simp, rfl⟩
 · exact ⟨_, [], rfl, ⟨by simp, .inl ⟨rfl, .inr rfl⟩⟩, by simp, rfl⟩
 · obtain ⟨L, h1, h2, h3⟩ := inst_many hs
   have hlen : L.length = len := by omega
   subst hlen
   exact ⟨_, L, rfl, ⟨cells_len11 L, .inr ⟨id, 0, 0, 0, L.length * tySize instTy, cap, true, true, cs.flatten, rfl, wfs_lt hw hg, hg, Nat.le_refl _, Nat.le_refl _, Nat.le_refl _, by rw [h1, List.take_of_length_le (by rw [cells_len11]; exact Nat.le_refl _)], hc⟩⟩, h3, rfl⟩
theorem pack_in {H : Type} {enc : TypeId × Value → H} {P : Program} {W : World} {held : Bool} {t : TypeId} {fs : Array Field} (hu : P.underlying t = some (.struct fs)) (ht : tyOf P 8 t = some pkTy) {base : Nat} {v : Value} (hv : Value.okWide P W .any base t v) {d : DataW H} {p : List MemPlace} (hd : DataW.Trod enc P W 0 (fun _ => true) held t v d p) {φ0 : Phi} {s0 : St} (h0 : RelSt φ0 s0 W) (h1 : AllRo s0) (h2 : WFS s0) :
 ∃ (φ : Phi) (s : St) (q : Pk), Imp W φ0 s0 φ s ∧ VRel φ (.agg q.cells) v ∧ RdI s q.x q.L ∧ (∀ i ∈ q.L, i.ok = true) ∧ q.x.isCell = true := by
 obtain ⟨m, hx⟩ := hd
 unfold Value.okWide at hv
 rw [hu] at hv
 obtain ⟨cs, rfl, _⟩ := hv
 obtain ⟨φ, s, c, hI, hV, hS⟩ := imp_trod 8 t _ ht m _ _ hx φ0 s0 h0 h1 h2
 simp only [pkTy, Shape, Shapes] at hS
 obtain ⟨a, _, rfl, hA, _, _, rfl, ⟨b1, rfl⟩, _, _, rfl, ⟨b2, rfl⟩, _, _, rfl, ⟨b3, rfl⟩, _, _, rfl, ⟨b4, rfl⟩, rfl⟩ := hS
 obtain ⟨x, L, rfl, hL, hok, hxc⟩ := insts_in hI.wfs (by simpa only [Shape] using hA)
 exact ⟨φ, s, ⟨x, b1, b2, b3, b4, L⟩, hI, .agg hV, hL, hok, hxc⟩
/-- What an imported state keeps, where nothing was lacking. -/
theorem imp_ext {W : World} {φ φ' : Phi} {s s' : St} (h : Imp W φ s φ' s') (hf : (List.range s.next).all (fun i => (s.heap.get i).isSome) = true) : Ext s s' := by
 have hg : ∀ id, id < s.next → ∃ o, s.heap.get id = some o := fun id hid => by
  have := List.all_eq_true.1 hf id (List.mem_range.2 hid)
  exact Option.isSome_iff_exists.1 this
 refine ⟨h.wfs, ?_, fun id hid => ?_⟩
 · refine Nat.le_of_not_lt fun hlt => ?_
   obtain ⟨o, ho⟩ := hg s'.next hlt
   have := h.keep _ _ ho
   rw [h.wfs s'.next (Nat.le_refl _)] at this
   cases this
 · obtain ⟨o, ho⟩ := hg id hid
   rw [ho]; exact h.keep _ _ ho
theorem RdI.imp {W : World} {φ φ' : Phi} {s s' : St} {v : AV} {L : List In} (h : RdI s v L) (hI : Imp W φ s φ' s') : RdI s' v L := by
 obtain ⟨h0, h | ⟨id, lo, inc', inc, lim, cap, ex, ro, cs, h1, h2, h3, h4⟩⟩ := h
 · exact ⟨h0, .inl h⟩
 · have h5 := hI.keep _ _ h3
   exact ⟨h0, .inr ⟨id, lo, inc', inc, lim, cap, ex, ro, cs, h1, wfs_lt hI.wfs h5, h5, h4⟩⟩
def actTy : Ty := .struct [.int .u8, .int .u32, .int .i64, .int .u32, .str]
theorem act_of {s : St} {c : List AV} (h : Shape s actTy c) : ∃ a, c = actC a ∧ ActOk a := by
 simp only [actTy, Shape, Shapes] at h
 obtain ⟨_, _, rfl, ⟨d, rfl, d0, d1⟩, _, _, rfl, ⟨k, rfl, k0, k1⟩, _, _, rfl, ⟨n, rfl, n0, n1⟩, _, _, rfl, ⟨v, rfl, v0, v1⟩, _, _, rfl, ⟨b, rfl, b0⟩, rfl⟩ := h
 simp [IntKind.min, IntKind.max, IntKind.signed, IntKind.bits] at d0 d1 k0 k1 v0 v1
 obtain ⟨d, rfl⟩ := Int.eq_ofNat_of_zero_le d0
 obtain ⟨k, rfl⟩ := Int.eq_ofNat_of_zero_le k0
 obtain ⟨v, rfl⟩ := Int.eq_ofNat_of_zero_le v0
 exact ⟨⟨d, k, n, v, b⟩, rfl, show k < 4294967296 by omega, show v < 4294967296 by omega, show d < 256 by omega⟩
theorem acts_many {s : St} : ∀ {cs : List (List AV)}, (∀ c ∈ cs, Shape s actTy c) → ∃ l : List Act, cs.flatten = l.flatMap actC ∧ l.length = cs.length ∧ ∀ a ∈ l, ActOk a
 | [], _ => ⟨[], rfl, rfl, by simp⟩
 | c :: cs, h => by
  obtain ⟨a, rfl, ha⟩ := act_of (h c (by simp))
  obtain ⟨l, h1, h2, h3⟩ := acts_many fun c hc => h c (List.mem_cons_of_mem _ hc)
  refine ⟨a :: l, ?_, ?_, ?_⟩
  · rw [List.flatten_cons, List.flatMap_cons, h1]
  · simp [h2]
  · intro x hx
    rcases List.mem_cons.1 hx with rfl | hx
    · exact ha
    · exact h3 x hx
theorem acts_in {s : St} (hw : WFS s) {x : AV} (h : Shape s (.slice actTy) [x]) : ∃ l, Acts s.next s x l := by
 simp only [Shape] at h
 rcases h with h | h | ⟨id, len, cap, cs, h, h0, hc, hg, hl, hs⟩
 · cases h; exact ⟨[], by simp, .inl ⟨rfl, .inl rfl⟩⟩
 · cases h; exact ⟨[], by simp, .inl ⟨rfl, .inr rfl⟩⟩
 · cases h
   obtain ⟨l, h1, h2, h3⟩ := acts_many hs
   have hlen : l.length = len := by omega
   have hid : id < s.next := by
    refine Nat.lt_of_not_le fun hge => ?_
    rw [hw id hge] at hg; cases hg
   subst hlen
   exact ⟨l, h3, .inr ⟨h0, id, cap, rfl, hid, hid, by rw [hg, h1]⟩⟩
/-- A slice of acts that came in, in a state of its own. -/
theorem acts_arg {H : Type} {enc : TypeId × Value → H} {P : Program} {W : World} {held : Bool} {t u : TypeId} (hu : P.underlying t = some (.slice u)) (ht : tyOf P 8 t = some (.slice actTy)) {base : Nat} {v : Value} (hv : Value.okWide P W .any base t v) {d : DataW H} {p : List MemPlace} (hd : DataW.Trod enc P W 0 (fun _ => true) held t v d p) {φ0 : Phi} {s0 : St} (h0 : RelSt φ0 s0 W) (h1 : AllRo s0) (h2 : WFS s0) :
 ∃ φ s x l, Imp W φ0 s0 φ s ∧ VRel φ x v ∧ Acts s.next s x l := by
 obtain ⟨m, hx⟩ := hd
 rw [slice_cell hu hv] at hx
 obtain ⟨φ, s, c, hI, hV, hS⟩ := imp_trod 8 t _ ht m _ _ hx φ0 s0 h0 h1 h2
 obtain ⟨x, rfl, hx⟩ := vrels_one hV
 obtain ⟨l, hl⟩ := acts_in hI.wfs hS
 exact ⟨φ, s, x, l, hI, hx, hl⟩
theorem words_of {P : Program} {W : World} {base : Nat} {u : TypeId} (hu : P.underlying u = some (.int .u32)) : ∀ l : List Value, (∀ c ∈ l, Cell.okWide P W .any base u c) → ∃ ns : List Int, ns.length = l.length ∧ (∀ x ∈ ns, 0 ≤ x ∧ x < 4294967296) ∧ VRels phi0 (ns.map c32) l
 | [], _ => ⟨[], rfl, by simp, .nil⟩
 | c :: l, h => by
  obtain ⟨ns, h1, h2, h3⟩ := words_of hu l fun c hc => h c (List.mem_cons_of_mem _ hc)
  obtain ⟨n, rfl, a, b⟩ := cell_int hu (h c List.mem_cons_self)
  simp [IntKind.min, IntKind.max, IntKind.signed, IntKind.bits] at a b
  refine ⟨n :: ns, by simp [h1], fun x hx => ?_, .cons (.int _ _) h3⟩
  rcases List.mem_cons.1 hx with rfl | hx
  · omega
  · exact h2 x hx
theorem flags_of {P : Program} {W : World} {base : Nat} {u : TypeId} (hu : P.underlying u = some .bool) : ∀ l : List Value, (∀ c ∈ l, Cell.okWide P W .any base u c) → ∃ ns : List Bool, ns.length = l.length ∧ VRels phi0 (ns.map mB) l
 | [], _ => ⟨[], rfl, .nil⟩
 | c :: l, h => by
  obtain ⟨ns, h1, h3⟩ := flags_of hu l fun c hc => h c (List.mem_cons_of_mem _ hc)
  obtain ⟨n, rfl⟩ := cell_bool hu (h c List.mem_cons_self)
  exact ⟨n :: ns, by simp [h1], .cons (.bool _) h3⟩
theorem state_arg {P : Program} {W : World} {base : Nat} {t w b u8 : TypeId} {v : Value} {fs : Array Field} (ht : P.underlying t = some (.struct fs)) (hn : P.cellsOf t = 42)
 (hc : P.cellTypes P.depth t = some (List.replicate 32 w ++ (List.replicate 4 b ++ (List.replicate 5 w ++ [u8]))))
 (hw : P.underlying w = some (.int .u32)) (hb : P.underlying b = some .bool) (h8 : P.underlying u8 = some (.int .u8)) (h : Value.okWide P W .any base t v) : ∃ m : Ms, m.Ok ∧ (∀ x ∈ m.r, 0 ≤ x ∧ x < 4294967296) ∧ VRel phi0 (.agg m.cells) v := by
 unfold Value.okWide at h
 rw [ht] at h
 obtain ⟨cs, rfl, hsz, ts, hts, _, hcell⟩ := h
 rw [hc] at hts
 cases hts
 rw [hn] at hsz
 obtain ⟨l⟩ := cs
 have hl : l.length = 42 := hsz
 have hcell' : ∀ (j : Nat) (c : Value), l[j]? = some c → ∃ u, (List.replicate 32 w ++ (List.replicate 4 b ++ (List.replicate 5 w ++ [u8])))[j]? = some u ∧ Cell.okWide P W .any base u c := fun j c hj => by
  obtain ⟨u, hu, q⟩ := hcell j c (by simpa using hj)
  have hj42 : j < 42 := by have := (List.getElem?_eq_some_iff.1 hj).1; omega
  rw [Nat.mod_eq_of_lt (by simpa using hj42)] at hu
  exact ⟨u, hu, q⟩
 have seg : ∀ (a n : Nat) (u : TypeId), (∀ j, a ≤ j → j < a + n → (List.replicate 32 w ++ (List.replicate 4 b ++ (List.replicate 5 w ++ [u8])))[j]? = some u) → ∀ c ∈ (l.drop a).take n, Cell.okWide P W .any base u c := by
  intro a n u hu c hcm
  obtain ⟨j, hj, he⟩ := List.mem_iff_getElem.1 hcm
  have hjn : j < n := by rw [List.length_take] at hj; omega
  have hg : l[a + j]? = some c := by
   have e1 : ((l.drop a).take n)[j]? = some c := by rw [List.getElem?_eq_getElem hj, he]
   rw [List.getElem?_take, if_pos hjn, List.getElem?_drop] at e1
   exact e1
  obtain ⟨u', e, q⟩ := hcell' _ _ hg
  rw [hu (a + j) (by omega) (by omega)] at e
  cases e
  exact q
 have rng : ∀ (a n : Nat) (u : TypeId), ((List.range' a n).all fun j => (List.replicate 32 w ++ (List.replicate 4 b ++ (List.replicate 5 w ++ [u8])))[j]? == some u) = true → ∀ c ∈ (l.drop a).take n, Cell.okWide P W .any base u c := by
  intro a n u hq
  refine seg a n u fun j h1 h2 => ?_
  have := List.all_eq_true.1 hq j (List.mem_range'_1.2 ⟨h1, h2⟩)
  simpa using this
 obtain ⟨r, r1, r2, r3⟩ := words_of hw _ (rng 0 32 w (by simp [List.range', List.replicate]))
 obtain ⟨p, p1, p3⟩ := flags_of hb _ (rng 32 4 b (by simp [List.range', List.replicate]))
 obtain ⟨a, a1, a2, a3⟩ := words_of hw _ (rng 36 2 w (by simp [List.range', List.replicate]))
 obtain ⟨c, c1, c2, c3⟩ := words_of hw _ (rng 38 2 w (by simp [List.range', List.replicate]))
 have e40 : 40 < l.length := by omega
 have e41 : 41 < l.length := by omega
 obtain ⟨u, e, q0⟩ := hcell' 40 l[40] (List.getElem?_eq_getElem e40); cases e
 obtain ⟨u, e, q1⟩ := hcell' 41 l[41] (List.getElem?_eq_getElem e41); cases e
 obtain ⟨n0, x0, b0, b1⟩ := cell_int hw q0
 obtain ⟨n1, x1, d0, d1⟩ := cell_int h8 q1
 refine ⟨⟨r, p, a, c, n0, n1⟩, ⟨by rw [r1]; simp; omega, by rw [p1]; simp; omega, by rw [a1]; simp; omega, by rw [c1]; simp; omega⟩, r2, .agg ?_⟩
 have hlast : l.drop 40 = [.int .u32 n0, .int .u8 n1] := by
  rw [List.drop_eq_getElem_cons e40, List.drop_eq_getElem_cons e41, x0, x1, List.drop_of_length_le (by omega)]
 have hsplit : l = (l.drop 0).take 32 ++ ((l.drop 32).take 4 ++ ((l.drop 36).take 2 ++ ((l.drop 38).take 2 ++ l.drop 40))) := by
  have s1 : (l.drop 38).take 2 ++ l.drop 40 = l.drop 38 := by
   have := List.take_append_drop 2 (l.drop 38); rwa [List.drop_drop] at this
  have s2 : (l.drop 36).take 2 ++ l.drop 38 = l.drop 36 := by
   have := List.take_append_drop 2 (l.drop 36); rwa [List.drop_drop] at this
  have s3 : (l.drop 32).take 4 ++ l.drop 36 = l.drop 32 := by
   have := List.take_append_drop 4 (l.drop 32); rwa [List.drop_drop] at this
  rw [s1, s2, s3, List.drop_zero, List.take_append_drop]
 rw [hsplit, hlast]
 exact r3.append (p3.append (a3.append (c3.append (.cons (.int _ _) (.cons (.int _ _) .nil)))))
end Go.V
