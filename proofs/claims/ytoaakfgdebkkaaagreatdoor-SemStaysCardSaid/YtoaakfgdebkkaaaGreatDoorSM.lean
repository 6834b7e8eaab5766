/- mem: the plain facts. -/
import Derived.Test.YtoaakfgdebkkaaaGreatDoorVE
import Derived.Test.YtoaakfgdebkkaaaGreatDoorVZ
import Derived.Test.YtoaakfgdebkkaaaGreatDoorFX
set_option linter.unusedVariables false
set_option linter.unusedSimpArgs false
set_option linter.unusedSectionVars false
/- mem: the plain facts. -/
/- mem: the plain facts. -/
namespace Go.V
open Go
set_option linter.unusedSimpArgs false
set_option linter.unusedVariables false
structure ME where
 k : Nat
 b : Nat
 t : Nat
def ments (L : List ME) : List AEntry := L.map fun e => ⟨.int .u32 (e.k : Int), .int .u8 (e.b : Int), e.t⟩
def mget (L : List ME) (k : Nat) : Nat := match L with
 | [] => 0
 | e :: l => if e.k = k then e.b else mget l k
/-- Set, the row's clock with it. -/
def mset (L : List ME) (k b c : Nat) : List ME := match L with
 | [] => [⟨k, b, c⟩]
 | e :: l => if e.k = k then ⟨k, b, e.t⟩ :: l else e :: mset l k b c
def mhas (L : List ME) (k : Nat) : Bool := L.any fun e => decide (e.k = k)
def mdel (L : List ME) (k : Nat) : List ME := match L with
 | [] => []
 | e :: l => if e.k = k then l else e :: mdel l k

theorem mfind (L : List ME) (k : Nat) (i : Nat) : findV (.int .u32) (.int .u32 (k : Int)) (ments L) i = some (if mhas L k = true then some (i + (L.findIdx fun e => decide (e.k = k)), .int .u8 (mget L k : Int)) else none) := by
 induction L generalizing i with
 | nil => rfl
 | cons e l ih =>
  have hk : keyEq (.int .u32) (.int .u32 (k : Int)) (.int .u32 (e.k : Int)) = some (decide (k = e.k)) := by
   simp only [keyEq, if_true]
   congr 1
   rw [decide_eq_decide]; omega
  show (match keyEq (.int .u32) (.int .u32 (k : Int)) (.int .u32 (e.k : Int)) with | some true => some (some (i, AV.int .u8 (e.b : Int))) | some false => findV (.int .u32) (.int .u32 (k : Int)) (ments l) (i + 1) | none => none) = _
  rw [hk]
  by_cases h : e.k = k
  · rw [decide_eq_true h.symm]
    simp [mhas, mget, h, List.findIdx_cons]
  · rw [decide_eq_false (fun e' => h e'.symm)]
    simp only [ih]
    have : mhas (e :: l) k = mhas l k := by simp [mhas, h]
    rw [this]
    split
    · simp [mget, h, List.findIdx_cons]; omega
    · rfl
theorem mget_not {L : List ME} {k : Nat} (h : mhas L k = false) : mget L k = 0 := by
 induction L with
 | nil => rfl
 | cons e l ih =>
  simp [mhas] at h
  simp only [mget]
  rw [if_neg h.1]
  exact ih (by simp [mhas]; exact h.2)
theorem mlook (L : List ME) (k : Nat) : lookIn (.int .u32) (.int .u8 0) false (.int .u32 (k : Int)) (ments L) = some (.int .u8 (mget L k : Int)) := by
 unfold lookIn
 rw [mfind]
 simp only []
 cases h : mhas L k with
 | true => simp [lookRes]
 | false => simp [lookRes, mget_not h]
theorem mset_ents (L : List ME) (k b c : Nat) : ments (mset L k b c) = if mhas L k = true then setEnt (.int .u32 (k : Int)) (.int .u8 (b : Int)) (ments L) (L.findIdx fun e => decide (e.k = k)) else ments L ++ [⟨.int .u32 (k : Int), .int .u8 (b : Int), c⟩] := by
 induction L with
 | nil => simp [mset, ments, mhas]
 | cons e l ih =>
  by_cases h : e.k = k
  · simp [mset, h, ments, mhas, List.findIdx_cons, setEnt]
  · have h1 : mhas (e :: l) k = mhas l k := by simp [mhas, h]
    rw [h1]
    simp only [mset, if_neg h]
    show _ :: ments (mset l k b c) = _
    rw [ih]
    split
    · simp [List.findIdx_cons, h, ments, setEnt]
    · simp [ments]
theorem mdel_ents (L : List ME) (k : Nat) : ments (mdel L k) = if mhas L k = true then (ments L).eraseIdx (L.findIdx fun e => decide (e.k = k)) else ments L := by
 induction L with
 | nil => simp [mdel, ments, mhas]
 | cons e l ih =>
  by_cases h : e.k = k
  · simp [mdel, h, ments, mhas, List.findIdx_cons]
  · have h1 : mhas (e :: l) k = mhas l k := by simp [mhas, h]
    rw [h1]
    simp only [mdel, if_neg h]
    show _ :: ments (mdel l k) = _
    rw [ih]
    split
    · simp [List.findIdx_cons, h, ments]
    · simp [ments]

/-- The row's order. -/
structure MOk (L : List ME) (c : Nat) : Prop where
 val : ∀ e ∈ L, e.k < 4294967296 ∧ 0 < e.b ∧ e.b < 256 ∧ e.t < c
 keys : (L.map (·.k)).Nodup
 born : (L.map (·.t)).Nodup
 len : L.length ≤ c
theorem MOk.nil : MOk [] 0 := ⟨by simp, .nil, .nil, Nat.le_refl _⟩

def mclk (L : List ME) (k c : Nat) : Nat := if mhas L k = true then c else c + 1
theorem mset_mem {L : List ME} {k b c : Nat} {e : ME} (h : e ∈ mset L k b c) : (∃ e' ∈ L, e = e' ∧ e.k ≠ k) ∨ e ∈ L ∨ (e.k = k ∧ e.b = b ∧ ((∃ e' ∈ L, e'.k = k ∧ e.t = e'.t) ∨ e.t = c)) := by
 induction L with
 | nil => simp [mset] at h; subst h; exact .inr (.inr ⟨rfl, rfl, .inr rfl⟩)
 | cons x l ih =>
  simp only [mset] at h
  split at h
  · rename_i hk
    rcases List.mem_cons.1 h with rfl | h
    · exact .inr (.inr ⟨rfl, rfl, .inl ⟨x, by simp, hk, rfl⟩⟩)
    · exact .inr (.inl (List.mem_cons_of_mem _ h))
  · rcases List.mem_cons.1 h with rfl | h
    · exact .inr (.inl (by simp))
    · rcases ih h with ⟨e', h1, h2⟩ | h1 | ⟨h1, h2, h3⟩
      · exact .inl ⟨e', List.mem_cons_of_mem _ h1, h2⟩
      · exact .inr (.inl (List.mem_cons_of_mem _ h1))
      · refine .inr (.inr ⟨h1, h2, ?_⟩)
        rcases h3 with ⟨e', h4, h5⟩ | h4
        · exact .inl ⟨e', List.mem_cons_of_mem _ h4, h5⟩
        · exact .inr h4
theorem mset_keys (L : List ME) (k b c : Nat) : (mset L k b c).map (·.k) = if mhas L k = true then L.map (·.k) else L.map (·.k) ++ [k] := by
 induction L with
 | nil => simp [mset, mhas]
 | cons e l ih =>
  by_cases h : e.k = k
  · simp [mset, h, mhas]
  · have h1 : mhas (e :: l) k = mhas l k := by simp [mhas, h]
    rw [h1]
    simp only [mset, if_neg h, List.map_cons, ih]
    split <;> simp
theorem mset_born (L : List ME) (k b c : Nat) : (mset L k b c).map (·.t) = if mhas L k = true then L.map (·.t) else L.map (·.t) ++ [c] := by
 induction L with
 | nil => simp [mset, mhas]
 | cons e l ih =>
  by_cases h : e.k = k
  · simp [mset, h, mhas]
  · have h1 : mhas (e :: l) k = mhas l k := by simp [mhas, h]
    rw [h1]
    simp only [mset, if_neg h, List.map_cons, ih]
    split <;> simp
theorem mhas_iff {L : List ME} {k : Nat} : mhas L k = true ↔ k ∈ L.map (·.k) := by
 simp [mhas]
theorem MOk.set {L : List ME} {c k b : Nat} (h : MOk L c) (hk : k < 4294967296) (hb : 0 < b) (hb2 : b < 256) : MOk (mset L k b c) (mclk L k c) := by
 have hlen : (mset L k b c).length ≤ mclk L k c := by
  have h1 := congrArg List.length (mset_keys L k b c)
  have h2 := h.len
  unfold mclk
  split at h1 <;> simp at h1
  · rename_i hh; rw [if_pos hh]; omega
  · rename_i hh; rw [if_neg hh]; omega
 refine ⟨fun e he => ?_, ?_, ?_, hlen⟩
 · rcases mset_mem he with ⟨e', h1, rfl, _⟩ | h1 | ⟨h1, h2, h3⟩
   · have := h.val _ h1; unfold mclk; split <;> omega
   · have := h.val _ h1; unfold mclk; split <;> omega
   · rcases h3 with ⟨e', h4, h5, h6⟩ | h4
     · have := h.val _ h4; unfold mclk; split <;> omega
     · unfold mclk
       split
       · rename_i hh
         -- the key was there: its entry keeps its number
         exfalso
         have hb' : e.t ∈ (mset L k b c).map (·.t) := List.mem_map_of_mem he
         rw [mset_born, if_pos hh] at hb'
         obtain ⟨x, hx, hxt⟩ := List.mem_map.1 hb'
         have := h.val _ hx; omega
       · omega
 · rw [mset_keys]
   split
   · exact h.keys
   · rename_i hh
     rw [List.nodup_append]
     refine ⟨h.keys, by simp, ?_⟩
     intro a ha x hx
     simp at hx
     subst hx
     intro e; subst e
     exact hh (mhas_iff.2 ha)
 · rw [mset_born]
   split
   · exact h.born
   · rw [List.nodup_append]
     refine ⟨h.born, by simp, ?_⟩
     intro a ha x hx
     simp at hx
     subst hx
     intro e; subst e
     obtain ⟨x, hx, hxt⟩ := List.mem_map.1 ha
     have := h.val _ hx; omega
theorem mdel_sub : ∀ (L : List ME) (k : Nat), List.Sublist (mdel L k) L
 | [], _ => .slnil
 | e :: l, k => by
  simp only [mdel]
  split
  · exact .cons _ (List.Sublist.refl l)
  · exact .cons_cons _ (mdel_sub l k)
theorem MOk.del {L : List ME} {c k : Nat} (h : MOk L c) : MOk (mdel L k) c :=
 ⟨fun e he => h.val e ((mdel_sub L k).subset he), List.Pairwise.sublist ((mdel_sub L k).map _) h.keys, List.Pairwise.sublist ((mdel_sub L k).map _) h.born, Nat.le_trans (mdel_sub L k).length_le h.len⟩

theorem mget_mem {L : List ME} {c : Nat} (h : MOk L c) : ∀ e ∈ L, mget L e.k = e.b := by
 have hn := h.keys
 clear h
 intro e he
 induction L with
 | nil => simp at he
 | cons x l ih =>
  simp only [List.map_cons, List.nodup_cons] at hn
  simp only [mget]
  rcases List.mem_cons.1 he with rfl | he
  · rw [if_pos rfl]
  · rw [if_neg, ih hn.2 he]
    intro e2
    exact hn.1 (e2 ▸ List.mem_map_of_mem he)
theorem mget_pos {L : List ME} {c : Nat} (h : MOk L c) (k : Nat) : k ∈ L.map (·.k) ↔ mget L k ≠ 0 := by
 constructor
 · intro hk
   obtain ⟨e, he, rfl⟩ := List.mem_map.1 hk
   rw [mget_mem h e he]
   have := h.val e he; omega
 · intro hk
   refine mhas_iff.1 ?_
   cases hh : mhas L k with
   | true => rfl
   | false => exact absurd (mget_not hh) hk
theorem mget_lt {L : List ME} {c : Nat} (h : MOk L c) (k : Nat) : mget L k < 256 := by
 by_cases hk : mget L k = 0
 · omega
 · obtain ⟨e, he, rfl⟩ := List.mem_map.1 ((mget_pos h k).2 hk)
   rw [mget_mem h e he]
   exact (h.val e he).2.2.1
end Go.V
/- sem: what instructions do. -/
namespace Go.V
open Go
set_option linter.unusedSimpArgs false
set_option linter.unusedVariables false
open Z in def ir106 : IFunc := ⟨8,[.tmp 4],(q (R [(o 4 (.move (W 0)))]) (q (R [(m 5 0),(m 6 1),(o 7 (.bin .add t5 t6)),(m 4 7)]) .ret))⟩
open Z in def ir107 : IFunc := ⟨8,[.tmp 4],(q (R [(o 4 (.move (W 0)))]) (q (R [(m 5 0),(m 6 1),(o 7 (.bin .sub t5 t6)),(m 4 7)]) .ret))⟩
open Z in def ir108 : IFunc := ⟨8,[.tmp 4],(q (R [(o 4 (.move (W 0)))]) (q (R [(m 5 0),(m 6 1),(o 7 (.bin .and t5 t6)),(m 4 7)]) .ret))⟩
open Z in def ir109 : IFunc := ⟨8,[.tmp 4],(q (R [(o 4 (.move (W 0)))]) (q (R [(m 5 0),(m 6 1),(o 7 (.bin .or t5 t6)),(m 4 7)]) .ret))⟩
open Z in def ir110 : IFunc := ⟨8,[.tmp 4],(q (R [(o 4 (.move (W 0)))]) (q (R [(m 5 0),(m 6 1),(o 7 (.bin .xor t5 t6)),(m 4 7)]) .ret))⟩
open Z in def ir111 : IFunc := ⟨8,[.tmp 4],(q (R [(o 4 (.move (W 0)))]) (q (R [(m 5 0),(m 6 1),(o 7 (.bin .add t5 t6)),(m 4 7)]) .ret))⟩
open Z in def ir112 : IFunc := ⟨6,[.tmp 4],(q (R [(o 4 (.move (W 0)))]) (q (R [(m 5 1),(m 4 5)]) .ret))⟩
open Z in def ir113 : IFunc := ⟨6,[.tmp 4],(q (R [(o 4 (.move (W 0)))]) (q (R [(m 5 0),(m 4 5)]) .ret))⟩
open Z in def ir114 : IFunc := ⟨8,[.tmp 4],(q (R [(o 4 (.move F))]) (q (R [(m 5 0),(m 6 1),(o 7 (.bin .eql t5 t6)),(m 4 7)]) .ret))⟩
open Z in def ir115 : IFunc := ⟨8,[.tmp 4],(q (R [(o 4 (.move F))]) (q (R [(m 5 0),(m 6 1),(o 7 (.bin .eql t5 t6)),(m 4 7)]) .ret))⟩
open Z in def ir116 : IFunc := ⟨10,[.tmp 4],(q (R [(o 4 (.move F))]) (q (R [(m 5 0),(o 6 (.conv (.intInt .i32) t5)),(m 7 1),(o 8 (.conv (.intInt .i32) t7)),(o 9 (.bin .gtr t6 t8)),(m 4 9)]) .ret))⟩
open Z in def ir117 : IFunc := ⟨8,[.tmp 4],(q (R [(o 4 (.move F))]) (q (R [(m 5 0),(m 6 1),(o 7 (.bin .gtr t5 t6)),(m 4 7)]) .ret))⟩
open Z in def ir118 : IFunc := ⟨9,[.tmp 4],(q (R [(o 4 (.move (W 0)))]) (q (R [(m 5 0),(m 6 1),(o 7 (.bin .rem t6 (W 32))),(o 8 (.bin .shl t5 t7)),(m 4 8)]) .ret))⟩
open Z in def ir119 : IFunc := ⟨9,[.tmp 4],(q (R [(o 4 (.move (W 0)))]) (q (R [(m 5 0),(m 6 1),(o 7 (.bin .rem t6 (W 32))),(o 8 (.bin .shr t5 t7)),(m 4 8)]) .ret))⟩
open Z in def ir120 : IFunc := ⟨11,[.tmp 4],(q (R [(o 4 (.move (W 0)))]) (q (R [(m 5 0),(o 6 (.conv (.intInt .i32) t5)),(m 7 1),(o 8 (.bin .rem t7 (W 32))),(o 9 (.bin .shr t6 t8)),(o 10 (.conv (.intInt .u32) t9)),(m 4 10)]) .ret))⟩
open Z in def ir121 : IFunc := ⟨8,[.tmp 4],(q (R [(o 4 (.move (W 0)))]) (q (R [(m 5 0),(m 6 1),(o 7 (.bin .mul t5 t6)),(m 4 7)]) .ret))⟩
open Z in def ir86 : IFunc := ⟨26,[.tmp 0],(q (R [(o 0 (.move (.c .nilSlice)))]) (q (R [(o 1 (.build [.nilFunc,.nilFunc,(i 0),(i 0)] [(0,1,(.c (.func 106 [] [])))])),(o 2 (.build [.nilFunc,.nilFunc,(i 0),(i 0)] [(0,1,(.c (.func 107 [] [])))])),(o 3 (.build [.nilFunc,.nilFunc,(i 0),(i 0)] [(0,1,(.c (.func 108 [] [])))])),(o 4 (.build [.nilFunc,.nilFunc,(i 0),(i 0)] [(0,1,(.c (.func 109 [] [])))])),(o 5 (.build [.nilFunc,.nilFunc,(i 0),(i 0)] [(0,1,(.c (.func 110 [] [])))])),(o 6 (.build [.nilFunc,.nilFunc,(i 0),(i 0)] [(0,1,(.c (.func 111 [] [])))])),(o 7 (.build [.nilFunc,.nilFunc,(i 0),(i 0)] [(0,1,(.c (.func 112 [] [])))])),(o 8 (.build [.nilFunc,.nilFunc,(i 0),(i 0)] [(0,1,(.c (.func 113 [] [])))])),(o 9 (.build [.nilFunc,.nilFunc,(i 0),(i 0)] [(1,1,(.c (.func 114 [] [])))])),(o 10 (.build [.nilFunc,.nilFunc,(i 0),(i 0)] [(1,1,(.c (.func 115 [] [])))])),(o 11 (.build [.nilFunc,.nilFunc,(i 0),(i 0)] [(1,1,(.c (.func 116 [] [])))])),(o 12 (.build [.nilFunc,.nilFunc,(i 0),(i 0)] [(1,1,(.c (.func 117 [] [])))])),(o 13 (.build [.nilFunc,.nilFunc,(i 0),(i 0)] [(0,1,(.c (.func 118 [] [])))])),(o 14 (.build [.nilFunc,.nilFunc,(i 0),(i 0)] [(0,1,(.c (.func 119 [] [])))])),(o 15 (.build [.nilFunc,.nilFunc,(i 0),(i 0)] [(0,1,(.c (.func 120 [] [])))])),(o 16 (.build [.nilFunc,.nilFunc,(i 0),(i 0)] [(0,1,(.c (.func 121 [] [])))])),(o 17 (.build [.nilFunc,.nilFunc,(i 0),(i 0)] [(0,1,(.c (.func 122 [] [])))])),(o 18 (.build [.nilFunc,.nilFunc,(i 0),(i 0)] [(0,1,(.c (.func 123 [] [])))])),(o 19 (.build [.nilFunc,.nilFunc,(i 0),(i 0)] [(2,1,(I 4))])),(o 20 (.build [.nilFunc,.nilFunc,(i 0),(i 0)] [(2,1,(I 2))])),(o 21 (.build [.nilFunc,.nilFunc,(i 0),(i 0)] [(2,1,(I 1))])),(o 22 (.build [.nilFunc,.nilFunc,(i 0),(i 0)] [(3,1,(I 4))])),(o 23 (.build [.nilFunc,.nilFunc,(i 0),(i 0)] [(3,1,(I 2))])),(o 24 (.build [.nilFunc,.nilFunc,(i 0),(i 0)] [(3,1,(I 1))])),(o 25 (.buildSlice 27 4 [.nilFunc,.nilFunc,(i 0),(i 0)] [(8,4,t1),(12,4,t2),(16,4,t3),(20,4,t4),(24,4,t5),(28,4,t6),(32,4,t7),(36,4,t8),(40,4,t9),(52,4,t10),(44,4,t11),(48,4,t12),(60,4,t13),(64,4,t14),(68,4,t15),(72,4,t16),(76,4,t17),(80,4,t18),(84,4,t19),(88,4,t20),(92,4,t21),(96,4,t22),(100,4,t23),(104,4,t24)])),(m 0 25)]) .ret))⟩
open Z in def ir54 : IFunc := ⟨15,[.cell 2 true 4],(q (R [(o 2 (.alloc [.nilFunc,.nilFunc,(i 0),(i 0)]))]) (q (R [(o 4 (.call 86 [])),(m 3 4)]) (q (q (R [(m 5 0),(o 6 (.conv (.intInt .i64) t5)),(m 7 3),(o 8 (.lenSl t7)),(o 9 (.bin .geq t6 t8))]) (.cond t9 (q (R [(o 10 (.build [.nilFunc,.nilFunc,(i 0),(i 0)] [])),(st 4 2 10)]) .ret) .skip)) (q (R [(m 11 3),(m 12 0),(ix 13 4 11 12),(la 14 4 13),(st 4 2 14)]) .ret))))⟩
open Z in def ir87 : IFunc := ⟨12,[.tmp 2],(q (R [(o 1 (.box t0)),(o 2 (.move F))]) (q (q (R [(f 3 0 1),(l 4 1 3)]) (.block 0 (q (q (R [(o 6 (.bin .eql t4 (B 7))),(m 5 6)]) (.cond t5 .skip (q (R [(o 7 (.bin .eql t4 (B 8))),(m 5 7)]) (.cond t5 .skip (q (R [(o 8 (.bin .eql t4 (B 13))),(m 5 8)]) (.cond t5 .skip (q (R [(o 9 (.bin .eql t4 (B 15))),(m 5 9)]) (.cond t5 .skip (q (R [(o 10 (.bin .eql t4 (B 16))),(m 5 10)]) (.cond t5 .skip (R [(o 11 (.bin .eql t4 (B 17))),(m 5 11)]))))))))))) (.cond t5 (q (R [(o 2 (.move T))]) .ret) .skip)))) lG7l1))⟩
def fv (n : Nat) : AV := .func n [] []
def wRow (v c : AV) (l q : Int) : List AV := [v, c, .int .i64 l, .int .i64 q]
def whatRows : List (List AV) := [wRow .nilFunc .nilFunc 0 0, wRow .nilFunc .nilFunc 0 0,
 wRow (fv 106) .nilFunc 0 0, wRow (fv 107) .nilFunc 0 0, wRow (fv 108) .nilFunc 0 0, wRow (fv 109) .nilFunc 0 0, wRow (fv 110) .nilFunc 0 0, wRow (fv 111) .nilFunc 0 0, wRow (fv 112) .nilFunc 0 0, wRow (fv 113) .nilFunc 0 0,
 wRow .nilFunc (fv 114) 0 0, wRow .nilFunc (fv 116) 0 0, wRow .nilFunc (fv 117) 0 0, wRow .nilFunc (fv 115) 0 0, wRow .nilFunc .nilFunc 0 0,
 wRow (fv 118) .nilFunc 0 0, wRow (fv 119) .nilFunc 0 0, wRow (fv 120) .nilFunc 0 0, wRow (fv 121) .nilFunc 0 0, wRow (fv 122) .nilFunc 0 0, wRow (fv 123) .nilFunc 0 0,
 wRow .nilFunc .nilFunc 4 0, wRow .nilFunc .nilFunc 2 0, wRow .nilFunc .nilFunc 1 0, wRow .nilFunc .nilFunc 0 4, wRow .nilFunc .nilFunc 0 2, wRow .nilFunc .nilFunc 0 1]
def whatAt (op : Nat) : List AV := whatRows.getD op (wRow .nilFunc .nilFunc 0 0)
/-- What a value is. -/
def vF (op : Nat) (a b : Int) : Int := match op with
 | 2 => (a + b) % 4294967296
 | 3 => (a - b) % 4294967296
 | 4 => rawF .and .u32 a b
 | 5 => rawF .or .u32 a b
 | 6 => rawF .xor .u32 a b
 | 7 => (a + b) % 4294967296
 | 8 => b
 | 9 => a
 | 15 => shlF .u32 a (Int.tmod b 32)
 | 16 => shrF .u32 a (Int.tmod b 32)
 | 17 => shrF .i32 (wrapF .i32 a) (Int.tmod b 32) % 4294967296
 | 18 => a * b % 4294967296
 | 19 => cmulF a b
 | 20 => cconF a b
 | _ => 0
/-- What a compare tells. -/
def cF (op : Nat) (a b : Int) : Bool := match op with
 | 10 => decide (a = b)
 | 13 => decide (a = b)
 | 11 => decide (wrapF .i32 b < wrapF .i32 a)
 | 12 => decide (b < a)
 | _ => false
section
variable {T : Tab}
structure WhTab (T : Tab) : Prop where
 cx : CxTab T
 f1 : T 106 = some (.code ir106)
 f2 : T 107 = some (.code ir107)
 f3 : T 108 = some (.code ir108)
 f4 : T 109 = some (.code ir109)
 f5 : T 110 = some (.code ir110)
 f6 : T 111 = some (.code ir111)
 f7 : T 112 = some (.code ir112)
 f8 : T 113 = some (.code ir113)
 f9 : T 114 = some (.code ir114)
 f10 : T 115 = some (.code ir115)
 f11 : T 116 = some (.code ir116)
 f12 : T 117 = some (.code ir117)
 f13 : T 118 = some (.code ir118)
 f14 : T 119 = some (.code ir119)
 f15 : T 120 = some (.code ir120)
 f16 : T 121 = some (.code ir121)
 table : T 86 = some (.code ir86)
 whats : T 54 = some (.code ir54)
 has : T 87 = some (.code ir87)
/-- A function of two numbers. -/
def Fn2 (T : Tab) (f : Nat) (r : Int → Int → AV) : Prop := ∀ (s : St) (a b : Int), 0 ≤ b → Ran T f [.int .u32 a, .int .u32 b] s fun v s' => v = r a b ∧ s' = s
theorem fn1 (h : WhTab T) : Fn2 T 106 fun a b => .int .u32 (vF 2 a b) := by
 intro s a b hb
 refine ran_code h.f1 (Nat.le_of_ble_eq_true rfl) ?_
 simp only [ir106, wr, seval]
 rfl
theorem fn2 (h : WhTab T) : Fn2 T 107 fun a b => .int .u32 (vF 3 a b) := by
 intro s a b hb
 refine ran_code h.f2 (Nat.le_of_ble_eq_true rfl) ?_
 simp only [ir107, wr, seval]
 rfl
theorem fn3 (h : WhTab T) : Fn2 T 108 fun a b => .int .u32 (vF 4 a b) := by
 intro s a b hb
 refine ran_code h.f3 (Nat.le_of_ble_eq_true rfl) ?_
 simp only [ir108, raw_and, wr, seval]
 rfl
theorem fn4 (h : WhTab T) : Fn2 T 109 fun a b => .int .u32 (vF 5 a b) := by
 intro s a b hb
 refine ran_code h.f4 (Nat.le_of_ble_eq_true rfl) ?_
 simp only [ir109, raw_or, wr, seval]
 rfl
theorem fn5 (h : WhTab T) : Fn2 T 110 fun a b => .int .u32 (vF 6 a b) := by
 intro s a b hb
 refine ran_code h.f5 (Nat.le_of_ble_eq_true rfl) ?_
 simp only [ir110, raw_xor, wr, seval]
 rfl
theorem fn6 (h : WhTab T) : Fn2 T 111 fun a b => .int .u32 (vF 7 a b) := by
 intro s a b hb
 refine ran_code h.f6 (Nat.le_of_ble_eq_true rfl) ?_
 simp only [ir111, wr, seval]
 rfl
theorem fn7 (h : WhTab T) : Fn2 T 112 fun a b => .int .u32 (vF 8 a b) := by
 intro s a b hb
 refine ran_code h.f7 (Nat.le_of_ble_eq_true rfl) ?_
 simp only [ir112, wr, seval]
 rfl
theorem fn8 (h : WhTab T) : Fn2 T 113 fun a b => .int .u32 (vF 9 a b) := by
 intro s a b hb
 refine ran_code h.f8 (Nat.le_of_ble_eq_true rfl) ?_
 simp only [ir113, wr, seval]
 rfl
theorem fn9 (h : WhTab T) : Fn2 T 114 fun a b => .bool (cF 10 a b) := by
 intro s a b hb
 refine ran_code h.f9 (Nat.le_of_ble_eq_true rfl) ?_
 simp only [ir114, wr, seval]
 rfl
theorem fn10 (h : WhTab T) : Fn2 T 115 fun a b => .bool (cF 13 a b) := by
 intro s a b hb
 refine ran_code h.f10 (Nat.le_of_ble_eq_true rfl) ?_
 simp only [ir115, wr, seval]
 rfl
theorem fn11 (h : WhTab T) : Fn2 T 116 fun a b => .bool (cF 11 a b) := by
 intro s a b hb
 refine ran_code h.f11 (Nat.le_of_ble_eq_true rfl) ?_
 simp only [ir116, wr, seval]
 rfl
theorem fn12 (h : WhTab T) : Fn2 T 117 fun a b => .bool (cF 12 a b) := by
 intro s a b hb
 refine ran_code h.f12 (Nat.le_of_ble_eq_true rfl) ?_
 simp only [ir117, wr, seval]
 rfl
theorem tm_nn {b : Int} (hb : 0 ≤ b) : 0 ≤ Int.tmod b 32 := by
 rw [Int.tmod_eq_emod_of_nonneg hb]; omega
theorem fn13 (h : WhTab T) : Fn2 T 118 fun a b => .int .u32 (vF 15 a b) := by
 intro s a b hb
 have q := raw_shl .u32 .u32 a (Int.tmod b 32) (tm_nn hb)
 refine ran_code h.f13 (Nat.le_of_ble_eq_true rfl) ?_
 simp only [ir118, q, wr, seval]
 rfl
theorem fn14 (h : WhTab T) : Fn2 T 119 fun a b => .int .u32 (vF 16 a b) := by
 intro s a b hb
 have q := raw_shr .u32 .u32 a (Int.tmod b 32) (tm_nn hb)
 refine ran_code h.f14 (Nat.le_of_ble_eq_true rfl) ?_
 simp only [ir119, q, wr, seval]
 rfl
theorem fn15 (h : WhTab T) : Fn2 T 120 fun a b => .int .u32 (vF 17 a b) := by
 intro s a b hb
 have q := raw_shr .i32 .u32 (wrapF .i32 a) (Int.tmod b 32) (tm_nn hb)
 refine ran_code h.f15 (Nat.le_of_ble_eq_true rfl) ?_
 simp only [ir120, q, wr, seval]
 rfl
theorem fn16 (h : WhTab T) : Fn2 T 121 fun a b => .int .u32 (vF 18 a b) := by
 intro s a b hb
 refine ran_code h.f16 (Nat.le_of_ble_eq_true rfl) ?_
 simp only [ir121, wr, seval]
 rfl
theorem fn17 (h : WhTab T) : Fn2 T 122 fun a b => .int .u32 (vF 19 a b) := fun s a b _ => cmul_ran h.cx s a b
theorem fn18 (h : WhTab T) : Fn2 T 123 fun a b => .int .u32 (vF 20 a b) := fun s a b _ => ccon_ran h.cx s a b
def isV (op : Nat) : Bool := (decide (2 ≤ op) && decide (op ≤ 9)) || (decide (15 ≤ op) && decide (op ≤ 20))
def isC (op : Nat) : Bool := decide (10 ≤ op) && decide (op ≤ 13)
def ldN (op : Nat) : Int := match op with
 | 21 => 4
 | 22 => 2
 | 23 => 1
 | _ => 0
def stN (op : Nat) : Int := match op with
 | 24 => 4
 | 25 => 2
 | 26 => 1
 | _ => 0
/-- The row of an op. -/
theorem what_form (h : WhTab T) (op : Nat) : ∃ f c, whatAt op = wRow f c (ldN op) (stN op) ∧ ((isV op = true ∧ ∃ n, f = .func n [] [] ∧ Fn2 T n fun a b => .int .u32 (vF op a b)) ∨ (isV op = false ∧ f = .nilFunc)) ∧ ((isC op = true ∧ ∃ n, c = .func n [] [] ∧ Fn2 T n fun a b => .bool (cF op a b)) ∨ (isC op = false ∧ c = .nilFunc)) := by
 by_cases hop : op < 27
 · have hc : op = 0 ∨ op = 1 ∨ op = 2 ∨ op = 3 ∨ op = 4 ∨ op = 5 ∨ op = 6 ∨ op = 7 ∨ op = 8 ∨ op = 9 ∨ op = 10 ∨ op = 11 ∨ op = 12 ∨ op = 13 ∨ op = 14 ∨ op = 15 ∨ op = 16 ∨ op = 17 ∨ op = 18 ∨ op = 19 ∨ op = 20 ∨ op = 21 ∨ op = 22 ∨ op = 23 ∨ op = 24 ∨ op = 25 ∨ op = 26 := by omega
   rcases hc with rfl | rfl | rfl | rfl | rfl | rfl | rfl | rfl | rfl | rfl | rfl | rfl | rfl | rfl | rfl | rfl | rfl | rfl | rfl | rfl | rfl | rfl | rfl | rfl | rfl | rfl | rfl
   all_goals first
    | exact ⟨_, _, rfl, .inr ⟨rfl, rfl⟩, .inr ⟨rfl, rfl⟩⟩
    | exact ⟨_, _, rfl, .inl ⟨rfl, _, rfl, fn1 h⟩, .inr ⟨rfl, rfl⟩⟩
    | exact ⟨_, _, rfl, .inl ⟨rfl, _, rfl, fn2 h⟩, .inr ⟨rfl, rfl⟩⟩
    | exact ⟨_, _, rfl, .inl ⟨rfl, _, rfl, fn3 h⟩, .inr ⟨rfl, rfl⟩⟩
    | exact ⟨_, _, rfl, .inl ⟨rfl, _, rfl, fn4 h⟩, .inr ⟨rfl, rfl⟩⟩
    | exact ⟨_, _, rfl, .inl ⟨rfl, _, rfl, fn5 h⟩, .inr ⟨rfl, rfl⟩⟩
    | exact ⟨_, _, rfl, .inl ⟨rfl, _, rfl, fn6 h⟩, .inr ⟨rfl, rfl⟩⟩
    | exact ⟨_, _, rfl, .inl ⟨rfl, _, rfl, fn7 h⟩, .inr ⟨rfl, rfl⟩⟩
    | exact ⟨_, _, rfl, .inl ⟨rfl, _, rfl, fn8 h⟩, .inr ⟨rfl, rfl⟩⟩
    | exact ⟨_, _, rfl, .inr ⟨rfl, rfl⟩, .inl ⟨rfl, _, rfl, fn9 h⟩⟩
    | exact ⟨_, _, rfl, .inr ⟨rfl, rfl⟩, .inl ⟨rfl, _, rfl, fn10 h⟩⟩
    | exact ⟨_, _, rfl, .inr ⟨rfl, rfl⟩, .inl ⟨rfl, _, rfl, fn11 h⟩⟩
    | exact ⟨_, _, rfl, .inr ⟨rfl, rfl⟩, .inl ⟨rfl, _, rfl, fn12 h⟩⟩
    | exact ⟨_, _, rfl, .inl ⟨rfl, _, rfl, fn13 h⟩, .inr ⟨rfl, rfl⟩⟩
    | exact ⟨_, _, rfl, .inl ⟨rfl, _, rfl, fn14 h⟩, .inr ⟨rfl, rfl⟩⟩
    | exact ⟨_, _, rfl, .inl ⟨rfl, _, rfl, fn15 h⟩, .inr ⟨rfl, rfl⟩⟩
    | exact ⟨_, _, rfl, .inl ⟨rfl, _, rfl, fn16 h⟩, .inr ⟨rfl, rfl⟩⟩
    | exact ⟨_, _, rfl, .inl ⟨rfl, _, rfl, fn17 h⟩, .inr ⟨rfl, rfl⟩⟩
    | exact ⟨_, _, rfl, .inl ⟨rfl, _, rfl, fn18 h⟩, .inr ⟨rfl, rfl⟩⟩
 · have h1 : whatAt op = wRow .nilFunc .nilFunc 0 0 := by
    unfold whatAt
    rw [List.getD_eq_getElem?_getD, List.getElem?_eq_none (by show 27 ≤ op; omega)]
    rfl
   have h2 : ldN op = 0 := by unfold ldN; split <;> first | rfl | omega
   have h3 : stN op = 0 := by unfold stN; split <;> first | rfl | omega
   refine ⟨_, _, by rw [h1, h2, h3], .inr ⟨?_, rfl⟩, .inr ⟨?_, rfl⟩⟩
   · unfold isV; simp; omega
   · unfold isC; simp; omega
theorem table_ran (h : WhTab T) {s : St} (hs : WFS s) : Ran T 86 [] s fun v s' => v = .slice ⟨s.next, 0, 0, 108⟩ 27 27 true 4 ∧ s' = s.add (.cells whatRows.flatten 0 0 false) := by
 refine ran_code h.table (Nat.le_of_ble_eq_true rfl) ?_
 simp only [ir86, wr, seval]
 rfl
theorem take_f {α : Type} {w : Nat} : ∀ (l : List (List α)) (_ : ∀ x ∈ l, x.length = w) (i : Nat) (x : List α) (_ : l[i]? = some x), List.take w (List.drop (i * w) l.flatten) = x
 | [], _, i, x, h => by simp at h
 | y :: l, hf, i, x, h => by
  have hy := hf y (List.mem_cons_self ..)
  rw [List.flatten_cons]
  cases i with
  | zero =>
   simp at h; subst h
   rw [Nat.zero_mul, List.drop_zero, List.take_append_of_le_length (by omega), List.take_of_length_le (by omega)]
  | succ i =>
   have h2 : (i + 1) * w = y.length + i * w := by rw [hy, Nat.succ_mul]; omega
   rw [h2, List.drop_append, Nat.add_sub_cancel_left, List.drop_eq_nil_of_le (by omega), List.nil_append]
   exact take_f l (fun z hz => hf z (List.mem_cons_of_mem _ hz)) i x (by simpa using h)
theorem whats_ran (h : WhTab T) {s : St} (hs : WFS s) {op : Nat} (h256 : op < 256) : Ran T 54 [.int .u8 (op : Int)] s fun v s' => v = .agg (whatAt op) ∧ Ext s s' := by
 refine ran_code h.whats (Nat.le_of_ble_eq_true rfl) ?_
 generalize hQ : Fin _ _ = Q
 simp only [ir54, wr, seval]
 have hE : Ext s (s.add (.cells [.nilFunc, .nilFunc, .int .i64 0, .int .i64 0] 0 0 false)) := .add (.refl hs) _
 refine goCall_by (table_ran h hE.1) ?_
 rintro v s' ⟨rfl, rfl⟩
 have hE2 := hE.add (.cells whatRows.flatten 0 0 false)
 generalize hW : whatRows.flatten = W at *
 have w1 : wrapF .i64 (op : Int) = op := wrap_i64 _ (by omega) (by omega)
 by_cases hop : op < 27
 · have c1 : ¬ (27 : Int) ≤ (op : Int) := by omega
   have c2 : op * 4 + 4 ≤ 108 := by omega
   have t1 : List.take 4 (List.drop (op * 4) W) = whatAt op := by
    rw [← hW]
    refine take_f whatRows ?_ op _ ?_
    · intro x hx
      revert x
      decide
    · unfold whatAt
      rw [List.getD_eq_getElem?_getD]
      have : op < whatRows.length := hop
      rw [List.getElem?_eq_getElem this]
      rfl
   obtain ⟨f, c, e1, e2, e3⟩ := what_form h op
   have f1 : f.isCell = true := by rcases e2 with ⟨_, n, rfl, _⟩ | ⟨_, rfl⟩ <;> rfl
   have f2 : c.isCell = true := by rcases e3 with ⟨_, n, rfl, _⟩ | ⟨_, rfl⟩ <;> rfl
   rw [e1] at t1 hQ
   unfold wRow at *
   simp only [w1, c1, c2, hop, t1, f1, f2, wr, seval]
   subst hQ
   simp only [ir54, wr, seval]
   exact (Ext.add (.refl hs) _).add _
 · have c1 : (27 : Int) ≤ (op : Int) := by omega
   have t1 : whatAt op = [.nilFunc, .nilFunc, .int .i64 0, .int .i64 0] := by
    unfold whatAt
    rw [List.getD_eq_getElem?_getD, List.getElem?_eq_none (by show 27 ≤ op; omega)]
    rfl
   simp only [w1, c1, wr, seval]
   subst hQ
   simp only [ir54, wr, seval]
   rw [t1]
   exact ⟨rfl, (Ext.add (.refl hs) _).add _⟩
def hasB (op : Int) : Bool := decide (op = 7) || (decide (op = 8) || (decide (op = 13) || (decide (op = 15) || (decide (op = 16) || decide (op = 17)))))
theorem shas_ran (h : WhTab T) {s : St} (hs : WFS s) (i : In) : Ran T 87 [.agg i.cells] s fun v s' => v = .bool (hasB i.op) ∧ Ext s s' := by
 refine ran_code h.has (Nat.le_of_ble_eq_true rfl) ?_
 generalize hQ : Fin _ _ = Q
 have hE : Ext s (s.add (.cells i.cells 0 0 false)) := .add (.refl hs) _
 by_cases h1 : i.op = 7 <;> by_cases h2 : i.op = 8 <;> by_cases h3 : i.op = 13 <;> by_cases h4 : i.op = 15 <;> by_cases h5 : i.op = 16 <;> by_cases h6 : i.op = 17 <;> first | omega | skip
 all_goals
  simp only [ir87, In.cells, h1, h2, h3, h4, h5, h6, wr, seval]
  subst hQ
  simp only [ir87, wr, seval]
  refine ⟨?_, ?_⟩
  · simp [hasB, h1, h2, h3, h4, h5, h6]
  · first | exact hE | (simpa only [In.cells, h1, h2, h3, h4, h5, h6] using hE)
end
end Go.V
/- mem: its small functions over the small language. -/
namespace Go.V
open Go
set_option linter.unusedSimpArgs false
set_option linter.unusedVariables false
open Z in def ir18 : IFunc := ⟨4,[.tmp 0],(q (R [(o 0 (.move (.c .nilPtr)))]) (q (R [(o 1 .mkMap),(o 2 (.build [.nilMap] [(0,1,t1)])),(o 3 (.box t2)),(m 0 3)]) .ret))⟩
open Z in def ir89 : IFunc := ⟨39,[.tmp 6,.tmp 7],(q (R [(o 6 (.move (W 0))),(mi 7 0)]) (q (q (R [(m 11 0),(m 12 1),(m 13 2),(o 14 (.call 51 [t11,t12,t13])),(m 8 14)]) (q (R [(m 15 8),(o 16 (.bin .neq t15 (I 0)))]) (.cond t16 (q (R [(m 17 8),(o 6 (.move (W 0))),(m 7 17)]) .ret) .skip))) (q (R [(o 9 (.move (W 0)))]) (q (q (R [(m 18 2),(mi 19 0)]) (.block 0 (.loop (q (R [(o 20 (.bin .lss t19 t18))]) (q (.cond t20 .skip (.exit 0)) (q (.block 1 (q (R [(m 21 19),(m 10 21)]) (R [(m 22 9),(m 23 0),(k 24 23),(f 25 0 24),(l 26 1 25),(m 27 1),(m 28 10),(o 29 (.conv (.intInt .u32) t28)),(o 30 (.bin .add t27 t29)),(o 31 (.lookup (.int .u32) (b 0) false t26 t30)),(o 32 (.conv (.intInt .u32) t31)),(m 33 10),(o 34 (.bin .mul (I 8) t33)),(o 35 (.bin .shl t32 t34)),(o 36 (.bin .or t22 t35)),(m 9 36)]))) (R [(o 37 (.bin .add t19 (I 1))),(m 19 37)]))))))) (q (R [(m 38 9),(m 6 38),(mi 7 0)]) .ret)))))⟩
open Z in def ir20 : IFunc := ⟨34,[.tmp 8],(q (R [(mi 8 0)]) (q (q (R [(m 11 0),(m 12 1),(m 13 2),(o 14 (.call 51 [t11,t12,t13])),(m 9 14)]) (q (R [(m 15 9),(o 16 (.bin .neq t15 (I 0)))]) (.cond t16 (q (R [(m 17 9),(m 8 17)]) .ret) .skip))) (q (q (R [(m 18 2),(mi 19 0)]) (.block 0 (.loop (q (R [(o 20 (.bin .lss t19 t18))]) (q (.cond t20 .skip (.exit 0)) (q (.block 1 (q (R [(m 21 19),(m 10 21)]) (R [(m 22 0),(m 23 1),(m 24 10),(o 25 (.conv (.intInt .u32) t24)),(o 26 (.bin .add t23 t25)),(m 27 3),(m 28 10),(o 29 (.bin .mul (I 8) t28)),(o 30 (.bin .shr t27 t29)),(o 31 (.conv (.intInt .u8) t30)),(o 32 (.call 50 [t22,t26,t31]))]))) (R [(o 33 (.bin .add t19 (I 1))),(m 19 33)]))))))) (q (R [(mi 8 0)]) .ret))))⟩
open Z in def ir19 : IFunc := ⟨13,[.tmp 6],(q (R [(mi 6 0)]) (q (q (R [(m 7 0),(o 8 (.eq false (.nilable .ptr) t7 (.c .nilPtr)))]) (.cond t8 (q (R [(mi 6 2)]) .ret) .skip)) (q (R [(m 9 0),(m 10 1),(m 11 2),(o 12 (.call 50 [t9,t10,t11]))]) (q (R [(mi 6 0)]) .ret))))⟩
open Z in def ir21 : IFunc := ⟨41,[.tmp 6],(q (R [(mi 6 0)]) (q (.block 0 (q (R [(m 10 0),(o 11 (.eq false (.nilable .ptr) t10 (.c .nilPtr))),(m 9 11)]) (.cond t9 (q (R [(mi 6 2)]) .ret) (q (R [(m 13 2),(o 14 (.lenSl t13)),(o 15 (.bin .gtr t14 (I 0))),(m 16 15),(og 17 16 true (.move t1)),(og 18 16 true (.conv (.intInt .u64) t17)),(og 19 16 true (.move t2)),(og 20 16 true (.lenSl t19)),(og 21 16 true (.conv (.intInt .u64) t20)),(og 22 16 true (.bin .add t18 t21)),(og 23 16 true (.bin .sub t22 (.c (.int .u64 1)))),(og 24 16 true (.bin .gtr t23 (.c (.int .u64 4294967295)))),(o 25 (.pick t16 t24 F)),(m 12 25)]) (.cond t12 (q (R [(mi 6 1)]) .ret) .skip))))) (q (q (R [(m 26 2),(o 27 (.lenSl t26)),(mi 28 0)]) (.block 1 (.loop (q (R [(o 29 (.bin .lss t28 t27))]) (q (.cond t29 .skip (.exit 1)) (q (.block 2 (q (R [(m 30 28),(ix 31 1 26 28),(l 32 1 31),(m 7 30),(m 8 32)]) (R [(m 33 0),(m 34 1),(m 35 7),(o 36 (.conv (.intInt .u32) t35)),(o 37 (.bin .add t34 t36)),(m 38 8),(o 39 (.call 50 [t33,t37,t38]))]))) (R [(o 40 (.bin .add t28 (I 1))),(m 28 40)]))))))) (q (R [(mi 6 0)]) .ret))))⟩
open Z in def ir51 : IFunc := ⟨26,[.tmp 6],(q (R [(mi 6 0)]) (q (.block 0 (q (R [(m 8 0),(o 9 (.eq false (.nilable .ptr) t8 (.c .nilPtr))),(m 7 9)]) (.cond t7 (q (R [(mi 6 2)]) .ret) (q (q (R [(m 11 2),(o 12 (.bin .neq t11 (I 1))),(m 13 12),(og 14 13 true (.move t2)),(og 15 13 true (.bin .neq t14 (I 2))),(o 16 (.pick t13 t15 F)),(m 17 16),(og 18 17 true (.move t2)),(og 19 17 true (.bin .neq t18 (I 4))),(o 20 (.pick t17 t19 F)),(m 10 20)]) (.cond t10 .skip (R [(m 21 1),(m 22 2),(o 23 (.conv (.intInt .u32) t22)),(o 24 (.bin .rem t21 t23)),(o 25 (.bin .neq t24 (W 0))),(m 10 25)]))) (.cond t10 (q (R [(mi 6 1)]) .ret) .skip))))) (q (R [(mi 6 0)]) .ret)))⟩
open Z in def ir50 : IFunc := ⟨28,[],(q (q (R [(m 6 2),(o 7 (.bin .eql t6 (B 0)))]) (.cond t7 (q (R [(m 8 0),(k 9 8),(f 10 0 9),(l 11 1 10),(m 12 1),(n (.delete (.int .u32) t11 t12))]) .ret) .skip)) (q (q (R [(m 13 0),(k 14 13),(f 15 0 14),(l 16 1 15),(o 17 (.eq false (.nilable .map) t16 (.c .nilMap)))]) (.cond t17 (R [(m 18 0),(o 19 .mkMap),(k 20 18),(f 21 0 20),(st 1 21 19)]) .skip)) (R [(m 22 0),(k 23 22),(f 24 0 23),(l 25 1 24),(m 26 1),(m 27 2),(n (.mapSet (.int .u32) t25 t26 t27))])))⟩
structure MemAt (s : St) (pm r : Nat) (L : List ME) (c : Nat) : Prop where
 box : s.heap.get pm = some (.cells [.map r] 0 0 false)
 map : s.heap.get r = some (.map (ments L) c)
 ok : MOk L c
 lt1 : pm < s.next
 lt2 : r < s.next
 wfs : WFS s
theorem MemAt.ne {s : St} {pm r : Nat} {L : List ME} {c : Nat} (h : MemAt s pm r L c) : pm ≠ r := by
 intro e; have := h.box; rw [e, h.map] at this; cases this
theorem MemAt.look {s : St} {pm r : Nat} {L : List ME} {c : Nat} (h : MemAt s pm r L c) (k : Nat) : lookupV s (.int .u32) (.int .u8 0) false (.map r) (.int .u32 (k : Int)) = some (.int .u8 (mget L k : Int)) := by
 simp only [lookupV, h.map, mlook]
theorem MemAt.setV {s : St} {pm r : Nat} {L : List ME} {c : Nat} (h : MemAt s pm r L c) (k b : Nat) : mapSetV s (.int .u32) (.map r) (.int .u32 (k : Int)) (.int .u8 (b : Int)) = some (s.put r (.map (ments (mset L k b c)) (mclk L k c))) := by
 simp only [mapSetV, h.map, mfind, mset_ents, mclk]
 cases mhas L k <;> simp
theorem MemAt.delV {s : St} {pm r : Nat} {L : List ME} {c : Nat} (h : MemAt s pm r L c) (k : Nat) : deleteV s (.int .u32) (.map r) (.int .u32 (k : Int)) = some (s.put r (.map (ments (mdel L k)) c)) := by
 simp only [deleteV, h.map, mfind, mdel_ents]
 cases mhas L k <;> simp

/-- What a put makes of the row. -/
def mput (L : List ME) (c k b : Nat) : List ME × Nat := if b = 0 then (mdel L k, c) else (mset L k b c, mclk L k c)
theorem mput_ok {L : List ME} {c k b : Nat} (h : MOk L c) (hk : k < 4294967296) (hb : b < 256) : MOk (mput L c k b).1 (mput L c k b).2 := by
 unfold mput
 split
 · exact h.del
 · exact h.set hk (by omega) hb
theorem mput_clk (L : List ME) (c k b : Nat) : (mput L c k b).2 ≤ c + 1 := by
 unfold mput mclk
 split
 · simp
 · simp only []; split <;> omega
theorem MemAt.put {s : St} {pm r : Nat} {L : List ME} {c k b : Nat} (h : MemAt s pm r L c) (hk : k < 4294967296) (hb : b < 256) : MemAt (s.put r (.map (ments (mput L c k b).1) (mput L c k b).2)) pm r (mput L c k b).1 (mput L c k b).2 :=
 ⟨by rw [put_get, if_neg h.ne]; exact h.box, by rw [put_get, if_pos rfl], mput_ok h.ok hk hb, h.lt1, h.lt2, h.wfs.put h.lt2 _⟩

/-- OnlyM one thing that was there has turned. -/
structure OnlyM (r : Nat) (s s' : St) : Prop where
 wfs : WFS s'
 next : s.next ≤ s'.next
 same : ∀ id, id < s.next → id ≠ r → s'.heap.get id = s.heap.get id
theorem OnlyM.refl {r : Nat} {s : St} (h : WFS s) : OnlyM r s s := ⟨h, Nat.le_refl _, fun _ _ _ => rfl⟩
theorem OnlyM.trans {r : Nat} {a b c : St} (h : OnlyM r a b) (h' : OnlyM r b c) : OnlyM r a c :=
 ⟨h'.wfs, Nat.le_trans h.next h'.next, fun id i1 i2 => by rw [h'.same id (Nat.lt_of_lt_of_le i1 h.next) i2, h.same id i1 i2]⟩
theorem OnlyM.ext {r : Nat} {s s' : St} (h : Ext s s') : OnlyM r s s' := ⟨h.1, h.2.1, fun id i1 _ => h.2.2 id i1⟩
theorem OnlyM.put {r : Nat} {s : St} (h : WFS s) (hr : r < s.next) (o : AObj) : OnlyM r s (s.put r o) := ⟨h.put hr o, Nat.le_refl _, fun id _ i2 => by rw [put_get, if_neg i2]⟩

abbrev mptr (pm : Nat) : AV := .ptr ⟨pm, 0, 0, 1⟩
def strB (v : AV) (s : St) : Res := match v with
 | .str l => if l.length * 65536 ≤ maxApp then .val (.slice ⟨s.next, 0, 0, l.length⟩ l.length l.length false 1) (s.add (.cells (l.map fun b => .int .u8 b.toNat) 0 0 false)) else .fail
 | _ => .fail
theorem wo_strBytes (x : Opd) (T : Tab) (Q : Post) (fs : List Fr) (d : Bool) (l : List IOp) (dst : Option Nat) (w : List Opd) (e : Env) (s : St) : GoOps T Q d (⟨dst, none, w, .conv .strBytes x⟩ :: l) fs e s ↔ GoR T Q d dst w (strB (opd e x) s) l fs e s := by
 rw [ops_ins rfl]
 have : insV e s (.conv .strBytes x) = strB (opd e x) s := by
  unfold insV strB
  simp only [evalIns]
  cases opd e x <;> simp [convV, ofOpt]
 rw [this]
section
variable {T : Tab}
theorem mput_ran (hc : T 50 = some (.code ir50)) {s : St} {pm r : Nat} {L : List ME} {c : Nat} (h : MemAt s pm r L c) (k b : Nat) :
 Ran T 50 [mptr pm, .int .u32 (k : Int), .int .u8 (b : Int)] s fun v s' => v = .tuple [] ∧ s' = s.put r (.map (ments (mput L c k b).1) (mput L c k b).2) := by
 refine ran_code hc (Nat.le_of_ble_eq_true rfl) ?_
 have h1 := h.box
 have h2 := h.setV k b
 have h3 := h.delV k
 generalize hQ : Fin _ _ = Q
 by_cases hb : b = 0
 · have c1 : (b : Int) = 0 := by omega
   simp only [ir50, h1, h3, c1, eqV, nilEq, wq, seval]
   subst hQ
   simp only [ir50, wq, seval, mput, hb, if_true]
 · have c1 : ¬ (b : Int) = 0 := by omega
   simp only [ir50, h1, h2, c1, eqV, nilEq, wq, seval]
   subst hQ
   simp only [ir50, wq, seval, mput, hb, if_false]
theorem Put_ran (hc : T 19 = some (.code ir19)) (hp : T 50 = some (.code ir50)) {s : St} {pm r : Nat} {L : List ME} {c : Nat} (h : MemAt s pm r L c) (k b : Nat) :
 Ran T 19 [mptr pm, .int .u32 (k : Int), .int .u8 (b : Int)] s fun v s' => v = .int .i64 0 ∧ s' = s.put r (.map (ments (mput L c k b).1) (mput L c k b).2) := by
 refine ran_code hc (Nat.le_of_ble_eq_true rfl) ?_
 generalize hQ : Fin _ _ = Q
 simp only [ir19, eqV, nilEq, wq, seval]
 refine goCall_by (mput_ran hp h k b) ?_
 rintro v s' ⟨rfl, rfl⟩
 subst hQ
 simp only [ir19, wq, seval]
def rightW (at_ : Nat) (n : Int) : Bool := decide (n = 1) || ((decide (n = 2) && decide (at_ % 2 = 0)) || (decide (n = 4) && decide (at_ % 4 = 0)))
theorem mmay_ran (hc : T 51 = some (.code ir51)) (s : St) (pm k : Nat) (n : Int) :
 Ran T 51 [mptr pm, .int .u32 (k : Int), .int .i64 n] s fun v s' => v = .int .i64 (if rightW k n = true then 0 else 1) ∧ s' = s := by
 refine ran_code hc (Nat.le_of_ble_eq_true rfl) ?_
 generalize hQ : Fin _ _ = Q
 by_cases h1 : n = 1
 · subst h1
   have e1 : Int.tmod (k : Int) 1 = 0 := by rw [Int.tmod_eq_emod_of_nonneg (by omega)]; omega
   simp only [ir51, e1, eqV, nilEq, wq, seval]
   subst hQ
   simp only [ir51, wq, seval, rightW, decide_true, Bool.true_or, if_true]
 · by_cases h2 : n = 2
   · subst h2
     have e1 : Int.tmod (k : Int) 2 = ((k % 2 : Nat) : Int) := by rw [Int.tmod_eq_emod_of_nonneg (by omega)]; omega
     by_cases h3 : k % 2 = 0
     · have e2 : ((k % 2 : Nat) : Int) = 0 := by omega
       simp only [ir51, e1, e2, eqV, nilEq, wq, seval]
       subst hQ
       simp only [ir51, wq, seval, rightW, h3]
       simp
     · have e2 : ¬ ((k % 2 : Nat) : Int) = 0 := by omega
       simp only [ir51, e1, e2, eqV, nilEq, wq, seval]
       subst hQ
       simp only [ir51, wq, seval, rightW, h3]
       simp
   · by_cases h4 : n = 4
     · subst h4
       have e1 : Int.tmod (k : Int) 4 = ((k % 4 : Nat) : Int) := by rw [Int.tmod_eq_emod_of_nonneg (by omega)]; omega
       by_cases h3 : k % 4 = 0
       · have e2 : ((k % 4 : Nat) : Int) = 0 := by omega
         simp only [ir51, e1, e2, eqV, nilEq, wq, seval]
         subst hQ
         simp only [ir51, wq, seval, rightW, h3]
         simp
       · have e2 : ¬ ((k % 4 : Nat) : Int) = 0 := by omega
         simp only [ir51, e1, e2, eqV, nilEq, wq, seval]
         subst hQ
         simp only [ir51, wq, seval, rightW, h3]
         simp
     · simp only [ir51, h1, h2, h4, eqV, nilEq, wq, seval]
       subst hQ
       simp only [ir51, wq, seval, rightW, h1, h2, h4]
       simp
theorem mnew_ran (hc : T 18 = some (.code ir18)) (s : St) (hs : WFS s) :
 Ran T 18 [] s fun v s' => ∃ pm r, v = mptr pm ∧ s.next ≤ pm ∧ s.next ≤ r ∧ MemAt s' pm r [] 0 ∧ Ext s s' := by
 refine ran_code hc (Nat.le_of_ble_eq_true rfl) ?_
 simp only [ir18, wq, seval]
 refine ⟨s.next + 1, s.next, rfl, by omega, by omega, ⟨?_, ?_, .nil, ?_, ?_, (hs.add _).add _⟩, (Ext.add (Ext.add (Ext.refl hs) _) _)⟩
 all_goals simp only [wk, wk1, Nat.reduceEqDiff, reduceIte, decide_true]
 all_goals first | rfl | omega
end
end Go.V
/- mem: Word, Store, Load over the small language. -/
namespace Go.V
open Go
set_option linter.unusedSimpArgs false
set_option linter.unusedVariables false
section
open Z
abbrev sMCl5 : ICode := .seq (R [(mi 6 0)]) .ret
abbrev sMCl4 : ICode := .seq (R [(mi 8 0)]) .ret
abbrev sMCl3 : ICode := .seq (R [(m 38 9),(m 6 38),(mi 7 0)]) .ret
abbrev sMCl2 : ICode := .loop (q (R [(o 29 (.bin .lss t28 t27))]) (q (.cond t29 .skip (.exit 1)) (q (.block 2 (q (R [(m 30 28),(ix 31 1 26 28),(l 32 1 31),(m 7 30),(m 8 32)]) (R [(m 33 0),(m 34 1),(m 35 7),(o 36 (.conv (.intInt .u32) t35)),(o 37 (.bin .add t34 t36)),(m 38 8),(o 39 (.call 50 [t33,t37,t38]))]))) (R [(o 40 (.bin .add t28 (I 1))),(m 28 40)]))))
abbrev sMCl1 : ICode := .loop (q (R [(o 20 (.bin .lss t19 t18))]) (q (.cond t20 .skip (.exit 0)) (q (.block 1 (q (R [(m 21 19),(m 10 21)]) (R [(m 22 0),(m 23 1),(m 24 10),(o 25 (.conv (.intInt .u32) t24)),(o 26 (.bin .add t23 t25)),(m 27 3),(m 28 10),(o 29 (.bin .mul (I 8) t28)),(o 30 (.bin .shr t27 t29)),(o 31 (.conv (.intInt .u8) t30)),(o 32 (.call 50 [t22,t26,t31]))]))) (R [(o 33 (.bin .add t19 (I 1))),(m 19 33)]))))
abbrev sMCl0 : ICode := .loop (q (R [(o 20 (.bin .lss t19 t18))]) (q (.cond t20 .skip (.exit 0)) (q (.block 1 (q (R [(m 21 19),(m 10 21)]) (R [(m 22 9),(m 23 0),(k 24 23),(f 25 0 24),(l 26 1 25),(m 27 1),(m 28 10),(o 29 (.conv (.intInt .u32) t28)),(o 30 (.bin .add t27 t29)),(o 31 (.lookup (.int .u32) (b 0) false t26 t30)),(o 32 (.conv (.intInt .u32) t31)),(m 33 10),(o 34 (.bin .mul (I 8) t33)),(o 35 (.bin .shl t32 t34)),(o 36 (.bin .or t22 t35)),(m 9 36)]))) (R [(o 37 (.bin .add t19 (I 1))),(m 19 37)]))))
end
def wordN (L : List ME) (k : Nat) : Nat → Nat
 | 0 => 0
 | i + 1 => wordN L k i + mget L (k + i) * 256 ^ i
theorem wordN_lt {L : List ME} {c : Nat} (h : MOk L c) (k : Nat) : ∀ n, wordN L k n < 256 ^ n
 | 0 => by simp [wordN]
 | n + 1 => by
  have h1 := wordN_lt h k n
  have h2 := mget_lt h (k + n)
  simp only [wordN, Nat.pow_succ]
  have h3 : mget L (k + n) * 256 ^ n ≤ 255 * 256 ^ n := Nat.mul_le_mul_right _ (by omega)
  omega
def storeN (k v : Nat) : Nat → List ME × Nat → List ME × Nat
 | 0, p => p
 | i + 1, p => mput (storeN k v i p).1 (storeN k v i p).2 (k + i) (v / 256 ^ i % 256)
def loadN (k : Nat) (bs : List UInt8) : Nat → List ME × Nat → List ME × Nat
 | 0, p => p
 | i + 1, p => mput (loadN k bs i p).1 (loadN k bs i p).2 (k + i) (bs.getD i 0).toNat

theorem pow8 (i : Nat) : 2 ^ (8 * i) = 256 ^ i := by rw [Nat.pow_mul]
theorem shl_u32 (g i : Nat) (hi : i < 4) (hg : g < 256) : binV .shl (.int .u32 (g : Int)) (.int .i64 ((8 * i : Nat) : Int)) = some (.int .u32 ((g * 256 ^ i : Nat) : Int)) := by
 rw [b_shl, wrap_u32]
 have h1 : min (8 * i) IntKind.u32.bits = 8 * i := by simp [IntKind.bits]; omega
 rw [h1]
 have h2 : (g : Int) * 2 ^ (8 * i) = ((g * 256 ^ i : Nat) : Int) := by rw [← pow8]; simp
 rw [h2]
 have h3 : 256 ^ i ≤ 256 ^ 3 := Nat.pow_le_pow_right (by omega) (by omega)
 have h4 : g * 256 ^ i ≤ 255 * 256 ^ 3 := Nat.mul_le_mul (by omega) h3
 congr 2
 omega
theorem or_u32 (x g i : Nat) (hi : i < 4) (hg : g < 256) (hx : x < 256 ^ i) : binV .or (.int .u32 (x : Int)) (.int .u32 ((g * 256 ^ i : Nat) : Int)) = some (.int .u32 ((x + g * 256 ^ i : Nat) : Int)) := by
 have h3 : 256 ^ i ≤ 256 ^ 3 := Nat.pow_le_pow_right (by omega) (by omega)
 have h4 : g * 256 ^ i ≤ 255 * 256 ^ 3 := Nat.mul_le_mul (by omega) h3
 have h0 : x ||| g * 256 ^ i = x + g * 256 ^ i := by
  rw [← pow8] at hx ⊢
  rw [Nat.or_comm, Nat.mul_comm, Nat.add_comm, Nat.two_pow_add_eq_or_of_lt hx]
 show some (mkInt .u32 (IntKind.u32.wrap ((BitVec.ofInt 32 (x : Int) ||| BitVec.ofInt 32 ((g * 256 ^ i : Nat) : Int)).toNat : Int))) = _
 rw [mkInt_eq, ← wrapF_eq, wrap_u32]
 have h1 : (BitVec.ofInt 32 (x : Int) ||| BitVec.ofInt 32 ((g * 256 ^ i : Nat) : Int)).toNat = x ||| g * 256 ^ i := by
  rw [BitVec.toNat_or, BitVec.toNat_ofInt, BitVec.toNat_ofInt]
  have e : ((2 ^ 32 : Nat) : Int) = 4294967296 := rfl
  rw [e]
  have e1 : ((x : Int) % 4294967296).toNat = x := by omega
  have e2 : (((g * 256 ^ i : Nat) : Int) % 4294967296).toNat = g * 256 ^ i := by omega
  rw [e1, e2]
 rw [h1, h0]
 congr 2
 omega
theorem shr_u32 (v i : Nat) (hi : i < 4) : binV .shr (.int .u32 (v : Int)) (.int .i64 ((8 * i : Nat) : Int)) = some (.int .u32 ((v / 256 ^ i : Nat) : Int)) := by
 rw [b_shr]
 have h1 : min (8 * i) IntKind.u32.bits = 8 * i := by simp [IntKind.bits]; omega
 rw [h1, ← pow8]
 simp

section
variable {T : Tab}
set_option maxHeartbeats 4000000 in
theorem word_loop {Q : Post} {s : St} {pm r : Nat} {L : List ME} {c : Nat} (h : MemAt s pm r L c) (k n : Nat) (hn : n ≤ 4) (hk : k + n ≤ 4294967296)
 (K : ∀ e : Env, opd e (.t 9) = .int .u32 (wordN L k n : Int) → Ret T Q [.seq sMCl3] .normal e s) :
 ∀ (m i : Nat) (e : Env), m + i = n → opd e (.t 0) = mptr pm → opd e (.t 1) = .int .u32 (k : Int) → opd e (.t 18) = .int .i64 (n : Int) → opd e (.t 19) = .int .i64 (i : Int) → opd e (.t 9) = .int .u32 (wordN L k i : Int) →
  Go T Q (sMCl0) [.block 0, .seq sMCl3] e s := by
 have hb := h.box
 intro m
 induction m with
 | zero =>
  intro i e hm h0 h1 h18 h19 h9
  have hin : i = n := by omega
  subst hin
  rw [go_loop]
  generalize ([.seq sMCl3] : List Fr) = FF at *
  simp only [h0, h1, h18, h19, h9, wq, seval]
  exact K _ (by simp only [h9, wk, wk1, Nat.reduceEqDiff, reduceIte, decide_true])
 | succ m ih =>
  intro i e hm h0 h1 h18 h19 h9
  have hc : (i : Int) < (n : Int) := by omega
  have hl := h.look (k + i)
  have hg := mget_lt h.ok (k + i)
  have u1 : (i : Int) % 4294967296 = (i : Int) := by omega
  have u2 : ((k : Int) + (i : Int)) % 4294967296 = ((k + i : Nat) : Int) := by omega
  have u3 : (mget L (k + i) : Int) % 4294967296 = (mget L (k + i) : Int) := by omega
  have u4 : wrapF .i64 (8 * (i : Int)) = ((8 * i : Nat) : Int) := by rw [wrap_i64 _ (by omega) (by omega)]; omega
  have u5 : wrapF .i64 ((i : Int) + 1) = ((i + 1 : Nat) : Int) := i64_add1 (by omega)
  have u6 := shl_u32 (mget L (k + i)) i (by omega) hg
  have u7 := or_u32 (wordN L k i) (mget L (k + i)) i (by omega) hg (wordN_lt h.ok k i)
  rw [go_loop]
  simp only [h0, h1, h18, h19, h9, hc, hb, hl, u1, u2, u3, u4, u5, u6, u7, wq, seval]
  refine ih (i + 1) _ (by omega) ?_ ?_ ?_ ?_ ?_ <;> simp only [h0, h1, h18, h19, u5, wordN, wk, wk1, Nat.reduceEqDiff, reduceIte, decide_true]

theorem rightW_n {k : Nat} {n : Int} (h : rightW k n = true) : ∃ m : Nat, n = (m : Int) ∧ m ≤ 4 ∧ 1 ≤ m ∧ (k < 4294967296 → k + m ≤ 4294967296) := by
 simp only [rightW, Bool.or_eq_true, Bool.and_eq_true, decide_eq_true_eq] at h
 rcases h with rfl | ⟨rfl, h⟩ | ⟨rfl, h⟩
 · exact ⟨1, rfl, by omega, by omega, by omega⟩
 · exact ⟨2, rfl, by omega, by omega, by omega⟩
 · exact ⟨4, rfl, by omega, by omega, by omega⟩

set_option maxHeartbeats 4000000 in
theorem mword_ran (hc : T 89 = some (.code ir89)) (hm : T 51 = some (.code ir51)) {s : St} {pm r : Nat} {L : List ME} {c : Nat} (h : MemAt s pm r L c) (k : Nat) (hk : k < 4294967296) (n : Int) :
 Ran T 89 [mptr pm, .int .u32 (k : Int), .int .i64 n] s fun v s' => s' = s ∧ v = if rightW k n = true then .tuple [.int .u32 (wordN L k n.toNat : Int), .int .i64 0] else .tuple [.int .u32 0, .int .i64 1] := by
 refine ran_code hc (Nat.le_of_ble_eq_true rfl) ?_
 generalize hQ : Fin _ _ = Q
 simp only [ir89, wq, seval]
 refine goCall_by (mmay_ran hm s pm k n) ?_
 rintro v s' ⟨rfl, rfl⟩
 cases hr : rightW k n with
 | false =>
  simp only [Bool.false_eq_true, if_false, wq, seval]
  subst hQ
  simp only [ir89, hr, Bool.false_eq_true, if_false, wq, seval]
 | true =>
  obtain ⟨m, rfl, hm4, hm1, hkm⟩ := rightW_n hr
  simp only [if_true, wq, seval]
  refine word_loop h k m hm4 (hkm hk) ?_ m 0 _ (by omega) ?_ ?_ ?_ ?_ ?_
  · intro e h9
    simp only [h9, wq, seval]
    subst hQ
    simp only [ir89, h9, hr, if_true, wq, seval]
    simp
  all_goals (try simp only [wordN, wk, wk1, Nat.reduceEqDiff, reduceIte, decide_true])
  all_goals rfl

set_option maxHeartbeats 4000000 in
theorem store_loop (hp : T 50 = some (.code ir50)) {Q : Post} {s0 : St} {pm r : Nat} {L : List ME} {c : Nat} (k v n : Nat) (hn : n ≤ 4) (hk : k + n ≤ 4294967296)
 (K : ∀ (e : Env) (s : St), MemAt s pm r (storeN k v n (L, c)).1 (storeN k v n (L, c)).2 → OnlyM r s0 s → Ret T Q [.seq sMCl4] .normal e s) :
 ∀ (m i : Nat) (e : Env) (s : St), m + i = n → MemAt s pm r (storeN k v i (L, c)).1 (storeN k v i (L, c)).2 → OnlyM r s0 s → opd e (.t 0) = mptr pm → opd e (.t 1) = .int .u32 (k : Int) → opd e (.t 3) = .int .u32 (v : Int) → opd e (.t 18) = .int .i64 (n : Int) → opd e (.t 19) = .int .i64 (i : Int) →
  Go T Q (sMCl1) [.block 0, .seq sMCl4] e s := by
 intro m
 induction m with
 | zero =>
  intro i e s hm h hO h0 h1 h3 h18 h19
  have hin : i = n := by omega
  subst hin
  have hK := fun e => K e s h hO
  rw [go_loop]
  generalize ([.seq sMCl4] : List Fr) = FF at *
  simp only [h0, h1, h18, h19, hK, wq, seval]
 | succ m ih =>
  intro i e s hm h hO h0 h1 h3 h18 h19
  have hc : (i : Int) < (n : Int) := by omega
  have u1 : (i : Int) % 4294967296 = (i : Int) := by omega
  have u2 : ((k : Int) + (i : Int)) % 4294967296 = ((k + i : Nat) : Int) := by omega
  have u4 : wrapF .i64 (8 * (i : Int)) = ((8 * i : Nat) : Int) := by rw [wrap_i64 _ (by omega) (by omega)]; omega
  have u5 : wrapF .i64 ((i : Int) + 1) = ((i + 1 : Nat) : Int) := i64_add1 (by omega)
  have u6 := shr_u32 v i (by omega)
  have u7 : ((v / 256 ^ i : Nat) : Int) % 256 = ((v / 256 ^ i % 256 : Nat) : Int) := by omega
  rw [go_loop]
  simp only [h0, h1, h3, h18, h19, hc, u1, u2, u4, u6, u7, wq, seval]
  refine goCall_by (mput_ran hp h (k + i) (v / 256 ^ i % 256)) ?_
  rintro v' s' ⟨rfl, rfl⟩
  simp only [h0, h1, h3, h18, h19, u5, wq, seval]
  refine ih (i + 1) _ _ (by omega) (h.put (by omega) (by omega)) (hO.trans (OnlyM.put h.wfs h.lt2 _)) ?_ ?_ ?_ ?_ ?_ <;> simp only [h0, h1, h3, h18, h19, u5, wk, wk1, Nat.reduceEqDiff, reduceIte, decide_true]
set_option maxHeartbeats 4000000 in
theorem mstore_ran (hc : T 20 = some (.code ir20)) (hm : T 51 = some (.code ir51)) (hp : T 50 = some (.code ir50)) {s : St} {pm r : Nat} {L : List ME} {c : Nat} (h : MemAt s pm r L c) (k v : Nat) (hk : k < 4294967296) (n : Int) :
 Ran T 20 [mptr pm, .int .u32 (k : Int), .int .i64 n, .int .u32 (v : Int)] s fun x s' => if rightW k n = true then x = .int .i64 0 ∧ MemAt s' pm r (storeN k v n.toNat (L, c)).1 (storeN k v n.toNat (L, c)).2 ∧ OnlyM r s s' else x = .int .i64 1 ∧ s' = s := by
 refine ran_code hc (Nat.le_of_ble_eq_true rfl) ?_
 generalize hQ : Fin _ _ = Q
 simp only [ir20, wq, seval]
 refine goCall_by (mmay_ran hm s pm k n) ?_
 rintro v' s' ⟨rfl, rfl⟩
 cases hr : rightW k n with
 | false =>
  simp only [Bool.false_eq_true, if_false, wq, seval]
  subst hQ
  simp only [ir20, hr, Bool.false_eq_true, if_false, wq, seval]
 | true =>
  obtain ⟨m, rfl, hm4, hm1, hkm⟩ := rightW_n hr
  simp only [if_true, wq, seval]
  refine store_loop (s0 := s') (L := L) (c := c) hp k v m hm4 (hkm hk) ?_ m 0 _ s' (by omega) h (OnlyM.refl h.wfs) ?_ ?_ ?_ ?_ ?_
  · intro e s2 h2 hO
    simp only [wq, seval]
    subst hQ
    simp only [ir20, hr, if_true, wq, seval]
    exact ⟨h2, hO⟩
  all_goals (try simp only [wk, wk1, Nat.reduceEqDiff, reduceIte, decide_true])
  all_goals rfl

set_option maxHeartbeats 4000000 in
theorem load_loop (hp : T 50 = some (.code ir50)) {Q : Post} {s0 : St} {pm r B : Nat} {L : List ME} {c : Nat} (k : Nat) (bs : List UInt8) (hl : bs.length ≤ 1000000) (hk : k + bs.length ≤ 4294967296) (hB : s0.heap.get B = some (.cells (bs.map fun b => .int .u8 b.toNat) 0 0 false)) (hBr : B ≠ r) (hBl : B < s0.next)
 (K : ∀ (e : Env) (s : St), MemAt s pm r (loadN k bs bs.length (L, c)).1 (loadN k bs bs.length (L, c)).2 → OnlyM r s0 s → Ret T Q [.seq sMCl5] .normal e s) :
 ∀ (m i : Nat) (e : Env) (s : St), m + i = bs.length → MemAt s pm r (loadN k bs i (L, c)).1 (loadN k bs i (L, c)).2 → OnlyM r s0 s → opd e (.t 0) = mptr pm → opd e (.t 1) = .int .u32 (k : Int) → opd e (.t 26) = .slice ⟨B, 0, 0, bs.length⟩ bs.length bs.length false 1 → opd e (.t 27) = .int .i64 (bs.length : Int) → opd e (.t 28) = .int .i64 (i : Int) →
  Go T Q (sMCl2) [.block 1, .seq sMCl5] e s := by
 intro m
 induction m with
 | zero =>
  intro i e s hm h hO h0 h1 h26 h27 h28
  have hin : i = bs.length := by omega
  subst hin
  have hK := fun e => K e s h hO
  rw [go_loop]
  generalize ([.seq sMCl5] : List Fr) = FF at *
  simp only [h0, h1, h27, h28, hK, wq, seval]
 | succ m ih =>
  intro i e s hm h hO h0 h1 h26 h27 h28
  have hi : i < bs.length := by omega
  have hc : (i : Int) < (bs.length : Int) := by omega
  have hi1 : i + 1 ≤ bs.length := hi
  have u1 : (i : Int) % 4294967296 = (i : Int) := by omega
  have u2 : ((k : Int) + (i : Int)) % 4294967296 = ((k + i : Nat) : Int) := by omega
  have u5 : wrapF .i64 ((i : Int) + 1) = ((i + 1 : Nat) : Int) := i64_add1 (by omega)
  have hrow : s.heap.get B = some (.cells (bs.map fun b => .int .u8 b.toNat) 0 0 false) := by rw [hO.same B hBl hBr]; exact hB
  have hld : List.take 1 (List.drop i (bs.map fun b => AV.int .u8 (b.toNat : Int))) = [.int .u8 ((bs.getD i 0).toNat : Int)] := by
   have hi' : i < (bs.map fun b => AV.int .u8 (b.toNat : Int)).length := by simpa using hi
   rw [List.drop_eq_getElem_cons hi', List.take_succ_cons, List.take_zero]
   simp [List.getD_eq_getElem?_getD, hi]
  rw [go_loop]
  simp only [h0, h1, h26, h27, h28, hc, hi, hi1, hrow, hld, u1, u2, wq, seval]
  refine goCall_by (mput_ran hp h (k + i) (bs.getD i 0).toNat) ?_
  rintro v' s' ⟨rfl, rfl⟩
  simp only [h0, h1, h26, h27, h28, u5, wq, seval]
  refine ih (i + 1) _ _ (by omega) (h.put (by omega) (UInt8.toNat_lt _)) (hO.trans (OnlyM.put h.wfs h.lt2 _)) ?_ ?_ ?_ ?_ ?_ <;> simp only [h0, h1, h26, h27, h28, u5, wk, wk1, Nat.reduceEqDiff, reduceIte, decide_true]
set_option maxHeartbeats 4000000 in
/-- Load of the bytes of a string. -/
theorem mload_ran (hc : T 21 = some (.code ir21)) (hp : T 50 = some (.code ir50)) {s : St} {pm r B : Nat} {L : List ME} {c : Nat} (h : MemAt s pm r L c) (k : Nat) (hk : k < 4294967296) (bs : List UInt8) (hl : bs.length ≤ 1000000) (hB : s.heap.get B = some (.cells (bs.map fun b => .int .u8 b.toNat) 0 0 false)) (hBr : B ≠ r) (hBl : B < s.next) :
 Ran T 21 [mptr pm, .int .u32 (k : Int), .slice ⟨B, 0, 0, bs.length⟩ bs.length bs.length false 1] s fun x s' => if k + bs.length ≤ 4294967296 then x = .int .i64 0 ∧ MemAt s' pm r (loadN k bs bs.length (L, c)).1 (loadN k bs bs.length (L, c)).2 ∧ OnlyM r s s' else x = .int .i64 1 ∧ s' = s := by
 refine ran_code hc (Nat.le_of_ble_eq_true rfl) ?_
 generalize hQ : Fin _ _ = Q
 have u1 : (k : Int) % 18446744073709551616 = (k : Int) := by omega
 have u2 : (bs.length : Int) % 18446744073709551616 = (bs.length : Int) := by omega
 have u3 : ((k : Int) + (bs.length : Int)) % 18446744073709551616 = ((k + bs.length : Nat) : Int) := by omega
 by_cases h0 : bs.length = 0
 · have c0 : ¬ (0 : Int) < (bs.length : Int) := by omega
   have hfit : k + bs.length ≤ 4294967296 := by omega
   simp only [ir21, c0, eqV, nilEq, wq, seval]
   refine load_loop (s0 := s) (L := L) (c := c) hp k bs hl hfit hB hBr hBl ?_ bs.length 0 _ s (by omega) h (OnlyM.refl h.wfs) ?_ ?_ ?_ ?_ ?_
   · intro e s2 h2 hO
     simp only [wq, seval]
     subst hQ
     simp only [ir21, hfit, if_true, wq, seval]
     exact ⟨h2, hO⟩
   all_goals (try simp only [wk, wk1, Nat.reduceEqDiff, reduceIte, decide_true])
   all_goals rfl
 · have c0 : (0 : Int) < (bs.length : Int) := by omega
   have u4 : (((k + bs.length : Nat) : Int) - 1) % 18446744073709551616 = ((k + bs.length - 1 : Nat) : Int) := by omega
   by_cases hfit : k + bs.length ≤ 4294967296
   · have c1 : ¬ (4294967295 : Int) < ((k + bs.length - 1 : Nat) : Int) := by omega
     simp only [ir21, c0, u1, u2, u3, u4, c1, eqV, nilEq, wq, seval]
     refine load_loop (s0 := s) (L := L) (c := c) hp k bs hl hfit hB hBr hBl ?_ bs.length 0 _ s (by omega) h (OnlyM.refl h.wfs) ?_ ?_ ?_ ?_ ?_
     · intro e s2 h2 hO
       simp only [wq, seval]
       subst hQ
       simp only [ir21, hfit, if_true, wq, seval]
       exact ⟨h2, hO⟩
     all_goals (try simp only [wk, wk1, Nat.reduceEqDiff, reduceIte, decide_true])
     all_goals rfl
   · have c1 : (4294967295 : Int) < ((k + bs.length - 1 : Nat) : Int) := by omega
     simp only [ir21, c0, u1, u2, u3, u4, c1, eqV, nilEq, wq, seval]
     subst hQ
     simp only [ir21, hfit, if_false, wq, seval]
end
end Go.V
/- sem: a packet under way, in plain Lean. -/
namespace Go.V
open Go
set_option linter.unusedSimpArgs false
set_option linter.unusedVariables false
abbrev c32 : Int → AV := .int .u32
/-- A machine's state. -/
structure Ms where
 r : List Int
 p : List Bool
 a : List Int
 c : List Int
 pc : Int
 f : Int
def Ms.cells (m : Ms) : List AV := m.r.map c32 ++ (m.p.map mB ++ (m.a.map c32 ++ (m.c.map c32 ++ [.int .u32 m.pc, .int .u8 m.f])))
structure Ms.Ok (m : Ms) : Prop where
 r : m.r.length = 32
 p : m.p.length = 4
 a : m.a.length = 2
 c : m.c.length = 2
theorem Ms.len {m : Ms} (h : m.Ok) : m.cells.length = 42 := by simp [Ms.cells, h.r, h.p, h.a, h.c]
/-- A packet that is being done. -/
structure Stp where
 x : AV
 e0 : Bool
 e1 : Bool
 rw : Bool
 du : Bool
 was : Ms
 now : Ms
 m : AV
 pis : Bool
 pat : Int
 pn : Int
 pv : Int
 go : Bool
def Stp.tail (z : Stp) : List AV := [z.m, .bool z.pis, .int .u32 z.pat, .int .i64 z.pn, .int .u32 z.pv, .bool z.go]
def Stp.head (z : Stp) : List AV := [z.x, .bool z.e0, .bool z.e1, .bool z.rw, .bool z.du]
def Stp.cells (z : Stp) : List AV := z.head ++ (z.was.cells ++ (z.now.cells ++ z.tail))
theorem seg_get {α : Type} (A rest : List AV) (L : List α) (f : α → AV) (k i : Nat) (v : α) (hA : A.length = k) (h : L[i]? = some v) : List.take 1 (List.drop (k + i) (A ++ (L.map f ++ rest))) = [f v] := by
 obtain ⟨hi, he⟩ := List.getElem?_eq_some_iff.1 h
 rw [← hA, List.drop_append, List.drop_eq_nil_of_le (by omega), List.nil_append, Nat.add_sub_cancel_left, List.drop_append_of_le_length (by rw [List.length_map]; omega)]
 rw [List.drop_eq_getElem_cons (by rw [List.length_map]; exact hi), List.getElem_map, he]
 rfl
theorem seg_set {α : Type} (A rest : List AV) (L : List α) (f : α → AV) (k i : Nat) (v : α) (hA : A.length = k) (h : i < L.length) : spliceAt (A ++ (L.map f ++ rest)) (k + i) [f v] = A ++ ((L.set i v).map f ++ rest) := by
 unfold spliceAt
 rw [← hA, List.take_append, List.take_of_length_le (by omega), Nat.add_sub_cancel_left, List.drop_append, List.drop_eq_nil_of_le (by omega), List.nil_append]
 rw [List.take_append_of_le_length (by rw [List.length_map]; omega), List.drop_append_of_le_length (by rw [List.length_map, List.length_singleton]; omega)]
 rw [List.map_set, List.set_eq_take_append_cons_drop, if_pos (by rw [List.length_map]; exact h)]
 rw [show A.length + i + [f v].length - A.length = i + 1 by simp; omega]
 simp only [List.append_assoc, List.cons_append, List.nil_append]
theorem Stp.cr (z : Stp) : z.cells = z.head ++ (z.was.r.map c32 ++ (z.was.p.map mB ++ (z.was.a.map c32 ++ (z.was.c.map c32 ++ ([.int .u32 z.was.pc, .int .u8 z.was.f] ++ (z.now.cells ++ z.tail)))))) := by
 simp [Stp.cells, Ms.cells, List.append_assoc]
theorem Stp.rd_r {z : Stp} {i : Nat} {v : Int} (h : z.was.r[i]? = some v) : List.take 1 (List.drop (5 + i) z.cells) = [.int .u32 v] := by
 rw [z.cr]
 exact seg_get _ _ _ c32 5 i v rfl h
theorem Stp.rd_p {z : Stp} (hz : z.was.Ok) {i : Nat} {v : Bool} (h : z.was.p[i]? = some v) : List.take 1 (List.drop (37 + i) z.cells) = [.bool v] := by
 rw [z.cr, ← List.append_assoc]
 exact seg_get _ _ _ mB 37 i v (by simp [Stp.head, hz.r]) h
theorem Stp.rd_a {z : Stp} (hz : z.was.Ok) {i : Nat} {v : Int} (h : z.was.a[i]? = some v) : List.take 1 (List.drop (41 + i) z.cells) = [.int .u32 v] := by
 rw [z.cr, ← List.append_assoc, ← List.append_assoc]
 exact seg_get _ _ _ c32 41 i v (by simp [Stp.head, hz.r, hz.p]) h
theorem Stp.rd_c {z : Stp} (hz : z.was.Ok) {i : Nat} {v : Int} (h : z.was.c[i]? = some v) : List.take 1 (List.drop (43 + i) z.cells) = [.int .u32 v] := by
 rw [z.cr, ← List.append_assoc, ← List.append_assoc, ← List.append_assoc]
 exact seg_get _ _ _ c32 43 i v (by simp [Stp.head, hz.r, hz.p, hz.a]) h
theorem Stp.cn (z : Stp) : z.cells = (z.head ++ z.was.cells) ++ (z.now.r.map c32 ++ (z.now.p.map mB ++ (z.now.a.map c32 ++ (z.now.c.map c32 ++ ([z.now.pc].map c32 ++ ([.int .u8 z.now.f] ++ z.tail)))))) := by
 simp [Stp.cells, Ms.cells, List.append_assoc]
theorem Stp.hl {z : Stp} (hz : z.was.Ok) : (z.head ++ z.was.cells).length = 47 := by simp [Stp.head, Ms.len hz]
theorem Stp.len {z : Stp} (hz : z.was.Ok) (hn : z.now.Ok) : z.cells.length = 95 := by simp [Stp.cells, Stp.head, Stp.tail, Ms.len hz, Ms.len hn]
def Stp.setR (z : Stp) (i : Nat) (v : Int) : Stp := { z with now := { z.now with r := z.now.r.set i v } }
def Stp.setP (z : Stp) (i : Nat) (v : Bool) : Stp := { z with now := { z.now with p := z.now.p.set i v } }
def Stp.setA (z : Stp) (i : Nat) (v : Int) : Stp := { z with now := { z.now with a := z.now.a.set i v } }
def Stp.setC (z : Stp) (i : Nat) (v : Int) : Stp := { z with now := { z.now with c := z.now.c.set i v } }
def Stp.setPC (z : Stp) (v : Int) : Stp := { z with now := { z.now with pc := v } }
def Stp.setGo (z : Stp) : Stp := { z with go := true }
def Stp.setPut (z : Stp) (a n v : Int) : Stp := { z with pis := true, pat := a, pn := n, pv := v }
theorem Stp.wr_r {z : Stp} (hz : z.was.Ok) (hn : z.now.Ok) {i : Nat} (h : i < 32) (v : Int) : spliceAt z.cells (47 + i) [.int .u32 v] = (z.setR i v).cells := by
 rw [z.cn, (z.setR i v).cn]
 exact seg_set _ _ _ c32 47 i v (Stp.hl hz) (by rw [hn.r]; exact h)
theorem Stp.wr_p {z : Stp} (hz : z.was.Ok) (hn : z.now.Ok) {i : Nat} (h : i < 4) (v : Bool) : spliceAt z.cells (79 + i) [.bool v] = (z.setP i v).cells := by
 rw [z.cn, (z.setP i v).cn, ← List.append_assoc]
 rw [seg_set _ _ _ mB 79 i v (by rw [List.length_append, Stp.hl hz]; simp [hn.r]) (by rw [hn.p]; exact h)]
 rw [List.append_assoc]; rfl
theorem Stp.wr_a {z : Stp} (hz : z.was.Ok) (hn : z.now.Ok) {i : Nat} (h : i < 2) (v : Int) : spliceAt z.cells (83 + i) [.int .u32 v] = (z.setA i v).cells := by
 rw [z.cn, (z.setA i v).cn, ← List.append_assoc, ← List.append_assoc]
 rw [seg_set _ _ _ c32 83 i v (by rw [List.length_append, List.length_append, Stp.hl hz]; simp [hn.r, hn.p]) (by rw [hn.a]; exact h)]
 rw [List.append_assoc, List.append_assoc]; rfl
theorem Stp.wr_c {z : Stp} (hz : z.was.Ok) (hn : z.now.Ok) {i : Nat} (h : i < 2) (v : Int) : spliceAt z.cells (85 + i) [.int .u32 v] = (z.setC i v).cells := by
 rw [z.cn, (z.setC i v).cn, ← List.append_assoc, ← List.append_assoc, ← List.append_assoc]
 rw [seg_set _ _ _ c32 85 i v (by simp only [List.length_append, Stp.hl hz]; simp [hn.r, hn.p, hn.a]) (by rw [hn.c]; exact h)]
 simp only [List.append_assoc]; rfl
theorem Stp.wr_pc {z : Stp} (hz : z.was.Ok) (hn : z.now.Ok) (v : Int) : spliceAt z.cells 87 [.int .u32 v] = (z.setPC v).cells := by
 rw [z.cn, (z.setPC v).cn, ← List.append_assoc, ← List.append_assoc, ← List.append_assoc, ← List.append_assoc]
 have := seg_set ((((z.head ++ z.was.cells) ++ z.now.r.map c32) ++ z.now.p.map mB) ++ z.now.a.map c32 ++ z.now.c.map c32) ([.int .u8 z.now.f] ++ z.tail) [z.now.pc] c32 87 0 v (by simp only [List.length_append, Stp.hl hz]; simp [hn.r, hn.p, hn.a, hn.c]) (by simp)
 rw [Nat.add_zero] at this
 rw [this]
 simp only [List.append_assoc]; rfl
theorem Stp.ct (z : Stp) : z.cells = (z.head ++ (z.was.cells ++ z.now.cells)) ++ z.tail := by
 simp [Stp.cells, List.append_assoc]
theorem Stp.tl {z : Stp} (hz : z.was.Ok) (hn : z.now.Ok) : (z.head ++ (z.was.cells ++ z.now.cells)).length = 89 := by simp [Stp.head, Ms.len hz, Ms.len hn]
theorem Stp.rd_m {z : Stp} (hz : z.was.Ok) (hn : z.now.Ok) : List.take 1 (List.drop 89 z.cells) = [z.m] := by
 rw [z.ct, List.drop_append, List.drop_eq_nil_of_le (by rw [Stp.tl hz hn]; omega), Stp.tl hz hn]; rfl
theorem Stp.rd_go {z : Stp} (hz : z.was.Ok) (hn : z.now.Ok) : List.take 1 (List.drop 94 z.cells) = [.bool z.go] := by
 rw [z.ct, List.drop_append, List.drop_eq_nil_of_le (by rw [Stp.tl hz hn]; omega), Stp.tl hz hn]; rfl
theorem Stp.rd_put {z : Stp} (hz : z.was.Ok) (hn : z.now.Ok) : List.take 4 (List.drop 90 z.cells) = [.bool z.pis, .int .u32 z.pat, .int .i64 z.pn, .int .u32 z.pv] := by
 rw [z.ct, List.drop_append, List.drop_eq_nil_of_le (by rw [Stp.tl hz hn]; omega), Stp.tl hz hn]; rfl
theorem Stp.rd_now {z : Stp} (hz : z.was.Ok) (hn : z.now.Ok) : List.take 42 (List.drop 47 z.cells) = z.now.cells := by
 rw [show z.cells = (z.head ++ z.was.cells) ++ (z.now.cells ++ z.tail) by simp [Stp.cells]]
 rw [List.drop_append, List.drop_eq_nil_of_le (by rw [Stp.hl hz]; omega), Stp.hl hz, List.nil_append, Nat.sub_self, List.drop_zero, List.take_append_of_le_length (by rw [Ms.len hn]; omega), List.take_of_length_le (by rw [Ms.len hn]; omega)]
theorem Stp.rd_x (z : Stp) : List.take 1 z.cells = [z.x] := rfl
theorem Stp.rd_e0 (z : Stp) : List.take 1 (List.drop 1 z.cells) = [.bool z.e0] := rfl
theorem Stp.rd_e1 (z : Stp) : List.take 1 (List.drop 2 z.cells) = [.bool z.e1] := rfl
theorem Stp.wr_go {z : Stp} (hz : z.was.Ok) (hn : z.now.Ok) : spliceAt z.cells 94 [.bool true] = z.setGo.cells := by
 rw [z.ct, z.setGo.ct]
 unfold spliceAt
 rw [List.take_append, List.drop_append, Stp.tl hz hn, List.take_of_length_le (by rw [Stp.tl hz hn]; omega), List.drop_eq_nil_of_le (by rw [Stp.tl hz hn]; simp), List.append_assoc]
 rfl
theorem Stp.wr_put {z : Stp} (hz : z.was.Ok) (hn : z.now.Ok) (a n v : Int) : spliceAt z.cells 90 [.bool true, .int .u32 a, .int .i64 n, .int .u32 v] = (z.setPut a n v).cells := by
 rw [z.ct, (z.setPut a n v).ct]
 unfold spliceAt
 rw [List.take_append, List.drop_append, Stp.tl hz hn, List.take_of_length_le (by rw [Stp.tl hz hn]; omega), List.drop_eq_nil_of_le (by rw [Stp.tl hz hn]; simp), List.append_assoc]
 rfl
/- What is done. -/
def Ms.reg (m : Ms) (k : Int) : Int := m.r.getD (k.toNat % 32) 0
def Ms.prd (m : Ms) (k : Int) : Bool := m.p.getD (k.toNat % 4) false
theorem Ms.reg_at {m : Ms} (h : m.Ok) (k : Int) : m.r[k.toNat % 32]? = some (m.reg k) := by
 have : k.toNat % 32 < m.r.length := by rw [h.r]; omega
 unfold Ms.reg
 rw [List.getD_eq_getElem?_getD, List.getElem?_eq_getElem this]; rfl
theorem Ms.prd_at {m : Ms} (h : m.Ok) (k : Int) : m.p[k.toNat % 4]? = some (m.prd k) := by
 have : k.toNat % 4 < m.p.length := by rw [h.p]; omega
 unfold Ms.prd
 rw [List.getD_eq_getElem?_getD, List.getElem?_eq_getElem this]; rfl
theorem rem8 {a : Int} (h : isByte a = true) (m : Nat) : Int.tmod a (m : Int) = ((a.toNat % m : Nat) : Int) := by
 obtain ⟨n, rfl⟩ : ∃ n : Nat, a = n := by
  cases a with
  | ofNat n => exact ⟨n, rfl⟩
  | negSucc n => cases h
 rw [Int.tmod_eq_emod_of_nonneg (by omega)]
 simp
theorem byte_nat {a : Int} (h : isByte a = true) : ∃ n : Nat, a = n ∧ n < 256 := by
 cases a with
 | ofNat n => exact ⟨n, rfl, Nat.le_of_ble_eq_true h⟩
 | negSucc n => cases h
def numA (w : Ms) (i : In) : Int := w.reg i.s
def numB (w : Ms) (i : In) : Int := if hasB i.op = true then i.imm % 4294967296 else w.reg i.t
def toldF (w : Ms) (p : Int) : List In → Bool
 | [] => false
 | i :: l => if isC i.op.toNat = true ∧ i.d.toNat % 4 = p.toNat % 4 then cF i.op.toNat (numA w i) (numB w i) else toldF w p l
def dueF (w : Ms) (L : List In) (i : In) : Bool :=
 if i.mode = 1 then w.prd i.pred else if i.mode = 2 then !w.prd i.pred else if i.mode = 3 then toldF w i.pred L else if i.mode = 4 then !toldF w i.pred L else true
def placeF (w : Ms) (i : In) : Int := (w.reg i.s + i.imm % 4294967296) % 4294967296
def sizeF (op : Nat) : Int := max (max (ldN op) (stN op)) 1
def faultyF (w : Ms) (i : In) : Int := if placeF w i % sizeF i.op.toNat ≠ 0 then 3 else if i.op = 28 ∧ w.reg i.s % 4 ≠ 0 then 4 else 0
def faultsF (w : Ms) (L : List In) : List In → Int → Int
 | [], f => f
 | i :: l, f => faultsF w L l (if dueF w L i = true then (if faultyF w i = 3 ∨ f = 0 then faultyF w i else f) else f)
def loadedF (v n : Int) : Int := shrF .i32 (wrapF .i32 (shlF .u32 v (32 - 8 * n))) (32 - 8 * n) % 4294967296
def wordF (me : List ME) (k n : Int) : Int := if rightW k.toNat n = true then (wordN me k.toNat n.toNat : Int) else 0
def valueF (w : Ms) (me : List ME) (i : In) : Int :=
 if i.op = 14 then (if w.prd i.pred = true then numA w i else numB w i) else if 0 < ldN i.op.toNat then loadedF (wordF me (placeF w i) (ldN i.op.toNat)) (ldN i.op.toNat) else vF i.op.toNat (numA w i) (numB w i)
def freshF (w : Ms) (me : List ME) (r : Int) : List In → Int
 | [] => w.reg r
 | i :: l => if i.d.toNat % 32 = r.toNat % 32 ∧ (isV i.op.toNat = true ∨ i.op = 14) then valueF w me i else freshF w me r l
def putV' (v n : Int) : Int := rawF .and .u64 (v % 18446744073709551616) ((shlF .u64 1 (8 * n) - 1) % 18446744073709551616) % 4294967296
def doesF (me : List ME) (L : List In) (next : Int) (i : In) (z : Stp) : Stp :=
 let z' := if isC i.op.toNat = true then z.setP (i.d.toNat % 4) (cF i.op.toNat (numA z.was i) (numB z.was i))
  else if 0 < stN i.op.toNat then z.setPut (placeF z.was i) (stN i.op.toNat) (putV' (if i.nw = true then freshF z.was me i.t L else z.was.reg i.t) (stN i.op.toNat))
  else if isV i.op.toNat = true ∨ 0 < ldN i.op.toNat ∨ i.op = 14 then z.setR (i.d.toNat % 32) (valueF z.was me i)
  else if i.op = 30 then (z.setA (i.n.toNat % 2) (i.imm % 4294967296)).setC (i.n.toNat % 2) i.count
  else if i.op = 31 then ((z.setA (i.n.toNat % 2) (i.imm % 4294967296)).setC (i.n.toNat % 2) i.count).setC (i.n.toNat % 2) (z.was.reg i.s)
  else if i.op = 27 ∨ i.op = 29 then (z.setPC (i.imm % 4294967296)).setGo
  else if i.op = 28 then (z.setPC (z.was.reg i.s)).setGo
  else z
 if i.op = 29 then z'.setR 31 next else z'
def alldoF (me : List ME) (L : List In) (next : Int) : List In → Stp → Stp
 | [], z => z
 | i :: l, z => alldoF me L next l (if dueF z.was L i = true then doesF me L next i z else z)
def turnsF (next : Int) (z : Stp) : Stp :=
 if z.e0 = true ∧ 1 < z.was.c.getD 0 0 then ((z.setPC next).setPC (z.was.a.getD 0 0)).setC 0 ((z.was.c.getD 0 0 - 1) % 4294967296)
 else if z.e1 = true ∧ 1 < z.was.c.getD 1 0 then ((z.setPC next).setPC (z.was.a.getD 1 0)).setC 1 ((z.was.c.getD 1 0 - 1) % 4294967296)
 else z.setPC next
end Go.V
/- sem: numbers, places, what is told, what is due. -/
namespace Go.V
open Go
set_option linter.unusedSimpArgs false
set_option linter.unusedVariables false
section
open Z
abbrev sM2l1 : ICode := .seq (R [(o 4 (.move F))]) .ret
abbrev sM2l0 : ICode := .loop (q (R [(o 15 (.bin .lss t14 t13))]) (q (.cond t15 .skip (.exit 0)) (q (.block 1 (q (R [(ix 16 11 12 14),(la 17 11 16),(o 6 (.alloc [(b 0),(b 0),(b 0),(b 0),(b 0),(b 0),(b 0),z,z,(.int .u16 0),(i 0)])),(st 11 6 17)]) (q (R [(f 18 0 6),(l 19 1 18),(o 20 (.call 54 [t19])),(o 21 (.field 1 1 false t20)),(m 7 21)]) (q (R [(m 22 7),(o 23 (.eq true (.nilable .fn) t22 (.c .nilFunc))),(m 24 23),(og 25 24 true (.fieldAddr 1 t6)),(og 26 24 true (.load false 1 t25)),(og 27 24 true (.bin .rem t26 (B 4))),(og 28 24 true (.move t1)),(og 29 24 true (.bin .rem t28 (B 4))),(og 30 24 true (.bin .eql t27 t29)),(o 31 (.pick t24 t30 F))]) (.cond t31 (q (R [(m 32 7),(m 33 0),(la 34 11 6),(o 35 (.call 55 [t33,t34])),(x 36 35 0),(x 37 35 1),(o 38 (.callVal t32 [t36,t37])),(m 4 38)]) .ret) .skip))))) (R [(o 39 (.bin .add t14 (I 1))),(m 14 39)]))))
end
open Z in def ir55 : IFunc := ⟨31,[.tmp 4,.tmp 5],(q (R [(o 3 (.box t1)),(o 4 (.move (W 0))),(o 5 (.move (W 0)))]) (q (.region [(m 6 0),(f 7 2 3),(l 8 1 7),(o 9 (.bin .rem t8 (B 32))),(k 10 6),(f 11 5 10),(f 12 0 11),(o 13 (.idxArr 32 1 t12 t9)),(l 14 1 13),(m 15 0),(f 16 3 3),(l 17 1 16),(o 18 (.bin .rem t17 (B 32))),(k 19 15),(f 20 5 19),(f 21 0 20),(o 22 (.idxArr 32 1 t21 t18)),(l 23 1 22),(m 4 14),(m 5 23)] true) (q (q (R [(la 24 11 3),(o 25 (.call 87 [t24]))]) (.cond t25 (R [(f 26 10 3),(l 27 1 26),(o 28 (.conv (.intInt .u32) t27)),(m 5 28)]) .skip)) (q (R [(m 29 4),(m 30 5),(m 4 29),(m 5 30)]) .ret))))⟩
open Z in def ir85 : IFunc := ⟨18,[.tmp 4],(q (R [(o 3 (.box t1)),(o 4 (.move (W 0)))]) (q (.region [(m 5 0),(f 6 2 3),(l 7 1 6),(o 8 (.bin .rem t7 (B 32))),(k 9 5),(f 10 5 9),(f 11 0 10),(o 12 (.idxArr 32 1 t11 t8)),(l 13 1 12),(f 14 10 3),(l 15 1 14),(o 16 (.conv (.intInt .u32) t15)),(o 17 (.bin .add t13 t16)),(m 4 17)] true) .ret))⟩
open Z in def ir53 : IFunc := ⟨40,[.tmp 4],(q (R [(o 4 (.move F))]) (q (q (R [(m 8 0),(k 9 8),(f 10 0 9),(f 11 0 10),(l 12 1 11),(o 13 (.lenSl t12)),(mi 14 0)]) (.block 0 sM2l0)) sM2l1))⟩
open Z in def ir23 : IFunc := ⟨43,[.tmp 4],(q (R [(o 3 (.box t1)),(o 4 (.move F))]) (q (q (R [(f 5 6 3),(l 6 1 5)]) (.block 0 (q (R [(o 8 (.bin .eql t6 (B 1))),(m 7 8)]) (.cond t7 (q (.region [(m 9 0),(f 10 5 3),(l 11 1 10),(o 12 (.bin .rem t11 (B 4))),(k 13 9),(f 14 5 13),(f 15 32 14),(o 16 (.idxArr 4 1 t15 t12)),(l 17 1 16),(m 4 17)] true) .ret) (q (R [(o 19 (.bin .eql t6 (B 2))),(m 18 19)]) (.cond t18 (q (.region [(m 20 0),(f 21 5 3),(l 22 1 21),(o 23 (.bin .rem t22 (B 4))),(k 24 20),(f 25 5 24),(f 26 32 25),(o 27 (.idxArr 4 1 t26 t23)),(l 28 1 27),(o 29 (.un .not t28)),(m 4 29)] true) .ret) (q (R [(o 31 (.bin .eql t6 (B 3))),(m 30 31)]) (.cond t30 (q (R [(m 32 0),(f 33 5 3),(l 34 1 33),(o 35 (.call 53 [t32,t34])),(m 4 35)]) .ret) (q (R [(o 37 (.bin .eql t6 (B 4))),(m 36 37)]) (.cond t36 (q (R [(m 38 0),(f 39 5 3),(l 40 1 39),(o 41 (.call 53 [t38,t40])),(o 42 (.un .not t41)),(m 4 42)]) .ret) .skip)))))))))) lG2l1))⟩
open Z in def ir52 : IFunc := ⟨40,[.tmp 4],(q (R [(o 3 (.box t1)),(o 4 (.move (B 0)))]) (q (R [(f 7 0 3),(l 8 1 7),(o 9 (.call 54 [t8])),(o 5 (.alloc [.nilFunc,.nilFunc,(i 0),(i 0)])),(st 4 5 9)]) (q (q (R [(f 10 2 5),(l 11 1 10),(f 12 3 5),(l 13 1 12),(o 14 (.minmax true [t11,t13,(I 1)])),(o 15 (.conv (.intInt .u32) t14)),(m 6 15)]) (.block 0 (q (R [(m 17 0),(la 18 11 3),(o 19 (.call 85 [t17,t18])),(m 20 6),(o 21 (.bin .rem t19 t20)),(o 22 (.bin .neq t21 (W 0))),(m 16 22)]) (.cond t16 (q (R [(o 4 (.move (B 3)))]) .ret) (q (.region [(f 24 0 3),(l 25 1 24),(o 26 (.bin .eql t25 (B 28))),(m 27 26),(og 28 27 true (.move t0)),(og 29 27 true (.fieldAddr 2 t3)),(og 30 27 true (.load false 1 t29)),(og 31 27 true (.bin .rem t30 (B 32))),(og 32 27 true (.nilCheck t28)),(og 33 27 true (.fieldAddr 5 t32)),(og 34 27 true (.fieldAddr 0 t33)),(og 35 27 true (.idxArr 32 1 t34 t31)),(og 36 27 true (.load false 1 t35)),(og 37 27 true (.bin .rem t36 (W 4))),(og 38 27 true (.bin .neq t37 (W 0))),(o 39 (.pick t27 t38 F)),(m 23 39)] true) (.cond t23 (q (R [(o 4 (.move (B 4)))]) .ret) .skip)))))) (q (R [(o 4 (.move (B 0)))]) .ret))))⟩
open Z in def ir22 : IFunc := ⟨33,[.tmp 2],(q (R [(o 2 (.move (B 0)))]) (q (R [(o 3 (.move (B 0)))]) (q (q (R [(m 7 0),(k 8 7),(f 9 0 8),(f 10 0 9),(l 11 1 10),(o 12 (.lenSl t11)),(mi 13 0)]) (.block 0 (.loop (q (R [(o 14 (.bin .lss t13 t12))]) (q (.cond t14 .skip (.exit 0)) (q (.block 1 (q (R [(ix 15 11 11 13),(la 16 11 15),(o 5 (.alloc [(b 0),(b 0),(b 0),(b 0),(b 0),(b 0),(b 0),z,z,(.int .u16 0),(i 0)])),(st 11 5 16)]) (q (q (R [(m 17 0),(la 18 11 5),(o 19 (.call 23 [t17,t18])),(o 20 (.un .not t19))]) (.cond t20 (.exit 1) .skip)) (q (R [(m 21 0),(la 22 11 5),(o 23 (.call 52 [t21,t22])),(m 6 23)]) (q (R [(m 24 6),(o 25 (.bin .eql t24 (B 3))),(m 26 25),(og 27 26 false (.move t3)),(og 28 26 false (.bin .eql t27 (B 0))),(o 29 (.pick t26 T t28))]) (.cond t29 (R [(m 30 6),(m 3 30)]) .skip)))))) (R [(o 31 (.bin .add t13 (I 1))),(m 13 31)]))))))) (q (R [(m 32 3),(m 2 32)]) .ret))))⟩
open Z in def ir90 : IFunc := ⟨16,[.tmp 4],(q (R [(o 4 (.move (W 0)))]) (q (R [(m 6 1),(o 7 (.bin .mul (I 8) t6)),(o 8 (.bin .sub (I 32) t7)),(m 5 8)]) (q (R [(m 9 0),(m 10 5),(o 11 (.bin .shl t9 t10)),(o 12 (.conv (.intInt .i32) t11)),(m 13 5),(o 14 (.bin .shr t12 t13)),(o 15 (.conv (.intInt .u32) t14)),(m 4 15)]) .ret)))⟩
open Z in def ir57 : IFunc := ⟨66,[.tmp 4],(q (R [(o 3 (.box t1)),(o 4 (.move (W 0)))]) (q (R [(m 11 0),(la 12 11 3),(o 13 (.call 55 [t11,t12])),(m 10 13),(x 14 10 0),(x 15 10 1),(m 5 14),(m 6 15)]) (q (R [(f 16 0 3),(l 17 1 16),(o 18 (.call 54 [t17])),(o 7 (.alloc [.nilFunc,.nilFunc,(i 0),(i 0)])),(st 4 7 18)]) (q (.block 0 (q (.region [(f 20 0 3),(l 21 1 20),(o 22 (.bin .eql t21 (B 14))),(m 23 22),(og 24 23 true (.move t0)),(og 25 23 true (.fieldAddr 5 t3)),(og 26 23 true (.load false 1 t25)),(og 27 23 true (.bin .rem t26 (B 4))),(og 28 23 true (.nilCheck t24)),(og 29 23 true (.fieldAddr 5 t28)),(og 30 23 true (.fieldAddr 32 t29)),(og 31 23 true (.idxArr 4 1 t30 t27)),(og 32 23 true (.load false 1 t31)),(o 33 (.pick t23 t32 F)),(m 19 33)] true) (.cond t19 (q (R [(m 34 5),(m 4 34)]) .ret) (q (R [(f 36 0 3),(l 37 1 36),(o 38 (.bin .eql t37 (B 14))),(m 35 38)]) (.cond t35 (q (R [(m 39 6),(m 4 39)]) .ret) (q (R [(f 41 2 7),(l 42 1 41),(o 43 (.bin .gtr t42 (I 0))),(m 40 43)]) (.cond t40 (q (.regionP [(m 45 0),(k 46 45),(f 47 89 46),(l 48 1 47),(m 49 0),(la 50 11 3),(f 52 2 7),(l 53 1 52),⟨some 51,none,[t47,t52],(.call 85 [t49,t50])⟩,(o 54 (.call 89 [t48,t51,t53])),(m 44 54),(x 55 44 0),(x 56 44 1),(m 8 55),(m 9 56)]) (q (R [(m 57 8),(f 58 2 7),(l 59 1 58),(o 60 (.call 90 [t57,t59])),(m 4 60)]) .ret)) .skip))))))) (q (R [(f 61 0 7),(l 62 1 61),(m 63 5),(m 64 6),(o 65 (.callVal t62 [t63,t64])),(m 4 65)]) .ret)))))⟩
open Z in def ir88 : IFunc := ⟨49,[.tmp 4],(q (R [(o 4 (.move (W 0)))]) (q (q (R [(m 8 0),(k 9 8),(f 10 0 9),(f 11 0 10),(l 12 1 11),(o 13 (.lenSl t12)),(mi 14 0)]) (.block 0 (.loop (q (R [(o 15 (.bin .lss t14 t13))]) (q (.cond t15 .skip (.exit 0)) (q (.block 1 (q (R [(ix 16 11 12 14),(la 17 11 16),(o 6 (.alloc [(b 0),(b 0),(b 0),(b 0),(b 0),(b 0),(b 0),z,z,(.int .u16 0),(i 0)])),(st 11 6 17)]) (q (R [(f 18 0 6),(l 19 1 18),(o 20 (.call 54 [t19])),(o 7 (.alloc [.nilFunc,.nilFunc,(i 0),(i 0)])),(st 4 7 20)]) (q (R [(f 21 1 6),(l 22 1 21),(o 23 (.bin .rem t22 (B 32))),(m 24 1),(o 25 (.bin .rem t24 (B 32))),(o 26 (.bin .eql t23 t25)),(m 27 26),(og 28 27 true (.fieldAddr 0 t7)),(og 29 27 true (.load false 1 t28)),(og 30 27 true (.eq true (.nilable .fn) t29 (.c .nilFunc))),(og 31 27 true (.move t30)),(og 32 31 false (.fieldAddr 0 t6)),(og 33 31 false (.load false 1 t32)),(og 34 31 false (.bin .eql t33 (B 14))),(og 35 27 true (.pick t31 T t34)),(o 36 (.pick t27 t35 F))]) (.cond t36 (q (R [(m 37 0),(la 38 11 6),(o 39 (.call 57 [t37,t38])),(m 4 39)]) .ret) .skip))))) (R [(o 40 (.bin .add t14 (I 1))),(m 14 40)]))))))) (q (R [(m 41 0),(m 42 1),(o 43 (.bin .rem t42 (B 32))),(k 44 41),(f 45 5 44),(f 46 0 45),(o 47 (.idxArr 32 1 t46 t43)),(l 48 1 47),(m 4 48)]) .ret)))⟩
open Z in def ir56 : IFunc := ⟨38,[],(q (R [(o 4 (.box t1))]) (q (.region [(m 7 0),(f 8 3 4),(l 9 1 8),(o 10 (.bin .rem t9 (B 32))),(k 11 7),(f 12 5 11),(f 13 0 12),(o 14 (.idxArr 32 1 t13 t10)),(l 15 1 14),(m 6 15)] true) (q (q (R [(f 16 7 4),(l 17 1 16)]) (.cond t17 (R [(m 18 0),(f 19 3 4),(l 20 1 19),(o 21 (.call 88 [t18,t20])),(m 6 21)]) .skip)) (.regionP [(m 22 0),(m 23 0),(la 24 11 4),(m 26 2),(m 27 6),(o 28 (.conv (.intInt .u64) t27)),(m 29 2),(o 30 (.bin .mul (I 8) t29)),(o 31 (.bin .shl (.c (.int .u64 1)) t30)),(o 32 (.bin .sub t31 (.c (.int .u64 1)))),(o 33 (.bin .and t28 t32)),(o 34 (.conv (.intInt .u32) t33)),(o 25 (.call 85 [t23,t24])),(o 35 (.build [z,(w 0),(i 0),(w 0)] [(0,1,T),(1,1,t25),(2,1,t26),(3,1,t34)])),(k 36 22),(f 37 90 36),(st 4 37 35)]))))⟩
open Z in def ir24 : IFunc := ⟨155,[],(q (R [(o 4 (.box t1))]) (q (R [(f 7 0 4),(l 8 1 7),(o 9 (.call 54 [t8])),(o 6 (.alloc [.nilFunc,.nilFunc,(i 0),(i 0)])),(st 4 6 9)]) (q (.block 0 (q (R [(f 11 1 6),(l 12 1 11),(o 13 (.eq true (.nilable .fn) t12 (.c .nilFunc))),(m 10 13)]) (.cond t10 (.regionP [(m 14 0),(f 15 1 4),(l 16 1 15),(o 17 (.bin .rem t16 (B 4))),(f 18 1 6),(l 19 1 18),(m 20 0),(la 21 11 4),(k 26 14),(f 27 47 26),(f 28 32 27),⟨some 22,none,[t15,t18],(.call 55 [t20,t21])⟩,(x 23 22 0),(x 24 22 1),⟨some 25,none,[t15],(.callVal t19 [t23,t24])⟩,(o 29 (.idxArr 4 1 t28 t17)),(st 1 29 25)]) (q (R [(f 31 3 6),(l 32 1 31),(o 33 (.bin .gtr t32 (I 0))),(m 30 33)]) (.cond t30 (R [(m 34 0),(la 35 11 4),(f 36 3 6),(l 37 1 36),(o 38 (.call 56 [t34,t35,t37]))]) (q (q (R [(f 40 0 6),(l 41 1 40),(o 42 (.eq true (.nilable .fn) t41 (.c .nilFunc))),(m 39 42)]) (.cond t39 .skip (q (R [(f 43 2 6),(l 44 1 43),(o 45 (.bin .gtr t44 (I 0))),(m 39 45)]) (.cond t39 .skip (R [(f 46 0 4),(l 47 1 46),(o 48 (.bin .eql t47 (B 14))),(m 39 48)]))))) (.cond t39 (.regionP [(m 49 0),(f 50 1 4),(l 51 1 50),(o 52 (.bin .rem t51 (B 32))),(m 53 0),(la 54 11 4),(k 56 49),(f 57 47 56),(f 58 0 57),⟨some 55,none,[t50],(.call 57 [t53,t54])⟩,(o 59 (.idxArr 32 1 t58 t52)),(st 1 59 55)]) (q (q (R [(f 61 0 4),(l 62 1 61),(o 63 (.bin .eql t62 (B 30))),(m 60 63)]) (.cond t60 .skip (R [(f 64 0 4),(l 65 1 64),(o 66 (.bin .eql t65 (B 31))),(m 60 66)]))) (.cond t60 (q (.region [(m 67 0),(f 68 4 4),(l 69 1 68),(o 70 (.bin .rem t69 (B 2))),(m 71 0),(f 72 4 4),(l 73 1 72),(o 74 (.bin .rem t73 (B 2))),(f 75 10 4),(l 76 1 75),(o 77 (.conv (.intInt .u32) t76)),(f 78 9 4),(l 79 1 78),(o 80 (.conv (.intInt .u32) t79)),(k 81 67),(f 82 47 81),(f 83 36 82),(o 84 (.idxArr 2 1 t83 t70)),(k 85 71),(f 86 47 85),(f 87 38 86),⟨none,none,[t72,t78],(.store 1 t84 t77)⟩,(o 88 (.idxArr 2 1 t87 t74)),(st 1 88 80)] true) (q (R [(f 89 0 4),(l 90 1 89),(o 91 (.bin .eql t90 (B 31)))]) (.cond t91 (.region [(m 92 0),(f 93 4 4),(l 94 1 93),(o 95 (.bin .rem t94 (B 2))),(m 96 0),(f 97 2 4),(l 98 1 97),(o 99 (.bin .rem t98 (B 32))),(k 100 96),(f 101 5 100),(f 102 0 101),(o 103 (.idxArr 32 1 t102 t99)),(l 104 1 103),(k 105 92),(f 106 47 105),(f 107 38 106),(o 108 (.idxArr 2 1 t107 t95)),(st 1 108 104)] true) .skip))) (q (q (R [(f 110 0 4),(l 111 1 110),(o 112 (.bin .eql t111 (B 27))),(m 109 112)]) (.cond t109 .skip (R [(f 113 0 4),(l 114 1 113),(o 115 (.bin .eql t114 (B 29))),(m 109 115)]))) (.cond t109 (R [(m 116 0),(m 117 0),(f 118 10 4),(l 119 1 118),(o 120 (.conv (.intInt .u32) t119)),(k 121 116),(f 122 47 121),(f 123 40 122),(st 1 123 120),(k 124 117),(f 125 94 124),(n (.store 1 t125 T))]) (q (R [(f 127 0 4),(l 128 1 127),(o 129 (.bin .eql t128 (B 28))),(m 126 129)]) (.cond t126 (.region [(m 130 0),(m 131 0),(m 132 0),(f 133 2 4),(l 134 1 133),(o 135 (.bin .rem t134 (B 32))),(k 136 132),(f 137 5 136),(f 138 0 137),(o 139 (.idxArr 32 1 t138 t135)),(l 140 1 139),(k 141 130),(f 142 47 141),(f 143 40 142),(st 1 143 140),(k 144 131),(f 145 94 144),(n (.store 1 t145 T))] true) .skip))))))))))))) (q (R [(f 146 0 4),(l 147 1 146),(o 148 (.bin .eql t147 (B 29)))]) (.cond t148 (R [(m 149 0),(m 150 2),(k 151 149),(f 152 47 151),(f 153 0 152),(o 154 (.idxArr 32 1 t153 (I 31))),(st 1 154 150)]) .skip)))))⟩
open Z in def ir25 : IFunc := ⟨65,[],(q (R [(m 6 0),(m 7 1),(k 8 6),(f 9 47 8),(f 10 40 9),(st 1 10 7)]) (q (.region [(m 11 0),(k 12 11),(f 13 0 12),(f 14 1 13),(l 15 1 14),(m 16 0),(k 17 16),(f 18 0 17),(f 19 2 18),(l 20 1 19),(mi 23 0),(o 21 (.buildSlice 2 1 [z] [(0,1,t15),(1,1,t20)])),(o 22 (.lenSl t21))] true) (.block 0 (.loop (q (R [(o 24 (.bin .lss t23 t22))]) (q (.cond t24 .skip (.exit 0)) (q (.block 1 (q (R [(m 25 23),(ix 26 1 21 23),(l 27 1 26),(m 4 25),(m 5 27)]) (q (R [(m 28 5),(m 29 28),(og 30 29 true (.move t0)),(og 31 29 true (.move t4)),(og 32 29 true (.nilCheck t30)),(og 33 29 true (.fieldAddr 5 t32)),(og 34 29 true (.fieldAddr 38 t33)),(og 35 29 true (.idxArr 2 1 t34 t31)),(og 36 29 true (.load false 1 t35)),(og 37 29 true (.bin .gtr t36 (W 1))),(o 38 (.pick t29 t37 F))]) (.cond t38 (q (.region [(m 39 0),(m 40 0),(m 41 4),(m 42 0),(m 43 4),(k 44 42),(f 45 5 44),(f 46 36 45),(o 47 (.idxArr 2 1 t46 t43)),(l 48 1 47),(m 49 0),(m 50 4),(k 51 49),(f 52 5 51),(f 53 38 52),(o 54 (.idxArr 2 1 t53 t50)),(l 55 1 54),(o 56 (.bin .sub t55 (W 1))),(k 57 39),(f 58 47 57),(f 59 40 58),(k 60 40),(f 61 47 60),(f 62 38 61),(st 1 59 48),(o 63 (.idxArr 2 1 t62 t41)),(st 1 63 56)] true) .ret) .skip)))) (R [(o 64 (.bin .add t23 (I 1))),(m 23 64)]))))))))⟩
open Z in def ir9 : IFunc := ⟨64,[.cell 8 true 42,.cell 9 true 4],(q (R [(o 4 (.box t0)),(o 6 (.box t2)),(o 8 (.alloc [(w 0),(w 0),(w 0),(w 0),(w 0),(w 0),(w 0),(w 0),(w 0),(w 0),(w 0),(w 0),(w 0),(w 0),(w 0),(w 0),(w 0),(w 0),(w 0),(w 0),(w 0),(w 0),(w 0),(w 0),(w 0),(w 0),(w 0),(w 0),(w 0),(w 0),(w 0),(w 0),z,z,z,z,(w 0),(w 0),(w 0),(w 0),(w 0),(b 0)])),(o 9 (.alloc [z,(w 0),(i 0),(w 0)]))]) (q (q (R [(f 14 41 6),(l 15 1 14),(o 16 (.bin .neq t15 (B 0)))]) (.cond t16 (q (R [(la 17 42 6),(o 18 (.build [z,(w 0),(i 0),(w 0)] [])),(st 42 8 17),(st 4 9 18)]) .ret) .skip)) (q (R [(la 19 5 4),(la 20 42 6),(la 21 42 6),(m 22 3),(o 23 (.build [.nilSlice,z,z,z,z,(w 0),(w 0),(w 0),(w 0),(w 0),(w 0),(w 0),(w 0),(w 0),(w 0),(w 0),(w 0),(w 0),(w 0),(w 0),(w 0),(w 0),(w 0),(w 0),(w 0),(w 0),(w 0),(w 0),(w 0),(w 0),(w 0),(w 0),(w 0),(w 0),(w 0),(w 0),(w 0),z,z,z,z,(w 0),(w 0),(w 0),(w 0),(w 0),(b 0),(w 0),(w 0),(w 0),(w 0),(w 0),(w 0),(w 0),(w 0),(w 0),(w 0),(w 0),(w 0),(w 0),(w 0),(w 0),(w 0),(w 0),(w 0),(w 0),(w 0),(w 0),(w 0),(w 0),(w 0),(w 0),(w 0),(w 0),(w 0),(w 0),(w 0),(w 0),(w 0),z,z,z,z,(w 0),(w 0),(w 0),(w 0),(w 0),(b 0),.nilPtr,z,(w 0),(i 0),(w 0),z] [(0,5,t19),(5,42,t20),(47,42,t21),(89,1,t22)])),(o 24 (.box t23)),(m 10 24)]) (q (q (R [(m 25 10),(o 26 (.call 22 [t25])),(m 11 26)]) (q (R [(m 27 11),(o 28 (.bin .neq t27 (B 0)))]) (.cond t28 (q (R [(m 29 11),(f 30 41 6),(st 1 30 29)]) (q (R [(la 31 42 6),(o 32 (.build [z,(w 0),(i 0),(w 0)] [])),(st 42 8 31),(st 4 9 32)]) .ret)) .skip))) (q (q (R [(f 33 0 4),(l 34 1 33),(o 35 (.lenSl t34)),(mi 36 0)]) (.block 0 (.loop (q (R [(o 37 (.bin .lss t36 t35))]) (q (.cond t37 .skip (.exit 0)) (q (.block 1 (q (R [(ix 38 11 34 36),(la 39 11 38),(o 13 (.alloc [(b 0),(b 0),(b 0),(b 0),(b 0),(b 0),(b 0),z,z,(.int .u16 0),(i 0)])),(st 11 13 39)]) (q (R [(m 40 10),(la 41 11 13),(o 42 (.call 23 [t40,t41]))]) (.cond t42 (R [(m 43 10),(la 44 11 13),(m 45 1),(o 46 (.call 24 [t43,t44,t45]))]) .skip)))) (R [(o 47 (.bin .add t36 (I 1))),(m 36 47)]))))))) (q (q (R [(m 48 10),(k 49 48),(f 50 94 49),(l 51 1 50),(o 52 (.un .not t51))]) (.cond t52 (R [(m 53 10),(m 54 1),(o 55 (.call 25 [t53,t54]))]) .skip)) (q (.region [(m 56 10),(k 57 56),(f 58 47 57),(la 59 42 58),(m 60 10),(k 61 60),(f 62 90 61),(la 63 4 62),⟨none,none,[t62],(.store 42 t8 t59)⟩,(st 4 9 63)] true) .ret)))))))⟩
section
variable {T : Tab}
structure SmTab (T : Tab) : Prop where
 wh : WhTab T
 word : T 89 = some (.code ir89)
 may : T 51 = some (.code ir51)
 numbers : T 55 = some (.code ir55)
 place : T 85 = some (.code ir85)
 told : T 53 = some (.code ir53)
 due : T 23 = some (.code ir23)
 faulty : T 52 = some (.code ir52)
 faults : T 22 = some (.code ir22)
 loaded : T 90 = some (.code ir90)
 value : T 57 = some (.code ir57)
 fresh : T 88 = some (.code ir88)
 stores : T 56 = some (.code ir56)
 does : T 24 = some (.code ir24)
 turns : T 25 = some (.code ir25)
 Do : T 9 = some (.code ir9)
structure In.Byt (i : In) : Prop where
 op : isByte i.op = true
 d : isByte i.d = true
 s : isByte i.s = true
 t : isByte i.t = true
 n : isByte i.n = true
 p : isByte i.pred = true
theorem In.byt {i : In} (h : i.ok = true) : i.Byt := by
 simp only [In.ok, Bool.and_eq_true] at h
 exact ⟨h.1, h.2.1, h.2.2.1, h.2.2.2.1, h.2.2.2.2.1, h.2.2.2.2.2.1⟩
abbrev sptr (id : Nat) : AV := .ptr ⟨id, 0, 0, 95⟩
structure At (s : St) (id : Nat) (z : Stp) : Prop where
 wf : WFS s
 wo : z.was.Ok
 no : z.now.Ok
 wr : ∀ x ∈ z.was.r, 0 ≤ x ∧ x < 4294967296
 get : s.heap.get id = some (.cells z.cells 0 0 false)
theorem At.lt {s : St} {id : Nat} {z : Stp} (h : At s id z) : id < s.next := Nat.lt_of_not_le fun hge => by have := h.wf id hge; rw [h.get] at this; cases this
theorem At.ext {s s' : St} {id : Nat} {z : Stp} (h : At s id z) (hE : Ext s s') : At s' id z := ⟨hE.1, h.wo, h.no, h.wr, (hE.2.2 id h.lt).trans h.get⟩
theorem At.reg {s : St} {id : Nat} {z : Stp} (h : At s id z) (k : Int) : 0 ≤ z.was.reg k ∧ z.was.reg k < 4294967296 := h.wr _ (List.mem_of_getElem? (Ms.reg_at h.wo k))
theorem At.nb {s : St} {id : Nat} {z : Stp} (h : At s id z) (i : In) : 0 ≤ numB z.was i := by
 unfold numB
 split
 · omega
 · exact (h.reg _).1
set_option maxHeartbeats 4000000 in
theorem numbers_ran (hT : SmTab T) {s : St} {id : Nat} {z : Stp} (h : At s id z) {i : In} (hi : i.ok = true) :
 Ran T 55 [sptr id, .agg i.cells] s fun v s' => v = .tuple [.int .u32 (numA z.was i), .int .u32 (numB z.was i)] ∧ Ext s s' := by
 have hb := In.byt hi
 have hs := h.wf
 have hg := h.get
 have hlt := h.lt
 have r1 := Stp.rd_r (Ms.reg_at h.wo i.s)
 have r2 := Stp.rd_r (Ms.reg_at h.wo i.t)
 have m1 : Int.tmod i.s 32 = ((i.s.toNat % 32 : Nat) : Int) := rem8 hb.s 32
 have m2 : Int.tmod i.t 32 = ((i.t.toNat % 32 : Nat) : Int) := rem8 hb.t 32
 have b1 : i.s.toNat % 32 < 32 := by omega
 have b2 : i.t.toNat % 32 < 32 := by omega
 have d1 : 5 + (i.s.toNat % 32 + 1) ≤ 95 := by omega
 have d2 : 5 + (i.t.toNat % 32 + 1) ≤ 95 := by omega
 have hlen := Stp.len h.wo h.no
 refine ran_code hT.numbers (Nat.le_of_ble_eq_true rfl) ?_
 generalize hQ : Fin _ _ = Q
 have hE : Ext s (s.add (.cells i.cells 0 0 false)) := .add (.refl hs) _
 have hne : ¬ id = s.next := by omega
 simp only [ir55, In.cells, hg, r1, r2, m1, m2, b1, b2, d1, d2, hlen, hne, wr, seval]
 refine goCall_by (shas_ran hT.wh hE.1 i) ?_
 rintro v s' ⟨rfl, hE'⟩
 have hE2 := hE.trans hE'
 have g1 : s'.heap.get s.next = some (.cells i.cells 0 0 false) := by rw [hE'.2.2 s.next (Nat.lt_succ_self _), add_get, if_pos rfl]
 simp only [In.cells] at g1
 cases hh : hasB i.op with
 | false =>
  simp only [g1, wr, seval]
  subst hQ
  simp only [ir55, wr, seval]
  simp only [numB, hh, Bool.false_eq_true, if_false]
  exact ⟨rfl, hE2⟩
 | true =>
  simp only [g1, wr, seval]
  subst hQ
  simp only [ir55, wr, seval]
  simp only [numB, hh, if_true]
  exact ⟨rfl, hE2⟩
set_option maxHeartbeats 4000000 in
theorem place_ran (hT : SmTab T) {s : St} {id : Nat} {z : Stp} (h : At s id z) {i : In} (hi : i.ok = true) :
 Ran T 85 [sptr id, .agg i.cells] s fun v s' => v = .int .u32 (placeF z.was i) ∧ Ext s s' := by
 have hb := In.byt hi
 have hs := h.wf
 have hg := h.get
 have hlt := h.lt
 have r1 := Stp.rd_r (Ms.reg_at h.wo i.s)
 have m1 : Int.tmod i.s 32 = ((i.s.toNat % 32 : Nat) : Int) := rem8 hb.s 32
 have b1 : i.s.toNat % 32 < 32 := by omega
 have d1 : 5 + (i.s.toNat % 32 + 1) ≤ 95 := by omega
 have hlen := Stp.len h.wo h.no
 refine ran_code hT.place (Nat.le_of_ble_eq_true rfl) ?_
 have hE : Ext s (s.add (.cells i.cells 0 0 false)) := .add (.refl hs) _
 have hne : ¬ id = s.next := by omega
 simp only [In.cells] at hE
 simp only [ir85, In.cells, hg, r1, m1, b1, d1, hlen, hne, wr, seval]
 exact ⟨rfl, hE⟩
set_option maxHeartbeats 8000000 in
theorem told_ran (hT : SmTab T) {s : St} {id : Nat} {z : Stp} (h : At s id z) {L : List In} (hx : RdI s z.x L) (hok : ∀ i ∈ L, i.ok = true) (hL : L.length ≤ 100) {p : Int} (hp : isByte p = true) :
 Ran T 53 [sptr id, .int .u8 p] s fun v s' => v = .bool (toldF z.was p L) ∧ Ext s s' := by
 have hs := h.wf
 have hg := h.get
 have hlt := h.lt
 have hlen := Stp.len h.wo h.no
 have rx := z.rd_x
 have hl := len_op hx.lens
 refine ran_code hT.told (Nat.le_of_ble_eq_true rfl) ?_
 generalize hQ : Fin _ _ = Q
 have mp : Int.tmod p 4 = ((p.toNat % 4 : Nat) : Int) := rem8 hp 4
 have LL : ∀ (m q : Nat) (e : Env) (s1 : St), m + q = L.length → Ext s s1 → toldF z.was p L = toldF z.was p (L.drop q) →
  opd e (.t 0) = sptr id → opd e (.t 1) = .int .u8 p → opd e (.t 12) = z.x → opd e (.t 13) = .int .i64 (L.length : Int) → opd e (.t 14) = .int .i64 (q : Int) →
  Go T Q (sM2l0) [.block 0, .seq sM2l1] e s1 := by
  intro m
  induction m with
  | zero =>
   intro q e s1 hm hE1 ht h0 h1 h12 h13 h14
   have hk : ¬ (q : Int) < (L.length : Int) := by omega
   rw [go_loop]
   simp only [h13, h14, hk, wr, seval]
   subst hQ
   simp only [ir53, wr, seval]
   rw [List.drop_eq_nil_of_le (by omega)] at ht
   exact ⟨by rw [ht]; rfl, hE1⟩
  | succ m ih =>
   intro q e s1 hm hE1 ht h0 h1 h12 h13 h14
   have hk : (q : Int) < (L.length : Int) := by omega
   obtain ⟨i, hi⟩ : ∃ i, L[q]? = some i := ⟨_, List.getElem?_eq_getElem (by omega)⟩
   have hik := hok i (List.mem_of_getElem? hi)
   have hb := In.byt hik
   obtain ⟨iid, lo, inc', inc, lim, cap, ex, ro, cs, hzx, g1, g2, g3, g4, g5, g6⟩ := (hx.ext hE1).at hi
   have hdrop : L.drop q = i :: L.drop (q + 1) := by
    obtain ⟨hq, he⟩ := List.getElem?_eq_some_iff.1 hi
    rw [List.drop_eq_getElem_cons hq, he]
   obtain ⟨op, hop, hop2⟩ := byte_nat hb.op
   have w1 : wrapF .i64 ((q : Int) + 1) = ((q + 1 : Nat) : Int) := by rw [wrap_i64 _ (by omega) (by omega)]; omega
   have hE2 : Ext s (s1.add (.cells i.cells 0 0 false)) := hE1.add _
   have hwh := whats_ran hT.wh hE2.1 hop2
   have hz2 := h.ext hE2
   rw [← hop] at hwh
   rw [hzx] at h12
   have gi : (s1.add (.cells i.cells 0 0 false)).heap.get s1.next = some (.cells i.cells 0 0 false) := by rw [add_get, if_pos rfl]
   have md : Int.tmod i.d 4 = ((i.d.toNat % 4 : Nat) : Int) := rem8 hb.d 4
   rw [go_loop]
   have hot : i.op.toNat = op := by rw [hop]; rfl
   simp only [In.cells] at g5 hE2 hz2 gi
   simp only [h0, h1, h12, h13, h14, hk, g1, g2, g3, g4, g5, g6, In.cells, wr, seval]
   simp only [In.cells] at hwh
   refine goCall_by hwh ?_
   rintro v s2 ⟨rfl, hE3⟩
   obtain ⟨f, c, e1, e2, e3⟩ := what_form hT.wh op
   have gi2 := (hE3.2.2 s1.next (Nat.lt_succ_self _)).trans gi
   have hE4 := hE2.trans hE3
   have hz3 := hz2.ext hE3
   have next : ∀ (e : Env), toldF z.was p (i :: L.drop (q + 1)) = toldF z.was p (L.drop (q + 1)) → opd e (.t 0) = sptr id → opd e (.t 1) = .int .u8 p → opd e (.t 12) = z.x → opd e (.t 13) = .int .i64 (L.length : Int) → opd e (.t 14) = .int .i64 ((q + 1 : Nat) : Int) → Go T Q (sM2l0) [.block 0, .seq sM2l1] e s2 := by
    intro e hte k0 k1 k12 k13 k14
    exact ih (q + 1) e s2 (by omega) hE4 (by rw [ht, hdrop, hte]) k0 k1 k12 k13 k14
   rw [e1]
   unfold wRow
   rcases e3 with ⟨hc, n, rfl, hf⟩ | ⟨hc, rfl⟩
   · by_cases hd : i.d.toNat % 4 = p.toNat % 4
     · have hd' : ((i.d.toNat % 4 : Nat) : Int) = ((p.toNat % 4 : Nat) : Int) := by rw [hd]
       have hnum := numbers_ran hT hz3 hik
       simp only [In.cells] at hnum
       simp only [h0, h1, h12, h13, h14, gi2, md, mp, hd', eqV, nilEq, wr, seval]
       refine goCall_by hnum ?_
       rintro v s3 ⟨rfl, hE5⟩
       simp only [wr, seval]
       refine goCall_by (hf s3 _ _ (h.nb i)) ?_
       rintro v s4 ⟨rfl, rfl⟩
       simp only [wr, seval]
       subst hQ
       simp only [ir53, wr, seval]
       refine ⟨?_, hE4.trans hE5⟩
       rw [ht, hdrop]
       simp only [toldF, hot, hc, hd, and_self, if_true]
     · have hd' : ¬ ((i.d.toNat % 4 : Nat) : Int) = ((p.toNat % 4 : Nat) : Int) := by omega
       simp only [h0, h1, h12, h13, h14, gi2, md, mp, hd', eqV, nilEq, wr, seval]
       refine next _ ?_ ?_ ?_ ?_ ?_ ?_
       · simp only [toldF, hd, and_false, if_false]
       all_goals simp only [h0, h1, h12, h13, h14, w1, hzx, wr, seval]
   · simp only [h0, h1, h12, h13, h14, gi2, eqV, nilEq, wr, seval]
     refine next _ ?_ ?_ ?_ ?_ ?_ ?_
     · simp only [toldF, hot, hc, Bool.false_eq_true, false_and, if_false]
     all_goals simp only [h0, h1, h12, h13, h14, w1, hzx, wr, seval]
 simp only [ir53, hg, rx, hl, wr, seval]
 refine LL L.length 0 _ s (by omega) (.refl hs) (by rw [List.drop_zero]) ?_ ?_ ?_ ?_ ?_
 all_goals simp only [wr, seval]
 all_goals rfl
set_option maxHeartbeats 8000000 in
theorem due_ran (hT : SmTab T) {s : St} {id : Nat} {z : Stp} (h : At s id z) {L : List In} (hx : RdI s z.x L) (hok : ∀ i ∈ L, i.ok = true) (hL : L.length ≤ 100) {i : In} (hi : i.ok = true) :
 Ran T 23 [sptr id, .agg i.cells] s fun v s' => v = .bool (dueF z.was L i) ∧ Ext s s' := by
 have hb := In.byt hi
 have hs := h.wf
 have hg := h.get
 have hlt := h.lt
 have r1 := Stp.rd_p h.wo (Ms.prd_at h.wo i.pred)
 have m1 : Int.tmod i.pred 4 = ((i.pred.toNat % 4 : Nat) : Int) := rem8 hb.p 4
 have b1 : i.pred.toNat % 4 < 4 := by omega
 have d1 : 37 + (i.pred.toNat % 4 + 1) ≤ 95 := by omega
 have hlen := Stp.len h.wo h.no
 refine ran_code hT.due (Nat.le_of_ble_eq_true rfl) ?_
 generalize hQ : Fin _ _ = Q
 have hE : Ext s (s.add (.cells i.cells 0 0 false)) := .add (.refl hs) _
 have hne : ¬ id = s.next := by omega
 have htold := told_ran hT (h.ext hE) (hx.ext hE) hok hL hb.p
 simp only [In.cells] at hE htold
 by_cases k1 : i.mode = 1
 · simp only [ir23, In.cells, hg, r1, m1, b1, d1, hlen, hne, k1, wr, seval]
   subst hQ
   simp only [ir23, wr, seval]
   rw [k1] at hE
   refine ⟨?_, hE⟩
   simp only [dueF, k1, if_true]
 · by_cases k2 : i.mode = 2
   · simp only [ir23, In.cells, hg, r1, m1, b1, d1, hlen, hne, k2, wr, seval]
     subst hQ
     simp only [ir23, wr, seval]
     rw [k2] at hE
     refine ⟨?_, hE⟩
     simp only [dueF, k2]
     rfl
   · by_cases k3 : i.mode = 3
     · simp only [ir23, In.cells, hne, k3, wr, seval]
       rw [k3] at htold
       refine goCall_by htold ?_
       rintro v s2 ⟨rfl, hE2⟩
       simp only [wr, seval]
       subst hQ
       simp only [ir23, wr, seval]
       rw [k3] at hE
       refine ⟨?_, hE.trans hE2⟩
       simp only [dueF, k3]
       rfl
     · by_cases k4 : i.mode = 4
       · simp only [ir23, In.cells, hne, k4, wr, seval]
         rw [k4] at htold
         refine goCall_by htold ?_
         rintro v s2 ⟨rfl, hE2⟩
         simp only [wr, seval]
         subst hQ
         simp only [ir23, wr, seval]
         rw [k4] at hE
         refine ⟨?_, hE.trans hE2⟩
         simp only [dueF, k4]
         rfl
       · simp only [ir23, In.cells, hne, k1, k2, k3, k4, wr, seval]
         subst hQ
         simp only [ir23, wr, seval]
         refine ⟨?_, hE⟩
         simp only [dueF, k1, k2, k3, k4, if_false]
end
end Go.V
/- sem: faults. -/
namespace Go.V
open Go
set_option linter.unusedSimpArgs false
set_option linter.unusedVariables false
section
open Z
abbrev sM3l1 : ICode := .seq (R [(m 32 3),(m 2 32)]) .ret
abbrev sM3l0 : ICode := .loop (q (R [(o 14 (.bin .lss t13 t12))]) (q (.cond t14 .skip (.exit 0)) (q (.block 1 (q (R [(ix 15 11 11 13),(la 16 11 15),(o 5 (.alloc [(b 0),(b 0),(b 0),(b 0),(b 0),(b 0),(b 0),z,z,(.int .u16 0),(i 0)])),(st 11 5 16)]) (q (q (R [(m 17 0),(la 18 11 5),(o 19 (.call 23 [t17,t18])),(o 20 (.un .not t19))]) (.cond t20 (.exit 1) .skip)) (q (R [(m 21 0),(la 22 11 5),(o 23 (.call 52 [t21,t22])),(m 6 23)]) (q (R [(m 24 6),(o 25 (.bin .eql t24 (B 3))),(m 26 25),(og 27 26 false (.move t3)),(og 28 26 false (.bin .eql t27 (B 0))),(o 29 (.pick t26 T t28))]) (.cond t29 (R [(m 30 6),(m 3 30)]) .skip)))))) (R [(o 31 (.bin .add t13 (I 1))),(m 13 31)]))))
end
section
variable {T : Tab}
theorem sizeF_cases (op : Nat) : sizeF op = 1 ∨ sizeF op = 2 ∨ sizeF op = 4 := by
 unfold sizeF ldN stN
 split <;> split <;> omega
theorem placeF_bd (w : Ms) (i : In) : 0 ≤ placeF w i ∧ placeF w i < 4294967296 := by unfold placeF; omega
set_option maxHeartbeats 8000000 in
theorem faulty_ran (hT : SmTab T) {s : St} {id : Nat} {z : Stp} (h : At s id z) {i : In} (hi : i.ok = true) :
 Ran T 52 [sptr id, .agg i.cells] s fun v s' => v = .int .u8 (faultyF z.was i) ∧ Ext s s' := by
 have hb := In.byt hi
 have hs := h.wf
 have hg := h.get
 have hlt := h.lt
 have r1 := Stp.rd_r (Ms.reg_at h.wo i.s)
 have m1 : Int.tmod i.s 32 = ((i.s.toNat % 32 : Nat) : Int) := rem8 hb.s 32
 have b1 : i.s.toNat % 32 < 32 := by omega
 have d1 : 5 + (i.s.toNat % 32 + 1) ≤ 95 := by omega
 have hlen := Stp.len h.wo h.no
 refine ran_code hT.faulty (Nat.le_of_ble_eq_true rfl) ?_
 generalize hQ : Fin _ _ = Q
 have hE : Ext s (s.add (.cells i.cells 0 0 false)) := .add (.refl hs) _
 have hne : ¬ id = s.next := by omega
 obtain ⟨op, hop, hop2⟩ := byte_nat hb.op
 have hot : i.op.toNat = op := by rw [hop]; rfl
 have hwh := whats_ran hT.wh hE.1 hop2
 rw [← hop] at hwh
 have gi : (s.add (.cells i.cells 0 0 false)).heap.get s.next = some (.cells i.cells 0 0 false) := by rw [add_get, if_pos rfl]
 simp only [In.cells] at hE hwh gi
 simp only [ir52, In.cells, hne, wr, seval]
 refine goCall_by hwh ?_
 rintro v s2 ⟨rfl, hE2⟩
 obtain ⟨f, c, e1, e2, e3⟩ := what_form hT.wh op
 have f1 : f.isCell = true := by rcases e2 with ⟨_, n, rfl, _⟩ | ⟨_, rfl⟩ <;> rfl
 have f2 : c.isCell = true := by rcases e3 with ⟨_, n, rfl, _⟩ | ⟨_, rfl⟩ <;> rfl
 rw [e1]
 unfold wRow
 have hE3 := (hE.trans hE2).add (.cells [f, c, .int .i64 (ldN op), .int .i64 (stN op)] 0 0 false)
 have gi2 := (hE2.2.2 s.next (Nat.lt_succ_self _)).trans gi
 have hz3 := h.ext hE3
 have hpl := place_ran hT hz3 hi
 simp only [In.cells] at hpl
 have hn2 : ¬ s.next = s2.next := by have := hE2.2.1; have : s.next + 1 ≤ s2.next := this; omega
 have mm : minmaxV true (.int .i64 (ldN op)) [.int .i64 (stN op), .int .i64 1] = some (.int .i64 (sizeF op)) := by
  simp only [minmaxV, minmax2]
  congr 2
  unfold sizeF
  split <;> split <;> omega
 have hsz := sizeF_cases op
 have hpb := placeF_bd z.was i
 generalize hSZ : sizeF op = sz at *
 have wsz : sz % 4294967296 = sz := by omega
 have nsz : ¬ sz = 0 := by omega
 have tm : Int.tmod (placeF z.was i) sz = placeF z.was i % sz := Int.tmod_eq_emod_of_nonneg hpb.1
 simp only [f1, f2, gi2, hn2, mm, wsz, wr, seval]
 refine goCall_by hpl ?_
 rintro v s4 ⟨rfl, hE4⟩
 have hE5 := hE3.trans hE4
 have hz5 := h.ext hE5
 have gi3 : s4.heap.get s.next = some (.cells [.int .u8 i.op, .int .u8 i.d, .int .u8 i.s, .int .u8 i.t, .int .u8 i.n, .int .u8 i.pred, .int .u8 i.mode, .bool i.nw, .bool i.ext, .int .u16 i.count, .int .i64 i.imm] 0 0 false) := (hE4.2.2 s.next (by have := hE2.2.1; have : s.next + 1 ≤ s2.next := this; show s.next < s2.next + 1; omega)).trans (by rw [add_get, if_neg hn2]; exact gi2)
 have hg3 := hz5.get
 by_cases hp : placeF z.was i % sz = 0
 · by_cases h28 : i.op = 28
   · have m2 : Int.tmod (z.was.reg i.s) 4 = z.was.reg i.s % 4 := Int.tmod_eq_emod_of_nonneg (h.reg _).1
     by_cases h4 : z.was.reg i.s % 4 = 0
     · simp only [nsz, tm, hp, gi3, hg3, h28, r1, m1, b1, d1, m2, h4, hlen, wr, seval]
       subst hQ
       simp only [ir52, wr, seval]
       refine ⟨?_, hE5⟩
       unfold faultyF
       rw [hot, hSZ]
       simp only [hp, h28, h4, ne_eq, not_true_eq_false, if_false, and_false]
     · simp only [nsz, tm, hp, gi3, hg3, h28, r1, m1, b1, d1, m2, h4, hlen, wr, seval]
       subst hQ
       simp only [ir52, wr, seval]
       refine ⟨?_, hE5⟩
       unfold faultyF
       rw [hot, hSZ]
       simp only [hp, h28, h4, ne_eq, not_true_eq_false, not_false_eq_true, if_false, if_true, and_self]
   · simp only [nsz, tm, hp, gi3, h28, wr, seval]
     subst hQ
     simp only [ir52, wr, seval]
     refine ⟨?_, hE5⟩
     unfold faultyF
     rw [hot, hSZ]
     simp only [hp, h28, ne_eq, not_true_eq_false, if_false, false_and]
 · simp only [nsz, tm, hp, gi3, wr, seval]
   subst hQ
   simp only [ir52, wr, seval]
   refine ⟨?_, hE5⟩
   unfold faultyF
   rw [hot, hSZ]
   simp only [hp, ne_eq, not_false_eq_true, if_true]
set_option maxHeartbeats 8000000 in
theorem faults_ran (hT : SmTab T) {s : St} {id : Nat} {z : Stp} (h : At s id z) {L : List In} (hx : RdI s z.x L) (hok : ∀ i ∈ L, i.ok = true) (hL : L.length ≤ 100) :
 Ran T 22 [sptr id] s fun v s' => v = .int .u8 (faultsF z.was L L 0) ∧ Ext s s' := by
 have hs := h.wf
 have hg := h.get
 have hlt := h.lt
 have hlen := Stp.len h.wo h.no
 have rx := z.rd_x
 have hl := len_op hx.lens
 refine ran_code hT.faults (Nat.le_of_ble_eq_true rfl) ?_
 generalize hQ : Fin _ _ = Q
 have LL : ∀ (m q : Nat) (g : Int) (e : Env) (s1 : St), m + q = L.length → Ext s s1 → faultsF z.was L L 0 = faultsF z.was L (L.drop q) g →
  opd e (.t 0) = sptr id → opd e (.t 3) = .int .u8 g → opd e (.t 11) = z.x → opd e (.t 12) = .int .i64 (L.length : Int) → opd e (.t 13) = .int .i64 (q : Int) →
  Go T Q (sM3l0) [.block 0, .seq sM3l1] e s1 := by
  intro m
  induction m with
  | zero =>
   intro q g e s1 hm hE1 ht h0 h3 h11 h12 h13
   have hk : ¬ (q : Int) < (L.length : Int) := by omega
   rw [go_loop]
   simp only [h3, h12, h13, hk, wr, seval]
   subst hQ
   simp only [ir22, h3, wr, seval]
   rw [List.drop_eq_nil_of_le (by omega)] at ht
   exact ⟨by rw [ht]; rfl, hE1⟩
  | succ m ih =>
   intro q g e s1 hm hE1 ht h0 h3 h11 h12 h13
   have hk : (q : Int) < (L.length : Int) := by omega
   obtain ⟨i, hi⟩ : ∃ i, L[q]? = some i := ⟨_, List.getElem?_eq_getElem (by omega)⟩
   have hik := hok i (List.mem_of_getElem? hi)
   obtain ⟨iid, lo, inc', inc, lim, cap, ex, ro, cs, hzx, g1, g2, g3, g4, g5, g6⟩ := (hx.ext hE1).at hi
   have hdrop : L.drop q = i :: L.drop (q + 1) := by
    obtain ⟨hq, he⟩ := List.getElem?_eq_some_iff.1 hi
    rw [List.drop_eq_getElem_cons hq, he]
   have w1 : wrapF .i64 ((q : Int) + 1) = ((q + 1 : Nat) : Int) := by rw [wrap_i64 _ (by omega) (by omega)]; omega
   have hE2 : Ext s (s1.add (.cells i.cells 0 0 false)) := hE1.add _
   have hz2 := h.ext hE2
   have hdue := due_ran hT hz2 (hx.ext hE2) hok hL hik
   rw [hzx] at h11
   have gi : (s1.add (.cells i.cells 0 0 false)).heap.get s1.next = some (.cells i.cells 0 0 false) := by rw [add_get, if_pos rfl]
   rw [go_loop]
   simp only [In.cells] at g5 hE2 hz2 gi hdue
   simp only [h0, h3, h11, h12, h13, hk, g1, g2, g3, g4, g5, g6, In.cells, wr, seval]
   refine goCall_by hdue ?_
   rintro v s2 ⟨rfl, hE3⟩
   have gi2 := (hE3.2.2 s1.next (Nat.lt_succ_self _)).trans gi
   have hE4 := hE2.trans hE3
   have hz3 := hz2.ext hE3
   cases hdu : dueF z.was L i with
   | false =>
    simp only [h0, h3, h11, h12, h13, gi2, wr, seval]
    refine ih (q + 1) g _ s2 (by omega) hE4 ?_ ?_ ?_ ?_ ?_ ?_
    · rw [ht, hdrop]; simp only [faultsF, hdu, Bool.false_eq_true, if_false]
    all_goals simp only [h0, h3, h11, h12, h13, w1, hzx, wr, seval]
   | true =>
    have hfy := faulty_ran hT hz3 hik
    simp only [In.cells] at hfy
    simp only [h0, h3, h11, h12, h13, gi2, wr, seval]
    refine goCall_by hfy ?_
    rintro v s3 ⟨rfl, hE5⟩
    have hE6 := hE4.trans hE5
    by_cases c1 : faultyF z.was i = 3
    · simp only [h0, h3, h11, h12, h13, c1, wr, seval]
      refine ih (q + 1) 3 _ s3 (by omega) hE6 ?_ ?_ ?_ ?_ ?_ ?_
      · rw [ht, hdrop]; simp only [faultsF, hdu, c1, true_or, if_true]
      all_goals simp only [h0, h3, h11, h12, h13, w1, hzx, wr, seval]
    · by_cases c2 : g = 0
      · simp only [h0, h3, h11, h12, h13, c1, c2, wr, seval]
        refine ih (q + 1) (faultyF z.was i) _ s3 (by omega) hE6 ?_ ?_ ?_ ?_ ?_ ?_
        · rw [ht, hdrop]; simp only [faultsF, hdu, c2, or_true, if_true]
        all_goals simp only [h0, h3, h11, h12, h13, w1, hzx, wr, seval]
      · simp only [h0, h3, h11, h12, h13, c1, c2, wr, seval]
        refine ih (q + 1) g _ s3 (by omega) hE6 ?_ ?_ ?_ ?_ ?_ ?_
        · rw [ht, hdrop]; simp only [faultsF, hdu, c1, c2, or_self, if_false, if_true]
        all_goals simp only [h0, h3, h11, h12, h13, w1, hzx, wr, seval]
 simp only [ir22, hg, rx, hl, wr, seval]
 refine LL L.length 0 0 _ s (by omega) (.refl hs) (by rw [List.drop_zero]) ?_ ?_ ?_ ?_ ?_
 all_goals simp only [wr, seval]
 all_goals rfl
end
end Go.V
/- sem: values. -/
namespace Go.V
open Go
set_option linter.unusedSimpArgs false
set_option linter.unusedVariables false
section
variable {T : Tab}
theorem loaded_ran (hT : SmTab T) (s : St) (v n : Int) (h : n = 1 ∨ n = 2 ∨ n = 4) : Ran T 90 [.int .u32 v, .int .i64 n] s fun r s' => r = .int .u32 (loadedF v n) ∧ s' = s := by
 have hg : 0 ≤ 32 - 8 * n := by omega
 have q1 := raw_shl .u32 .i64 v (32 - 8 * n) hg
 have q2 := raw_shr .i32 .i64 (wrapF .i32 (shlF .u32 v (32 - 8 * n))) (32 - 8 * n) hg
 refine ran_code hT.loaded (Nat.le_of_ble_eq_true rfl) ?_
 have w1 : wrapF .i64 (8 * n) = 8 * n := wrap_i64 _ (by omega) (by omega)
 have w2 : wrapF .i64 (32 - 8 * n) = 32 - 8 * n := wrap_i64 _ (by omega) (by omega)
 simp only [ir90, w1, w2, q1, q2, wr, seval]
 rfl
theorem MemAt.ext {s s' : St} {pm r : Nat} {me : List ME} {c : Nat} (h : MemAt s pm r me c) (hE : Ext s s') : MemAt s' pm r me c :=
 ⟨(hE.2.2 pm h.lt1).trans h.box, (hE.2.2 r h.lt2).trans h.map, h.ok, Nat.lt_of_lt_of_le h.lt1 hE.2.1, Nat.lt_of_lt_of_le h.lt2 hE.2.1, hE.1⟩
theorem sword_ran (hT : SmTab T) {s : St} {pm r : Nat} {me : List ME} {c : Nat} (h : MemAt s pm r me c) {k n : Int} (h0 : 0 ≤ k) (hk : k < 4294967296) :
 Ran T 89 [mptr pm, .int .u32 k, .int .i64 n] s fun v s' => s' = s ∧ ∃ e : Int, v = .tuple [.int .u32 (wordF me k n), .int .i64 e] := by
 obtain ⟨kk, rfl⟩ := Int.eq_ofNat_of_zero_le h0
 refine Ran.mono (mword_ran hT.word hT.may h kk (by omega) n) ?_
 rintro v s' ⟨rfl, rfl⟩
 refine ⟨rfl, ?_⟩
 unfold wordF
 rw [show Int.toNat (kk : Int) = kk from rfl]
 split
 · exact ⟨0, rfl⟩
 · exact ⟨1, rfl⟩
theorem ldN_cases (op : Nat) : ldN op = 0 ∨ ldN op = 1 ∨ ldN op = 2 ∨ ldN op = 4 := by
 unfold ldN
 split <;> simp
theorem stN_cases (op : Nat) : stN op = 0 ∨ stN op = 1 ∨ stN op = 2 ∨ stN op = 4 := by
 unfold stN
 split <;> simp
set_option maxHeartbeats 8000000 in
theorem value_ran (hT : SmTab T) {s : St} {id : Nat} {z : Stp} (h : At s id z) {pm r : Nat} {me : List ME} {c : Nat} (hm : MemAt s pm r me c) (hzm : z.m = mptr pm) {i : In} (hi : i.ok = true) (hd : i.op = 14 ∨ 0 < ldN i.op.toNat ∨ isV i.op.toNat = true) :
 Ran T 57 [sptr id, .agg i.cells] s fun v s' => v = .int .u32 (valueF z.was me i) ∧ Ext s s' := by
 have hb := In.byt hi
 have hs := h.wf
 have hg := h.get
 have hlt := h.lt
 have r1 := Stp.rd_p h.wo (Ms.prd_at h.wo i.pred)
 have m1 : Int.tmod i.pred 4 = ((i.pred.toNat % 4 : Nat) : Int) := rem8 hb.p 4
 have b1 : i.pred.toNat % 4 < 4 := by omega
 have d1 : 37 + (i.pred.toNat % 4 + 1) ≤ 95 := by omega
 have hlen := Stp.len h.wo h.no
 refine ran_code hT.value (Nat.le_of_ble_eq_true rfl) ?_
 generalize hQ : Fin _ _ = Q
 have hE : Ext s (s.add (.cells i.cells 0 0 false)) := .add (.refl hs) _
 have hne : ¬ id = s.next := by omega
 obtain ⟨op, hop, hop2⟩ := byte_nat hb.op
 have hot : i.op.toNat = op := by rw [hop]; rfl
 have hnum := numbers_ran hT (h.ext hE) hi
 have gi : (s.add (.cells i.cells 0 0 false)).heap.get s.next = some (.cells i.cells 0 0 false) := by rw [add_get, if_pos rfl]
 simp only [In.cells] at hE hnum gi
 simp only [ir57, In.cells, hne, wr, seval]
 refine goCall_by hnum ?_
 rintro v s2 ⟨rfl, hE2⟩
 have gi2 := (hE2.2.2 s.next (Nat.lt_succ_self _)).trans gi
 have hwh := whats_ran hT.wh hE2.1 hop2
 rw [← hop] at hwh
 simp only [gi2, wr, seval]
 refine goCall_by hwh ?_
 rintro v s3 ⟨rfl, hE3⟩
 obtain ⟨f, c', e1, e2, e3⟩ := what_form hT.wh op
 have f1 : f.isCell = true := by rcases e2 with ⟨_, n, rfl, _⟩ | ⟨_, rfl⟩ <;> rfl
 have f2 : c'.isCell = true := by rcases e3 with ⟨_, n, rfl, _⟩ | ⟨_, rfl⟩ <;> rfl
 rw [e1]
 unfold wRow
 have l3 : s.next < s3.next := by have h1 := hE2.2.1; have h2 := hE3.2.1; have : s.next + 1 ≤ s2.next := h1; omega
 have hE4 := ((hE.trans hE2).trans hE3).add (.cells [f, c', .int .i64 (ldN op), .int .i64 (stN op)] 0 0 false)
 have gi3 := (hE3.2.2 s.next (by have h1 := hE2.2.1; have : s.next + 1 ≤ s2.next := h1; omega)).trans gi2
 have hn3 : ¬ s.next = s3.next := by omega
 have hz4 := h.ext hE4
 have hm4 := hm.ext hE4
 have g3 : s3.heap.get id = some (.cells z.cells 0 0 false) := (((hE.trans hE2).trans hE3).2.2 id hlt).trans hg
 have hid3 : ¬ id = s3.next := by omega
 by_cases h14 : i.op = 14
 · cases hp : z.was.prd i.pred with
   | true =>
    rw [hp] at r1
    simp only [f1, f2, gi3, hn3, h14, g3, hid3, r1, m1, b1, d1, hlen, wr, seval]
    subst hQ
    simp only [ir57, wr, seval]
    refine ⟨?_, hE4⟩
    simp only [valueF, h14, hp, if_true]
   | false =>
    rw [hp] at r1
    simp only [f1, f2, gi3, hn3, h14, g3, hid3, r1, m1, b1, d1, hlen, wr, seval]
    subst hQ
    simp only [ir57, wr, seval]
    refine ⟨?_, hE4⟩
    simp only [valueF, h14, hp, if_true, Bool.false_eq_true, if_false]
 · by_cases hld : 0 < ldN op
   · have hpl := place_ran hT hz4 hi
     have rm := Stp.rd_m h.wo h.no
     rw [hzm] at rm
     simp only [In.cells] at hpl
     have hplw : Ran T 85 [sptr id, .agg [.int .u8 i.op, .int .u8 i.d, .int .u8 i.s, .int .u8 i.t, .int .u8 i.n, .int .u8 i.pred, .int .u8 i.mode, .bool i.nw, .bool i.ext, .int .u16 i.count, .int .i64 i.imm]] (s3.add (.cells [f, c', .int .i64 (ldN op), .int .i64 (stN op)] 0 0 false)) fun v s' => v = .int .u32 (placeF z.was i) ∧ Ext (s3.add (.cells [f, c', .int .i64 (ldN op), .int .i64 (stN op)] 0 0 false)) s' := hpl
     simp only [f1, f2, gi3, hn3, h14, hld, g3, hid3, rm, hlen, wr, seval]
     refine goCall (Ran.mono hplw ?_)
     rintro v s4 ⟨rfl, hE5⟩
     have g4 : s4.heap.get id = some (.cells z.cells 0 0 false) := (hE5.2.2 id hz4.lt).trans hz4.get
     have w4 : s4.heap.get s3.next = some (.cells [f, c', .int .i64 (ldN op), .int .i64 (stN op)] 0 0 false) := (hE5.2.2 s3.next (Nat.lt_succ_self _)).trans (by rw [add_get, if_pos rfl])
     have hE6 := hE4.trans hE5
     have hm6 := hm.ext hE6
     have hpb := placeF_bd z.was i
     refine ⟨by simp only [g3, hid3, g4, w4, goR_watch, watch_cons, watch_nil, wat_ptr, wat_map, sameObj_refl, Bool.and_self, true_and, wr, seval], ?_⟩
     simp only [wr, seval]
     refine goCall_by (sword_ran hT hm6 hpb.1 hpb.2) ?_
     rintro v s5 ⟨rfl, ee, rfl⟩
     simp only [pw_normal, w4, wr, seval]
     have hlc := ldN_cases op
     refine goCall_by (loaded_ran hT _ _ _ (by omega)) ?_
     rintro v s6 ⟨rfl, rfl⟩
     simp only [wr, seval]
     subst hQ
     simp only [ir57, wr, seval]
     refine ⟨?_, hE6⟩
     unfold valueF
     rw [hot, if_neg h14, if_pos hld]
   · have hv : isV op = true := by
      rw [hot] at hd
      rcases hd with h | h | h
      · exact absurd h h14
      · exact absurd h hld
      · exact h
     rcases e2 with ⟨_, n, rfl, hf⟩ | ⟨hc, _⟩
     · simp only [f1, f2, gi3, hn3, h14, hld, g3, hid3, wr, seval]
       refine goCall_by (hf _ _ _ (h.nb i)) ?_
       rintro v s6 ⟨rfl, rfl⟩
       simp only [wr, seval]
       subst hQ
       simp only [ir57, wr, seval]
       refine ⟨?_, hE4⟩
       unfold valueF
       rw [hot, if_neg h14, if_neg hld]
     · rw [hc] at hv; cases hv
end
end Go.V
/- sem: new values, what is stored. -/
namespace Go.V
open Go
set_option linter.unusedSimpArgs false
set_option linter.unusedVariables false
section
open Z
abbrev sM5l1 : ICode := .seq (R [(m 41 0),(m 42 1),(o 43 (.bin .rem t42 (B 32))),(k 44 41),(f 45 5 44),(f 46 0 45),(o 47 (.idxArr 32 1 t46 t43)),(l 48 1 47),(m 4 48)]) .ret
abbrev sM5l0 : ICode := .loop (q (R [(o 15 (.bin .lss t14 t13))]) (q (.cond t15 .skip (.exit 0)) (q (.block 1 (q (R [(ix 16 11 12 14),(la 17 11 16),(o 6 (.alloc [(b 0),(b 0),(b 0),(b 0),(b 0),(b 0),(b 0),z,z,(.int .u16 0),(i 0)])),(st 11 6 17)]) (q (R [(f 18 0 6),(l 19 1 18),(o 20 (.call 54 [t19])),(o 7 (.alloc [.nilFunc,.nilFunc,(i 0),(i 0)])),(st 4 7 20)]) (q (R [(f 21 1 6),(l 22 1 21),(o 23 (.bin .rem t22 (B 32))),(m 24 1),(o 25 (.bin .rem t24 (B 32))),(o 26 (.bin .eql t23 t25)),(m 27 26),(og 28 27 true (.fieldAddr 0 t7)),(og 29 27 true (.load false 1 t28)),(og 30 27 true (.eq true (.nilable .fn) t29 (.c .nilFunc))),(og 31 27 true (.move t30)),(og 32 31 false (.fieldAddr 0 t6)),(og 33 31 false (.load false 1 t32)),(og 34 31 false (.bin .eql t33 (B 14))),(og 35 27 true (.pick t31 T t34)),(o 36 (.pick t27 t35 F))]) (.cond t36 (q (R [(m 37 0),(la 38 11 6),(o 39 (.call 57 [t37,t38])),(m 4 39)]) .ret) .skip))))) (R [(o 40 (.bin .add t14 (I 1))),(m 14 40)]))))
end
section
variable {T : Tab}
set_option maxHeartbeats 8000000 in
theorem fresh_ran (hT : SmTab T) {s : St} {id : Nat} {z : Stp} (h : At s id z) {L : List In} (hx : RdI s z.x L) (hok : ∀ i ∈ L, i.ok = true) (hL : L.length ≤ 100) {pm r : Nat} {me : List ME} {c : Nat} (hm : MemAt s pm r me c) (hzm : z.m = mptr pm) {p : Int} (hp : isByte p = true) :
 Ran T 88 [sptr id, .int .u8 p] s fun v s' => v = .int .u32 (freshF z.was me p L) ∧ Ext s s' := by
 have hs := h.wf
 have hg := h.get
 have hlt := h.lt
 have hlen := Stp.len h.wo h.no
 have rx := z.rd_x
 have hl := len_op hx.lens
 refine ran_code hT.fresh (Nat.le_of_ble_eq_true rfl) ?_
 generalize hQ : Fin _ _ = Q
 have mp : Int.tmod p 32 = ((p.toNat % 32 : Nat) : Int) := rem8 hp 32
 have LL : ∀ (m q : Nat) (e : Env) (s1 : St), m + q = L.length → Ext s s1 → freshF z.was me p L = freshF z.was me p (L.drop q) →
  opd e (.t 0) = sptr id → opd e (.t 1) = .int .u8 p → opd e (.t 12) = z.x → opd e (.t 13) = .int .i64 (L.length : Int) → opd e (.t 14) = .int .i64 (q : Int) →
  Go T Q (sM5l0) [.block 0, .seq sM5l1] e s1 := by
  intro m
  induction m with
  | zero =>
   intro q e s1 hm0 hE1 ht h0 h1 h12 h13 h14
   have hk : ¬ (q : Int) < (L.length : Int) := by omega
   have r1 := Stp.rd_r (Ms.reg_at h.wo p)
   have b1 : p.toNat % 32 < 32 := by omega
   have d1 : 5 + (p.toNat % 32 + 1) ≤ 95 := by omega
   have hg1 := (hE1.2.2 id hlt).trans hg
   rw [go_loop]
   simp only [h0, h1, h13, h14, hk, hg1, r1, mp, b1, d1, hlen, wr, seval]
   subst hQ
   simp only [ir88, wr, seval]
   rw [List.drop_eq_nil_of_le (by omega)] at ht
   exact ⟨by rw [ht]; rfl, hE1⟩
  | succ m ih =>
   intro q e s1 hm0 hE1 ht h0 h1 h12 h13 h14
   have hk : (q : Int) < (L.length : Int) := by omega
   obtain ⟨i, hi⟩ : ∃ i, L[q]? = some i := ⟨_, List.getElem?_eq_getElem (by omega)⟩
   have hik := hok i (List.mem_of_getElem? hi)
   have hb := In.byt hik
   obtain ⟨iid, lo, inc', inc, lim, cap, ex, ro, cs, hzx, g1, g2, g3, g4, g5, g6⟩ := (hx.ext hE1).at hi
   have hdrop : L.drop q = i :: L.drop (q + 1) := by
    obtain ⟨hq, he⟩ := List.getElem?_eq_some_iff.1 hi
    rw [List.drop_eq_getElem_cons hq, he]
   obtain ⟨op, hop, hop2⟩ := byte_nat hb.op
   have hot : i.op.toNat = op := by rw [hop]; rfl
   have w1 : wrapF .i64 ((q : Int) + 1) = ((q + 1 : Nat) : Int) := by rw [wrap_i64 _ (by omega) (by omega)]; omega
   have hE2 : Ext s (s1.add (.cells i.cells 0 0 false)) := hE1.add _
   have hwh := whats_ran hT.wh hE2.1 hop2
   rw [← hop] at hwh
   rw [hzx] at h12
   have gi : (s1.add (.cells i.cells 0 0 false)).heap.get s1.next = some (.cells i.cells 0 0 false) := by rw [add_get, if_pos rfl]
   have md : Int.tmod i.d 32 = ((i.d.toNat % 32 : Nat) : Int) := rem8 hb.d 32
   rw [go_loop]
   simp only [In.cells] at g5 hE2 gi
   simp only [h0, h1, h12, h13, h14, hk, g1, g2, g3, g4, g5, g6, In.cells, wr, seval]
   simp only [In.cells] at hwh
   refine goCall_by hwh ?_
   rintro v s2 ⟨rfl, hE3⟩
   obtain ⟨f, c', e1, e2, e3⟩ := what_form hT.wh op
   have f1 : f.isCell = true := by rcases e2 with ⟨_, n, rfl, _⟩ | ⟨_, rfl⟩ <;> rfl
   have f2 : c'.isCell = true := by rcases e3 with ⟨_, n, rfl, _⟩ | ⟨_, rfl⟩ <;> rfl
   have gi2 := (hE3.2.2 s1.next (Nat.lt_succ_self _)).trans gi
   have hl2 : s1.next < s2.next := by have h1 := hE3.2.1; have : s1.next + 1 ≤ s2.next := h1; omega
   have hn2 : ¬ s1.next = s2.next := by omega
   have hE4 := (hE2.trans hE3).add (.cells [f, c', .int .i64 (ldN op), .int .i64 (stN op)] 0 0 false)
   have hz3 := h.ext hE4
   have hm3 := hm.ext hE4
   rw [e1]
   unfold wRow
   by_cases hd : i.d.toNat % 32 = p.toNat % 32
   · have hd' : ((i.d.toNat % 32 : Nat) : Int) = ((p.toNat % 32 : Nat) : Int) := by rw [hd]
     by_cases hv : isV op = true ∨ i.op = 14
     · have hval := value_ran hT hz3 hm3 hzm hik (by rw [hot]; rcases hv with h | h; exact .inr (.inr h); exact .inl h)
       simp only [In.cells] at hval
       have fin : ∀ (e : Env) (s3 : St), Ext s s3 → resultsV e s3 [.tmp 4] = some [.int .u32 (valueF z.was me i)] → Q .ret e s3 := by
        intro e s3 hE5 hr
        subst hQ
        refine ⟨_, hr, ?_, hE5⟩
        show AV.int .u32 _ = _
        rw [ht, hdrop]
        unfold freshF
        rw [hot, if_pos ⟨hd, hv⟩]
       rcases e2 with ⟨hi1, n, rfl, hf⟩ | ⟨hi1, rfl⟩
       · simp only [h0, h1, h12, h13, h14, f1, f2, gi2, hn2, md, mp, hd', eqV, nilEq, wr, seval]
         refine goCall_by hval ?_
         rintro v s3 ⟨rfl, hE5⟩
         simp only [wr, seval]
         exact fin _ s3 (hE4.trans hE5) (by simp only [wr, seval])
       · have h14' : i.op = 14 := by
          rcases hv with h | h
          · rw [hi1] at h; cases h
          · exact h
         rw [h14'] at hval gi2
         simp only [h0, h1, h12, h13, h14, h14', f1, f2, gi2, hn2, md, mp, hd', eqV, nilEq, wr, seval]
         refine goCall_by hval ?_
         rintro v s3 ⟨rfl, hE5⟩
         simp only [wr, seval]
         refine fin _ s3 ?_ (by simp only [wr, seval])
         exact hE4.trans hE5
     · have hv1 : isV op = false := by cases hx : isV op with | false => rfl | true => exact absurd (.inl hx) hv
       have hv2 : ¬ i.op = 14 := fun e => hv (.inr e)
       rcases e2 with ⟨hi1, n, rfl, hf⟩ | ⟨hi1, rfl⟩
       · rw [hv1] at hi1; cases hi1
       · simp only [h0, h1, h12, h13, h14, hv2, f1, f2, gi2, hn2, md, mp, hd', eqV, nilEq, wr, seval]
         refine ih (q + 1) _ _ (by omega) hE4 ?_ ?_ ?_ ?_ ?_ ?_
         · rw [ht, hdrop]
           show freshF z.was me p (i :: _) = _
           rw [freshF, hot, if_neg (fun hh => hv hh.2)]
         all_goals simp only [h0, h1, h12, h13, h14, w1, hzx, wr, seval]
   · have hd' : ¬ ((i.d.toNat % 32 : Nat) : Int) = ((p.toNat % 32 : Nat) : Int) := by omega
     simp only [h0, h1, h12, h13, h14, f1, f2, gi2, hn2, md, mp, hd', eqV, nilEq, wr, seval]
     refine ih (q + 1) _ _ (by omega) hE4 ?_ ?_ ?_ ?_ ?_ ?_
     · rw [ht, hdrop]
       show freshF z.was me p (i :: _) = _
       rw [freshF, if_neg (fun hh => hd hh.1)]
     all_goals simp only [h0, h1, h12, h13, h14, w1, hzx, wr, seval]
 simp only [ir88, hg, rx, hl, wr, seval]
 refine LL L.length 0 _ s (by omega) (.refl hs) (by rw [List.drop_zero]) ?_ ?_ ?_ ?_ ?_
 all_goals simp only [wr, seval]
 all_goals rfl
end
end Go.V
/- sem: what is stored. -/
namespace Go.V
open Go
set_option linter.unusedSimpArgs false
set_option linter.unusedVariables false
section
variable {T : Tab}
set_option maxHeartbeats 8000000 in
theorem stores_ran (hT : SmTab T) {s : St} {id : Nat} {z : Stp} (h : At s id z) {L : List In} (hx : RdI s z.x L) (hok : ∀ i ∈ L, i.ok = true) (hL : L.length ≤ 100) {pm r : Nat} {me : List ME} {c : Nat} (hm : MemAt s pm r me c) (hzm : z.m = mptr pm) {i : In} (hi : i.ok = true) {n : Int} (hn : n = 1 ∨ n = 2 ∨ n = 4) :
 Ran T 56 [sptr id, .agg i.cells, .int .i64 n] s fun v s' => v = .tuple [] ∧ Only id s s' ∧ s'.heap.get id = some (.cells (z.setPut (placeF z.was i) n (putV' (if i.nw = true then freshF z.was me i.t L else z.was.reg i.t) n)).cells 0 0 false) := by
 have hb := In.byt hi
 have hs := h.wf
 have hg := h.get
 have hlt := h.lt
 have hlen := Stp.len h.wo h.no
 have r1 := Stp.rd_r (Ms.reg_at h.wo i.t)
 have m1 : Int.tmod i.t 32 = ((i.t.toNat % 32 : Nat) : Int) := rem8 hb.t 32
 have b1 : i.t.toNat % 32 < 32 := by omega
 have d1 : 5 + (i.t.toNat % 32 + 1) ≤ 95 := by omega
 have hE : Ext s (s.add (.cells i.cells 0 0 false)) := .add (.refl hs) _
 have hne : ¬ id = s.next := by omega
 have gi : (s.add (.cells i.cells 0 0 false)).heap.get s.next = some (.cells i.cells 0 0 false) := by rw [add_get, if_pos rfl]
 have w1 : wrapF .i64 (8 * n) = 8 * n := wrap_i64 _ (by omega) (by omega)
 have q1 := raw_shl .u64 .i64 1 (8 * n) (by omega)
 have q2 := fun v => raw_and .u64 v ((shlF .u64 1 (8 * n) - 1) % 18446744073709551616)
 refine ran_code hT.stores (Nat.le_of_ble_eq_true rfl) ?_
 generalize hQ : Fin _ _ = Q
 cases hnw : i.nw with
 | false =>
  have hpl := place_ran hT (h.ext hE) hi
  simp only [In.cells, hnw] at gi hpl hE
  simp only [ir56, In.cells, hg, hne, r1, m1, b1, d1, hlen, hnw, w1, q1, q2, wr, seval]
  refine goCall_by hpl ?_
  rintro v s3 ⟨rfl, hE3⟩
  have hE4 := hE.trans hE3
  have hz4 := h.ext hE4
  have g4 := hz4.get
  have wp := Stp.wr_put h.wo h.no (placeF z.was i) n (putV' (z.was.reg i.t) n)
  unfold putV' at wp
  simp only [g4, hlen, wp, wr, seval]
  subst hQ
  simp only [ir56, wr, seval]
  exact ⟨(Only.of hE4).put hz4.lt _, by rw [hnw]; rfl⟩
 | true =>
  have hfr := fresh_ran hT (h.ext hE) (hx.ext hE) hok hL (hm.ext hE) hzm hb.t
  simp only [In.cells, hnw] at gi hfr hE
  simp only [ir56, In.cells, hg, hne, r1, m1, b1, d1, hlen, hnw, w1, q1, q2, wr, seval]
  refine goCall_by hfr ?_
  rintro v s2 ⟨rfl, hE2⟩
  have hE2' := hE.trans hE2
  have hpl := place_ran hT (h.ext hE2') hi
  have gi2 := (hE2.2.2 s.next (Nat.lt_succ_self _)).trans gi
  simp only [In.cells, hnw] at hpl
  simp only [gi2, w1, q1, q2, wr, seval]
  refine goCall_by hpl ?_
  rintro v s3 ⟨rfl, hE3⟩
  have hE4 := hE2'.trans hE3
  have hz4 := h.ext hE4
  have g4 := hz4.get
  have wp := Stp.wr_put h.wo h.no (placeF z.was i) n (putV' (freshF z.was me i.t L) n)
  unfold putV' at wp
  simp only [g4, hlen, wp, wr, seval]
  subst hQ
  simp only [ir56, wr, seval]
  exact ⟨(Only.of hE4).put hz4.lt _, by rw [hnw]; rfl⟩
end
end Go.V
/- sem: what an instruction does. -/
namespace Go.V
open Go
set_option linter.unusedSimpArgs false
set_option linter.unusedVariables false
section
variable {T : Tab}
theorem op_c {op : Nat} (h : isC op = true) : stN op = 0 ∧ op ≠ 29 := by
 unfold isC at h; simp at h
 refine ⟨?_, by omega⟩
 unfold stN; split <;> first | rfl | omega
theorem op_s {op : Nat} (h : 0 < stN op) : op ≠ 29 := by
 rintro rfl; revert h; decide
theorem op_v {op : Nat} (h : isV op = true ∨ 0 < ldN op ∨ op = 14) : op ≠ 29 := by
 rintro rfl; revert h; decide
set_option maxHeartbeats 16000000 in
theorem does_ran (hT : SmTab T) {s : St} {id : Nat} {z : Stp} (h : At s id z) {L : List In} (hx : RdI s z.x L) (hok : ∀ i ∈ L, i.ok = true) (hL : L.length ≤ 100) {pm r : Nat} {me : List ME} {c : Nat} (hm : MemAt s pm r me c) (hzm : z.m = mptr pm) {i : In} (hi : i.ok = true) (next : Int) :
 Ran T 24 [sptr id, .agg i.cells, .int .u32 next] s fun v s' => v = .tuple [] ∧ Only id s s' ∧ s'.heap.get id = some (.cells (doesF me L next i z).cells 0 0 false) := by
 have hb := In.byt hi
 have hs := h.wf
 have hg := h.get
 have hlt := h.lt
 have hlen := Stp.len h.wo h.no
 have hE : Ext s (s.add (.cells i.cells 0 0 false)) := .add (.refl hs) _
 have hne : ¬ id = s.next := by omega
 have hne' : ¬ s.next = id := by omega
 obtain ⟨op, hop, hop2⟩ := byte_nat hb.op
 have hot : i.op.toNat = op := by rw [hop]; rfl
 have hwh := whats_ran hT.wh hE.1 hop2
 rw [← hop] at hwh
 have gi : (s.add (.cells i.cells 0 0 false)).heap.get s.next = some (.cells i.cells 0 0 false) := by rw [add_get, if_pos rfl]
 refine ran_code hT.does (Nat.le_of_ble_eq_true rfl) ?_
 generalize hQ : Fin _ _ = Q
 simp only [In.cells] at hE hwh gi
 simp only [ir24, In.cells, hne, wr, seval]
 refine goCall_by hwh ?_
 rintro v s2 ⟨rfl, hE2⟩
 obtain ⟨f, c', e1, e2, e3⟩ := what_form hT.wh op
 have f1 : f.isCell = true := by rcases e2 with ⟨_, n, rfl, _⟩ | ⟨_, rfl⟩ <;> rfl
 have f2 : c'.isCell = true := by rcases e3 with ⟨_, n, rfl, _⟩ | ⟨_, rfl⟩ <;> rfl
 rw [e1]
 unfold wRow
 have gi2 := (hE2.2.2 s.next (Nat.lt_succ_self _)).trans gi
 have hE3 := hE.trans hE2
 have gid := (hE3.2.2 id hlt).trans hg
 have hl2 : s.next < s2.next := by have h1 := hE2.2.1; have : s.next + 1 ≤ s2.next := h1; omega
 have hn2 : ¬ s.next = s2.next := by omega
 have hid2 : ¬ id = s2.next := by omega
 have hn2' : ¬ s2.next = s.next := by omega
 have hid2' : ¬ s2.next = id := by omega
 have hE4 := hE3.add (.cells [f, c', .int .i64 (ldN op), .int .i64 (stN op)] 0 0 false)
 have hz4 := h.ext hE4
 have hm4 := hm.ext hE4
 have hx4 := hx.ext hE4
 have hlt4 := hz4.lt
 -- what is behind
 have st29 : i.op.toNat = op → True := fun _ => trivial
 have c29 : (i.op = 29) ↔ (op = 29) := by omega
 rcases e3 with ⟨hc, n, hcn, hf⟩ | ⟨hc, hcn⟩
 · have hnum := numbers_ran hT hz4 hi
   simp only [In.cells] at hnum
   have md : Int.tmod i.d 4 = ((i.d.toNat % 4 : Nat) : Int) := rem8 hb.d 4
   have b1 : i.d.toNat % 4 < 4 := by omega
   have d1 : 79 + (i.d.toNat % 4 + 1) ≤ 95 := by omega
   have wp := Stp.wr_p h.wo h.no b1 (cF op (numA z.was i) (numB z.was i))
   have h29 : ¬ i.op = 29 := by have := (op_c hc).2; omega
   subst hcn
   simp only [f1, f2, gi2, gid, hn2, hid2, md, eqV, nilEq, wr, seval]
   refine goCall (Ran.mono hnum ?_)
   rintro v s5 ⟨rfl, hE5⟩
   have gi5 : s5.heap.get s.next = some (.cells [.int .u8 i.op, .int .u8 i.d, .int .u8 i.s, .int .u8 i.t, .int .u8 i.n, .int .u8 i.pred, .int .u8 i.mode, .bool i.nw, .bool i.ext, .int .u16 i.count, .int .i64 i.imm] 0 0 false) := (hE5.2.2 s.next (by show s.next < s2.next + 1; omega)).trans (by rw [add_get, if_neg hn2]; exact gi2)
   have gw5 : s5.heap.get s2.next = some (.cells [f, .func n [] [], .int .i64 (ldN op), .int .i64 (stN op)] 0 0 false) := (hE5.2.2 s2.next (Nat.lt_succ_self _)).trans (by rw [add_get, if_pos rfl])
   have g5 := (hE5.2.2 id hlt4).trans hz4.get
   have hE6 := hE4.trans hE5
   refine ⟨by simp only [gi2, gi5, gw5, hn2, goR_watch, watch_cons, watch_nil, wat_ptr, wat_map, sameObj_refl, Bool.and_self, true_and, wr, seval], ?_⟩
   simp only [wr, seval]
   refine goCall (Ran.mono (hf s5 _ _ (h.nb i)) ?_)
   rintro v s6 ⟨rfl, rfl⟩
   refine ⟨by simp only [gi5, goR_watch, watch_cons, watch_nil, wat_ptr, wat_map, sameObj_refl, Bool.and_self, true_and, wr, seval], ?_⟩
   simp only [g5, gi5, b1, d1, hlen, wp, pw_normal, hne', h29, wr, seval]
   subst hQ
   simp only [ir24, wr, seval]
   have hd : doesF me L next i z = z.setP (i.d.toNat % 4) (cF op (numA z.was i) (numB z.was i)) := by
    unfold doesF
    rw [hot, if_pos hc, if_neg h29]
   rw [hd]
   exact ⟨(Only.of hE6).put (Nat.lt_of_lt_of_le hlt hE6.2.1) _, rfl⟩
 subst hcn
 by_cases hst : 0 < stN op
 · -- a store
   have hsc := stN_cases op
   have hstr := stores_ran hT hz4 hx4 hok hL hm4 hzm hi (n := stN op) (by omega)
   simp only [In.cells] at hstr
   have h29 : ¬ i.op = 29 := by have := op_s hst; omega
   simp only [f1, f2, gi2, gid, hn2, hid2, hst, eqV, nilEq, wr, seval]
   refine goCall_by hstr ?_
   rintro v s5 ⟨rfl, hO5, hg5⟩
   have gi5 : s5.heap.get s.next = some (.cells [.int .u8 i.op, .int .u8 i.d, .int .u8 i.s, .int .u8 i.t, .int .u8 i.n, .int .u8 i.pred, .int .u8 i.mode, .bool i.nw, .bool i.ext, .int .u16 i.count, .int .i64 i.imm] 0 0 false) := (hO5.2.2 s.next (by show s.next < s2.next + 1; omega) hne').trans (by rw [add_get, if_neg hn2]; exact gi2)
   simp only [gi5, h29, wr, seval]
   subst hQ
   simp only [ir24, wr, seval]
   have hd : doesF me L next i z = z.setPut (placeF z.was i) (stN op) (putV' (if i.nw = true then freshF z.was me i.t L else z.was.reg i.t) (stN op)) := by
    unfold doesF
    rw [hot, if_neg h29, if_neg (by rw [hc]; decide), if_pos hst]
   rw [hd]
   exact ⟨(Only.of hE4).trans hO5, hg5⟩
 by_cases hv : isV op = true ∨ 0 < ldN op ∨ op = 14
 · -- a register
   have hval := value_ran hT hz4 hm4 hzm hi (by rw [hot]; rcases hv with h' | h' | h'; exact .inr (.inr h'); exact .inr (.inl h'); exact .inl (by omega))
   simp only [In.cells] at hval
   have md : Int.tmod i.d 32 = ((i.d.toNat % 32 : Nat) : Int) := rem8 hb.d 32
   have b1 : i.d.toNat % 32 < 32 := by omega
   have d1 : 47 + (i.d.toNat % 32 + 1) ≤ 95 := by omega
   have wp := Stp.wr_r h.wo h.no b1 (valueF z.was me i)
   have h29 : ¬ i.op = 29 := by have := op_v hv; omega
   have hd : doesF me L next i z = z.setR (i.d.toNat % 32) (valueF z.was me i) := by
    unfold doesF
    rw [hot, if_neg h29, if_neg (by rw [hc]; decide), if_neg hst, if_pos (by rcases hv with h' | h' | h'; exact .inl h'; exact .inr (.inl h'); exact .inr (.inr (by omega)))]
   have K : ∀ (s5 : St), Ext (s2.add (.cells [f, .nilFunc, .int .i64 (ldN op), .int .i64 (stN op)] 0 0 false)) s5 → s5.heap.get s.next = some (.cells [.int .u8 i.op, .int .u8 i.d, .int .u8 i.s, .int .u8 i.t, .int .u8 i.n, .int .u8 i.pred, .int .u8 i.mode, .bool i.nw, .bool i.ext, .int .u16 i.count, .int .i64 i.imm] 0 0 false) ∧ s5.heap.get id = some (.cells z.cells 0 0 false) ∧ Ext s s5 := fun s5 hE5 =>
    ⟨(hE5.2.2 s.next (by show s.next < s2.next + 1; omega)).trans (by rw [add_get, if_neg hn2]; exact gi2), (hE5.2.2 id hlt4).trans hz4.get, hE4.trans hE5⟩
   rcases e2 with ⟨hi1, n, rfl, hf⟩ | ⟨hi1, hfn⟩
   · simp only [f1, f2, gi2, gid, hn2, hid2, hst, md, eqV, nilEq, wr, seval]
     refine goCall (Ran.mono hval ?_)
     rintro v s5 ⟨rfl, hE5⟩
     obtain ⟨gi5, g5, hE6⟩ := K s5 hE5

     refine ⟨by simp only [gi2, gi5, hn2, goR_watch, watch_cons, watch_nil, wat_ptr, wat_map, sameObj_refl, Bool.and_self, true_and, wr, seval], ?_⟩
     simp only [g5, gi5, b1, d1, hlen, wp, pw_normal, hne', h29, wr, seval]
     subst hQ
     simp only [ir24, wr, seval]
     rw [hd]
     exact ⟨(Only.of hE6).put (Nat.lt_of_lt_of_le hlt hE6.2.1) _, rfl⟩
   subst hfn
   by_cases hl : 0 < ldN op
   · simp only [f1, f2, gi2, gid, hn2, hid2, hst, hl, md, eqV, nilEq, wr, seval]
     refine goCall (Ran.mono hval ?_)
     rintro v s5 ⟨rfl, hE5⟩
     obtain ⟨gi5, g5, hE6⟩ := K s5 hE5

     refine ⟨by simp only [gi2, gi5, hn2, goR_watch, watch_cons, watch_nil, wat_ptr, wat_map, sameObj_refl, Bool.and_self, true_and, wr, seval], ?_⟩
     simp only [g5, gi5, b1, d1, hlen, wp, pw_normal, hne', h29, wr, seval]
     subst hQ
     simp only [ir24, wr, seval]
     rw [hd]
     exact ⟨(Only.of hE6).put (Nat.lt_of_lt_of_le hlt hE6.2.1) _, rfl⟩
   · have h14 : i.op = 14 := by rcases hv with h' | h' | h'; rw [hi1] at h'; cases h'; exact absurd h' hl; omega
     rw [h14] at hval gi2
     simp only [f1, f2, gi2, gid, hn2, hid2, hst, hl, h14, md, eqV, nilEq, wr, seval]
     refine goCall (Ran.mono hval ?_)
     rintro v s5 ⟨rfl, hE5⟩
     obtain ⟨gi5, g5, hE6⟩ := K s5 hE5
     rw [h14] at gi5
     refine ⟨by simp only [gi2, gi5, hn2, goR_watch, watch_cons, watch_nil, wat_ptr, wat_map, sameObj_refl, Bool.and_self, true_and, wr, seval], ?_⟩
     simp only [g5, gi5, b1, d1, hlen, wp, pw_normal, hne', h29, wr, seval]
     subst hQ
     simp only [ir24, wr, seval]
     rw [hd]
     exact ⟨(Only.of hE6).put (Nat.lt_of_lt_of_le hlt hE6.2.1) _, rfl⟩
 have hv1 : isV op = false := by cases hx' : isV op with | false => rfl | true => exact absurd (.inl hx') hv
 have hv2 : ¬ 0 < ldN op := fun h' => hv (.inr (.inl h'))
 have hv3 : ¬ i.op = 14 := fun h' => hv (.inr (.inr (by omega)))
 rcases e2 with ⟨hi1, n, rfl, hf⟩ | ⟨hi1, hfn⟩
 · rw [hv1] at hi1; cases hi1
 subst hfn
 have hnc : ¬ isC op = true := by rw [hc]; decide
 have hnv : ¬ (isV op = true ∨ 0 < ldN op ∨ i.op = 14) := by rw [hv1]; rintro (h' | h' | h'); cases h'; exact hv2 h'; exact hv3 h'
 have mN : Int.tmod i.n 2 = ((i.n.toNat % 2 : Nat) : Int) := rem8 hb.n 2
 have bN : i.n.toNat % 2 < 2 := by omega
 have dA : 83 + (i.n.toNat % 2 + 1) ≤ 95 := by omega
 have dC : 85 + (i.n.toNat % 2 + 1) ≤ 95 := by omega
 have mS : Int.tmod i.s 32 = ((i.s.toNat % 32 : Nat) : Int) := rem8 hb.s 32
 have bS : i.s.toNat % 32 < 32 := by omega
 have dS : 5 + (i.s.toNat % 32 + 1) ≤ 95 := by omega
 have rS := Stp.rd_r (Ms.reg_at h.wo i.s)
 have wA := Stp.wr_a h.wo h.no bN (i.imm % 4294967296)
 have oA : (z.setA (i.n.toNat % 2) (i.imm % 4294967296)).now.Ok := ⟨h.no.r, h.no.p, by show (z.now.a.set _ _).length = 2; rw [List.length_set]; exact h.no.a, h.no.c⟩
 have wC := Stp.wr_c (z := z.setA (i.n.toNat % 2) (i.imm % 4294967296)) h.wo oA bN i.count
 have lA := Stp.len (z := z.setA (i.n.toNat % 2) (i.imm % 4294967296)) h.wo oA
 have oC : ((z.setA (i.n.toNat % 2) (i.imm % 4294967296)).setC (i.n.toNat % 2) i.count).now.Ok := ⟨oA.r, oA.p, oA.a, by show (z.now.c.set _ _).length = 2; rw [List.length_set]; exact h.no.c⟩
 have lC := Stp.len (z := (z.setA (i.n.toNat % 2) (i.imm % 4294967296)).setC (i.n.toNat % 2) i.count) h.wo oC
 have rC := Stp.rd_r (z := (z.setA (i.n.toNat % 2) (i.imm % 4294967296)).setC (i.n.toNat % 2) i.count) (Ms.reg_at h.wo i.s)
 have wC2 := Stp.wr_c (z := (z.setA (i.n.toNat % 2) (i.imm % 4294967296)).setC (i.n.toNat % 2) i.count) h.wo oC bN (z.was.reg i.s)
 have wPC := fun v => Stp.wr_pc h.wo h.no v
 have lPC := fun v => Stp.len (z := z.setPC v) h.wo ⟨h.no.r, h.no.p, h.no.a, h.no.c⟩
 have wGo := fun v => Stp.wr_go (z := z.setPC v) h.wo ⟨h.no.r, h.no.p, h.no.a, h.no.c⟩
 have only : ∀ o, Only id s ((s2.put id o).add (.cells [.nilFunc, .nilFunc, .int .i64 (ldN op), .int .i64 (stN op)] 0 0 false)) := fun o => by
  have h0 := (Only.of hE3).put (Nat.lt_of_lt_of_le hlt hE3.2.1) o
  exact h0.trans (Only.of (Ext.add (.refl h0.1) _))
 have k0 : i.count % 4294967296 = i.count := by
  have := hi
  simp only [In.ok, Bool.and_eq_true, decide_eq_true_eq] at this
  omega
 have lG := fun v => Stp.len (z := (z.setPC v).setGo) h.wo ⟨h.no.r, h.no.p, h.no.a, h.no.c⟩
 have wR := fun v => Stp.wr_r (z := (z.setPC v).setGo) h.wo ⟨h.no.r, h.no.p, h.no.a, h.no.c⟩ (i := 31) (by omega) next
 by_cases h30 : i.op = 30
 · simp only [f1, f2, gi2, gid, hn2, hn2', hid2, hid2', hst, hv2, hv3, h30, mN, bN, dA, dC, wA, wC, lA, k0, hlen, hne, hne', eqV, nilEq, goR_watch, watch_cons, watch_nil, wat_ptr, wat_map, sameObj_refl, Bool.and_self, true_and, wr, seval]
   subst hQ
   simp only [ir24, wr, seval]
   have hd : doesF me L next i z = (z.setA (i.n.toNat % 2) (i.imm % 4294967296)).setC (i.n.toNat % 2) i.count := by
    unfold doesF
    rw [hot, if_neg (by omega), if_neg hnc, if_neg hst, if_neg hnv, if_pos h30]
   rw [hd]
   exact ⟨only _, by rw [if_neg hid2]⟩
 by_cases h31 : i.op = 31
 · simp only [f1, f2, gi2, gid, hn2, hn2', hid2, hid2', hst, hv2, hv3, h31, mN, bN, dA, dC, wA, wC, lA, lC, k0, rC, mS, bS, dS, wC2, hlen, hne, hne', eqV, nilEq, goR_watch, watch_cons, watch_nil, wat_ptr, wat_map, sameObj_refl, Bool.and_self, true_and, wr, seval]
   subst hQ
   simp only [ir24, wr, seval]
   have hd : doesF me L next i z = ((z.setA (i.n.toNat % 2) (i.imm % 4294967296)).setC (i.n.toNat % 2) i.count).setC (i.n.toNat % 2) (z.was.reg i.s) := by
    unfold doesF
    rw [hot, if_neg (by omega), if_neg hnc, if_neg hst, if_neg hnv, if_neg h30, if_pos h31]
   rw [hd]
   exact ⟨only _, by rw [if_neg hid2]⟩
 by_cases h27 : i.op = 27
 · simp only [f1, f2, gi2, gid, hn2, hn2', hid2, hid2', hst, hv2, hv3, h27, wPC, lPC, wGo, hlen, hne, hne', eqV, nilEq, goR_watch, watch_cons, watch_nil, wat_ptr, wat_map, sameObj_refl, Bool.and_self, true_and, wr, seval]
   subst hQ
   simp only [ir24, wr, seval]
   have hd : doesF me L next i z = (z.setPC (i.imm % 4294967296)).setGo := by
    unfold doesF
    rw [hot, if_neg (by omega), if_neg hnc, if_neg hst, if_neg hnv, if_neg h30, if_neg h31, if_pos (.inl h27)]
   rw [hd]
   exact ⟨only _, by rw [if_neg hid2]⟩
 by_cases h29 : i.op = 29
 · simp only [f1, f2, gi2, gid, hn2, hn2', hid2, hid2', hst, hv2, hv3, h29, wPC, lPC, wGo, lG, wR, hlen, hne, hne', eqV, nilEq, goR_watch, watch_cons, watch_nil, wat_ptr, wat_map, sameObj_refl, Bool.and_self, true_and, wr, seval]
   subst hQ
   simp only [ir24, wr, seval]
   have hd : doesF me L next i z = ((z.setPC (i.imm % 4294967296)).setGo).setR 31 next := by
    unfold doesF
    rw [hot, if_pos h29, if_neg hnc, if_neg hst, if_neg hnv, if_neg h30, if_neg h31, if_pos (.inr h29)]
   rw [hd]
   exact ⟨only _, by rw [if_neg hid2]⟩
 by_cases h28 : i.op = 28
 · simp only [f1, f2, gi2, gid, hn2, hn2', hid2, hid2', hst, hv2, hv3, h28, rS, mS, bS, dS, wPC, lPC, wGo, hlen, hne, hne', eqV, nilEq, goR_watch, watch_cons, watch_nil, wat_ptr, wat_map, sameObj_refl, Bool.and_self, true_and, wr, seval]
   subst hQ
   simp only [ir24, wr, seval]
   have hd : doesF me L next i z = (z.setPC (z.was.reg i.s)).setGo := by
    unfold doesF
    rw [hot, if_neg h29, if_neg hnc, if_neg hst, if_neg hnv, if_neg h30, if_neg h31, if_neg (by omega), if_pos h28]
   rw [hd]
   exact ⟨only _, by rw [if_neg hid2]⟩
 simp only [f1, f2, gi2, gid, hn2, hn2', hid2, hid2', hst, hv2, hv3, h30, h31, h27, h29, h28, hlen, hne, hne', eqV, nilEq, goR_watch, watch_cons, watch_nil, wat_ptr, wat_map, sameObj_refl, Bool.and_self, true_and, wr, seval]
 subst hQ
 simp only [ir24, wr, seval]
 have hd : doesF me L next i z = z := by
  unfold doesF
  rw [hot, if_neg h29, if_neg hnc, if_neg hst, if_neg hnv, if_neg h30, if_neg h31, if_neg (by omega), if_neg h28]
 rw [hd]
 exact ⟨.of hE4, by rw [if_neg hid2]; exact gid⟩
end
end Go.V
/- sem: a loop's end. -/
namespace Go.V
open Go
set_option linter.unusedSimpArgs false
set_option linter.unusedVariables false
theorem At.put {s s1 : St} {id : Nat} {z z' : Stp} (h : At s id z) (hO : Only id s s1) (hw : z'.was = z.was) (hn : z'.now.Ok) (hg : s1.heap.get id = some (.cells z'.cells 0 0 false)) : At s1 id z' :=
 ⟨hO.1, by rw [hw]; exact h.wo, hn, by rw [hw]; exact h.wr, hg⟩
def cl0 (w : Ms) : Int := w.c.getD 0 0
def cl1 (w : Ms) : Int := w.c.getD 1 0
def sa0 (w : Ms) : Int := w.a.getD 0 0
def sa1 (w : Ms) : Int := w.a.getD 1 0
theorem two_at {l : List Int} (h : l.length = 2) : l[0]? = some (l.getD 0 0) ∧ l[1]? = some (l.getD 1 0) := by
 match l, h with
 | [a, b], _ => exact ⟨rfl, rfl⟩
section
variable {T : Tab}
set_option maxHeartbeats 8000000 in
theorem turns_ran (hT : SmTab T) {s : St} {id : Nat} {z : Stp} (h : At s id z) (next : Int) :
 Ran T 25 [sptr id, .int .u32 next] s fun v s' => v = .tuple [] ∧ Only id s s' ∧ s'.heap.get id = some (.cells (turnsF next z).cells 0 0 false) := by
 have hs := h.wf
 have hg := h.get
 have hlt := h.lt
 have hlen := Stp.len h.wo h.no
 have wPC := Stp.wr_pc h.wo h.no next
 have o1 : (z.setPC next).now.Ok := ⟨h.no.r, h.no.p, h.no.a, h.no.c⟩
 have l1 := Stp.len (z := z.setPC next) h.wo o1
 have ta := two_at h.wo.a
 have tc := two_at h.wo.c
 have e0 : List.take 1 (List.drop 1 (z.setPC next).cells) = [.bool z.e0] := Stp.rd_e0 (z.setPC next)
 have e1 : List.take 1 (List.drop 2 (z.setPC next).cells) = [.bool z.e1] := Stp.rd_e1 (z.setPC next)
 have rc0 : List.take 1 (List.drop 43 (z.setPC next).cells) = [.int .u32 (cl0 z.was)] := Stp.rd_c (z := z.setPC next) h.wo (i := 0) tc.1
 have rc1 : List.take 1 (List.drop 44 (z.setPC next).cells) = [.int .u32 (cl1 z.was)] := Stp.rd_c (z := z.setPC next) h.wo (i := 1) tc.2
 have ra0 : List.take 1 (List.drop 41 (z.setPC next).cells) = [.int .u32 (sa0 z.was)] := Stp.rd_a (z := z.setPC next) h.wo (i := 0) ta.1
 have ra1 : List.take 1 (List.drop 42 (z.setPC next).cells) = [.int .u32 (sa1 z.was)] := Stp.rd_a (z := z.setPC next) h.wo (i := 1) ta.2
 have wp2 := fun v => Stp.wr_pc (z := z.setPC next) h.wo o1 v
 have o2 : ∀ v, ((z.setPC next).setPC v).now.Ok := fun v => ⟨h.no.r, h.no.p, h.no.a, h.no.c⟩
 have l2 := fun v => Stp.len (z := (z.setPC next).setPC v) h.wo (o2 v)
 have wc0 : ∀ v u, spliceAt ((z.setPC next).setPC v).cells 85 [.int .u32 u] = (((z.setPC next).setPC v).setC 0 u).cells := fun v u => Stp.wr_c (z := (z.setPC next).setPC v) h.wo (o2 v) (i := 0) (by omega) u
 have wc1 : ∀ v u, spliceAt ((z.setPC next).setPC v).cells 86 [.int .u32 u] = (((z.setPC next).setPC v).setC 1 u).cells := fun v u => Stp.wr_c (z := (z.setPC next).setPC v) h.wo (o2 v) (i := 1) (by omega) u
 have hne : ¬ id = s.next := by omega
 have hne' : ¬ s.next = id := by omega
 have fin : ∀ o, Only id s ((s.put id o).add (.cells [.bool z.e0, .bool z.e1] 0 0 false)) := fun o => by
  have h0 := (Only.refl (p := id) hs).put hlt o
  exact h0.trans (Only.of (Ext.add (.refl h0.1) _))
 refine ran_code hT.turns (Nat.le_of_ble_eq_true rfl) ?_
 generalize hQ : Fin _ _ = Q
 have tf : turnsF next z = (if z.e0 = true ∧ 1 < cl0 z.was then (((z.setPC next).setPC (sa0 z.was)).setC 0 ((cl0 z.was - 1) % 4294967296)) else if z.e1 = true ∧ 1 < cl1 z.was then (((z.setPC next).setPC (sa1 z.was)).setC 1 ((cl1 z.was - 1) % 4294967296)) else z.setPC next) := rfl
 have nd : s.next < (s.add (.cells [.bool z.e0, .bool z.e1] 0 0 false)).next := Nat.lt_succ_self _
 cases he0 : z.e0 <;> by_cases k0 : 1 < cl0 z.was <;> cases he1 : z.e1 <;> by_cases k1 : 1 < cl1 z.was
 all_goals
  rw [he0] at e0 fin
  rw [he1] at e1 fin
  simp only [ir25, hg, wPC, l1, e0, e1, hlen, hne, hne', wr, seval]
  rw [go_loop]
  simp only [k0, rc0, ra0, wp2, l2, wc0, l1, hne, hne', wr, seval]
 all_goals try
  rw [go_loop]
  simp only [k1, rc1, ra1, wp2, l2, wc1, l1, hne, hne', wr, seval]
 all_goals try
  rw [go_loop]
  simp only [wr, seval]
 all_goals
  subst hQ
  simp only [ir25, wr, seval]
 all_goals
  refine ⟨fin _, ?_⟩
  rw [if_neg hne, tf]
  simp only [he0, he1, k0, k1, true_and, false_and, and_false, and_true, if_true, if_false, Bool.false_eq_true]
end
end Go.V
/- sem: Do. -/
namespace Go.V
open Go
set_option linter.unusedSimpArgs false
set_option linter.unusedVariables false
section
open Z
abbrev sM9l1 : ICode := .seq (q (R [(m 48 10),(k 49 48),(f 50 94 49),(l 51 1 50),(o 52 (.un .not t51))]) (.cond t52 (R [(m 53 10),(m 54 1),(o 55 (.call 25 [t53,t54]))]) .skip)) (q (.region [(m 56 10),(k 57 56),(f 58 47 57),(la 59 42 58),(m 60 10),(k 61 60),(f 62 90 61),(la 63 4 62),⟨none,none,[t62],(.store 42 t8 t59)⟩,(st 4 9 63)] true) .ret)
abbrev sM9l0 : ICode := .loop (q (R [(o 37 (.bin .lss t36 t35))]) (q (.cond t37 .skip (.exit 0)) (q (.block 1 (q (R [(ix 38 11 34 36),(la 39 11 38),(o 13 (.alloc [(b 0),(b 0),(b 0),(b 0),(b 0),(b 0),(b 0),z,z,(.int .u16 0),(i 0)])),(st 11 13 39)]) (q (R [(m 40 10),(la 41 11 13),(o 42 (.call 23 [t40,t41]))]) (.cond t42 (R [(m 43 10),(la 44 11 13),(m 45 1),(o 46 (.call 24 [t43,t44,t45]))]) .skip)))) (R [(o 47 (.bin .add t36 (I 1))),(m 36 47)]))))
end
/-- A packet as it comes in. -/
structure Pk where
 x : AV
 e0 : Bool
 e1 : Bool
 rw : Bool
 du : Bool
 L : List In
def Pk.cells (p : Pk) : List AV := [p.x, .bool p.e0, .bool p.e1, .bool p.rw, .bool p.du]
def stp0 (p : Pk) (w : Ms) (m : AV) : Stp := ⟨p.x, p.e0, p.e1, p.rw, p.du, w, w, m, false, 0, 0, 0, false⟩
/-- The state behind a packet, and what is stored. -/
def doM (p : Pk) (w : Ms) (me : List ME) (next : Int) (m : AV) : Ms × (Bool × Int × Int × Int) :=
 if w.f ≠ 0 then (w, false, 0, 0, 0)
 else if faultsF w p.L p.L 0 ≠ 0 then ({ w with f := faultsF w p.L p.L 0 }, false, 0, 0, 0)
 else
  let z := alldoF me p.L next p.L (stp0 p w m)
  let z' := if z.go = true then z else turnsF next z
  (z'.now, z'.pis, z'.pat, z'.pn, z'.pv)
def putC (q : Bool × Int × Int × Int) : List AV := [.bool q.1, .int .u32 q.2.1, .int .i64 q.2.2.1, .int .u32 q.2.2.2]
theorem Ms.rd_f {w : Ms} (h : w.Ok) : List.take 1 (List.drop 41 w.cells) = [.int .u8 w.f] := by
 unfold Ms.cells
 rw [← List.append_assoc, ← List.append_assoc, ← List.append_assoc, List.drop_append, List.drop_eq_nil_of_le (by simp [h.r, h.p, h.a, h.c])]
 simp [h.r, h.p, h.a, h.c]
theorem Ms.wr_f {w : Ms} (h : w.Ok) (v : Int) : spliceAt w.cells 41 [.int .u8 v] = Ms.cells { w with f := v } := by
 have e : ∀ x : Int, Ms.cells { w with f := x } = (((((w.r.map c32 ++ w.p.map mB) ++ w.a.map c32) ++ w.c.map c32) ++ [.int .u32 w.pc]) ++ ([x].map (AV.int .u8) ++ [])) := fun x => by
  simp [Ms.cells, List.append_assoc]
 have := seg_set ((((w.r.map c32 ++ w.p.map mB) ++ w.a.map c32) ++ w.c.map c32) ++ [.int .u32 w.pc]) [] [w.f] (AV.int .u8) 41 0 v (by simp [h.r, h.p, h.a, h.c]) (by simp)
 rw [show w.cells = Ms.cells { w with f := w.f } from rfl, e, e]
 exact this
theorem Ms.all (w : Ms) : w.cells.all AV.isCell = true := by
 simp only [Ms.cells, List.all_append, List.all_map, Bool.and_eq_true, List.all_eq_true]
 refine ⟨fun _ _ => rfl, fun _ _ => rfl, fun _ _ => rfl, fun _ _ => rfl, ?_⟩
 intro x hx
 simp only [List.mem_cons, List.not_mem_nil, or_false] at hx
 rcases hx with rfl | rfl <;> rfl
/-- What stays of a packet under way. -/
structure Kin (p : Pk) (w : Ms) (m : AV) (z : Stp) : Prop where
 x : z.x = p.x
 e0 : z.e0 = p.e0
 e1 : z.e1 = p.e1
 was : z.was = w
 m : z.m = m
 ok : z.now.Ok
theorem ok_r {m : Ms} (h : m.Ok) (k : Nat) (v : Int) : Ms.Ok { m with r := m.r.set k v } := ⟨by rw [List.length_set]; exact h.r, h.p, h.a, h.c⟩
theorem ok_p {m : Ms} (h : m.Ok) (k : Nat) (v : Bool) : Ms.Ok { m with p := m.p.set k v } := ⟨h.r, by rw [List.length_set]; exact h.p, h.a, h.c⟩
theorem ok_a {m : Ms} (h : m.Ok) (k : Nat) (v : Int) : Ms.Ok { m with a := m.a.set k v } := ⟨h.r, h.p, by rw [List.length_set]; exact h.a, h.c⟩
theorem ok_c {m : Ms} (h : m.Ok) (k : Nat) (v : Int) : Ms.Ok { m with c := m.c.set k v } := ⟨h.r, h.p, h.a, by rw [List.length_set]; exact h.c⟩
theorem Kin.setR {p : Pk} {w : Ms} {m : AV} {z : Stp} (h : Kin p w m z) (k : Nat) (v : Int) : Kin p w m (z.setR k v) := ⟨h.x, h.e0, h.e1, h.was, h.m, ok_r h.ok k v⟩
theorem Kin.setP {p : Pk} {w : Ms} {m : AV} {z : Stp} (h : Kin p w m z) (k : Nat) (v : Bool) : Kin p w m (z.setP k v) := ⟨h.x, h.e0, h.e1, h.was, h.m, ok_p h.ok k v⟩
theorem Kin.setA {p : Pk} {w : Ms} {m : AV} {z : Stp} (h : Kin p w m z) (k : Nat) (v : Int) : Kin p w m (z.setA k v) := ⟨h.x, h.e0, h.e1, h.was, h.m, ok_a h.ok k v⟩
theorem Kin.setC {p : Pk} {w : Ms} {m : AV} {z : Stp} (h : Kin p w m z) (k : Nat) (v : Int) : Kin p w m (z.setC k v) := ⟨h.x, h.e0, h.e1, h.was, h.m, ok_c h.ok k v⟩
theorem Kin.setPC {p : Pk} {w : Ms} {m : AV} {z : Stp} (h : Kin p w m z) (v : Int) : Kin p w m (z.setPC v) := ⟨h.x, h.e0, h.e1, h.was, h.m, ⟨h.ok.r, h.ok.p, h.ok.a, h.ok.c⟩⟩
theorem Kin.setGo {p : Pk} {w : Ms} {m : AV} {z : Stp} (h : Kin p w m z) : Kin p w m z.setGo := ⟨h.x, h.e0, h.e1, h.was, h.m, h.ok⟩
theorem Kin.setPut {p : Pk} {w : Ms} {m : AV} {z : Stp} (h : Kin p w m z) (a n v : Int) : Kin p w m (z.setPut a n v) := ⟨h.x, h.e0, h.e1, h.was, h.m, h.ok⟩
theorem Kin.does {p : Pk} {w : Ms} {m : AV} {z : Stp} (h : Kin p w m z) (me : List ME) (L : List In) (next : Int) (i : In) : Kin p w m (doesF me L next i z) := by
 unfold doesF
 have hk : ∀ z', Kin p w m z' → Kin p w m (if i.op = 29 then z'.setR 31 next else z') := by
  intro z' hz
  split
  · exact hz.setR _ _
  · exact hz
 apply hk
 repeat' split
 all_goals first
  | exact h.setP _ _
  | exact h.setPut _ _ _
  | exact h.setR _ _
  | exact (h.setA _ _).setC _ _
  | exact ((h.setA _ _).setC _ _).setC _ _
  | exact (h.setPC _).setGo
  | exact h
theorem Kin.turns {p : Pk} {w : Ms} {m : AV} {z : Stp} (h : Kin p w m z) (next : Int) : Kin p w m (turnsF next z) := by
 unfold turnsF
 repeat' split
 · exact ((h.setPC _).setPC _).setC _ _
 · exact ((h.setPC _).setPC _).setC _ _
 · exact h.setPC _
section
variable {T : Tab}
set_option maxHeartbeats 16000000 in
theorem do_ran (hT : SmTab T) {s : St} (hs : WFS s) {p : Pk} {w : Ms} (hw : w.Ok) (hwr : ∀ x ∈ w.r, 0 ≤ x ∧ x < 4294967296) (hx : RdI s p.x p.L) (hxc : p.x.isCell = true) (hok : ∀ i ∈ p.L, i.ok = true) (hL : p.L.length ≤ 100) {pm r : Nat} {me : List ME} {c : Nat} (hm : MemAt s pm r me c) (next : Int) :
 Ran T 9 [.agg p.cells, .int .u32 next, .agg w.cells, mptr pm] s fun v s' => v = .tuple [.agg (doM p w me next (mptr pm)).1.cells, .agg (putC (doM p w me next (mptr pm)).2)] ∧ Ext s s' := by
 have hl := Ms.len hw
 have hall := Ms.all w
 have t42 : List.take 42 w.cells = w.cells := List.take_of_length_le (by omega)
 have rf := Ms.rd_f hw
 have tk : ∀ t, List.take 42 (w.cells ++ t) = w.cells := fun t => by rw [List.take_append_of_le_length (by omega)]; exact t42
 have dk : ∀ t, List.drop 84 (w.cells ++ t) = List.drop 42 t := fun t => by rw [List.drop_append, List.drop_eq_nil_of_le (by omega), List.nil_append, hl]
 have tk2 : ∀ t, List.take 84 (w.cells ++ (w.cells ++ t)) = w.cells ++ w.cells := fun t => by rw [← List.append_assoc, List.take_append_of_le_length (by rw [List.length_append]; omega), List.take_of_length_le (by rw [List.length_append]; omega)]
 have dk2 : ∀ t, List.drop 85 (w.cells ++ (w.cells ++ t)) = List.drop 1 t := fun t => by rw [← List.append_assoc, List.drop_append, List.drop_eq_nil_of_le (by rw [List.length_append]; omega), List.nil_append, List.length_append, hl]
 have hB : p.x :: .bool p.e0 :: .bool p.e1 :: .bool p.rw :: .bool p.du :: (w.cells ++ w.cells ++ [mptr pm, .bool false, .int .u32 0, .int .i64 0, .int .u32 0, .bool false]) = (stp0 p w (mptr pm)).cells := by
  simp [Stp.cells, Stp.head, Stp.tail, stp0, List.append_assoc]
 have d42 : List.drop w.cells.length (List.replicate 32 (AV.int .u32 0) ++ [.bool false, .bool false, .bool false, .bool false, .int .u32 0, .int .u32 0, .int .u32 0, .int .u32 0, .int .u32 0, .int .u8 0]) = [] := by rw [hl]; rfl
 have d42' : List.drop 42 w.cells = [] := List.drop_eq_nil_of_le (by omega)
 refine ran_code hT.Do (Nat.le_of_ble_eq_true rfl) ?_
 generalize hQ : Fin _ _ = Q
 by_cases hf : w.f = 0
 · obtain ⟨C0, hC0⟩ : ∃ C0 : List AV, C0 = List.replicate 32 (AV.int .u32 0) ++ [.bool false, .bool false, .bool false, .bool false, .int .u32 0, .int .u32 0, .int .u32 0, .int .u32 0, .int .u32 0, .int .u8 0] := ⟨_, rfl⟩
   have lC0 : C0.length = 42 := by rw [hC0]; rfl
   have dC0 : List.drop 42 C0 = [] := List.drop_eq_nil_of_le (by omega)
   obtain ⟨sA, hsA⟩ : ∃ sA, sA = (((((s.add (.cells p.cells 0 0 false)).add (.cells w.cells 0 0 false)).add (.cells C0 0 0 false)).add (.cells [.bool false, .int .u32 0, .int .i64 0, .int .u32 0] 0 0 false)).add (.cells (stp0 p w (mptr pm)).cells 0 0 false)) := ⟨_, rfl⟩
   have hEA : Ext s sA := by rw [hsA]; exact (((((Ext.refl hs).add _).add _).add _).add _).add _
   have nA : sA.next = s.next + 5 := by rw [hsA]; rfl
   have gA0 : sA.heap.get s.next = some (.cells p.cells 0 0 false) := by
    rw [hsA]
    repeat rw [add_get, if_neg (by first | (show ¬ s.next = s.next + 4; omega) | (show ¬ s.next = s.next + 3; omega) | (show ¬ s.next = s.next + 2; omega) | (show ¬ s.next = s.next + 1; omega))]
    rw [add_get]; exact if_pos rfl
   have gA1 : sA.heap.get (s.next + 1) = some (.cells w.cells 0 0 false) := by
    rw [hsA]
    repeat rw [add_get, if_neg (by first | (show ¬ s.next + 1 = s.next + 4; omega) | (show ¬ s.next + 1 = s.next + 3; omega) | (show ¬ s.next + 1 = s.next + 2; omega))]
    rw [add_get]; exact if_pos rfl
   have gA2 : sA.heap.get (s.next + 2) = some (.cells C0 0 0 false) := by
    rw [hsA]
    repeat rw [add_get, if_neg (by first | (show ¬ s.next + 2 = s.next + 4; omega) | (show ¬ s.next + 2 = s.next + 3; omega))]
    rw [add_get]; exact if_pos rfl
   have gA3 : sA.heap.get (s.next + 3) = some (.cells [.bool false, .int .u32 0, .int .i64 0, .int .u32 0] 0 0 false) := by
    rw [hsA]
    rw [add_get, if_neg (by show ¬ s.next + 3 = s.next + 4; omega), add_get]; exact if_pos rfl
   have gA4 : sA.heap.get (s.next + 4) = some (.cells (stp0 p w (mptr pm)).cells 0 0 false) := by rw [hsA, add_get]; exact if_pos rfl
   have hAt : At sA (s.next + 4) (stp0 p w (mptr pm)) := ⟨hEA.1, hw, hw, hwr, gA4⟩
   have l95 : (stp0 p w (mptr pm)).cells.length = 95 := Stp.len (z := stp0 p w (mptr pm)) hw hw
   have hfa := faults_ran hT hAt (hx.ext hEA) hok hL
   simp only [Pk.cells] at hsA gA0
   rw [hC0] at hsA
   simp only [ir9, Pk.cells, hl, t42, rf, hf, hxc, tk, dk, tk2, dk2, hB, l95, List.length_append, wr, seval]
   have hs' : _ = sA := hsA.symm
   simp only [List.replicate_succ, List.replicate_zero, List.cons_append, List.nil_append] at hs'
   rw [hs']
   refine goCall_by hfa ?_
   rintro v s1 ⟨rfl, hE1⟩
   have gB := fun k (hk : k < s.next + 5) => hE1.2.2 k (by rw [nA]; exact hk)
   have gB0 := (gB s.next (by omega)).trans gA0
   have gB1 := (gB (s.next + 1) (by omega)).trans gA1
   have gB2 := (gB (s.next + 2) (by omega)).trans gA2
   have gB3 := (gB (s.next + 3) (by omega)).trans gA3
   have n1 : s.next + 5 ≤ s1.next := by rw [← nA]; exact hE1.2.1
   have hE2 := hEA.trans hE1
   by_cases hff : faultsF w p.L p.L 0 = 0
   · have hff' : faultsF (stp0 p w (mptr pm)).was p.L p.L 0 = 0 := hff
     have hAt1 := hAt.ext hE1
     have hlp := len_op hx.lens
     have LL : ∀ (m q : Nat) (e : Env) (s2 : St) (z : Stp), m + q = p.L.length → At s2 (s.next + 4) z → Kin p w (mptr pm) z → Ext s s2 →
      alldoF me p.L next p.L (stp0 p w (mptr pm)) = alldoF me p.L next (p.L.drop q) z →
      s2.heap.get (s.next + 2) = some (.cells C0 0 0 false) → s2.heap.get (s.next + 3) = some (.cells [.bool false, .int .u32 0, .int .i64 0, .int .u32 0] 0 0 false) → s.next + 5 ≤ s2.next →
      opd e (.t 1) = .int .u32 next → opd e (.t 8) = .ptr ⟨s.next + 2, 0, 0, 42⟩ → opd e (.t 9) = .ptr ⟨s.next + 3, 0, 0, 4⟩ → opd e (.t 10) = sptr (s.next + 4) → opd e (.t 34) = p.x → opd e (.t 35) = .int .i64 (p.L.length : Int) → opd e (.t 36) = .int .i64 (q : Int) →
      Go T Q (sM9l0) [.block 0, .seq sM9l1] e s2 := by
      intro m
      induction m with
      | zero =>
       intro q e s2 z hm0 hz hk hE3 hal c2 c3 hn h1 h8 h9 h10 h34 h35 h36
       have hkq : ¬ (q : Int) < (p.L.length : Int) := by omega
       rw [List.drop_eq_nil_of_le (by omega)] at hal
       have hal' : alldoF me p.L next p.L (stp0 p w (mptr pm)) = z := hal
       have gz := hz.get
       have rgo := Stp.rd_go hz.wo hz.no
       have lz := Stp.len hz.wo hz.no
       have fin : ∀ (e : Env) (s3 : St) (z3 : Stp), At s3 (s.next + 4) z3 → Ext s s3 → z3 = (if z.go = true then z else turnsF next z) → s.next + 5 ≤ s3.next →
        opd e (.t 8) = .ptr ⟨s.next + 2, 0, 0, 42⟩ → opd e (.t 9) = .ptr ⟨s.next + 3, 0, 0, 4⟩ →
        Q .ret e ((s3.put (s.next + 2) (.cells z3.now.cells 0 0 false)).put (s.next + 3) (.cells [.bool z3.pis, .int .u32 z3.pat, .int .i64 z3.pn, .int .u32 z3.pv] 0 0 false)) := by
        intro e s3 z3 hz3 hE4 hz3e hn3 h8 h9
        have ln := Ms.len hz3.no
        have tn : List.take 42 z3.now.cells = z3.now.cells := List.take_of_length_le (by omega)
        have n23 : ¬ s.next + 2 = s.next + 3 := by omega
        subst hQ
        have hd : doM p w me next (mptr pm) = (z3.now, z3.pis, z3.pat, z3.pn, z3.pv) := by
         unfold doM
         rw [if_neg (by simp [hf]), if_neg (by simp [hff])]
         simp only [hal', ← hz3e]
        simp only [ir9, h8, h9, ln, tn, n23, wr, seval]
        rw [hd]
        exact ⟨rfl, Ext.put (Ext.put hE4 (by omega) (by omega) _) (by omega) (by show s.next + 3 < s3.next; omega) _⟩
       rw [go_loop]
       cases hgo : z.go with
       | true =>
        rw [hgo] at rgo
        have rn := Stp.rd_now hz.wo hz.no
        have rp := Stp.rd_put hz.wo hz.no
        have ln := Ms.len hz.no
        have an := Ms.all z.now
        have q1 : ¬ s.next + 4 = s.next + 2 := by omega
        have q2 : ¬ s.next + 3 = s.next + 2 := by omega
        simp only [h1, h8, h9, h10, h35, h36, hkq, gz, lz, rgo, rn, rp, ln, an, c2, c3, lC0, dC0, q1, q2, List.append_nil, goR_watch, watch_cons, watch_nil, wat_ptr, wat_map, sameObj_refl, Bool.and_self, true_and, wr, seval]
        refine fin _ s2 z hz hE3 (by rw [if_pos hgo]) hn ?_ ?_
        all_goals simp only [h8, h9, wr, seval]
       | false =>
        rw [hgo] at rgo
        simp only [h1, h8, h9, h10, h35, h36, hkq, gz, lz, rgo, wr, seval]
        refine goCall_by (turns_ran hT hz next) ?_
        rintro v s3 ⟨rfl, hO, hg3⟩
        have hk3 := hk.turns next
        have hz3 : At s3 (s.next + 4) (turnsF next z) := hz.put hO (by rw [hk3.was, hk.was]) hk3.ok hg3
        have hE4 : Ext s s3 := Only.ext2 hE3 hO (by omega)
        have n3 : s.next + 5 ≤ s3.next := Nat.le_trans hn hO.2.1
        have d2 := (hO.2.2 (s.next + 2) (by omega) (by omega)).trans c2
        have d3 := (hO.2.2 (s.next + 3) (by omega) (by omega)).trans c3
        have rn := Stp.rd_now hz3.wo hz3.no
        have rp := Stp.rd_put hz3.wo hz3.no
        have l3 := Stp.len hz3.wo hz3.no
        have ln := Ms.len hz3.no
        have an := Ms.all (turnsF next z).now
        have q1 : ¬ s.next + 4 = s.next + 2 := by omega
        have q2 : ¬ s.next + 3 = s.next + 2 := by omega
        simp only [h8, h9, h10, hg3, l3, rn, rp, ln, an, d2, d3, lC0, dC0, q1, q2, List.append_nil, goR_watch, watch_cons, watch_nil, wat_ptr, wat_map, sameObj_refl, Bool.and_self, true_and, wr, seval]
        refine fin _ s3 _ hz3 hE4 (by rw [if_neg (by rw [hgo]; decide)]) n3 ?_ ?_
        all_goals simp only [h8, h9, wr, seval]
      | succ m ih =>
       intro q e s2 z hm0 hz hk hE3 hal c2 c3 hn h1 h8 h9 h10 h34 h35 h36
       have hkq : (q : Int) < (p.L.length : Int) := by omega
       obtain ⟨i, hi⟩ : ∃ i, p.L[q]? = some i := ⟨_, List.getElem?_eq_getElem (by omega)⟩
       have hik := hok i (List.mem_of_getElem? hi)
       obtain ⟨iid, lo, inc', inc, lim, cap, ex, ro, cs, hzx, g1, g2, g3, g4, g5, g6⟩ := (hx.ext hE3).at hi
       have hdrop : p.L.drop q = i :: p.L.drop (q + 1) := by
        obtain ⟨hq, he⟩ := List.getElem?_eq_some_iff.1 hi
        rw [List.drop_eq_getElem_cons hq, he]
       have w1 : wrapF .i64 ((q : Int) + 1) = ((q + 1 : Nat) : Int) := by rw [wrap_i64 _ (by omega) (by omega)]; omega
       have hE0 : Ext s2 (s2.add (.cells i.cells 0 0 false)) := .add (.refl hE3.1) _
       have hE4 := hE3.trans hE0
       have hz2 := hz.ext hE0
       have hxz : RdI (s2.add (.cells i.cells 0 0 false)) z.x p.L := by rw [hk.x]; exact hx.ext hE4
       have hdue := due_ran hT hz2 hxz hok hL hik
       rw [hzx] at h34
       have gi : (s2.add (.cells i.cells 0 0 false)).heap.get s2.next = some (.cells i.cells 0 0 false) := by rw [add_get, if_pos rfl]
       rw [go_loop]
       simp only [In.cells] at g5 hE4 hz2 gi hdue hE0
       simp only [h1, h10, h34, h35, h36, hkq, g1, g2, g3, g4, g5, g6, In.cells, wr, seval]
       refine goCall_by hdue ?_
       rintro v s3 ⟨rfl, hE5⟩
       have gi3 := (hE5.2.2 s2.next (Nat.lt_succ_self _)).trans gi
       have hE6 := hE4.trans hE5
       have hE56 := hE0.trans hE5
       have hz3 := hz2.ext hE5
       have c2' := (hE56.2.2 (s.next + 2) (by omega)).trans c2
       have c3' := (hE56.2.2 (s.next + 3) (by omega)).trans c3
       have n3 : s.next + 5 ≤ s3.next := Nat.le_trans hn hE56.2.1
       cases hdu : dueF z.was p.L i with
       | false =>
        simp only [h1, h8, h9, h10, h34, h35, h36, wr, seval]
        refine ih (q + 1) _ s3 z (by omega) hz3 hk hE6 ?_ c2' c3' n3 ?_ ?_ ?_ ?_ ?_ ?_ ?_
        · rw [hal, hdrop]; simp only [alldoF, hdu, Bool.false_eq_true, if_false]
        all_goals simp only [h1, h8, h9, h10, h34, h35, h36, w1, hzx, wr, seval]
       | true =>
        have hdo := does_ran hT hz3 (by rw [hk.x]; exact hx.ext hE6) hok hL (hm.ext hE6) hk.m hik next
        simp only [In.cells] at hdo
        simp only [h1, h8, h9, h10, h34, h35, h36, gi3, wr, seval]
        refine goCall_by hdo ?_
        rintro v s4 ⟨rfl, hO, hg4⟩
        have hk4 := hk.does me p.L next i
        have hz4 : At s4 (s.next + 4) (doesF me p.L next i z) := hz3.put hO (by rw [hk4.was, hk.was]) hk4.ok hg4
        have hE7 : Ext s s4 := Only.ext2 hE6 hO (by omega)
        have d2 := (hO.2.2 (s.next + 2) (by omega) (by omega)).trans c2'
        have d3 := (hO.2.2 (s.next + 3) (by omega) (by omega)).trans c3'
        have n4 : s.next + 5 ≤ s4.next := Nat.le_trans n3 hO.2.1
        simp only [h1, h8, h9, h10, h34, h35, h36, wr, seval]
        refine ih (q + 1) _ s4 _ (by omega) hz4 hk4 hE7 ?_ d2 d3 n4 ?_ ?_ ?_ ?_ ?_ ?_ ?_
        · rw [hal, hdrop]; simp only [alldoF, hdu, if_true]
        all_goals simp only [h1, h8, h9, h10, h34, h35, h36, w1, hzx, wr, seval]
     simp only [hff', gB0, hlp, wr, seval]
     refine LL p.L.length 0 _ s1 (stp0 p w (mptr pm)) (by omega) hAt1 ⟨rfl, rfl, rfl, rfl, rfl, hw⟩ hE2 (by rw [List.drop_zero]) gB2 gB3 n1 ?_ ?_ ?_ ?_ ?_ ?_ ?_
     all_goals simp only [wr, seval]
     all_goals rfl
   · have hff' : ¬ faultsF (stp0 p w (mptr pm)).was p.L p.L 0 = 0 := hff
     have wf := Ms.wr_f hw (faultsF (stp0 p w (mptr pm)).was p.L p.L 0)
     have nn1 : ¬ s.next + 1 = s.next + 2 := by omega
     have lw := Ms.len (m := { w with f := faultsF (stp0 p w (mptr pm)).was p.L p.L 0 }) ⟨hw.r, hw.p, hw.a, hw.c⟩
     have aw := Ms.all { w with f := faultsF (stp0 p w (mptr pm)).was p.L p.L 0 }
     have tw : ∀ l : List AV, l.length = 42 → List.take 42 l = l := fun l h => List.take_of_length_le (by omega)
     have tw1 := tw _ lw
     simp only [hff', gB1, gB2, gB3, wf, hl, lw, aw, tw1, lC0, wr, seval]
     subst hQ
     have hd : doM p w me next (mptr pm) = ({ w with f := faultsF w p.L p.L 0 }, false, 0, 0, 0) := by
      unfold doM
      rw [if_neg (by simp [hf]), if_pos hff]
     simp only [ir9, gB1, gB2, gB3, hl, lw, tw1, dC0, List.append_nil, wr, seval]
     rw [hd]
     exact ⟨rfl, Ext.put (Ext.put (Ext.put hE2 (by omega) (by omega) _) (by omega) (by show s.next + 2 < s1.next; omega) _) (by omega) (by show s.next + 3 < s1.next; omega) _⟩
 · simp only [ir9, Pk.cells, hl, hall, t42, rf, hf, hxc, List.drop_nil, wr, seval]
   subst hQ
   simp only [ir9, hl, t42, wr, seval]
   have hd : doM p w me next (mptr pm) = (w, false, 0, 0, 0) := by
    unfold doM
    rw [if_pos hf]
   rw [hd]
   exact ⟨rfl, ((((Ext.refl hs).add _).add _).add _).add _⟩
end
end Go.V
/- Acts; a memory that acts have made. -/
namespace Go.V
open Go
set_option linter.unusedSimpArgs false
set_option linter.unusedVariables false
section
open Z
abbrev sMGl2 : ICode := .seq (R [(m 66 3),(m 2 66)]) .ret
abbrev sMGl0 : ICode := .loop (q (q (R [(m 7 3),(m 8 0),(o 9 (.lenSl t8)),(o 10 (.bin .lss t7 t9))]) (.cond t10 .skip (.exit 0))) (q (.block 1 (q (R [(m 13 0),(m 14 3),(ix 15 5 13 14),(f 16 4 15),(l 17 1 16),(o 18 (.lenStr t17)),(o 19 (.bin .gtr t18 (I 60)))]) (.cond t19 (q (R [(o 2 (.move T))]) .ret) .skip))) (R [(m 11 3),(o 12 (.bin .add t11 (I 1))),(m 3 12)])))
abbrev sMGl1 : ICode := .loop (q (q (R [(m 6 4),(m 7 0),(o 8 (.lenSl t7)),(o 9 (.bin .lss t6 t8))]) (.cond t9 .skip (.exit 0))) (q (.block 1 (q (R [(m 12 0),(m 13 4),(ix 14 5 12 13),(f 15 0 14),(l 16 1 15)]) (.block 2 (q (R [(o 18 (.bin .eql t16 (B 0))),(m 17 18)]) (.cond t17 (.regionP [(m 19 3),(m 20 0),(m 21 4),(ix 22 5 20 21),(f 23 1 22),(l 24 1 23),(m 25 0),(m 26 4),(ix 27 5 25 26),(f 28 3 27),(l 29 1 28),(o 30 (.conv (.intInt .u8) t29)),(o 31 (.call 19 [t19,t24,t30]))]) (q (R [(o 33 (.bin .eql t16 (B 1))),(m 32 33)]) (.cond t32 (.regionP [(m 34 3),(m 35 0),(m 36 4),(ix 37 5 35 36),(f 38 1 37),(l 39 1 38),(m 40 0),(m 41 4),(ix 42 5 40 41),(f 43 2 42),(l 44 1 43),(m 45 0),(m 46 4),(ix 47 5 45 46),(f 48 3 47),(l 49 1 48),(o 50 (.call 20 [t34,t39,t44,t49]))]) (q (R [(o 52 (.bin .eql t16 (B 3))),(m 51 52)]) (.cond t51 (.regionP [(m 53 3),(m 54 0),(m 55 4),(ix 56 5 54 55),(f 57 1 56),(l 58 1 57),(m 59 0),(m 60 4),(ix 61 5 59 60),(f 62 4 61),(l 63 1 62),(o 64 (.conv .strBytes t63)),(o 65 (.call 21 [t53,t58,t64]))]) .skip))))))))) (R [(m 10 4),(o 11 (.bin .add t10 (I 1))),(m 4 11)])))
end
open Z in def ir5 : IFunc := ⟨20,[.tmp 2],(q (R [(o 2 (.move F))]) (q (q (R [(m 4 0),(o 5 (.lenSl t4)),(o 6 (.bin .gtr t5 (I 60)))]) (.cond t6 (q (R [(o 2 (.move T))]) .ret) .skip)) (q (q (R [(mi 3 0)]) (.block 0 sMGl0)) lG7l1)))⟩
open Z in def ir8 : IFunc := ⟨67,[.tmp 2],(q (R [(o 2 (.move (.c .nilPtr)))]) (q (R [(o 5 (.call 18 [])),(m 3 5)]) (q (q (R [(mi 4 0)]) (.block 0 sMGl1)) sMGl2)))⟩
structure Act where
 d : Nat
 k : Nat
 n : Int
 v : Nat
 b : List UInt8
def actC (a : Act) : List AV := [.int .u8 (a.d : Int), .int .u32 (a.k : Int), .int .i64 a.n, .int .u32 (a.v : Int), .str a.b]
def ActOk (a : Act) : Prop := a.k < 4294967296 ∧ a.v < 4294967296 ∧ a.d < 256
/-- Acts that came in. -/
structure Acts (bnd : Nat) (s : St) (x : AV) (l : List Act) : Prop where
 ok : ∀ a ∈ l, ActOk a
 sl : (l.length = 0 ∧ (x = .nilSlice ∨ x = .empty)) ∨ (0 < l.length ∧ ∃ id cap, x = .slice ⟨id, 0, 0, l.length * 5⟩ l.length cap true 5 ∧ id < bnd ∧ id < s.next ∧ s.heap.get id = some (.cells (l.flatMap actC) 0 0 true))
theorem Acts.ext {bnd : Nat} {s s' : St} {x : AV} {l : List Act} (h : Acts bnd s x l) (he : Ext s s') : Acts bnd s' x l := by
 refine ⟨h.ok, ?_⟩
 rcases h.sl with h | ⟨h0, id, cap, h1, h2, h3, h4⟩
 · exact .inl h
 · exact .inr ⟨h0, id, cap, h1, h2, Nat.lt_of_lt_of_le h3 he.2.1, by rw [he.2.2 id h3]; exact h4⟩
theorem Acts.only {bnd r : Nat} {s s' : St} {x : AV} {l : List Act} (h : Acts bnd s x l) (hr : bnd ≤ r) (he : OnlyM r s s') : Acts bnd s' x l := by
 refine ⟨h.ok, ?_⟩
 rcases h.sl with h | ⟨h0, id, cap, h1, h2, h3, h4⟩
 · exact .inl h
 · exact .inr ⟨h0, id, cap, h1, h2, Nat.lt_of_lt_of_le h3 he.next, by rw [he.same id h3 (by omega)]; exact h4⟩
theorem act_take (l : List Act) (i : Nat) (a : Act) (h : l[i]? = some a) : List.take 5 (List.drop (i * 5) (l.flatMap actC)) = [.int .u8 (a.d : Int), .int .u32 (a.k : Int), .int .i64 a.n, .int .u32 (a.v : Int), .str a.b] :=
 take_w (f := actC) (fun _ => rfl) l i a h
theorem act_take4 (l : List Act) (i : Nat) (a : Act) (h : l[i]? = some a) : List.take 1 (List.drop (i * 5 + 4) (l.flatMap actC)) = [.str a.b] := by
 have := congrArg (List.drop 4) (act_take l i a h)
 rw [List.drop_take, List.drop_drop] at this
 exact this
theorem storeN_clk (k v : Nat) (p : List ME × Nat) : ∀ n, (storeN k v n p).2 ≤ p.2 + n
 | 0 => Nat.le_refl _
 | n + 1 => by
  have := storeN_clk k v p n
  have := mput_clk (storeN k v n p).1 (storeN k v n p).2 (k + n) (v / 256 ^ n % 256)
  simp only [storeN]; omega
theorem loadN_clk (k : Nat) (bs : List UInt8) (p : List ME × Nat) : ∀ n, (loadN k bs n p).2 ≤ p.2 + n
 | 0 => Nat.le_refl _
 | n + 1 => by
  have := loadN_clk k bs p n
  have := mput_clk (loadN k bs n p).1 (loadN k bs n p).2 (k + n) (bs.getD n 0).toNat
  simp only [loadN]; omega
section
variable {T : Tab}
def great (l : List Act) : Bool := decide (60 < l.length) || l.any fun a => decide (60 < a.b.length)
set_option maxHeartbeats 4000000 in
theorem great_loop {Q : Post} {s : St} {bnd : Nat} {x : AV} {l : List Act} (hl : l.length ≤ 60) (hx : Acts bnd s x l)
 (Kf : (l.any fun a => decide (60 < a.b.length)) = false → ∀ e : Env, Ret T Q [.seq lG7l1] .normal e s) (Kt : (l.any fun a => decide (60 < a.b.length)) = true → ∀ e : Env, opd e (.t 2) = .bool true → Ret T Q [.seq lG7l1] .ret e s) :
 ∀ (m i : Nat) (e : Env), m + i = l.length → ((l.take i).any fun a => decide (60 < a.b.length)) = false → opd e (.t 0) = x → opd e (.t 3) = .int .i64 (i : Int) →
  Go T Q (sMGl0) [.block 0, .seq lG7l1] e s := by
 intro m
 induction m with
 | zero =>
  intro i e hm ht h0 h3
  have hin : i = l.length := by omega
  subst hin
  rw [List.take_length] at ht
  have hK := Kf ht
  rw [go_loop]
  generalize ([.seq lG7l1] : List Fr) = FF at *
  rcases hx.sl with ⟨hl0, rfl | rfl⟩ | ⟨hz, id, cap, rfl, _⟩
  · simp only [h0, h3, hl0, hK, wr, seval]
  · simp only [h0, h3, hl0, hK, wr, seval]
  · simp only [h0, h3, hK, wr, seval]
 | succ m ih =>
  intro i e hm ht h0 h3
  have hi : i < l.length := by omega
  rcases hx.sl with ⟨hl0, _⟩ | ⟨hz, id, cap, rfl, _, _, hrow⟩
  · omega
  obtain ⟨a, ha⟩ : ∃ x, l[i]? = some x := ⟨_, List.getElem?_eq_getElem hi⟩
  have hld := act_take4 l i a ha
  have hc : (i : Int) < (l.length : Int) := by omega
  have hi5 : i * 5 + 5 ≤ l.length * 5 := by omega
  have u5 : wrapF .i64 ((i : Int) + 1) = ((i + 1 : Nat) : Int) := i64_add1 (by omega)
  rw [go_loop]
  by_cases hg : 60 < a.b.length
  · have hg' : (60 : Int) < (a.b.length : Int) := by omega
    have hKt := Kt (List.any_eq_true.2 ⟨a, List.mem_of_getElem? ha, by simpa using hg⟩)
    generalize ([.seq lG7l1] : List Fr) = FF at *
    simp only [h0, h3, hc, hi, hi5, hrow, hld, hg', u5, wr, seval]
    exact hKt _ (by simp only [wk, wk1, Nat.reduceEqDiff, reduceIte, decide_true])
  · have hg' : ¬ (60 : Int) < (a.b.length : Int) := by omega
    simp only [h0, h3, hc, hi, hi5, hrow, hld, hg', u5, wr, seval]
    refine ih (i + 1) _ (by omega) ?_ ?_ ?_
    · rw [List.take_add_one, ha, List.any_append, ht]; simp [hg]
    all_goals simp only [h0, h3, u5, wk, wk1, Nat.reduceEqDiff, reduceIte, decide_true]
theorem agreat_ran (hc : T 5 = some (.code ir5)) {s : St} {bnd : Nat} {x : AV} {l : List Act} (hx : Acts bnd s x l) :
 Ran T 5 [x] s fun v s' => s' = s ∧ v = .bool (great l) := by
 refine ran_code hc (Nat.le_of_ble_eq_true rfl) ?_
 by_cases hl : l.length ≤ 60
 · generalize hQ : Fin _ _ = Q
   have hd : decide (60 < l.length) = false := decide_eq_false (by omega)
   have hl' : ¬ (60 : Int) < (l.length : Int) := by omega
   have hlp := great_loop (T := T) (Q := Q) hl hx ?_ ?_ l.length 0
   · rcases hx.sl with ⟨hl0, rfl | rfl⟩ | ⟨hz, id, cap, rfl, _⟩
     · simp only [ir5, wr, seval]
       refine hlp _ (by omega) rfl ?_ ?_ <;> simp only [wk, wk1, Nat.reduceEqDiff, reduceIte, decide_true] <;> rfl
     · simp only [ir5, wr, seval]
       refine hlp _ (by omega) rfl ?_ ?_ <;> simp only [wk, wk1, Nat.reduceEqDiff, reduceIte, decide_true] <;> rfl
     · simp only [ir5, hl', wr, seval]
       refine hlp _ (by omega) rfl ?_ ?_ <;> simp only [wk, wk1, Nat.reduceEqDiff, reduceIte, decide_true] <;> rfl
   · intro h e
     subst hQ
     simp only [ir5, wr, seval]
     simp [great, hd, h]
   · intro h e h2
     subst hQ
     simp only [ir5, h2, wr, seval]
     simp only [great, hd, h, Bool.false_or]
 · have hl' : (60 : Int) < (l.length : Int) := by omega
   have hd : decide (60 < l.length) = true := decide_eq_true (by omega)
   rcases hx.sl with ⟨hl0, rfl | rfl⟩ | ⟨hz, id, cap, rfl, _⟩
   · omega
   · omega
   · simp only [ir5, hl', wr, seval]
     simp [great, hd]
structure MoTab (T : Tab) : Prop where
 new : T 18 = some (.code ir18)
 Put : T 19 = some (.code ir19)
 put : T 50 = some (.code ir50)
 store : T 20 = some (.code ir20)
 load : T 21 = some (.code ir21)
 may : T 51 = some (.code ir51)
 memory : T 8 = some (.code ir8)
 great : T 5 = some (.code ir5)
theorem act_one (l : List Act) (i : Nat) (a : Act) (h : l[i]? = some a) : List.take 1 (List.drop (i * 5) (l.flatMap actC)) = [.int .u8 (a.d : Int)] ∧ List.take 1 (List.drop (i * 5 + 1) (l.flatMap actC)) = [.int .u32 (a.k : Int)] ∧ List.take 1 (List.drop (i * 5 + 2) (l.flatMap actC)) = [.int .i64 a.n] ∧ List.take 1 (List.drop (i * 5 + 3) (l.flatMap actC)) = [.int .u32 (a.v : Int)] ∧ List.take 1 (List.drop (i * 5 + 4) (l.flatMap actC)) = [.str a.b] := by
 have key : ∀ j v, j < 5 → (actC a)[j]? = some v → List.take 1 (List.drop (i * 5 + j) (l.flatMap actC)) = [v] := by
  intro j v hj hv
  have h1 := act_take l i a h
  have h2 : (List.take 5 (List.drop (i * 5) (l.flatMap actC)))[j]? = some v := by rw [h1]; exact hv
  rw [List.getElem?_take_of_lt hj, List.getElem?_drop] at h2
  obtain ⟨h3, h4⟩ := List.getElem?_eq_some_iff.1 h2
  rw [List.drop_eq_getElem_cons h3, h4]
  rfl
 exact ⟨key 0 _ (by omega) rfl, key 1 _ (by omega) rfl, key 2 _ (by omega) rfl, key 3 _ (by omega) rfl, key 4 _ (by omega) rfl⟩
set_option maxHeartbeats 8000000 in
theorem memory_ran (hT : MoTab T) {s : St} (hs : WFS s) {bnd : Nat} {x : AV} {l : List Act} (hl : l.length ≤ 60) (hb : ∀ a ∈ l, a.b.length ≤ 60) (hx : Acts bnd s x l) (hbn : bnd ≤ s.next) :
 Ran T 8 [x] s fun v s' => ∃ pm r L c, v = mptr pm ∧ s.next ≤ pm ∧ s.next ≤ r ∧ c ≤ 3600 ∧ MemAt s' pm r L c ∧ Ext s s' := by
 refine ran_code hT.memory (Nat.le_of_ble_eq_true rfl) ?_
 generalize hQ : Fin _ _ = Q
 simp only [ir8, wr, seval]
 refine goCall_by (mnew_ran hT.new s hs) ?_
 rintro v s0 ⟨pm, r, rfl, hpm, hr, hM0, hE0⟩
 have LL : ∀ (m i : Nat) (e : Env) (s1 : St) (L : List ME) (c : Nat), m + i = l.length → MemAt s1 pm r L c → c ≤ 60 * i → Ext s s1 → opd e (.t 0) = x → opd e (.t 3) = mptr pm → opd e (.t 4) = .int .i64 (i : Int) →
  Go T Q (sMGl1) [.block 0, .seq sMGl2] e s1 := by
  intro m
  induction m with
  | zero =>
   intro i e s1 L c hm hM hcl hE h0 h3 h4
   have hin : i = l.length := by omega
   subst hin
   rw [go_loop]
   have K : ∀ e', opd e' (.t 2) = mptr pm → Q .ret e' s1 := by
    intro e' h2
    subst hQ
    simp only [ir8, h2, wr, seval]
    exact ⟨pm, r, L, c, rfl, hpm, hr, by omega, hM, hE⟩
   rcases hx.sl with ⟨hl0, rfl | rfl⟩ | ⟨hz, id, cap, rfl, _⟩
   · simp only [h0, h3, h4, hl0, wr, seval]
     exact K _ (by simp only [wk, wk1, Nat.reduceEqDiff, reduceIte, decide_true])
   · simp only [h0, h3, h4, hl0, wr, seval]
     exact K _ (by simp only [wk, wk1, Nat.reduceEqDiff, reduceIte, decide_true])
   · simp only [h0, h3, h4, wr, seval]
     exact K _ (by simp only [wk, wk1, Nat.reduceEqDiff, reduceIte, decide_true])
  | succ m ih =>
   intro i e s1 L c hm hM hcl hE h0 h3 h4
   have hi : i < l.length := by omega
   have hxs := hx.ext hE
   rcases hxs.sl with ⟨hl0, _⟩ | ⟨hz, id, cap, rfl, _, _, hrow⟩
   · omega
   obtain ⟨a, ha⟩ : ∃ x, l[i]? = some x := ⟨_, List.getElem?_eq_getElem hi⟩
   have hal := List.mem_of_getElem? ha
   obtain ⟨k1, k2, k3⟩ := hx.ok a hal
   have k4 := hb a hal
   obtain ⟨o0, o1, o2, o3, o4⟩ := act_one l i a ha
   have hc : (i : Int) < (l.length : Int) := by omega
   have hi5 : i * 5 + 5 ≤ l.length * 5 := by omega
   have hi1 : i * 5 + 1 ≤ l.length * 5 := by omega
   have hi2 : i * 5 + 2 ≤ l.length * 5 := by omega
   have hi3 : i * 5 + 3 ≤ l.length * 5 := by omega
   have hi4 : i * 5 + 4 ≤ l.length * 5 := by omega
   have u5 : wrapF .i64 ((i : Int) + 1) = ((i + 1 : Nat) : Int) := i64_add1 (by omega)
   have hO2 : ∀ s2, OnlyM r s1 s2 → Ext s s2 := fun s2 hO => ⟨hO.wfs, Nat.le_trans hE.2.1 hO.next, fun id h1 => (hO.same id (Nat.lt_of_lt_of_le h1 hE.2.1) (by omega)).trans (hE.2.2 id h1)⟩
   rw [go_loop]
   by_cases d0 : a.d = 0
   · have d0' : (a.d : Int) = 0 := by omega
     have u1 : (a.v : Int) % 256 = ((a.v % 256 : Nat) : Int) := by omega
     rw [d0'] at o0
     simp only [h0, h3, h4, hc, hi, hi5, hrow, o0, o1, o2, o3, o4, u1, hi1, hi2, hi3, hi4, pw_normal, wr, seval]
     refine goCall_by (Put_ran hT.Put hT.put hM a.k (a.v % 256)) ?_
     rintro _ s2 ⟨rfl, hs2⟩
     have hM2 := hM.put (b := a.v % 256) k1 (by omega)
     have hO := OnlyM.put hM.wfs hM.lt2 (.map (ments (mput L c a.k (a.v % 256)).1) (mput L c a.k (a.v % 256)).2)
     rw [← hs2] at hM2 hO
     have hcl2 := mput_clk L c a.k (a.v % 256)
     simp only [h0, h3, h4, u5, pw_normal, wr, seval]
     refine ih (i + 1) _ _ _ _ (by omega) hM2 (by omega) (hO2 _ hO) ?_ ?_ ?_ <;> simp only [h0, h3, h4, u5, wk, wk1, Nat.reduceEqDiff, reduceIte, decide_true]
   · have d0' : ¬ (a.d : Int) = 0 := by omega
     by_cases d1 : a.d = 1
     · have d1' : (a.d : Int) = 1 := by omega
       rw [d1'] at o0
       simp only [h0, h3, h4, hc, hi, hi5, hrow, o0, o1, o2, o3, o4, hi1, hi2, hi3, hi4, pw_normal, wr, seval]
       refine goCall_by (mstore_ran hT.store hT.may hT.put hM a.k a.v k1 a.n) ?_
       intro v s2 h2
       cases hr2 : rightW a.k a.n with
       | true =>
        rw [if_pos hr2] at h2
        obtain ⟨rfl, hM2, hO⟩ := h2
        obtain ⟨m', hm', hm4, _⟩ := rightW_n hr2
        have hcl2 := storeN_clk a.k a.v (L, c) a.n.toNat
        simp only [h0, h3, h4, u5, pw_normal, wr, seval]
        refine ih (i + 1) _ _ _ _ (by omega) hM2 (by simp only [] at hcl2; omega) (hO2 _ hO) ?_ ?_ ?_ <;> simp only [h0, h3, h4, u5, wk, wk1, Nat.reduceEqDiff, reduceIte, decide_true]
       | false =>
        rw [if_neg (by simp [hr2])] at h2
        obtain ⟨rfl, rfl⟩ := h2
        simp only [h0, h3, h4, u5, pw_normal, wr, seval]
        refine ih (i + 1) _ _ _ _ (by omega) hM (by omega) hE ?_ ?_ ?_ <;> simp only [h0, h3, h4, u5, wk, wk1, Nat.reduceEqDiff, reduceIte, decide_true]
     · have d1' : ¬ (a.d : Int) = 1 := by omega
       by_cases d3 : a.d = 3
       · have d3' : (a.d : Int) = 3 := by omega
         have hsb : a.b.length * 65536 ≤ 1099511627776 := by omega
         rw [d3'] at o0
         simp only [h0, h3, h4, hc, hi, hi5, hrow, o0, o1, o2, o3, o4, hi1, hi2, hi3, hi4, wo_strBytes, strB, hsb, pw_normal, wr, seval]
         have hE2 : Ext s1 _ := (Ext.refl hM.wfs).add (.cells (a.b.map fun b => .int .u8 b.toNat) 0 0 false)
         have hM2 := hM.ext hE2
         have hB : (s1.add (.cells (a.b.map fun b => .int .u8 b.toNat) 0 0 false)).heap.get s1.next = some (.cells (a.b.map fun b => .int .u8 b.toNat) 0 0 false) := by
          rw [add_get, if_pos rfl]
         refine goCall_by (mload_ran hT.load hT.put hM2 a.k k1 a.b (by omega) hB (by have := hM.lt2; omega) (by show s1.next < s1.next + 1; omega)) ?_
         intro v s2 h2
         by_cases hfit : a.k + a.b.length ≤ 4294967296
         · rw [if_pos hfit] at h2
           obtain ⟨rfl, hM3, hO3⟩ := h2
           have hcl2 := loadN_clk a.k a.b (L, c) a.b.length
           simp only [h0, h3, h4, u5, pw_normal, wr, seval]
           refine ih (i + 1) _ _ _ _ (by omega) hM3 (by simp only [] at hcl2; omega) (hO2 _ ((OnlyM.ext hE2).trans hO3)) ?_ ?_ ?_ <;> simp only [h0, h3, h4, u5, wk, wk1, Nat.reduceEqDiff, reduceIte, decide_true]
         · rw [if_neg hfit] at h2
           obtain ⟨rfl, rfl⟩ := h2
           simp only [h0, h3, h4, u5, pw_normal, wr, seval]
           refine ih (i + 1) _ _ _ _ (by omega) hM2 (by omega) (hE.trans hE2) ?_ ?_ ?_ <;> simp only [h0, h3, h4, u5, wk, wk1, Nat.reduceEqDiff, reduceIte, decide_true]
       · have d3' : ¬ (a.d : Int) = 3 := by omega
         simp only [h0, h3, h4, hc, hi, hi5, hrow, o0, hi1, d0', d1', d3', u5, pw_normal, wr, seval]
         refine ih (i + 1) _ _ _ _ (by omega) hM (by omega) hE ?_ ?_ ?_ <;> simp only [h0, h3, h4, u5, wk, wk1, Nat.reduceEqDiff, reduceIte, decide_true]
 simp only [wr, seval]
 refine LL l.length 0 _ s0 [] 0 (by omega) hM0 (by omega) hE0 ?_ ?_ ?_ <;> simp only [wk, wk1, Nat.reduceEqDiff, reduceIte, decide_true] <;> rfl
end
end Go.V
