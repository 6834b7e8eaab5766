/- TraceSays: what is said tells the state; lines are as they should be. -/
import Derived.Test.YtipcimefenpjhaaGreatDoorTS6
set_option linter.unusedVariables false
set_option linter.unusedSimpArgs false
set_option linter.unusedSectionVars false
/- TraceSays: what is said tells the state; lines are as they should be. -/
namespace Go.V
open Go
set_option linter.unusedSimpArgs false
set_option linter.unusedVariables false
def linesE (l : List (List UInt8 × Option (List UInt8))) : List (List UInt8) := l.filterMap fun p => p.2.map fun v => p.1 ++ 61 :: v
theorem linesE_append (a b : List (List UInt8 × Option (List UInt8))) : linesE (a ++ b) = linesE a ++ linesE b := by simp [linesE]
theorem split_eq : ∀ {a b x y : List UInt8}, (61 : UInt8) ∉ a → (61 : UInt8) ∉ b → a ++ 61 :: x = b ++ 61 :: y → a = b ∧ x = y
  | [], [], x, y, _, _, h => ⟨rfl, by simpa using h⟩
  | [], c :: b, x, y, _, hb, h => by
    simp only [List.nil_append, List.cons_append, List.cons.injEq] at h
    exact absurd (by rw [h.1]; exact List.mem_cons_self) hb
  | c :: a, [], x, y, ha, _, h => by
    simp only [List.nil_append, List.cons_append, List.cons.injEq] at h
    exact absurd (by rw [← h.1]; exact List.mem_cons_self) ha
  | c :: a, d :: b, x, y, ha, hb, h => by
    simp only [List.cons_append, List.cons.injEq] at h
    obtain ⟨h1, h2⟩ := split_eq (fun e => ha (List.mem_cons_of_mem _ e)) (fun e => hb (List.mem_cons_of_mem _ e)) h.2
    exact ⟨by rw [h.1, h1], h2⟩
theorem linesE_inj : ∀ {ns : List (List UInt8)} {V W : List (Option (List UInt8))}, ns.Nodup → (∀ n ∈ ns, (61 : UInt8) ∉ n) → V.length = ns.length → W.length = ns.length → linesE (ns.zip V) = linesE (ns.zip W) → V = W
  | [], V, W, _, _, h1, h2, _ => by
    rw [List.length_eq_zero_iff.1 h1, List.length_eq_zero_iff.1 h2]
  | n :: ns, [], _, _, _, h1, _, _ => by simp at h1
  | n :: ns, _ :: _, [], _, _, _, h2, _ => by simp at h2
  | n :: ns, v :: V, w :: W, hn, hc, h1, h2, h => by
    obtain ⟨hn1, hn2⟩ := List.nodup_cons.1 hn
    have hc' : ∀ n ∈ ns, (61 : UInt8) ∉ n := fun m hm => hc m (List.mem_cons_of_mem _ hm)
    have hnc := hc n List.mem_cons_self
    have key : ∀ (U : List (Option (List UInt8))) (a : List UInt8) (r : List (List UInt8)), linesE (ns.zip U) = (n ++ 61 :: a) :: r → False := by
      intro U a r he
      have hm : (n ++ 61 :: a) ∈ linesE (ns.zip U) := by rw [he]; exact List.mem_cons_self
      simp only [linesE, List.mem_filterMap] at hm
      obtain ⟨p, hp, hpe⟩ := hm
      cases hv : p.2 with
      | none => rw [hv] at hpe; cases hpe
      | some b =>
        rw [hv] at hpe
        simp only [Option.map_some, Option.some.injEq] at hpe
        have hp1 : p.1 ∈ ns := (List.of_mem_zip hp).1
        have := (split_eq (hc' _ hp1) hnc hpe).1
        rw [this] at hp1
        exact hn1 hp1
    simp only [List.zip_cons_cons] at h
    cases v with
    | none =>
      cases w with
      | none =>
        have h' : linesE (ns.zip V) = linesE (ns.zip W) := h
        rw [linesE_inj hn2 hc' (by simpa using h1) (by simpa using h2) h']
      | some b =>
        have h' : linesE (ns.zip V) = (n ++ 61 :: b) :: linesE (ns.zip W) := h
        exact (key _ _ _ h').elim
    | some a =>
      cases w with
      | none =>
        have h' : (n ++ 61 :: a) :: linesE (ns.zip V) = linesE (ns.zip W) := h
        exact (key _ _ _ h'.symm).elim
      | some b =>
        have h' : (n ++ 61 :: a) :: linesE (ns.zip V) = (n ++ 61 :: b) :: linesE (ns.zip W) := h
        obtain ⟨e1, e2⟩ := List.cons.inj h'
        rw [(split_eq hnc hnc e1).2, linesE_inj hn2 hc' (by simpa using h1) (by simpa using h2) e2]
def valW (x : Nat) : Option (List UInt8) := if x = 0 then none else some (hex8 x)
def valB (b : Bool) : Option (List UInt8) := if b then some [49] else none
def valF (x : Nat) : Option (List UInt8) := if x = 0 then none else some (digT x)
def namesI (nm : List UInt8) (n : Nat) : List (List UInt8) := (List.range n).map fun i => nm ++ digT i
def allNames : List (List UInt8) := namesI [114] 32 ++ (namesI [112] 4 ++ (namesI [115, 97] 2 ++ (namesI [108, 99] 2 ++ [[112, 99], [102, 97, 117, 108, 116]])))
def Mst.vals (m : Mst) : List (Option (List UInt8)) := m.r.map valW ++ (m.p.map valB ++ (m.a.map valW ++ (m.c.map valW ++ [valW m.pc, valF m.f])))
theorem uptoE_lines (nm : List UInt8) (L : List Nat) : ∀ i, i ≤ L.length → uptoE nm L i = linesE ((namesI nm i).zip ((L.take i).map valW))
  | 0, _ => rfl
  | i + 1, h => by
    have hi : i < L.length := h
    obtain ⟨x, hx⟩ : ∃ x, L[i]? = some x := ⟨_, List.getElem?_eq_getElem hi⟩
    have ih := uptoE_lines nm L i (by omega)
    have e1 : namesI nm (i + 1) = namesI nm i ++ [nm ++ digT i] := by simp [namesI, List.range_succ]
    have e2 : (L.take (i + 1)).map valW = (L.take i).map valW ++ [valW x] := by rw [List.take_add_one, hx]; simp
    rw [e1, e2, List.zip_append (by simp [namesI]; omega), linesE_append, ← ih]
    simp only [uptoE, hx]
    congr 1
    unfold lineE valW linesE
    by_cases h0 : x = 0
    · simp [h0]
    · simp [h0]
theorem uptoF_lines (L : List Bool) : ∀ i, i ≤ L.length → uptoF L i = linesE ((namesI [112] i).zip ((L.take i).map valB))
  | 0, _ => rfl
  | i + 1, h => by
    have hi : i < L.length := h
    obtain ⟨x, hx⟩ : ∃ x, L[i]? = some x := ⟨_, List.getElem?_eq_getElem hi⟩
    have ih := uptoF_lines L i (by omega)
    have e1 : namesI [112] (i + 1) = namesI [112] i ++ [[112] ++ digT i] := by simp [namesI, List.range_succ]
    have e2 : (L.take (i + 1)).map valB = (L.take i).map valB ++ [valB x] := by rw [List.take_add_one, hx]; simp
    rw [e1, e2, List.zip_append (by simp [namesI]; omega), linesE_append, ← ih]
    simp only [uptoF, hx]
    congr 1
    cases x <;> simp [flagE, valB, linesE]
theorem Mst.say_lines {m : Mst} (h : m.Ok) : m.say = linesE (allNames.zip m.vals) := by
  have a1 := uptoE_lines [114] m.r 32 (by rw [h.r]; exact Nat.le_refl _)
  have a2 := uptoF_lines m.p 4 (by rw [h.p]; exact Nat.le_refl _)
  have a3 := uptoE_lines [115, 97] m.a 2 (by rw [h.a]; exact Nat.le_refl _)
  have a4 := uptoE_lines [108, 99] m.c 2 (by rw [h.c]; exact Nat.le_refl _)
  rw [List.take_of_length_le (by rw [h.r]; exact Nat.le_refl _)] at a1
  rw [List.take_of_length_le (by rw [h.p]; exact Nat.le_refl _)] at a2
  rw [List.take_of_length_le (by rw [h.a]; exact Nat.le_refl _)] at a3
  rw [List.take_of_length_le (by rw [h.c]; exact Nat.le_refl _)] at a4
  unfold allNames Mst.vals
  rw [List.zip_append (by simp [namesI, h.r]), List.zip_append (by simp [namesI, h.p]), List.zip_append (by simp [namesI, h.a]), List.zip_append (by simp [namesI, h.c])]
  simp only [linesE_append, ← a1, ← a2, ← a3, ← a4]
  unfold Mst.say Mst.l5 Mst.l4 Mst.l3 Mst.l2 Mst.l1
  by_cases h5 : m.pc = 0 <;> by_cases h6 : m.f = 0 <;> simp [h5, h6, linesE, valW, valF]
theorem hexD_inj' : ∀ a, a < 16 → ∀ b, b < 16 → hexD a = hexD b → a = b := by decide
theorem hexD_inj (a b : Nat) (h : a < 16) (k : b < 16) (e : hexD a = hexD b) : a = b := hexD_inj' a h b k e
theorem hex8_inj {x y : Nat} (hx : x < 4294967296) (hy : y < 4294967296) (h : hex8 x = hex8 y) : x = y := by
  simp only [hex8, List.cons.injEq, and_true] at h
  obtain ⟨h1, h2, h3, h4, h5, h6, h7, h8⟩ := h
  have k : ∀ n, hexD (x / n % 16) = hexD (y / n % 16) → x / n % 16 = y / n % 16 := fun n e => hexD_inj _ _ (Nat.mod_lt _ (by omega)) (Nat.mod_lt _ (by omega)) e
  have e1 := k _ h1; have e2 := k _ h2; have e3 := k _ h3; have e4 := k _ h4; have e5 := k _ h5; have e6 := k _ h6; have e7 := k _ h7; have e8 := k _ h8
  simp only [Nat.reducePow] at e1 e2 e3 e4 e5 e6 e7 e8
  omega
theorem valW_inj {x y : Nat} (hx : x < 4294967296) (hy : y < 4294967296) (h : valW x = valW y) : x = y := by
  unfold valW at h
  split at h <;> split at h
  · omega
  · cases h
  · cases h
  · exact hex8_inj hx hy (Option.some.inj h)
theorem valB_inj {x y : Bool} (h : valB x = valB y) : x = y := by cases x <;> cases y <;> simp [valB] at h ⊢
theorem digT_inj : (List.range 256).all (fun a => (List.range 256).all fun b => !decide (digT a = digT b) || Nat.beq a b) = true := by decide +kernel
theorem valF_inj {x y : Nat} (hx : x < 256) (hy : y < 256) (h : valF x = valF y) : x = y := by
  unfold valF at h
  split at h <;> split at h
  · omega
  · cases h
  · cases h
  · have h' := Option.some.inj h
    have := List.all_eq_true.1 (List.all_eq_true.1 digT_inj x (List.mem_range.2 hx)) y (List.mem_range.2 hy)
    simp only [h', decide_true, Bool.not_true, Bool.false_or, Nat.beq_eq] at this
    exact this
theorem map_inj {α β : Type} {f : α → β} : ∀ {a b : List α}, (∀ x ∈ a, ∀ y ∈ b, f x = f y → x = y) → a.map f = b.map f → a = b
  | [], [], _, _ => rfl
  | [], _ :: _, _, h => by simp at h
  | _ :: _, [], _, h => by simp at h
  | x :: a, y :: b, hi, h => by
    simp only [List.map_cons, List.cons.injEq] at h
    rw [hi x List.mem_cons_self y List.mem_cons_self h.1, map_inj (fun u hu v hv => hi u (List.mem_cons_of_mem _ hu) v (List.mem_cons_of_mem _ hv)) h.2]
theorem names_nodup : allNames.Nodup := by decide +kernel
theorem names_free : ∀ n ∈ allNames, (61 : UInt8) ∉ n := by decide +kernel
theorem say_inj {m q : Mst} (hm : m.Ok) (hq : q.Ok) (h : m.say = q.say) : m = q := by
  rw [Mst.say_lines hm, Mst.say_lines hq] at h
  have hl : ∀ {m : Mst}, m.Ok → m.vals.length = allNames.length := fun {m} h => by simp [Mst.vals, h.r, h.p, h.a, h.c, allNames, namesI]
  have hv := linesE_inj names_nodup names_free (hl hm) (hl hq) h
  unfold Mst.vals at hv
  obtain ⟨v1, hv⟩ := List.append_inj hv (by simp [hm.r, hq.r])
  obtain ⟨v2, hv⟩ := List.append_inj hv (by simp [hm.p, hq.p])
  obtain ⟨v3, hv⟩ := List.append_inj hv (by simp [hm.a, hq.a])
  obtain ⟨v4, hv⟩ := List.append_inj hv (by simp [hm.c, hq.c])
  simp only [List.cons.injEq, and_true] at hv
  have e1 := map_inj (fun x hx y hy => valW_inj (hm.rl x hx) (hq.rl y hy)) v1
  have e2 := map_inj (fun x _ y _ => valB_inj) v2
  have e3 := map_inj (fun x hx y hy => valW_inj (hm.al x hx) (hq.al y hy)) v3
  have e4 := map_inj (fun x hx y hy => valW_inj (hm.cl x hx) (hq.cl y hy)) v4
  have e5 := valW_inj hm.pl hq.pl hv.1
  have e6 := valF_inj hm.fl hq.fl hv.2
  cases m; cases q; simp_all
theorem hexD_nz : ∀ a, a < 16 → a ≠ 0 → hexD a ≠ 48 := by decide
theorem hex8_nz {x : Nat} (hx : x < 4294967296) (h0 : x ≠ 0) : ∃ b ∈ hex8 x, b ≠ 48 := by
  have k : ∀ n, x / n % 16 ≠ 0 → hexD (x / n % 16) ≠ 48 := fun n h => hexD_nz _ (Nat.mod_lt _ (by omega)) h
  by_cases q : x / 2 ^ 28 % 16 ≠ 0
  · exact ⟨_, by simp [hex8], k _ q⟩
  by_cases q1 : x / 2 ^ 24 % 16 ≠ 0
  · exact ⟨_, by simp [hex8], k _ q1⟩
  by_cases q2 : x / 2 ^ 20 % 16 ≠ 0
  · exact ⟨_, by simp [hex8], k _ q2⟩
  by_cases q3 : x / 2 ^ 16 % 16 ≠ 0
  · exact ⟨_, by simp [hex8], k _ q3⟩
  by_cases q4 : x / 2 ^ 12 % 16 ≠ 0
  · exact ⟨_, by simp [hex8], k _ q4⟩
  by_cases q5 : x / 2 ^ 8 % 16 ≠ 0
  · exact ⟨_, by simp [hex8], k _ q5⟩
  by_cases q6 : x / 2 ^ 4 % 16 ≠ 0
  · exact ⟨_, by simp [hex8], k _ q6⟩
  by_cases q7 : x / 2 ^ 0 % 16 ≠ 0
  · exact ⟨_, by simp [hex8], k _ q7⟩
  simp only [ne_eq, Decidable.not_not, Nat.reducePow] at q q1 q2 q3 q4 q5 q6 q7
  omega
theorem digT_nz : (List.range 256).all (fun a => Nat.beq a 0 || ((digT a).any fun b => !decide (b = 48))) = true := by decide +kernel
/-- A value that is said: no more than eight bytes, one of them no zero. -/
def GoodV (v : List UInt8) : Prop := v.length ≤ 8 ∧ ∃ b ∈ v, b ≠ 48
theorem valW_good {x : Nat} (hx : x < 4294967296) {v : List UInt8} (h : valW x = some v) : GoodV v := by
  unfold valW at h
  split at h
  · cases h
  · cases h; rename_i h0; exact ⟨by simp [hex8], hex8_nz hx h0⟩
theorem valB_good {x : Bool} {v : List UInt8} (h : valB x = some v) : GoodV v := by
  cases x
  · cases h
  · cases h; exact ⟨by decide, 49, by simp, by decide⟩
theorem valF_good {x : Nat} (hx : x < 256) {v : List UInt8} (h : valF x = some v) : GoodV v := by
  unfold valF at h
  split at h
  · cases h
  · cases h
    rename_i h0
    have := List.all_eq_true.1 digT_nz x (List.mem_range.2 hx)
    have hb : Nat.beq x 0 = false := by
      cases hb : Nat.beq x 0 with
      | false => rfl
      | true => exact absurd (Nat.eq_of_beq_eq_true hb) h0
    rw [hb, Bool.false_or, List.any_eq_true] at this
    obtain ⟨b, h1, h2⟩ := this
    exact ⟨by have := digT_len x; omega, b, h1, by simpa using h2⟩
theorem vals_good {m : Mst} (hm : m.Ok) {v : List UInt8} (h : some v ∈ m.vals) : GoodV v := by
  unfold Mst.vals at h
  simp only [List.mem_append, List.mem_map, List.mem_cons, List.not_mem_nil, or_false] at h
  rcases h with ⟨x, hx, e⟩ | ⟨x, hx, e⟩ | ⟨x, hx, e⟩ | ⟨x, hx, e⟩ | e | e
  · exact valW_good (hm.rl x hx) e
  · exact valB_good e
  · exact valW_good (hm.al x hx) e
  · exact valW_good (hm.cl x hx) e
  · exact valW_good hm.pl e.symm
  · exact valF_good hm.fl e.symm
theorem names_two : ∀ n ∈ allNames, 2 ≤ n.length ∧ n.length ≤ 10 := by decide +kernel
theorem say_good {m : Mst} (hm : m.Ok) : ∀ l ∈ m.say, ∃ n, Ln l n := by
  intro l hl
  rw [Mst.say_lines hm] at hl
  simp only [linesE, List.mem_filterMap] at hl
  obtain ⟨p, hp, hpe⟩ := hl
  cases hv : p.2 with
  | none => rw [hv] at hpe; cases hpe
  | some v =>
    rw [hv] at hpe
    simp only [Option.map_some, Option.some.injEq] at hpe
    subst hpe
    obtain ⟨h1, h2⟩ := List.of_mem_zip hp
    rw [hv] at h2
    obtain ⟨g1, b, g2, g3⟩ := vals_good hm h2
    obtain ⟨t1, t2⟩ := names_two _ h1
    have hf := names_free _ h1
    have hv0 : 0 < v.length := List.length_pos_of_mem g2
    refine ⟨p.1.length, t1, by simp; omega, by simp, fun j hj => ?_, ?_, by simp; omega⟩
    · refine ⟨p.1[j], ?_, fun e => hf (e ▸ List.getElem_mem hj)⟩
      rw [List.getElem?_append_left hj, List.getElem?_eq_getElem hj]
    · obtain ⟨k, hk, hke⟩ := List.mem_iff_getElem.1 g2
      refine ⟨p.1.length + 1 + k, b, by omega, ?_, g3⟩
      rw [List.getElem?_append_right (by omega), show p.1.length + 1 + k - p.1.length = k + 1 by omega, List.getElem?_cons_succ, List.getElem?_eq_getElem hk, hke]
end Go.V
