/- SOUNDNESS: every operation; what an instruction looks at. -/
import Derived.Test.YtlpdekocilhciaaV15
/- SOUNDNESS: every operation; what an instruction looks at. -/
namespace Go.V
open Go

section
variable {P : Prog} {T : Tab} {rec : Rec}

theorem op_bad {o : Oper} (h : ofOp P o = .bad) : OpOk P T rec o := by
  intro φ s w a nt e r next Q hg he hs hev hn hf hk
  rw [h] at hev
  exact (bad_ne hev hn).elim

theorem op_ok (hF : FuncsOk P T rec) : ∀ o, OpOk P T rec o := by
  rintro ⟨dst, op, ty, pos, after, g⟩
  cases op
  case move => exact op_move
  case assign => exact op_assign
  case pick => exact op_pick
  case alloc => exact op_alloc
  case box => exact op_box
  case build => exact op_build
  case buildSlice => exact op_buildSlice
  case load => exact op_load
  case store => exact op_store
  case nilCheck => exact op_nilCheck
  case binOp => exact op_bin
  case unOp => exact op_un
  case convert => exact op_convert
  case makeInterface => exact op_mkIface
  case makeFunc => exact op_mkFunc
  case makeMap => exact op_mkMap
  case makeSlice => exact op_mkSlice
  case slice => exact op_slice
  case fieldAddr => exact op_fieldAddr
  case field => exact op_field
  case indexAddr => exact op_indexAddr
  case index => exact op_index
  case lookup => exact op_lookup
  case mapUpdate => exact op_mapUpdate
  case insert => exact op_insert
  case extract => exact op_extract
  case call => exact op_call hF
  case panic => exact op_panic
  case typeAssert => exact op_assert
  all_goals exact op_bad (by simp only [ofOp])

theorem opds_congr {e e' : Env} : ∀ {l : List Opd}, (∀ x ∈ l, opd e x = opd e' x) → opds e l = opds e' l
  | [], _ => rfl
  | x :: l, h => by
    simp only [opds]
    rw [h x (by simp), opds_congr fun y hy => h y (by simp [hy])]

theorem partsOf_congr {e e' : Env} : ∀ {l : List (Nat × Nat × Opd)}, (∀ x ∈ l.map (·.2.2), opd e x = opd e' x) → partsOf e l = partsOf e' l
  | [], _ => rfl
  | (o, n, x) :: l, h => by
    simp only [partsOf]
    rw [h x (by simp), partsOf_congr fun y hy => h y (by rw [List.map_cons]; exact List.mem_cons_of_mem _ hy)]

theorem oopd_congr {e e' : Env} {x : Option Opd} (h : ∀ y ∈ x.toList, opd e y = opd e' y) : oopd e x = oopd e' x := by
  cases x with
  | none => rfl
  | some y => simp only [oopd]; rw [h y (by simp)]

theorem evalIns_congr {e e' : Env} {s : St} : ∀ {i : Ins}, (∀ x ∈ insOpds i, opd e x = opd e' x) → evalIns T rec e s i = evalIns T rec e' s i := by
  intro i h
  cases i <;> simp only [insOpds, List.mem_cons, List.mem_append, List.not_mem_nil, or_false, forall_eq_or_imp, forall_eq, Option.mem_toList] at h
  case move => simp only [evalIns, h]
  case pick => obtain ⟨h1, h2, h3⟩ := h; simp only [evalIns, h1, h2, h3]
  case box => simp only [evalIns, h]
  case alloc => rfl
  case build => simp only [evalIns, partsOf_congr h]
  case buildSlice => simp only [evalIns, partsOf_congr h]
  case load => simp only [evalIns, h]
  case store => obtain ⟨h1, h2⟩ := h; simp only [evalIns, h1, h2]
  case nilCheck => simp only [evalIns, h]
  case bin => obtain ⟨h1, h2⟩ := h; simp only [evalIns, h1, h2]
  case eq => obtain ⟨h1, h2⟩ := h; simp only [evalIns, h1, h2]
  case un => simp only [evalIns, h]
  case conv => simp only [evalIns, h]
  case mkIface => simp only [evalIns, h]
  case mkFunc => simp only [evalIns, opds_congr fun x hx => h x (.inl hx), opds_congr fun x hx => h x (.inr hx)]
  case mkMap => rfl
  case mkSlice => obtain ⟨h1, h2⟩ := h; simp only [evalIns, h1, h2]
  case sliceStr => obtain ⟨h1, h2⟩ := h; simp only [evalIns, h1, oopd_congr fun y hy => h2 y (.inl (by simpa using hy)), oopd_congr fun y hy => h2 y (.inr (by simpa using hy))]
  case sliceSl => obtain ⟨h1, h2⟩ := h; simp only [evalIns, h1, oopd_congr fun y hy => h2 y (.inl (by simpa using hy)), oopd_congr fun y hy => h2 y (.inr (.inl (by simpa using hy))), oopd_congr fun y hy => h2 y (.inr (.inr (by simpa using hy)))]
  case sliceArr => obtain ⟨h1, h2⟩ := h; simp only [evalIns, h1, oopd_congr fun y hy => h2 y (.inl (by simpa using hy)), oopd_congr fun y hy => h2 y (.inr (.inl (by simpa using hy))), oopd_congr fun y hy => h2 y (.inr (.inr (by simpa using hy)))]
  case fieldAddr => simp only [evalIns, h]
  case field => simp only [evalIns, h]
  case idxArr => obtain ⟨h1, h2⟩ := h; simp only [evalIns, h1, h2]
  case idxSl => obtain ⟨h1, h2⟩ := h; simp only [evalIns, h1, h2]
  case idxStr => obtain ⟨h1, h2⟩ := h; simp only [evalIns, h1, h2]
  case idxAgg => obtain ⟨h1, h2⟩ := h; simp only [evalIns, h1, h2]
  case lookup => obtain ⟨h1, h2⟩ := h; simp only [evalIns, h1, h2]
  case mapSet => obtain ⟨h1, h2, h3⟩ := h; simp only [evalIns, h1, h2, h3]
  case extract => simp only [evalIns, h]
  case call => simp only [evalIns, opds_congr h]
  case callVal => obtain ⟨h1, h2⟩ := h; simp only [evalIns, h1, opds_congr h2]
  case lenStr => simp only [evalIns, h]
  case lenSl => simp only [evalIns, h]
  case lenArr => rfl
  case lenMap => simp only [evalIns, h]
  case cap => simp only [evalIns, h]
  case append => obtain ⟨h1, h2⟩ := h; simp only [evalIns, h1, h2]
  case appendZ => obtain ⟨h1, h2⟩ := h; simp only [evalIns, h1, h2]
  case minmax => simp only [evalIns, opds_congr h]
  case realP => simp only [evalIns, h]
  case imagP => simp only [evalIns, h]
  case cplx => obtain ⟨h1, h2⟩ := h; simp only [evalIns, h1, h2]
  case delete => obtain ⟨h1, h2⟩ := h; simp only [evalIns, h1, h2]
  case panic => simp only [evalIns, h]
  case assertT => simp only [evalIns, h]
  case clearSl => simp only [evalIns, h]
  case bad => rfl

theorem opd_of_tmp {e e' : Env} {l : List Opd} (h : ∀ t ∈ tmpsOf l, opd e (.t t) = opd e' (.t t)) : ∀ x ∈ l, opd e x = opd e' x := by
  induction l with
  | nil => intro x hx; cases hx
  | cons y l ih =>
    intro x hx
    cases y with
    | t i =>
      simp only [tmpsOf, List.mem_cons, forall_eq_or_imp] at h
      rcases List.mem_cons.1 hx with rfl | hx
      · exact h.1
      · exact ih h.2 x hx
    | c v =>
      simp only [tmpsOf] at h
      rcases List.mem_cons.1 hx with rfl | hx
      · rfl
      · exact ih h x hx
end
end Go.V
