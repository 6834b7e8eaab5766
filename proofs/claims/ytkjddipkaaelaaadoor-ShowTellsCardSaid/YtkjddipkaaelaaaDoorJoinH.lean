/- A hook for strings.Join, out of the shelf's contract. -/
import Derived.Test.YtkjddipkaaelaaaDoorV52
import Derived.Shelf.Strings.OnBuilder
set_option linter.unusedVariables false
set_option linter.unusedSimpArgs false
set_option linter.unusedSectionVars false
/- A hook for strings.Join, out of the shelf's contract. -/
namespace Go.V
open Go
set_option linter.unusedSimpArgs false
set_option linter.unusedVariables false
open Go.RowKit Go.ChangeShapes Go.WideShapes Go.ChangeAt Go.Proofs Go.Shelf
def strsOf : List AV → Option (List (List UInt8))
  | [] => some []
  | .str b :: l => match strsOf l with
    | some r => some (b :: r)
    | none => none
  | _ => none
def joinL (sep : List UInt8) : List (List UInt8) → List UInt8
  | [] => []
  | x :: r => x ++ joinT sep r
where joinT (sep : List UInt8) : List (List UInt8) → List UInt8
  | [] => []
  | y :: r => sep ++ (y ++ joinT sep r)
theorem joinL_eq (sep : List UInt8) : ∀ xs, joinL sep xs = Lib.join xs sep
  | [] => by simp [joinL, Lib.join, List.intercalate]
  | x :: r => by
    simp only [joinL, Lib.join, List.intercalate]
    induction r generalizing x with
    | nil => simp [joinL.joinT, List.intersperse]
    | cons y r ih =>
      simp only [joinL.joinT]
      rw [List.intersperse, List.flatten_cons, List.flatten_cons, ← ih y]
      simp
def joinG (args : List AV) (s : St) : Option AV := match args with
  | [.slice a len _ _ es, .str sep] => match Nat.beq es 1 with
    | true => match s.readAt a len with
      | some l => match strsOf l with
        | some xs => match Nat.ble len 1000000 && Nat.ble (joinL sep xs).length 1000000 with
          | true => some (.str (joinL sep xs))
          | false => none
        | none => none
      | none => none
    | false => none
  | [.nilSlice, .str _] => some (.str [])
  | [.empty, .str _] => some (.str [])
  | _ => none
def joinH (args : List AV) (s : St) : Option (AV × St) := (joinG args s).map fun v => (v, s)
theorem strs_of {φ : Phi} : ∀ {l : List AV} {cl : List Value} {xs : List (List UInt8)}, strsOf l = some xs → VRels φ l cl → ∃ bs : List ByteArray, cl = bs.map .string ∧ xs = bs.map (·.data.toList)
  | [], _, xs, h, .nil => by cases h; exact ⟨[], rfl, rfl⟩
  | v :: l, _, xs, h, .cons a b => by
    cases v with
    | str x =>
      simp only [strsOf] at h
      cases hr : strsOf l with
      | none => rw [hr] at h; cases h
      | some r =>
        rw [hr] at h
        cases h
        obtain ⟨bs, rfl, rfl⟩ := strs_of hr b
        generalize hx : AV.str x = y at a
        cases a with
        | str s => cases hx; exact ⟨s :: bs, rfl, rfl⟩
        | _ => cases hx
    | _ => cases h
theorem join_ok {P : Prog} {ρ : Ren} (L : Lays.n156 P.toProgram ρ) (X : Builder.Extra P.toProgram ρ) (henter : ∀ (args : Array Value) (w : World), (callFunc (ρ.f 156) args).run P.toProgram w = .ok (.enter (ρ.f 156) args) w) :
    HookOk P (ρ.f 156) fun args s => ofBoth (joinH args s) := by
  refine hook_below joinG henter fun args s v h φ w cargs hs ha => ?_
  unfold joinG at h
  split at h
  · rename_i a len cap ex es sep
    cases hb : Nat.beq es 1 with
    | false => rw [hb] at h; cases h
    | true =>
      rw [hb] at h
      have he : es = 1 := by simpa using hb
      subst he
      cases hr : s.readAt a len with
      | none => rw [hr] at h; cases h
      | some l =>
        rw [hr] at h
        simp only [] at h
        cases hx : strsOf l with
        | none => rw [hx] at h; cases h
        | some xs =>
          rw [hx] at h
          simp only [] at h
          cases hle : Nat.ble len 1000000 && Nat.ble (joinL sep xs).length 1000000 with
          | false => rw [hle] at h; cases h
          | true =>
            rw [hle] at h
            cases h
            simp only [Bool.and_eq_true, Nat.ble_eq] at hle
            cases ha with
            | cons a1 a2 =>
            cases a2 with
            | cons b1 b2 =>
            cases b2
            cases a1 with
            | slice q1 q2 q3 q4 q5 q6 q7 q8 =>
            rename_i x cap'
            generalize hsp : AV.str sep = y at b1
            cases b1 with
            | str sp =>
              cases hsp
              obtain ⟨cl, d1, d2, d3, d4⟩ := read_ok hs hr (.ptr q1 q2 q3)
              obtain ⟨bs, rfl, rfl⟩ := strs_of hx d3
              have hbl : bs.length = len := by simpa using d1
              subst hbl
              have hj : joinL sp.data.toList (bs.map (·.data.toList)) = Lib.join (bs.map (·.data.toList)) sp.data.toList := joinL_eq _ _
              rw [hj] at hle ⊢
              refine ⟨.string ⟨(Lib.join (bs.map (·.data.toList)) sp.data.toList).toArray⟩, ?_, ?_⟩
              · exact VRel.str ⟨(Lib.join (bs.map (·.data.toList)) sp.data.toList).toArray⟩
              · refine Any.strings_Join L X x.blk _ cap' bs sp w (fun j z hz => ?_) (hs.dom _ _ _ q1).2 (by omega) (by omega) (by omega)
                have := d4 j (.string z) (by rw [List.getElem?_map, hz]; rfl)
                rw [addr_add] at this
                exact this
            | _ => cases hsp
  · cases h
    cases ha with
    | cons a1 a2 =>
    cases a2 with
    | cons b1 b2 =>
    cases b2
    cases a1
    cases b1
    exact ⟨.string ⟨#[]⟩, VRel.str ⟨#[]⟩, (Any.strings_Join_none L X none 0 _ w).mono fun e w' ⟨h1, h2⟩ => ⟨h1, h2 ▸ Below.refl _ _⟩⟩
  · cases h
    cases ha with
    | cons a1 a2 =>
    cases a2 with
    | cons b1 b2 =>
    cases b2
    cases a1 with
    | empty a cap =>
    cases b1
    exact ⟨.string ⟨#[]⟩, VRel.str ⟨#[]⟩, (Any.strings_Join_none L X (some a) cap _ w).mono fun e w' ⟨h1, h2⟩ => ⟨h1, h2 ▸ Below.refl _ _⟩⟩
  · cases h
theorem join_tame (args : List AV) (s : St) : Tame s (fun s => ofBoth (joinH args s)) := by
  intro hn
  unfold joinH at hn ⊢
  dsimp only at hn ⊢
  cases hg : joinG args s with
  | none => rw [hg] at hn; exact absurd rfl hn
  | some v =>
    show Good s s ∧ _
    refine ⟨Good.refl s, fun b o hb _ => ?_⟩
    have : joinG args (s.put b o) = some v := by
      clear hn
      unfold joinG at hg ⊢
      split at hg
      · rename_i a len cap ex es sep
        cases hr : s.readAt a len with
        | none => rw [hr] at hg; cases hb1 : Nat.beq es 1 <;> rw [hb1] at hg <;> cases hg
        | some l =>
          have hne : a.id ≠ b := by
            intro e
            have := readAt_some hr
            rw [e, hb] at this; cases this
          have hr2 : (s.put b o).readAt a len = some l := readAt_same hr (by rw [put_get, if_neg hne])
          rw [hr] at hg
          rw [hr2]
          exact hg
      · exact hg
      · exact hg
      · cases hg
    rw [this]
    rfl
end Go.V
