/- Itoa below 256 out of its table; the law over its own table. -/
import Derived.Test.YtipcimefenpjhaaGreatDoorTkMemo
import Derived.Test.YtipcimefenpjhaaGreatDoorTS7
import Derived.Test.YtipcimefenpjhaaGreatDoorV65
import Derived.Test.YtipcimefenpjhaaGreatDoorV67
set_option linter.unusedVariables false
set_option linter.unusedSimpArgs false
set_option linter.unusedSectionVars false
/- Itoa below 256 out of its table; the law over its own table. -/
namespace Go.V
open Go
set_option linter.unusedSimpArgs false
set_option linter.unusedVariables false
def below (p : Nat → Bool) : Nat → Bool
  | 0 => true
  | n + 1 => p n && below p n
theorem below_get {p : Nat → Bool} : ∀ {n : Nat}, below p n = true → ∀ i, i < n → p i = true
  | 0, _, i, hi => by omega
  | n + 1, h, i, hi => by
    simp only [below, Bool.and_eq_true] at h
    rcases Nat.lt_succ_iff_lt_or_eq.1 hi with h1 | rfl
    · exact below_get h.2 i h1
    · exact h.1
def isStr (r : List UInt8) : AV → Bool
  | .str l => bytesEq l r
  | _ => false
/-- Where the table says that the call with a number answers a text and changes nothing. -/
def memoInt (pre : List Nat) (tbl : List Ent) (h : Tree AObj) (n : Nat) (r : List UInt8) : Bool := match reachK h 100000 (pre ++ []) .leaf 0 [] with
  | none => false
  | some ks => match prefB pre ks, renList (mkK ks 0 .leaf) h ks with
    | true, some os => match findE [.int .i64 (Int.ofNat n)] os tbl with
      | some E => isStr r E.v && ((match E.news with | [] => true | _ => false) && nonesB ks E.outs)
      | none => false
    | _, _ => false
theorem memoInt_ran {T : Tab} {f : Nat} {pre : List Nat} {tbl : List Ent} (ht : T f = some (.hook (memoAH pre tbl))) {s s' : St} (hw : WFS s) (hx : Ext s s') {n : Nat} {r : List UInt8} (h : memoInt pre tbl s.heap n r = true) : Ran T f [.int .i64 (n : Int)] s' fun v s2 => v = .str r ∧ s2 = s' := by
  unfold memoInt at h
  cases h1 : reachK s.heap 100000 (pre ++ []) .leaf 0 [] with
  | none => rw [h1] at h; cases h
  | some ks =>
    rw [h1] at h
    simp only [] at h
    cases h2 : prefB pre ks with
    | false => rw [h2] at h; simp at h
    | true =>
      cases h3 : renList (mkK ks 0 .leaf) s.heap ks with
      | none => rw [h2, h3] at h; simp at h
      | some os =>
        rw [h2, h3] at h
        simp only [] at h
        cases h4 : findE [.int .i64 (Int.ofNat n)] os tbl with
        | none => rw [h4] at h; simp at h
        | some E =>
          rw [h4] at h
          simp only [Bool.and_eq_true] at h
          obtain ⟨h5, h6, h7⟩ := h
          have e5 : E.v = .str r := by
            cases hv : E.v with
            | str l =>
              rw [hv] at h5
              have : bytesEq l r = true := h5
              rw [bytesEq_dec] at this
              rw [of_decide_eq_true this]
            | _ => rw [hv] at h5; cases h5
          have e6 : E.news = [] := by
            split at h6
            · assumption
            · cases h6
          have a1 := reachK_up hx.2.2 hw _ _ _ _ _ _ h1
          have a3 := renList_up hx.2.2 hw _ _ _ h3
          have h4' : findE [.int .i64 (n : Int)] os tbl = some E := h4
          refine ran_hook ht (v := .str r) (s' := s') ?_ ⟨rfl, rfl⟩
          unfold memoAH
          have a1' : reachK s'.heap 100000 pre .leaf 0 [] = some ks := by simpa using a1
          simp only [idsOfs, idsOf, List.append_nil, a1', h2, AV.rens, AV.ren, a3, h4', applyE, e5, e6, putOuts_nones s' h7, addNews]
noncomputable def t_says : List (Nat × FnImp) := (6, .hook (memoAH memoPre tbl6)) :: ((8, .hook (memoAH memoPre tbl8)) :: t_law)
theorem awake_yes : memoYes memoPre tbl6 sG.heap = true := by kernel_rfl
theorem itoa_all : below (fun n => memoInt memoPre tbl8 sG.heap n (digT n)) 256 = true := by kernel_rfl
theorem traceSays_all (hw : WFS sG) (m q : Mst) (hm : m.Ok) (hq : q.Ok) : Ran (tabL t_says) 3 [.agg m.cells, .agg q.cells] sG fun v _ => v = .bool true :=
  traceSays_ran rfl rfl (fun s n hx hn => memoInt_ran rfl hw hx (below_get itoa_all n hn)) rfl rfl rfl sG hw (.refl hw) (fun s' hx => (memoYes_ran rfl hw hx awake_yes).mono fun _ _ e => e.1) m q hm hq
end Go.V
