/- A hook for strconv.Itoa and strconv.FormatInt to base 10, out of the shelf's contracts. -/
import Derived.Test.YtkjddipkaaelaaaDoorV69
import Derived.Shelf.Strconv.Itoa4
import Derived.Lib.AppendIntMem
set_option linter.unusedVariables false
set_option linter.unusedSimpArgs false
set_option linter.unusedSectionVars false
/- A hook for strconv.Itoa and strconv.FormatInt to base 10, out of the shelf's contracts. -/
namespace Go.V
open Go
open Go.RowKit Go.ChangeShapes Go.WideShapes Go.ChangeAt Go.Proofs Go.Shelf

def intsEq : List AV → List Int → Bool
  | [], [] => true
  | .int k n :: l, z :: zs => decide (k = .u64) && decide (n = z) && intsEq l zs
  | _, _ => false
/-- A listed variable holds a table of numbers. -/
def tabAt (s : St) (g : Nat) (zs : List Int) : Bool := match s.heap.get g with
  | some (.cells cs 0 0 _) => intsEq cs zs
  | _ => false
theorem intsEq_rel {φ : Phi} : ∀ {l : List AV} {zs : List Int} {cl : List Value}, intsEq l zs = true → VRels φ l cl → cl = zs.map fun z => Value.int .u64 z
  | [], [], _, _, .nil => rfl
  | [], _ :: _, _, h, _ => by cases h
  | v :: l, [], _, h, _ => by cases v <;> cases h
  | v :: l, z :: zs, _, h, .cons a b => by
    cases v with
    | int k n =>
      simp only [intsEq, Bool.and_eq_true, decide_eq_true_eq] at h
      obtain ⟨⟨rfl, rfl⟩, h3⟩ := h
      generalize hv : AV.int .u64 n = v at a
      cases a with
      | int k m => cases hv; rw [intsEq_rel h3 b]; rfl
      | _ => cases hv
    | _ => cases h
theorem tabAt_var {P : Prog} {φ : Phi} {s : St} {w : World} (hs : RelSt φ s w) (hg : GlobOk P φ) {g : Nat} (hm : g ∈ P.G) {name : String} (hn : P.globalNamed name = some g) {zs : List Int} (h : tabAt s g zs = true) : w.var? P.toProgram name = some (zs.map fun z => Value.int .u64 z).toArray := by
  unfold tabAt at h
  split at h
  · rename_i cs ro ho
    obtain ⟨x, hx, e1, e2, e3, e4, e5⟩ := hg g hm
    obtain ⟨_, hcells⟩ := hs.obj g _ ho
    obtain ⟨y, hy, cc, el, fz, q1, q2, q3, q4, q5, q6, q7, q8⟩ := hcells 0 (Nat.le_refl _) (Nat.le_refl _)
    rw [hx] at hy
    cases hy
    have hlen : cs.length = cc.size := by rw [q2, e5, q6 rfl]
    have hrel : VRels φ cs cc.toList := VRels.of_get (by rw [hlen, Array.length_toList]) fun i v c h1 h2 => by
      have hi : i < cs.length := (List.getElem?_eq_some_iff.1 h1).1
      obtain ⟨c', c1, c2⟩ := q8 i v (by omega) (by rw [q6 rfl]; exact hi) h1
      rw [e2, e3] at c1
      rw [Array.getElem?_toList] at h2
      have : c = c' := by
        have c1' : cc[i]? = some c' := by simpa using c1
        rw [h2] at c1'
        exact Option.some.inj c1'
      rw [this]; exact c2
    have he := intsEq_rel h hrel
    have hw : w.heap[g]? = some (.cells cc el fz) := by rw [← e1]; exact q1
    unfold World.var?
    rw [show P.toProgram.globalNamed name = some g from hn]
    simp only [Option.bind_some, hw, Option.some.injEq]
    rw [← he]
  · cases h

def itoaH (g : Nat) (args : List AV) (s : St) : Option (AV × St) := match args with
  | [.int .i64 n] => match decide (-9223372036854775808 ≤ n) && (decide (n ≤ 9223372036854775807) && tabAt s g Lib.pow10Tab) with
    | true => some (.str (Lib.itoa n), s)
    | false => none
  | _ => none
def fmtH (g : Nat) (args : List AV) (s : St) : Option (AV × St) := match args with
  | [.int .i64 n, .int .i64 10] => match decide (-9223372036854775808 ≤ n) && (decide (n ≤ 9223372036854775807) && tabAt s g Lib.pow10Tab) with
    | true => some (.str (Lib.itoa n), s)
    | false => none
  | _ => none
theorem itoa_ok {P : Prog} {ρ : Ren} (L : LaysM.n171 P.toProgram ρ) (henter : ∀ (args : Array Value) (w : World), (callFunc (ρ.f 171) args).run P.toProgram w = .ok (.enter (ρ.f 171) args) w) {g : Nat} (hm : g ∈ P.G) (hn : P.globalNamed "internal/strconv.uint64pow10" = some g) :
    HookOk P (ρ.f 171) fun args s => ofBoth (itoaH g args s) := by
  intro args s r hr hne φ w cargs hg hs ha hf o a next Q hk
  obtain ⟨v, s', h1, rfl⟩ := ofBoth_ne hr hne
  unfold itoaH at h1
  split at h1
  · rename_i n
    split at h1
    · rename_i hc
      cases h1
      simp only [Bool.and_eq_true, decide_eq_true_eq] at hc
      obtain ⟨c1, c2, c3⟩ := hc
      cases ha with
      | cons a1 a2 =>
        cases a2
        cases a1
        have htab := tabAt_var hs hg hm hn c3
        rw [henter, Oper.upon_enter]
        refine (Any.strconv_Itoa L n c1 c2 w htab).mono fun e w' he => ?_
        obtain ⟨rfl, k, os, rfl⟩ := he
        exact hk _ _ φ (step_of_below hs (Lib.below_grow _ w (Nat.le_refl _) k os)) (.str ⟨(Lib.itoa n).toArray⟩)
    · cases h1
  · cases h1
theorem itoa_tame (g : Nat) (args : List AV) (s : St) : Tame s (fun s => ofBoth (itoaH g args s)) := by
  intro hn
  have hs : ∃ v, itoaH g args s = some (v, s) := by
    cases hh : itoaH g args s with
    | none => exact absurd (by show ofBoth (itoaH g args s) = _; rw [hh]; rfl) hn
    | some r =>
      obtain ⟨v, s'⟩ := r
      refine ⟨v, ?_⟩
      unfold itoaH at hh
      split at hh
      · split at hh
        · cases hh; rfl
        · cases hh
      · cases hh
  obtain ⟨v, hv⟩ := hs
  simp only [hv, ofBoth]
  refine ⟨Good.refl s, fun b o hb _ => ?_⟩
  have hv2 : itoaH g args (s.put b o) = some (v, s.put b o) := by
    unfold itoaH at hv ⊢
    split at hv
    · split at hv
      · rename_i hc
        cases hv
        simp only [Bool.and_eq_true, decide_eq_true_eq] at hc
        obtain ⟨c1, c2, c3⟩ := hc
        have hne : g ≠ b := by
          intro e
          subst e
          unfold tabAt at c3
          rw [hb] at c3
          cases c3
        have ht : tabAt (s.put b o) g Lib.pow10Tab = tabAt s g Lib.pow10Tab := by
          unfold tabAt
          rw [put_get, if_neg hne]
        simp only [ht, c1, c2, c3, decide_true, Bool.and_self]
      · cases hv
    · cases hv
  rw [hv2]
  rfl
theorem fmt_ok {P : Prog} {ρ : Ren} (L : LaysM.n173 P.toProgram ρ) (henter : ∀ (args : Array Value) (w : World), (callFunc (ρ.f 173) args).run P.toProgram w = .ok (.enter (ρ.f 173) args) w) {g : Nat} (hm : g ∈ P.G) (hn : P.globalNamed "internal/strconv.uint64pow10" = some g) :
    HookOk P (ρ.f 173) fun args s => ofBoth (fmtH g args s) := by
  intro args s r hr hne φ w cargs hg hs ha hf o a next Q hk
  obtain ⟨v, s', h1, rfl⟩ := ofBoth_ne hr hne
  unfold fmtH at h1
  split at h1
  · rename_i n
    split at h1
    · rename_i hc
      cases h1
      simp only [Bool.and_eq_true, decide_eq_true_eq] at hc
      obtain ⟨c1, c2, c3⟩ := hc
      cases ha with
      | cons a1 a2 =>
       cases a2 with
       | cons b1 b2 =>
        cases b2
        cases b1
        cases a1
        have htab := tabAt_var hs hg hm hn c3
        rw [henter, Oper.upon_enter]
        refine (Any.strconv_FormatInt_10 L n c1 c2 w htab).mono fun e w' he => ?_
        obtain ⟨rfl, k, os, rfl⟩ := he
        exact hk _ _ φ (step_of_below hs (Lib.below_grow _ w (Nat.le_refl _) k os)) (.str ⟨(Lib.itoa n).toArray⟩)
    · cases h1
  · cases h1
theorem fmt_tame (g : Nat) (args : List AV) (s : St) : Tame s (fun s => ofBoth (fmtH g args s)) := by
  intro hn
  have hs : ∃ v, fmtH g args s = some (v, s) := by
    cases hh : fmtH g args s with
    | none => exact absurd (by show ofBoth (fmtH g args s) = _; rw [hh]; rfl) hn
    | some r =>
      obtain ⟨v, s'⟩ := r
      refine ⟨v, ?_⟩
      unfold fmtH at hh
      split at hh
      · split at hh
        · cases hh; rfl
        · cases hh
      · cases hh
  obtain ⟨v, hv⟩ := hs
  simp only [hv, ofBoth]
  refine ⟨Good.refl s, fun b o hb _ => ?_⟩
  have hv2 : fmtH g args (s.put b o) = some (v, s.put b o) := by
    unfold fmtH at hv ⊢
    split at hv
    · split at hv
      · rename_i hc
        cases hv
        simp only [Bool.and_eq_true, decide_eq_true_eq] at hc
        obtain ⟨c1, c2, c3⟩ := hc
        have hne : g ≠ b := by
          intro e
          subst e
          unfold tabAt at c3
          rw [hb] at c3
          cases c3
        have ht : tabAt (s.put b o) g Lib.pow10Tab = tabAt s g Lib.pow10Tab := by
          unfold tabAt
          rw [put_get, if_neg hne]
        simp only [ht, c1, c2, c3, decide_true, Bool.and_self]
      · cases hv
    · cases hv
  rw [hv2]
  rfl
end Go.V
