/- A hook for strconv.Atoi, out of the shelf's contracts: an error is a value that is not nil, of which nothing is read. -/
import Derived.Test.YteepeacefpkmbaaGreatDoorVF
import Derived.Shelf.Strconv.ErrVarAll
set_option linter.unusedVariables false
set_option linter.unusedSimpArgs false
set_option linter.unusedSectionVars false
/- A hook for strconv.Atoi, out of the shelf's contracts: an error is a value that is not nil, of which nothing is read. -/
namespace Go.V
open Go Go.RowKit Go.ChangeShapes Go.WideShapes Go.ChangeAt Go.Proofs Go.Shelf

/-- A step that makes one new thing that may be pointed to, and leaves what was there. -/
theorem step_below_add {φ : Phi} {s : St} {w w' : World} (hs : RelSt φ s w) (hb : Below w.heap.size w w') (hf : s.heap.get s.next = none) {o : AObj} {x : Inc} (h1 : w.heap.size ≤ x.blk) (h2 : x.blk < w'.heap.size) (_hro : ∀ cs lo inc, o ≠ .cells cs lo inc true)
    (ho : ObjRel (φ.upd s.next 0 x) w' s.next o) : Step φ s w (φ.upd s.next 0 x) (s.add o) w' := by
  have hk : ∀ id k x, φ id k = some x → w'.heap[x.blk]? = w.heap[x.blk]? := fun id k x e => hb.block _ (hs.dom _ _ _ e).2
  have hnk := free_phi hs hf
  have hle : PhiLe φ (φ.upd s.next 0 x) := Phi.upd_le (hnk 0)
  have hget : ∀ id, (s.add o).heap.get id = if id = s.next then some o else s.heap.get id := fun id => Tree.get_set _ _ _ _
  have hnr : ∀ id, isRo s id → id ≠ s.next := by
    rintro id ⟨cs, lo, inc, e⟩ rfl
    rw [hf] at e; cases e
  have hro' : ∀ id, isRo s id → isRo (s.add o) id := by
    intro id hr
    obtain ⟨cs, lo, inc, e⟩ := hr
    exact ⟨cs, lo, inc, by rw [hget, if_neg (hnr id ⟨cs, lo, inc, e⟩)]; exact e⟩
  refine ⟨hle, ⟨?_, ?_, ?_, ?_⟩, hb.size, fun b hb' _ => hb.block b hb', fun id k y e _ => hk id k y e, ?_, ?_, ?_, hb.os, hb.tape, hb.output⟩
  · intro id o' e
    rw [hget] at e
    split at e
    · rename_i hid; cases e; rw [hid]; exact ho
    · exact (hs.obj id o' e).mono hle fun k y hy => hk id k y hy
  · intro id k y e
    rw [hget]
    rcases Phi.upd_cases e with ⟨rfl, rfl, rfl⟩ | e'
    · simp [h2]
    · have := hs.dom id k y e'
      refine ⟨?_, Nat.lt_of_lt_of_le this.2 hb.size⟩
      split
      · rfl
      · exact this.1
  · intro id k y id' k' y' e e' hbb
    rcases Phi.upd_cases e with ⟨rfl, rfl, rfl⟩ | e1
    · rcases Phi.upd_cases e' with ⟨rfl, rfl, rfl⟩ | e2
      · exact .inl ⟨rfl, rfl, rfl, rfl⟩
      · have := (hs.dom _ _ _ e2).2; omega
    · rcases Phi.upd_cases e' with ⟨rfl, rfl, rfl⟩ | e2
      · have := (hs.dom _ _ _ e1).2; omega
      · rcases hs.inj _ _ _ _ _ _ e1 e2 hbb with h1 | ⟨h1, h2⟩
        · exact .inl h1
        · exact .inr ⟨hro' _ h1, hro' _ h2⟩
  · intro id k y cs lo inc ro e e2
    rw [hget] at e2
    rcases Phi.upd_cases e with ⟨rfl, rfl, rfl⟩ | e1
    · exact Nat.zero_le _
    · split at e2
      · rename_i hid; rw [hid, hnk] at e1; cases e1
      · exact hs.incs _ _ _ _ _ _ _ e1 e2
  · intro id k y e
    rcases Phi.upd_cases e with ⟨rfl, rfl, rfl⟩ | e1
    · exact .inr h1
    · exact .inl ⟨id, k, y, e1, rfl⟩
  · intro id hr
    rw [hget, if_neg (hnr id hr)]
  · intro id k y e hr
    rcases Phi.upd_cases e with ⟨rfl, rfl, rfl⟩ | e1
    · exact absurd rfl (hnr _ hr)
    · exact e1

/-- The one cell of a listed variable that holds a value of an interface's type. -/
def ifaceAt (s : St) (g : Nat) : Bool := match s.heap.get g with
  | some (.cells (.iface _ _ :: _) 0 _ _) => true
  | _ => false

theorem ifaceAt_cell {P : Prog} {φ : Phi} {s : St} {w : World} (hs : RelSt φ s w) (hg : GlobOk P φ) {g : Nat} (hm : g ∈ P.G) (h12 : (P.globals[g]?).bind (fun gl => szOf P gl.type) = some 1) (h : ifaceAt s g = true) : ∃ te pe, w.cell? ⟨g, 0, none⟩ = some (.iface te pe) := by
  obtain ⟨gl, h1, h2⟩ := Option.bind_eq_some_iff.1 h12
  unfold ifaceAt at h
  split at h
  · rename_i t v l inc ro ho
    obtain ⟨x, hx, e1, e2, e3, e4⟩ := hg g hm
    have hn := e4 gl 1 h1 h2
    obtain ⟨_, hcells⟩ := hs.obj g _ ho
    obtain ⟨y, hy, cc, el, fz, q1, q2, q3, q4, q5, q6, q7, q8⟩ := hcells 0 (Nat.le_refl _) (Nat.zero_le _)
    rw [hx] at hy
    cases hy
    obtain ⟨c, c1, c2⟩ := q8 0 (.iface t v) (by omega) (by omega) rfl
    cases c2
    rename_i pe _
    refine ⟨t, pe, ?_⟩
    rw [cell?_of_heap (by rw [← e1]; exact q1)]
    simpa [e2, e3] using c1
  · cases h

def atoiH (gs gr te : Nat) (args : List AV) (s : St) : Option (AV × St) := match args with
  | [.str l] => match Nat.ble l.length 1000000 with
    | false => none
    | true => match Lib.atoiAll l with
      | .ok v => some (.tuple [.int .i64 v, .nilIface], s)
      | .range => match ifaceAt s gr with
        | true => some (.tuple [.int .i64 (Lib.atoiSat l), .iface te (.ptr ⟨s.next, 0, 0, 0⟩)], s.add (.cells [] 0 0 false))
        | false => none
      | _ => match ifaceAt s gs with
        | true => some (.tuple [.int .i64 0, .iface te (.ptr ⟨s.next, 0, 0, 0⟩)], s.add (.cells [] 0 0 false))
        | false => none
  | _ => none

theorem atoi_tame (gs gr te : Nat) (args : List AV) (s : St) : Tame s (fun s => ofBoth (atoiH gs gr te args s)) := by
  have hat : ∀ {g b : Nat} {o : AObj}, s.heap.get b = none → ifaceAt s g = true → ifaceAt (s.put b o) g = true := by
    intro g b o hb h
    unfold ifaceAt at h ⊢
    split at h
    · rename_i t v l inc ro ho
      have : (s.put b o).heap.get g = some (.cells (.iface t v :: l) 0 inc ro) := by
        show (s.heap.set b o).get g = _
        rw [Tree.get_set_ne _ _ (by rintro rfl; rw [hb] at ho; cases ho)]
        exact ho
      rw [this]
      rfl
    · cases h
  have hadd : ∀ {b : Nat} {o : AObj}, ¬ (s.next ≤ b ∧ b < s.next + 1) → (s.put b o).add (.cells [] 0 0 false) = (s.add (.cells [] 0 0 false)).put b o := by
    intro b o hn
    simp only [St.put, St.add]
    rw [set_comm _ _ _ (by omega)]
  intro hn
  unfold atoiH at hn ⊢
  split at hn
  · rename_i l
    cases h0 : Nat.ble l.length 1000000 with
    | false => rw [h0] at hn; simp [ofBoth] at hn
    | true =>
      rw [h0] at hn
      simp only [] at hn ⊢
      cases h1 : Lib.atoiAll l
      · rename_i v
        simp only [ofBoth, Res.st, Res.to]
        exact ⟨.refl _, fun b o _ _ => by simp only [h1]⟩
      · rw [h1] at hn
        simp only [] at hn ⊢
        cases h2 : ifaceAt s gs with
        | false => rw [h2] at hn; simp [ofBoth] at hn
        | true =>
          simp only [ofBoth, Res.st, Res.to]
          exact ⟨(Eff.add _).good, fun b o hb hnb => by rw [hat hb h2]; simp only []; rw [hadd hnb]; rfl⟩
      · rw [h1] at hn
        simp only [] at hn ⊢
        cases h2 : ifaceAt s gr with
        | false => rw [h2] at hn; simp [ofBoth] at hn
        | true =>
          simp only [ofBoth, Res.st, Res.to]
          exact ⟨(Eff.add _).good, fun b o hb hnb => by rw [hat hb h2]; simp only []; rw [hadd hnb]; rfl⟩
  · simp [ofBoth] at hn

theorem AllOk2.app2 {P : Prog} : ∀ {l m : List (Nat × FnImp)}, AllOk2 P l → AllOk2 P m → AllOk2 P (l ++ m)
  | _, _, .nil, h => h
  | _, _, .cons a b, h => .cons a (AllOk2.app2 b h)

theorem str_inv {φ : Phi} {l : List UInt8} {c : Value} (h : VRel φ (.str l) c) : ∃ s : ByteArray, c = .string s ∧ s.data.toList = l := by
  generalize hx : AV.str l = y at h
  cases h with
  | str s => cases hx; exact ⟨s, rfl, rfl⟩
  | _ => cases hx

theorem atoi_ok {P : Prog} {ρ : Ren} (L : LaysC.n172 P.toProgram ρ) (henter : ∀ (args : Array Value) (w : World), (callFunc (ρ.f 172) args).run P.toProgram w = .ok (.enter (ρ.f 172) args) w)
    (s1 : ρ.g 15 ∈ P.G) (s2 : (P.globals[ρ.g 15]?).bind (fun gl => szOf P gl.type) = some 1) (r1 : ρ.g 16 ∈ P.G) (r2 : (P.globals[ρ.g 16]?).bind (fun gl => szOf P gl.type) = some 1) :
    HookOk P (ρ.f 172) fun args s => ofBoth (atoiH (ρ.g 15) (ρ.g 16) (ρ.t 168) args s) := by
  intro args s r hres hne φ w cargs hg hs ha hf
  obtain ⟨v', s', hmm, rfl⟩ := ofBoth_ne hres hne
  unfold atoiH at hmm
  split at hmm
  · rename_i l
    cases h0 : Nat.ble l.length 1000000 with
    | false => rw [h0] at hmm; cases hmm
    | true =>
      rw [h0] at hmm
      have hlen : l.length ≤ 1000000 := Nat.le_of_ble_eq_true h0
      obtain ⟨cl, rfl, ha1⟩ : ∃ c, cargs = [c] ∧ VRel φ (.str l) c := by
        cases ha with
        | cons a b => cases b; exact ⟨_, rfl, a⟩
      obtain ⟨sb, rfl, rfl⟩ := str_inv ha1
      have hsz : sb.size ≤ 1000000 := by
        have : sb.data.toList.length = sb.size := Array.length_toList
        omega
      intro o ac next Q hk
      rw [henter, Oper.upon_enter]
      simp only [] at hmm
      cases h1 : Lib.atoiAll sb.data.toList
      · rename_i v
        rw [h1] at hmm
        cases hmm
        refine (Any.strconv_Atoi_ok L sb (by omega) v h1 w).mono fun e w' he => ?_
        obtain ⟨rfl, hw⟩ := he
        have hb : Below w.heap.size w w' := by
          rcases hw with rfl | ⟨t, rfl⟩
          · exact .refl _ _
          · exact ⟨rfl, rfl, rfl, by rw [Lib.bytesWorld_size]; omega, fun k hk => Lib.bytesWorld_at_old _ _ _ _ hk⟩
        exact hk _ w' φ (step_of_below hs hb) (.tuple (.cons (.int _ _) (.cons .nilIface .nil)))
      · rw [h1] at hmm
        simp only [] at hmm
        cases h2 : ifaceAt s (ρ.g 15) with
        | false => rw [h2] at hmm; cases hmm
        | true =>
          rw [h2] at hmm
          cases hmm
          obtain ⟨te, pe, hc⟩ := ifaceAt_cell hs hg s1 s2 h2
          refine (Any.strconv_Atoi_syntax L sb (by omega) h1 _ w hc (.inr ⟨te, pe, rfl⟩)).mono fun e w' he => ?_
          obtain ⟨N, rfl, hN, hcell, hb⟩ := he
          have hlt : N < w'.heap.size := (Array.getElem?_eq_some_iff.1 hcell).1
          refine hk _ w' _ (step_below_add hs hb (hf s.next (Nat.le_refl _) (by show s.next < s.next + 1; omega)) (x := ⟨N, 0, 0, 0, 3⟩) hN hlt (fun _ _ _ h => by cases h) ?_) ?_
          · refine ⟨Nat.le_refl _, fun k hk1 hk2 => ?_⟩
            obtain rfl : k = 0 := by omega
            exact ⟨_, Phi.upd_same _ _ _ _, _, _, _, hcell, rfl, fun _ o _ => by simp, Nat.le_refl _, Nat.le_refl _, fun _ => rfl, by show 0 + (0 - 0) ≤ 3; omega, fun j v _ hj _ => absurd hj (Nat.not_lt_zero _)⟩
          · refine .tuple (.cons (.int _ _) (.cons (.iface ?_) .nil))
            have := VRel.ptr (φ := φ.upd s.next 0 ⟨N, 0, 0, 0, 3⟩) (a := ⟨s.next, 0, 0, 0⟩) (x := ⟨N, 0, 0, 0, 3⟩) (Phi.upd_same _ _ _ _) (Nat.le_refl _) (Nat.le_refl _)
            simpa using this
      · rw [h1] at hmm
        simp only [] at hmm
        cases h2 : ifaceAt s (ρ.g 16) with
        | false => rw [h2] at hmm; cases hmm
        | true =>
          rw [h2] at hmm
          cases hmm
          obtain ⟨te, pe, hc⟩ := ifaceAt_cell hs hg r1 r2 h2
          refine (Any.strconv_Atoi_range L sb (by omega) h1 _ w hc (.inr ⟨te, pe, rfl⟩)).mono fun e w' he => ?_
          obtain ⟨N, rfl, hN, hcell, hb⟩ := he
          have hlt : N < w'.heap.size := (Array.getElem?_eq_some_iff.1 hcell).1
          refine hk _ w' _ (step_below_add hs hb (hf s.next (Nat.le_refl _) (by show s.next < s.next + 1; omega)) (x := ⟨N, 0, 0, 0, 3⟩) hN hlt (fun _ _ _ h => by cases h) ?_) ?_
          · refine ⟨Nat.le_refl _, fun k hk1 hk2 => ?_⟩
            obtain rfl : k = 0 := by omega
            exact ⟨_, Phi.upd_same _ _ _ _, _, _, _, hcell, rfl, fun _ o _ => by simp, Nat.le_refl _, Nat.le_refl _, fun _ => rfl, by show 0 + (0 - 0) ≤ 3; omega, fun j v _ hj _ => absurd hj (Nat.not_lt_zero _)⟩
          · refine .tuple (.cons (.int _ _) (.cons (.iface ?_) .nil))
            have := VRel.ptr (φ := φ.upd s.next 0 ⟨N, 0, 0, 0, 3⟩) (a := ⟨s.next, 0, 0, 0⟩) (x := ⟨N, 0, 0, 0, 3⟩) (Phi.upd_same _ _ _ _) (Nat.le_refl _) (Nat.le_refl _)
            simpa using this
  · cases hmm
end Go.V
