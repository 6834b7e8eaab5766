/- SOUNDNESS: one operation, the rest. -/
import Derived.Test.YtlpdekocilhciaaV13
/- SOUNDNESS: one operation, the rest. -/
namespace Go.V
open Go

section
variable {P : Prog} {T : Tab} {rec : Rec}

theorem op_un {dst : Option Tmp} {op : UnOp} {t : TypeId} {x : Operand} {ty : TypeId} {pos : String} {after : Array Edge} {g : Option (Nat × Bool)} : OpOk P T rec ⟨dst, .unOp op t x, ty, pos, after, g⟩ := by
  intro φ s w a nt e r next Q hg he hs hev hn hf hk
  obtain ⟨y, hy, h⟩ := map1_ne hev hn
  simp only [evalIns] at h
  obtain ⟨v, h1, rfl⟩ := ofOpt_ne h hn
  obtain ⟨c, c1, c2⟩ := unV_ok (P := P) (opd_rel hg he hy) h1
  exact wp_val (by simp only [execOp, Sem.run_bind, c1, Result.andThen_ok, Sem.run_pure]) (hk _ _ _ (.refl hs) c2)

theorem op_mkIface {dst : Option Tmp} {t : TypeId} {x : Operand} {ty : TypeId} {pos : String} {after : Array Edge} {g : Option (Nat × Bool)} : OpOk P T rec ⟨dst, .makeInterface t x, ty, pos, after, g⟩ := by
  intro φ s w a nt e r next Q hg he hs hev hn hf hk
  simp only [ofOp] at hev
  split at hev
  · exact (bad_ne hev hn).elim
  · rename_i d hd hu
    obtain ⟨y, hy, h⟩ := map1_ne hev hn
    simp only [evalIns] at h
    subst h
    have : (Instr.makeInterface t (a.eval x)).run P.toProgram w = .ok (.iface t (a.eval x)) w := by
      cases d <;> simp [Instr.makeInterface, run_underlying_some hu]
      exact absurd rfl (hd _)
    exact wp_val (c := .iface t (a.eval x)) (by simp only [execOp, Sem.run_bind, this, Result.andThen_ok, Sem.run_pure]) (hk _ _ _ (.refl hs) (.iface (opd_rel hg he hy)))
  · exact (bad_ne hev hn).elim

theorem op_mkFunc {dst : Option Tmp} {fn : Fn} {l m : Array Operand} {ty : TypeId} {pos : String} {after : Array Edge} {g : Option (Nat × Bool)} : OpOk P T rec ⟨dst, .makeFunc fn l m, ty, pos, after, g⟩ := by
  intro φ s w a nt e r next Q hg he hs hev hn hf hk
  cases fn with
  | func f =>
    simp only [ofOp] at hev
    split at hev
    · rename_i l' m' h1 h2
      simp only [evalIns] at hev
      subst hev
      have r1 := opds_rel hg he h1
      have r2 := opds_rel hg he h2
      refine wp_val (c := .func (.func f) (l.map a.eval) (m.map a.eval)) rfl (hk _ _ _ (.refl hs) ?_)
      have e1 : l.map a.eval = ⟨l.toList.map a.eval⟩ := by apply Array.ext'; simp
      have e2 : m.map a.eval = ⟨m.toList.map a.eval⟩ := by apply Array.ext'; simp
      rw [e1, e2]
      exact VRel.func (f := f) r1 r2
    · exact (bad_ne hev hn).elim
  | _ => exact (bad_ne hev hn).elim

theorem op_mkMap {dst : Option Tmp} {t : TypeId} {m : Option Operand} {ty : TypeId} {pos : String} {after : Array Edge} {g : Option (Nat × Bool)} : OpOk P T rec ⟨dst, .makeMap t m, ty, pos, after, g⟩ := by
  intro φ s w a nt e r next Q hg he hs hev hn hf hk
  cases m with
  | none =>
    simp only [ofOp, evalIns] at hev
    subst hev
    obtain ⟨φ', w', c, h1, h2, h3⟩ := mkMap_ok (P := P) (t := t) hs (free_next hf (by simp [Res.nextId, St.add]))
    exact wp_val (by simp only [execOp, Option.map_none, Sem.run_bind, h1, Result.andThen_ok, Sem.run_pure]) (hk _ _ _ h2 h3)
  | some m => exact (bad_ne hev hn).elim

theorem op_mkSlice {dst : Option Tmp} {t : TypeId} {x y : Operand} {ty : TypeId} {pos : String} {after : Array Edge} {g : Option (Nat × Bool)} : OpOk P T rec ⟨dst, .makeSlice t x y, ty, pos, after, g⟩ := by
  intro φ s w a nt e r next Q hg he hs hev hn hf hk
  simp only [ofOp] at hev
  split at hev
  · rename_i el hu
    split at hev
    · rename_i n z hsz hz
      split at hev
      · rename_i hzl
        obtain ⟨x', y', hx, hy, h⟩ := map2_ne hev hn
        simp only [evalIns] at h
        split at h
        · rename_i l c hl hc
          split at h
          · rename_i hcond
            obtain ⟨c1, c2, c3, c4⟩ := hcond
            subst h
            have rx := opd_rel hg he hx
            have ry := opd_rel hg he hy
            obtain ⟨k, hk1⟩ : ∃ k, a.eval x = .int k (Int.ofNat l) := by
              unfold bitsNonneg at hl
              split at hl
              · rename_i hq; cases hl; rw [hq] at rx; cases hxx : a.eval x <;> rw [hxx] at rx <;> cases rx; exact ⟨_, rfl⟩
              · cases hl
            obtain ⟨k', hk2⟩ : ∃ k, a.eval y = .int k (Int.ofNat c) := by
              unfold bitsNonneg at hc
              split at hc
              · rename_i hq; cases hc; rw [hq] at ry; cases hyy : a.eval y <;> rw [hyy] at ry <;> cases ry; exact ⟨_, rfl⟩
              · cases hc
            obtain ⟨v, w', φ', g1, g2, g3⟩ := mkSlice_ok (P := P) (t := t) (k := k) (k' := k') hs (free_next hf (by simp [Res.nextId, St.add])) hu hsz hz hzl c4 c1 c2 c3
            exact wp_val (by simp only [execOp, hk1, hk2, Sem.run_bind, g1, Result.andThen_ok, Sem.run_pure]) (hk _ _ _ g2 g3)
          · exact absurd h.symm hn
        · exact absurd h.symm hn
      · exact (bad_ne hev hn).elim
    · exact (bad_ne hev hn).elim
  · exact (bad_ne hev hn).elim

theorem op_slice {dst : Option Tmp} {t : TypeId} {x : Operand} {lo hi mx : Option Operand} {ty : TypeId} {pos : String} {after : Array Edge} {g : Option (Nat × Bool)} : OpOk P T rec ⟨dst, .slice t x lo hi mx, ty, pos, after, g⟩ := by
  intro φ s w a nt e r next Q hg he hs hev hn hf hk
  simp only [ofOp] at hev
  split at hev
  · rename_i x' lo' hi' mx' h1 h2 h3 h4
    have rx := opd_rel hg he h1
    have rlo := oopd_rel hg he h2
    have rhi := oopd_rel hg he h3
    have rmx := oopd_rel hg he h4
    split at hev
    · rename_i hu
      split at hev
      · exact (bad_ne hev hn).elim
      · rename_i hm
        simp only [evalIns] at hev
        obtain ⟨v, e1, rfl⟩ := ofOpt_ne hev hn
        have hm0 : mx = none := by
          cases mx with
          | none => rfl
          | some q =>
            simp [ofOOpd] at h4
            obtain ⟨z, _, rfl⟩ := h4
            simp at hm
        subst hm0
        obtain ⟨c, c1, c2⟩ := sliceStr_ok (P := P) hu rx rlo rhi e1 w
        exact wp_val (by simp only [execOp, Option.map_none, Sem.run_bind, c1, Result.andThen_ok, Sem.run_pure]) (hk _ _ _ (.refl hs) c2)
    · rename_i el hu
      split at hev
      · rename_i n hsz
        simp only [evalIns] at hev
        obtain ⟨v, e1, rfl⟩ := ofOpt_ne hev hn
        obtain ⟨c, c1, c2⟩ := sliceSl_ok (P := P) hu hsz rx rlo rhi rmx e1 w
        exact wp_val (by simp only [execOp, Sem.run_bind, c1, Result.andThen_ok, Sem.run_pure]) (hk _ _ _ (.refl hs) c2)
      · exact (bad_ne hev hn).elim
    · rename_i k el hu
      split at hev
      · rename_i n hsz
        simp only [evalIns] at hev
        obtain ⟨v, e1, rfl⟩ := ofOpt_ne hev hn
        obtain ⟨c, c1, c2⟩ := sliceArr_ok (P := P) hs hu hsz rx rlo rhi rmx e1
        exact wp_val (by simp only [execOp, Sem.run_bind, c1, Result.andThen_ok, Sem.run_pure]) (hk _ _ _ (.refl hs) c2)
      · exact (bad_ne hev hn).elim
    · exact (bad_ne hev hn).elim
  · exact (bad_ne hev hn).elim

theorem op_fieldAddr {dst : Option Tmp} {t : TypeId} {x : Operand} {i : Nat} {ty : TypeId} {pos : String} {after : Array Edge} {g : Option (Nat × Bool)} : OpOk P T rec ⟨dst, .fieldAddr t x i, ty, pos, after, g⟩ := by
  intro φ s w a nt e r next Q hg he hs hev hn hf hk
  simp only [ofOp] at hev
  split at hev
  · rename_i fs hu
    split at hev
    · rename_i f hfi
      split at hev
      · rename_i n hsz
        split at hev
        · exact (bad_ne hev hn).elim
        · rename_i hn0
          obtain ⟨y, hy, h⟩ := map1_ne hev hn
          simp only [evalIns] at h
          split at h
          · rename_i ad hc
            subst h
            have rx := opd_rel hg he hy
            rw [hc] at rx
            obtain ⟨c, c1, c2⟩ := fieldAt_ok (P := P) hu hfi hsz hn0 rx w
            exact wp_val (by simp only [execOp, Sem.run_bind, c1, Result.andThen_ok, Sem.run_pure]) (hk _ _ _ (.refl hs) c2)
          · exact absurd h.symm hn
      · exact (bad_ne hev hn).elim
    · exact (bad_ne hev hn).elim
  · exact (bad_ne hev hn).elim

theorem op_field {dst : Option Tmp} {t : TypeId} {x : Operand} {i : Nat} {ty : TypeId} {pos : String} {after : Array Edge} {g : Option (Nat × Bool)} : OpOk P T rec ⟨dst, .field t x i, ty, pos, after, g⟩ := by
  intro φ s w a nt e r next Q hg he hs hev hn hf hk
  simp only [ofOp] at hev
  split at hev
  · rename_i fs hu
    split at hev
    · rename_i f hfi
      split at hev
      · rename_i n hsz
        obtain ⟨y, hy, h⟩ := map1_ne hev hn
        simp only [evalIns] at h
        split at h
        · rename_i cs hc
          obtain ⟨v, e1, rfl⟩ := ofOpt_ne h hn
          have rx := opd_rel hg he hy
          rw [hc] at rx
          obtain ⟨c, c1, c2⟩ := field_ok (P := P) hu hfi hsz rx e1 w
          exact wp_val (by simp only [execOp, Sem.run_bind, c1, Result.andThen_ok, Sem.run_pure]) (hk _ _ _ (.refl hs) c2)
        · exact absurd h.symm hn
      · exact (bad_ne hev hn).elim
    · exact (bad_ne hev hn).elim
  · exact (bad_ne hev hn).elim

theorem op_indexAddr {dst : Option Tmp} {t : TypeId} {x i : Operand} {ty : TypeId} {pos : String} {after : Array Edge} {g : Option (Nat × Bool)} : OpOk P T rec ⟨dst, .indexAddr t x i, ty, pos, after, g⟩ := by
  intro φ s w a nt e r next Q hg he hs hev hn hf hk
  simp only [ofOp] at hev
  split at hev
  · rename_i n el hu
    split at hev
    · rename_i k hsz
      obtain ⟨x', i', hx, hi, h⟩ := map2_ne hev hn
      simp only [evalIns] at h
      split at h
      · rename_i ad hc
        obtain ⟨v, e1, rfl⟩ := ofOpt_ne h hn
        have rx := opd_rel hg he hx
        rw [hc] at rx
        obtain ⟨c, c1, c2⟩ := idxArr_ok (P := P) hu hsz rx (opd_rel hg he hi) e1 w
        exact wp_val (by simp only [execOp, Sem.run_bind, c1, Result.andThen_ok, Sem.run_pure]) (hk _ _ _ (.refl hs) c2)
      · exact absurd h.symm hn
    · exact (bad_ne hev hn).elim
  · rename_i el hu
    split at hev
    · rename_i k hsz
      obtain ⟨x', i', hx, hi, h⟩ := map2_ne hev hn
      simp only [evalIns] at h
      split at h
      · rename_i ad len cap ex es hc
        split at h
        · rename_i hes
          subst hes
          obtain ⟨v, e1, rfl⟩ := ofOpt_ne h hn
          have rx := opd_rel hg he hx
          rw [hc] at rx
          obtain ⟨c, c1, c2⟩ := idxSl_ok (P := P) hu hsz rx (opd_rel hg he hi) e1 w
          exact wp_val (by simp only [execOp, Sem.run_bind, c1, Result.andThen_ok, Sem.run_pure]) (hk _ _ _ (.refl hs) c2)
        · exact absurd h.symm hn
      · exact absurd h.symm hn
    · exact (bad_ne hev hn).elim
  · exact (bad_ne hev hn).elim

theorem int_inv {φ : Phi} {k : IntKind} {n : Int} {c : Value} (h : VRel φ (.int k n) c) : c = .int k n := by cases h; rfl

theorem op_index {dst : Option Tmp} {t : TypeId} {x i : Operand} {ty : TypeId} {pos : String} {after : Array Edge} {g : Option (Nat × Bool)} : OpOk P T rec ⟨dst, .index t x i, ty, pos, after, g⟩ := by
  intro φ s w a nt e r next Q hg he hs hev hn hf hk
  simp only [ofOp] at hev
  split at hev
  · rename_i hu
    obtain ⟨x', i', hx, hi, h⟩ := map2_ne hev hn
    simp only [evalIns] at h
    split at h
    · rename_i l kk k hc1 hc2
      split at h
      · rename_i b hb
        subst h
        have rx := opd_rel hg he hx
        have ri := opd_rel hg he hi
        rw [hc1] at rx
        rw [hc2] at ri
        have hii := int_inv ri
        have := idxStr_ok (P := P) (k := kk) hu rx hb w
        exact wp_val (c := .int .u8 b.toNat) (by simp only [execOp, Sem.run_bind, hii, this, Result.andThen_ok, Sem.run_pure]) (hk _ _ _ (.refl hs) (by rw [mkInt_eq]; exact .int _ _))
      · exact absurd h.symm hn
    · exact absurd h.symm hn
  · rename_i n el hu
    split at hev
    · rename_i k hsz
      obtain ⟨x', i', hx, hi, h⟩ := map2_ne hev hn
      simp only [evalIns] at h
      split at h
      · rename_i cs kk m hc1 hc2
        split at h
        · rename_i hm
          obtain ⟨v, e1, rfl⟩ := ofOpt_ne h hn
          have rx := opd_rel hg he hx
          have ri := opd_rel hg he hi
          rw [hc1] at rx
          rw [hc2] at ri
          have hii := int_inv ri
          obtain ⟨c, c1, c2⟩ := idxAgg_ok (P := P) (k := kk) hu hsz rx hm e1 w
          exact wp_val (by simp only [execOp, Sem.run_bind, hii, c1, Result.andThen_ok, Sem.run_pure]) (hk _ _ _ (.refl hs) c2)
        · exact absurd h.symm hn
      · exact absurd h.symm hn
    · exact (bad_ne hev hn).elim
  · exact (bad_ne hev hn).elim

theorem op_lookup {dst : Option Tmp} {t : TypeId} {x i : Operand} {ok : Bool} {ty : TypeId} {pos : String} {after : Array Edge} {g : Option (Nat × Bool)} : OpOk P T rec ⟨dst, .lookup t x i ok, ty, pos, after, g⟩ := by
  intro φ s w a nt e r next Q hg he hs hev hn hf hk
  simp only [ofOp] at hev
  split at hev
  · rename_i kt el hu
    split at hev
    · rename_i kk z hkk hz
      obtain ⟨x', i', hx, hi, h⟩ := map2_ne hev hn
      simp only [evalIns] at h
      obtain ⟨v, e1, rfl⟩ := ofOpt_ne h hn
      obtain ⟨c, c1, c2⟩ := lookup_ok (P := P) hs hu hkk hz (opd_rel hg he hx) (opd_rel hg he hi) e1
      exact wp_val (by simp only [execOp, Sem.run_bind, c1, Result.andThen_ok, Sem.run_pure]) (hk _ _ _ (.refl hs) c2)
    · exact (bad_ne hev hn).elim
  · exact (bad_ne hev hn).elim

theorem op_mapUpdate {dst : Option Tmp} {t : TypeId} {m k v : Operand} {ty : TypeId} {pos : String} {after : Array Edge} {g : Option (Nat × Bool)} : OpOk P T rec ⟨dst, .mapUpdate t m k v, ty, pos, after, g⟩ := by
  intro φ s w a nt e r next Q hg he hs hev hn hf hk
  simp only [ofOp] at hev
  split at hev
  · rename_i kt el hu
    split at hev
    · rename_i kk m' k' v' hkk h1 h2 h3
      simp only [evalIns] at hev
      obtain ⟨s', e1, rfl⟩ := ofSt_ne hev hn
      obtain ⟨w', c1, c2⟩ := mapSet_ok (P := P) hs hu hkk (opd_rel hg he h1) (opd_rel hg he h2) (opd_rel hg he h3) e1
      exact wp_unit (by simp only [execOp, Sem.run_bind, c1, Result.andThen_ok, Sem.run_pure]) (hk _ _ _ c2 (.tuple (l' := []) .nil))
    · exact (bad_ne hev hn).elim
  · exact (bad_ne hev hn).elim

theorem op_insert {dst : Option Tmp} {t : TypeId} {m k v : Operand} {ty : TypeId} {pos : String} {after : Array Edge} {g : Option (Nat × Bool)} : OpOk P T rec ⟨dst, .insert t m k v, ty, pos, after, g⟩ := by
  intro φ s w a nt e r next Q hg he hs hev hn hf hk
  simp only [ofOp] at hev
  split at hev
  · rename_i kt el hu
    split at hev
    · rename_i kk m' k' v' hkk h1 h2 h3
      simp only [evalIns] at hev
      obtain ⟨s', e1, rfl⟩ := ofSt_ne hev hn
      obtain ⟨w', c1, c2⟩ := mapSet_ok (P := P) hs hu hkk (opd_rel hg he h1) (opd_rel hg he h2) (opd_rel hg he h3) e1
      exact wp_unit (by simp only [execOp, Sem.run_bind, c1, Result.andThen_ok, Sem.run_pure]) (hk _ _ _ c2 (.tuple (l' := []) .nil))
    · exact (bad_ne hev hn).elim
  · exact (bad_ne hev hn).elim

theorem op_extract {dst : Option Tmp} {x : Operand} {i : Nat} {ty : TypeId} {pos : String} {after : Array Edge} {g : Option (Nat × Bool)} : OpOk P T rec ⟨dst, .extract x i, ty, pos, after, g⟩ := by
  intro φ s w a nt e r next Q hg he hs hev hn hf hk
  obtain ⟨y, hy, h⟩ := map1_ne hev hn
  have hx := opd_rel hg he hy
  simp only [evalIns] at h
  split at h
  · rename_i l hc
    obtain ⟨v, e1, rfl⟩ := ofOpt_ne h hn
    rw [hc] at hx
    cases hcx : a.eval x <;> rw [hcx] at hx <;> cases hx
    rename_i l' hl
    obtain ⟨c, c1, c2⟩ := hl.get e1
    exact wp_val (c := c) (by simp [execOp, hcx, Instr.extract, c1]) (hk _ _ _ (.refl hs) c2)
  · exact absurd h.symm hn

theorem op_panic {dst : Option Tmp} {x : Operand} {ty : TypeId} {pos : String} {after : Array Edge} {g : Option (Nat × Bool)} : OpOk P T rec ⟨dst, .panic x, ty, pos, after, g⟩ := by
  intro φ s w a nt e r next Q hg he hs hev hn hf hk
  obtain ⟨y, hy, h⟩ := map1_ne hev hn
  have hx := opd_rel hg he hy
  simp only [evalIns] at h
  split at h
  · rename_i t v hc
    subst h
    rw [hc] at hx
    cases hcx : a.eval x <;> rw [hcx] at hx <;> cases hx
    rename_i c hv
    unfold Oper.wp
    have : (execOp a.eval ⟨dst, .panic x, ty, pos, after, g⟩).run P.toProgram w = .halt (.panic (.iface t c)) w := by
      simp [execOp, hcx, Instr.panic]
    rw [this]
    exact hk _ _ _ (.refl hs) (.iface hv)
  · exact absurd h.symm hn

theorem op_assert {dst : Option Tmp} {x : Operand} {xt t : TypeId} {ok : Bool} {ty : TypeId} {pos : String} {after : Array Edge} {g : Option (Nat × Bool)} : OpOk P T rec ⟨dst, .typeAssert x xt t ok, ty, pos, after, g⟩ := by
  intro φ s w a nt e r next Q hg he hs hev hn hf hk
  simp only [ofOp] at hev
  split at hev
  · exact (bad_ne hev hn).elim
  · rename_i d hd hu
    split at hev
    · rename_i z hz
      obtain ⟨y, hy, h⟩ := map1_ne hev hn
      simp only [evalIns] at h
      obtain ⟨v, e1, rfl⟩ := ofOpt_ne h hn
      obtain ⟨c, c1, c2⟩ := assert_ok (P := P) (xT := xt) hu (fun ms hms => hd ms (by rw [hms])) hz (opd_rel hg he hy) e1 w
      exact wp_val (by simp only [execOp, Sem.run_bind, c1, Result.andThen_ok, Sem.run_pure]) (hk _ _ _ (.refl hs) c2)
    · exact (bad_ne hev hn).elim
  · exact (bad_ne hev hn).elim

theorem op_build {dst : Option Tmp} {t : TypeId} {ps : Array (Nat × Operand)} {ty : TypeId} {pos : String} {after : Array Edge} {g : Option (Nat × Bool)} : OpOk P T rec ⟨dst, .build t ps, ty, pos, after, g⟩ := by
  intro φ s w a nt e r next Q hg he hs hev hn hf hk
  simp only [ofOp] at hev
  split at hev
  · exact (bad_ne hev hn).elim
  · rename_i z hz
    split at hev
    · rename_i fs hu
      split at hev
      · exact (bad_ne hev hn).elim
      · rename_i hall
        have hall' : ∀ f ∈ fs.toList, ∃ n, szOf P f.type = some n := by
          intro f hfm
          have := Bool.not_eq_false _ ▸ hall
          rw [Bool.not_eq_false, List.all_eq_true] at hall
          exact Option.isSome_iff_exists.1 (hall f hfm)
        split at hev
        · rename_i l hl
          simp only [evalIns] at hev
          split at hev
          · rename_i rr hr
            subst hev
            obtain ⟨c, c1, c2⟩ := build_struct_ok (P := P) hu hz hl hg he hr hall' w
            exact wp_val (c := c) (by simp only [execOp, Sem.run_bind, c1, Result.andThen_ok, Sem.run_pure]) (hk _ _ _ (.refl hs) c2)
          · exact absurd hev.symm hn
        · exact (bad_ne hev hn).elim
    · rename_i k el hu
      split at hev
      · rename_i n hsz
        split at hev
        · rename_i l hl
          simp only [evalIns] at hev
          split at hev
          · rename_i rr hr
            subst hev
            obtain ⟨c, c1, c2⟩ := build_array_ok (P := P) hu hsz hz hl hg he hr w
            exact wp_val (c := c) (by simp only [execOp, Sem.run_bind, c1, Result.andThen_ok, Sem.run_pure]) (hk _ _ _ (.refl hs) c2)
          · exact absurd hev.symm hn
        · exact (bad_ne hev hn).elim
      · exact (bad_ne hev hn).elim
    · exact (bad_ne hev hn).elim

theorem op_buildSlice {dst : Option Tmp} {t : TypeId} {len : Nat} {ps : Array (Nat × Operand)} {ty : TypeId} {pos : String} {after : Array Edge} {g : Option (Nat × Bool)} : OpOk P T rec ⟨dst, .buildSlice t len ps, ty, pos, after, g⟩ := by
  intro φ s w a nt e r next Q hg he hs hev hn hf hk
  simp only [ofOp] at hev
  split at hev
  · rename_i el hu
    split at hev
    · rename_i n z hsz hz
      split at hev
      · rename_i hcond
        split at hev
        · rename_i l hl
          simp only [evalIns] at hev
          split at hev
          · rename_i rr hr
            subst hev
            obtain ⟨c, w', φ', c1, c2, c3⟩ := buildSlice_ok (P := P) hs (free_next hf (by simp [Res.nextId, St.add])) hu hsz hz hcond.2.2 hcond.2.1 hcond.1 hl hg he hr
            exact wp_val (c := c) (w' := w') (by simp only [execOp, Sem.run_bind, c1, Result.andThen_ok, Sem.run_pure]) (hk _ _ _ c2 c3)
          · exact absurd hev.symm hn
        · exact (bad_ne hev hn).elim
      · exact (bad_ne hev hn).elim
    · exact (bad_ne hev hn).elim
  · exact (bad_ne hev hn).elim

theorem convV_ok {φ : Phi} {k : CK} {x v : AV} {cx : Value} {sT dT : TypeId} {sd dd : TypeDesc} (h1 : P.underlying sT = some sd) (h2 : P.underlying dT = some dd)
    (hk : match k with | .intInt k => (∃ k0, sd = .int k0) ∧ dd = .int k | .intFloat k => (∃ k0, sd = .int k0) ∧ dd = .float k | .floatInt k => (∃ k0, sd = .float k0) ∧ dd = .int k | .strStr => sd = .string ∧ dd = .string | _ => False)
    (hx : VRel φ x cx) (h : convV k x = some v) (w : World) : ∃ c, (convert sT dT cx).run P.toProgram w = .ok c w ∧ VRel φ v c := by
  unfold convV at h
  split at h
  · obtain ⟨⟨k0, rfl⟩, rfl⟩ := hk
    cases hx; cases h
    rw [mkInt_eq, wrapF_eq]
    exact ⟨_, by simp only [convert, Sem.run_bind, run_underlying_some h1, run_underlying_some h2, Result.andThen_ok, Conv.intToInt, Sem.run_pure], .int _ _⟩
  · obtain ⟨⟨k0, rfl⟩, rfl⟩ := hk
    cases hx
    obtain ⟨c, c1, c2⟩ := pureAV_run (P := P) (φ := φ) h
    exact ⟨c, by simp only [convert, Sem.run_bind, run_underlying_some h1, run_underlying_some h2, Result.andThen_ok, c1], c2⟩
  · obtain ⟨⟨k0, rfl⟩, rfl⟩ := hk
    cases hx
    obtain ⟨c, c1, c2⟩ := pureAV_run (P := P) (φ := φ) h
    exact ⟨c, by simp only [convert, Sem.run_bind, run_underlying_some h1, run_underlying_some h2, Result.andThen_ok, c1], c2⟩
  · obtain ⟨rfl, rfl⟩ := hk
    cases hx; cases h
    exact ⟨_, by simp only [convert, Sem.run_bind, run_underlying_some h1, run_underlying_some h2, Result.andThen_ok, Sem.run_pure], .str _⟩
  · cases h

theorem op_convert {dst : Option Tmp} {sT dT : TypeId} {x : Operand} {ty : TypeId} {pos : String} {after : Array Edge} {g : Option (Nat × Bool)} : OpOk P T rec ⟨dst, .convert sT dT x, ty, pos, after, g⟩ := by
  intro φ s w a nt e r next Q hg he hs hev hn hf hk
  obtain ⟨y, hy, h⟩ := map1_ne hev hn
  have hx := opd_rel hg he hy
  have plain : ∀ (k : CK) (sd dd : TypeDesc), P.underlying sT = some sd → P.underlying dT = some dd →
      (match k with | .intInt k => (∃ k0, sd = .int k0) ∧ dd = .int k | .intFloat k => (∃ k0, sd = .int k0) ∧ dd = .float k | .floatInt k => (∃ k0, sd = .float k0) ∧ dd = .int k | .strStr => sd = .string ∧ dd = .string | _ => False) →
      evalIns T rec e s (.conv k y) = r → Oper.wp P.toProgram ⟨dst, .convert sT dT x, ty, pos, after, g⟩ a w next Q := by
    intro k sd dd h1 h2 hkk h
    have h' : ofOpt s (convV k (opd e y)) = r := by
      cases k <;> simp at hkk <;> simpa [evalIns] using h
    obtain ⟨v, e1, rfl⟩ := ofOpt_ne h' hn
    obtain ⟨c, c1, c2⟩ := convV_ok (P := P) h1 h2 hkk hx e1 w
    exact wp_val (by simp only [execOp, Sem.run_bind, c1, Result.andThen_ok, Sem.run_pure]) (hk _ _ _ (.refl hs) c2)
  unfold convIns at h
  split at h
  · rename_i k0 k h1 h2; exact plain (.intInt k) _ _ h1 h2 ⟨⟨k0, rfl⟩, rfl⟩ h
  · rename_i k0 k h1 h2; exact plain (.intFloat k) _ _ h1 h2 ⟨⟨k0, rfl⟩, rfl⟩ h
  · rename_i k0 k h1 h2; exact plain (.floatInt k) _ _ h1 h2 ⟨⟨k0, rfl⟩, rfl⟩ h
  · rename_i h1 h2; exact plain .strStr _ _ h1 h2 ⟨rfl, rfl⟩ h
  · rename_i el h1 h2
    split at h
    · rename_i h3
      split at h
      · rename_i h4
        simp only [evalIns] at h
        split at h
        · rename_i l hl
          split at h
          · subst h
            rw [hl] at hx
            obtain ⟨v, w', φ', c1, c2, c3⟩ := strBytes_ok (P := P) hs (free_next hf (by simp [Res.nextId, St.add])) h1 h2 h3 hx
            exact wp_val (by simp only [execOp, Sem.run_bind, c1, Result.andThen_ok, Sem.run_pure]) (hk _ _ _ c2 c3)
          · exact absurd h.symm hn
        · simp_all
        · simp_all
        · simp_all
        · rename_i q1 q2 q3 q4
          have : convV .strBytes (opd e y) = none := by simp [convV]
          rw [this] at h
          exact absurd h.symm hn
      · exact (bad_ne h hn).elim
    · exact (bad_ne h hn).elim
  · rename_i el h1 h2
    split at h
    · rename_i h3
      simp only [evalIns] at h
      split at h
      · simp_all
      · rename_i hc
        subst h
        rw [hc] at hx
        cases hcx : a.eval x <;> rw [hcx] at hx <;> cases hx
        exact wp_val (c := .string ByteArray.empty) (by simp only [execOp, hcx, convert, Sem.run_bind, run_underlying_some h1, run_underlying_some h2, run_underlying_some h3, Result.andThen_ok]; rfl) (hk _ _ _ (.refl hs) (.str ByteArray.empty))
      · rename_i hc
        subst h
        rw [hc] at hx
        cases hcx : a.eval x <;> rw [hcx] at hx <;> cases hx
        exact wp_val (c := .string ByteArray.empty) (by simp only [execOp, hcx, convert, Sem.run_bind, run_underlying_some h1, run_underlying_some h2, run_underlying_some h3, Result.andThen_ok, Conv.bytesToString, Sem.run_pure]; rfl) (hk _ _ _ (.refl hs) (.str ByteArray.empty))
      · rename_i hc
        rw [hc] at hx
        split at h
        · rename_i l hl
          split at h
          · rename_i bs hbs
            subst h
            obtain ⟨v, c1, c2⟩ := bytesStr_ok (P := P) hs h1 h2 h3 hx hl hbs
            exact wp_val (by simp only [execOp, Sem.run_bind, c1, Result.andThen_ok, Sem.run_pure]) (hk _ _ _ (.refl hs) c2)
          · exact absurd h.symm hn
        · exact absurd h.symm hn
      · rename_i q1 q2 q3 q4
        have : convV .bytesStr (opd e y) = none := by simp [convV]
        rw [this] at h
        exact absurd h.symm hn
    · exact (bad_ne h hn).elim
  · exact (bad_ne h hn).elim
end
end Go.V
