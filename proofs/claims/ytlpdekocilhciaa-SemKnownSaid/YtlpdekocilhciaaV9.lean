/- SOUNDNESS: slices, places, maps, new rows. -/
import Derived.Test.YtlpdekocilhciaaV8
/- SOUNDNESS: slices, places, maps, new rows. -/
namespace Go.V
open Go

section
variable {P : Prog} {φ : Phi} {s : St} {w : World}

inductive OptRel (φ : Phi) : Option AV → Option Value → Prop
  | none : OptRel φ none none
  | some {v : AV} {c : Value} : VRel φ v c → OptRel φ (some v) (some c)

theorem oopd_rel {nt : Nat} {e : Env} {a : Act} (hg : GlobOk P φ) (he : RelEnv nt φ e a) {x : Option Operand} {y : Option Opd} (h : ofOOpd P x = some y) : OptRel φ (oopd e y) (x.map a.eval) := by
  cases x with
  | none => simp [ofOOpd] at h; subst h; exact .none
  | some x =>
    simp [ofOOpd] at h
    obtain ⟨z, hz, rfl⟩ := h
    exact .some (opd_rel hg he hz)

theorem sliceBd_some {v : AV} {y d n : Nat} (h : sliceBd (some v) y d = some n) : ∃ k, v = .int k (Int.ofNat n) ∧ n ≤ y := by
  simp only [sliceBd] at h
  cases v with
  | int k m => cases m with
    | ofNat m =>
      simp only [] at h
      split at h
      · cases h; exact ⟨k, rfl, by assumption⟩
      · cases h
    | negSucc m => cases h
  | _ => simp at h

theorem run_sliceBound {k : IntKind} {n y : Nat} {code : BoundsCode} (h : n ≤ y) (w : World) : (Instr.sliceBound (.int k (Int.ofNat n)) y code).run P.toProgram w = .ok n w := by
  have : (0 : Int) ≤ Int.ofNat n ∧ Int.ofNat n ≤ (y : Int) := ⟨by simp, by simp; omega⟩
  simp only [Instr.sliceBound, Sem.run_bind, asIntOf, Sem.run_pure, Result.andThen_ok, this, and_self, if_true]
  rfl

theorem VRel.slice_inv {a : AAddr} {len cap : Nat} {exact : Bool} {esz : Nat} {c : Value} (h : VRel φ (.slice a len cap exact esz) c) :
    ∃ x cap', c = .slice (some ⟨x.blk, x.base + (a.off - x.sh), none⟩) len cap' ∧ φ a.id a.inc = some x ∧ x.sh ≤ a.off ∧ a.lim ≤ x.n ∧ a.off + len * esz ≤ a.lim ∧ len ≤ cap ∧ cap ≤ cap' ∧ (exact = true → cap' = cap) ∧
      x.base + (a.off - x.sh) + cap' * esz ≤ x.top := by
  cases h
  exact ⟨_, _, rfl, by assumption, by assumption, by assumption, by assumption, by assumption, by assumption, by assumption, by assumption⟩

theorem VRel.ptr_inv {a : AAddr} {c : Value} (h : VRel φ (.ptr a) c) : ∃ x, c = .pointer (some ⟨x.blk, x.base + (a.off - x.sh), none⟩) ∧ φ a.id a.inc = some x ∧ x.sh ≤ a.off ∧ a.lim ≤ x.n := by
  cases h
  exact ⟨_, rfl, by assumption, by assumption, by assumption⟩

/-- The three bounds, where the model's capacity is at least the evaluator's. -/
theorem sliceBounds_ok {isSlice : Bool} {len cap cap' m h l : Nat} {lo hi mx : Option AV} {clo chi cmx : Option Value} (rlo : OptRel φ lo clo) (rhi : OptRel φ hi chi) (rmx : OptRel φ mx cmx)
    (hcap : cap ≤ cap') (hm : sliceBd mx cap cap = some m) (hh : sliceBd hi m len = some h) (hl : sliceBd lo h 0 = some l) (hn : ¬ (mx.isSome = true ∧ hi.isSome = false)) (hlen : len ≤ m) (w : World) :
    ∃ m', (Instr.sliceBounds isSlice len cap' clo chi cmx).run P.toProgram w = .ok (l, h, m') w ∧ m ≤ m' ∧ m' ≤ cap' ∧ l ≤ h ∧ h ≤ m ∧ (mx.isSome = true → m' = m) ∧ (mx.isSome = false → m' = cap') := by
  obtain ⟨m', e1, hmm, hmc, hx1, hx2⟩ : ∃ m', (∀ w : World, (match cmx with | some v => Instr.sliceBound v cap' (if isSlice = true then .slice3Acap else .slice3Alen) | none => (pure cap' : Sem Nat)).run P.toProgram w = .ok m' w) ∧ m ≤ m' ∧ m' ≤ cap' ∧ (mx.isSome = true → m' = m) ∧ (mx.isSome = false → m' = cap') := by
    cases rmx with
    | none => simp [sliceBd] at hm; subst hm; exact ⟨cap', fun w => by simp, hcap, Nat.le_refl _, by simp, by simp⟩
    | some r =>
      obtain ⟨k, rfl, hle⟩ := sliceBd_some hm
      cases r
      exact ⟨m, fun w => by simpa using run_sliceBound (P := P) (Nat.le_trans hle hcap) w, Nat.le_refl _, by omega, fun _ => rfl, by simp⟩
  obtain ⟨e2, hhm⟩ : (∀ w : World, (match chi, cmx with | some v, some _ => Instr.sliceBound v m' .slice3B | some v, none => Instr.sliceBound v m' (if isSlice = true then .sliceAcap else .sliceAlen) | none, none => (pure len : Sem Nat) | none, some _ => stuck "Slice: max without high").run P.toProgram w = .ok h w) ∧ h ≤ m := by
    cases rhi with
    | none =>
      cases rmx with
      | none => simp [sliceBd] at hh; subst hh; exact ⟨fun w => by simp, hlen⟩
      | some r => simp at hn
    | some r =>
      obtain ⟨k, rfl, hle⟩ := sliceBd_some hh
      cases r
      refine ⟨fun w => ?_, hle⟩
      cases cmx <;> exact run_sliceBound (by omega) w
  obtain ⟨e3, hlh⟩ : (∀ w : World, (match clo with | some v => Instr.sliceBound v h (if cmx.isSome = true then .slice3C else .sliceB) | none => (pure 0 : Sem Nat)).run P.toProgram w = .ok l w) ∧ l ≤ h := by
    cases rlo with
    | none => simp [sliceBd] at hl; subst hl; exact ⟨fun w => by simp, Nat.zero_le _⟩
    | some r =>
      obtain ⟨k, rfl, hle⟩ := sliceBd_some hl
      cases r
      exact ⟨fun w => run_sliceBound hle w, hle⟩
  refine ⟨m', ?_, hmm, hmc, hlh, hhm, hx1, hx2⟩
  have f1 := e1 w
  have f2 := e2 w
  have f3 := e3 w
  clear e1 e2 e3 hx1 hx2
  cases rmx <;> cases rhi <;> cases rlo <;> simp only [Sem.run_pure, run_stuck, Result.ok.injEq, and_true, reduceCtorEq, Option.isSome_none, Option.isSome_some, Bool.false_eq_true, if_false, if_true] at f1 f2 f3 <;>
    (try subst f1) <;> (try subst f2) <;> (try subst f3) <;> simp [Instr.sliceBounds, *]

theorem sliceStr_ok {t : TypeId} (hu : P.underlying t = some .string) {x v : AV} {cx : Value} {lo hi : Option AV} {clo chi : Option Value} (hx : VRel φ x cx) (rlo : OptRel φ lo clo) (rhi : OptRel φ hi chi)
    (h : sliceStrV x lo hi = some v) (w : World) : ∃ c, (Instr.sliceAt t cx clo chi none).run P.toProgram w = .ok c w ∧ VRel φ v c := by
  unfold sliceStrV at h
  split at h
  · rename_i sl
    split at h
    · rename_i hh h1
      split at h
      · rename_i ll h2
        cases h
        cases hx
        rename_i bs
        have hlen : bs.data.toList.length = bs.size := rfl
        rw [hlen] at h1
        obtain ⟨m', e, _, _, hlh, hhm, _, hm2⟩ := sliceBounds_ok (P := P) (isSlice := false) (len := bs.size) (cap := bs.size) (cap' := bs.size) (m := bs.size) rlo rhi (.none (φ := φ)) (Nat.le_refl _) (by simp [sliceBd]) h1 h2 (by simp) (Nat.le_refl _) w
        refine ⟨.string (bs.extract ll hh), ?_, ?_⟩
        · simp [Instr.sliceAt, run_underlying_some hu, Instr.slice, e]
        · have : (bs.extract ll hh).data.toList = (bs.data.toList.take hh).drop ll := by
            rw [ByteArray.data_extract, Array.toList_extract, List.extract_eq_take_drop, List.drop_take]
          rw [← this]; exact .str _
      · cases h
    · cases h
  · cases h

theorem sliceCore {esz : Nat} {a : AAddr} {len cap : Nat} {exact : Bool} {es : Nat} {v : AV} {cx : Value} {lo hi mx : Option AV} {clo chi cmx : Option Value} (hx : VRel φ (.slice a len cap exact es) cx)
    (rlo : OptRel φ lo clo) (rhi : OptRel φ hi chi) (rmx : OptRel φ mx cmx) (h : sliceSlV esz (.slice a len cap exact es) lo hi mx = some v) (isSlice : Bool) (w : World) :
    ∃ ca cap' l hh m', es = esz ∧ cx = .slice (some ca) len cap' ∧ (Instr.sliceBounds isSlice len cap' clo chi cmx).run P.toProgram w = .ok (l, hh, m') w ∧ VRel φ v (.slice (some (if m' = l then ca else ca.add (l * esz))) (hh - l) (m' - l)) := by
  simp only [sliceSlV] at h
  split at h
  · rename_i he
    subst he
    split at h
    · cases h
    · rename_i hn
      split at h
      · cases h
      · rename_i m h1
        split at h
        · cases h
        · rename_i hh h2
          split at h
          · cases h
          · rename_i l h3
            split at h
            · rename_i hlim
              obtain ⟨x, cap', rfl, p1, p2, p3, p4, p5, p6, p7, p8⟩ := hx.slice_inv
              have hmle : m ≤ cap := by
                cases mx with
                | none => simp [sliceBd] at h1; omega
                | some q => obtain ⟨k, _, hle⟩ := sliceBd_some h1; exact hle
              have hlenm : hi = none → len ≤ m := by
                intro hi0
                cases mx with
                | none => simp [sliceBd] at h1; omega
                | some q => subst hi0; simp at hn
              -- the bounds, with a length that is at most m
              have hb : ∃ m', (Instr.sliceBounds isSlice len cap' clo chi cmx).run P.toProgram w = .ok (l, hh, m') w ∧ m ≤ m' ∧ m' ≤ cap' ∧ l ≤ hh ∧ hh ≤ m ∧ (mx.isSome = true → m' = m) ∧ (mx.isSome = false → m' = cap') := by
                cases hi with
                | none => exact sliceBounds_ok (P := P) rlo rhi rmx p6 h1 h2 h3 (by cases mx <;> simp at hn ⊢) (hlenm rfl) w
                | some q =>
                  have h2' : sliceBd (some q) m 0 = some hh := by
                    obtain ⟨k, rfl, hle⟩ := sliceBd_some h2
                    simp [sliceBd, hle]
                  obtain ⟨m', e, r⟩ := sliceBounds_ok (P := P) (isSlice := isSlice) (len := 0) rlo rhi rmx p6 h1 h2' h3 (by simp) (Nat.zero_le _) w
                  refine ⟨m', ?_, r⟩
                  cases rhi
                  cases cmx <;> simpa [Instr.sliceBounds] using e
              obtain ⟨m', e, hmm, hmc, hlh, hhm, hm1, hm2⟩ := hb
              have hmul : l * es ≤ hh * es := Nat.mul_le_mul hlh (Nat.le_refl _)
              split at h
              · rename_i hlm
                cases h
                refine ⟨_, _, _, _, _, rfl, rfl, e, ?_⟩
                rw [addr_add]
                rw [if_neg (by omega)]
                have hsub : (hh - l) * es = hh * es - l * es := Nat.sub_mul ..
                have hsub2 : (m' - l) * es = m' * es - l * es := Nat.sub_mul ..
                have hm'c : m' * es ≤ cap' * es := Nat.mul_le_mul hmc (Nat.le_refl _)
                have hml : l * es ≤ m' * es := Nat.mul_le_mul (by omega) (Nat.le_refl _)
                have := VRel.slice (φ := φ) (a := { a with off := a.off + l * es }) (x := x) (len := hh - l) (cap := m - l) (exact := exact || mx.isSome) (esz := es) (cap' := m' - l)
                  p1 (by show x.sh ≤ a.off + l * es; omega) p3 (by show a.off + l * es + (hh - l) * es ≤ a.lim; omega) (by omega) (by omega) (by
                    intro hex
                    cases hmx : mx.isSome with
                    | true => rw [hm1 hmx]
                    | false =>
                      rw [hmx] at hex
                      have := p7 (by simpa using hex)
                      have e2 := hm2 hmx
                      have : m = cap := by
                        cases mx with
                        | none => simp [sliceBd] at h1; omega
                        | some q => simp at hmx
                      omega) (by show x.base + (a.off + l * es - x.sh) + (m' - l) * es ≤ x.top; omega)
                rw [show x.base + (a.off - x.sh) + l * es = x.base + (a.off + l * es - x.sh) by omega]
                exact this
              · rename_i hlm
                have hlm' : l = m := by omega
                split at h
                · rename_i hex
                  cases h
                  have hm'm : m' = m := by
                    cases hmx : mx.isSome with
                    | true => exact hm1 hmx
                    | false =>
                      rw [hmx] at hex
                      have := p7 (by simpa using hex)
                      have e2 := hm2 hmx
                      have : m = cap := by
                        cases mx with
                        | none => simp [sliceBd] at h1; omega
                        | some q => simp at hmx
                      omega
                  refine ⟨_, _, _, _, _, rfl, rfl, e, ?_⟩
                  rw [addr_add]
                  rw [if_pos (by omega), show hh - l = 0 by omega, show m' - l = 0 by omega]
                  exact .slice p1 p2 p3 (by omega) (Nat.le_refl _) (Nat.le_refl _) (fun _ => rfl) (by omega)
                · cases h
                  refine ⟨_, _, _, _, _, rfl, rfl, e, ?_⟩
                  rw [addr_add]
                  rw [show hh - l = 0 by omega]
                  split <;> exact .empty _ _
            · cases h
  · cases h

theorem sliceSl_ok {t el : TypeId} {esz : Nat} (hu : P.underlying t = some (.slice el)) (hsz : szOf P el = some esz) {x v : AV} {cx : Value} {lo hi mx : Option AV} {clo chi cmx : Option Value} (hx : VRel φ x cx)
    (rlo : OptRel φ lo clo) (rhi : OptRel φ hi chi) (rmx : OptRel φ mx cmx) (h : sliceSlV esz x lo hi mx = some v) (w : World) :
    ∃ c, (Instr.sliceAt t cx clo chi cmx).run P.toProgram w = .ok c w ∧ VRel φ v c := by
  have hs : ∀ w, (sizeOf el).run P.toProgram w = .ok esz w := fun w => run_sizeOf hsz
  unfold sliceSlV at h
  split at h
  · -- nil
    cases hx
    split at h
    · rename_i m hh l h1 h2 h3
      split at h
      · cases h
      · rename_i hn
        cases h
        have hm : m = 0 := by
          cases mx with
          | none => simp [sliceBd] at h1; exact h1.symm
          | some q => obtain ⟨k, _, hle⟩ := sliceBd_some h1; omega
        subst hm
        obtain ⟨m', e, _, hmc, hlh, hhm, _, _⟩ := sliceBounds_ok (P := P) (isSlice := true) (len := 0) (cap := 0) (cap' := 0) rlo rhi rmx (Nat.le_refl _) h1 h2 (by
          have : hh = 0 := by
            cases hi with
            | none => simp [sliceBd] at h2; exact h2.symm
            | some q => obtain ⟨k, _, hle⟩ := sliceBd_some h2; omega
          rw [this]; exact h3) (by
            cases mx <;> cases hi <;> simp at hn ⊢) (Nat.le_refl _) w
        have : m' = 0 := by omega
        subst this
        have : l = 0 := by omega
        subst this
        have : hh = 0 := by omega
        subst this
        exact ⟨.slice none 0 0, by simp [Instr.sliceAt, run_underlying_some hu, Instr.slice, e, hs], .nilSlice⟩
    · cases h
  · -- empty
    cases hx
    rename_i a0 cap0
    split at h
    · rename_i hh l h1 h2
      cases h
      cases rmx
      have hh0 : hh = 0 := by
        cases hi with
        | none => simp [sliceBd] at h1; exact h1.symm
        | some q => obtain ⟨k, _, hle⟩ := sliceBd_some h1; omega
      have hl0 : l = 0 := by
        cases lo with
        | none => simp [sliceBd] at h2; exact h2.symm
        | some q => obtain ⟨k, _, hle⟩ := sliceBd_some h2; omega
      subst hh0 hl0
      obtain ⟨m', e, _, _, _, _, _, hm2⟩ := sliceBounds_ok (P := P) (isSlice := true) (len := 0) (cap := 0) (cap' := cap0) (m := 0) rlo rhi (.none (φ := φ)) (Nat.zero_le _) (by simp [sliceBd]) h1 h2 (by simp) (Nat.le_refl _) w
      have := hm2 rfl
      subst this
      refine ⟨.slice (if m' = 0 then some a0 else (some a0).map (·.add (0 * esz))) 0 m', by simp [Instr.sliceAt, run_underlying_some hu, Instr.slice, e, hs], ?_⟩
      split
      · exact .empty _ _
      · exact .empty _ _
    · cases h
  · -- a slice
    rename_i a len cap exact es
    obtain ⟨ca, cap', l, hh, m', rfl, rfl, e, hv⟩ := sliceCore (P := P) hx rlo rhi rmx (by simpa only [sliceSlV] using h) true w
    refine ⟨_, ?_, hv⟩
    simp only [Instr.sliceAt, run_underlying_some hu, Instr.slice, e, hs, Sem.run_bind, Result.andThen_ok, Sem.run_pure]
    split <;> simp
  · cases h

theorem sliceArr_ok (hs : RelSt φ s w) {t el : TypeId} {n esz : Nat} (hu : P.underlying t = some (.array n el)) (hsz : szOf P el = some esz) {x v : AV} {cx : Value} {lo hi mx : Option AV} {clo chi cmx : Option Value} (hx : VRel φ x cx)
    (rlo : OptRel φ lo clo) (rhi : OptRel φ hi chi) (rmx : OptRel φ mx cmx) (h : sliceArrV s n esz x lo hi mx = some v) :
    ∃ c, (Instr.sliceAt t cx clo chi cmx).run P.toProgram w = .ok c w ∧ VRel φ v c := by
  unfold sliceArrV at h
  split at h
  · rename_i a
    split at h
    · rename_i l0 hrd
      obtain ⟨x, rfl, p1, p2, p3⟩ := hx.ptr_inv
      unfold St.readAt at hrd
      split at hrd
      · rename_i cs lo0 inc ro ho
        split at hrd
        · rename_i hc
          obtain ⟨cc, el1, fz, hh1, e1, e2, e3, e4, e5, e6, e7⟩ := cells_inv hs ho p1 hc.1 hc.2.1
          have hsl : VRel φ (.slice a n n true esz) (.slice (some ⟨x.blk, x.base + (a.off - x.sh), none⟩) n n) :=
            .slice p1 p2 p3 hc.2.2 (Nat.le_refl _) (Nat.le_refl _) (fun _ => rfl) (by omega)
          obtain ⟨ca, cap', l, hh, m', _, hcx, e, hv⟩ := sliceCore (P := P) hsl rlo rhi rmx h false w
          cases hcx
          refine ⟨_, ?_, hv⟩
          simp only [Instr.sliceAt, run_underlying_some hu, Instr.sureAddr, e, run_sizeOf hsz, Sem.run_bind, Result.andThen_ok, Sem.run_pure]
        · cases hrd
      · cases hrd
    · cases h
  · cases h
end
end Go.V
