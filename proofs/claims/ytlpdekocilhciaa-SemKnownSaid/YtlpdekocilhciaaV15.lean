/- SOUNDNESS: calls. -/
import Derived.Test.YtlpdekocilhciaaV14
/- SOUNDNESS: calls. -/
namespace Go.V
open Go

section
variable {P : Prog} {T : Tab} {rec : Rec}

theorem ofOpds0 {al : List Operand} (h : ofOpds P al = some []) : al = [] := by
  cases al with
  | nil => rfl
  | cons a l => unfold ofOpds at h; split at h <;> cases h

theorem ofOpdsC {al : List Operand} {x : Opd} {xs : List Opd} (h : ofOpds P al = some (x :: xs)) : ∃ X l, al = X :: l ∧ ofOpd P X = some x ∧ ofOpds P l = some xs := by
  cases al with
  | nil => simp [ofOpds] at h
  | cons a l =>
    unfold ofOpds at h
    split at h
    · cases h; exact ⟨a, l, rfl, by assumption, by assumption⟩
    · cases h

theorem ofOpds1 {al : List Operand} {x : Opd} (h : ofOpds P al = some [x]) : ∃ X, al = [X] ∧ ofOpd P X = some x := by
  obtain ⟨X, l, rfl, h1, h2⟩ := ofOpdsC h
  cases ofOpds0 h2
  exact ⟨X, rfl, h1⟩

theorem ofOpds2 {al : List Operand} {x y : Opd} (h : ofOpds P al = some [x, y]) : ∃ X Y, al = [X, Y] ∧ ofOpd P X = some x ∧ ofOpd P Y = some y := by
  obtain ⟨X, l, rfl, h1, h2⟩ := ofOpdsC h
  obtain ⟨Y, rfl, h3⟩ := ofOpds1 h2
  exact ⟨X, Y, rfl, h1, h3⟩

theorem builtin_run {a : Act} {w : World} {dst : Option Tmp} {b : Builtin} {al : List Operand} {tl : List TypeId} {ty : TypeId} {pos : String} {after : Array Edge} {g : Option (Nat × Bool)} :
    ∃ cs, (execOp a.eval ⟨dst, .call ⟨.builtin b, al.toArray, tl.toArray⟩, ty, pos, after, g⟩).run P.toProgram w = (builtin b tl.toArray ty cs (al.map a.eval).toArray).run P.toProgram w := by
  refine ⟨al.toArray.map (fun | .const _ => true | _ => false), ?_⟩
  simp only [execOp, resolve, Sem.run_bind, Sem.run_pure, Result.andThen_ok, invoke]
  rw [show al.toArray.map a.eval = (al.map a.eval).toArray by simp]
  rfl

theorem appendV_lim {φ : Phi} {s : St} {esz k : Nat} {x : AV} {more : List AV} {r : AV × St} {base : Option Addr} {sLen sCap : Nat} (h : appendV s esz x k more = some r) (hx : VRel φ x (.slice base sLen sCap)) : (sLen + k) * 65536 ≤ maxApp := by
  unfold appendV at h
  split at h
  · split at h
    · rename_i hk
      subst hk
      split at h
      · cases hx; decide
      · cases hx; decide
      · cases hx
        split at h
        · rename_i hc; simpa using hc.2
        · cases h
      · cases h
    · split at h
      · split at h
        · cases hx; rename_i hc; simpa using hc
        · cases h
      · cases hx
        split at h
        · rename_i hc; exact hc.2
        · cases h
      · cases h
  · cases h

theorem appendV_sl {φ : Phi} {s : St} {esz k : Nat} {x : AV} {more : List AV} {r : AV × St} {cx : Value} (h : appendV s esz x k more = some r) (hx : VRel φ x cx) : ∃ base sLen sCap, cx = .slice base sLen sCap := by
  unfold appendV at h
  split at h
  · split at h
    · split at h
      · cases hx; exact ⟨_, _, _, rfl⟩
      · cases hx; exact ⟨_, _, _, rfl⟩
      · cases hx; exact ⟨_, _, _, rfl⟩
      · cases h
    · split at h
      · cases hx; exact ⟨_, _, _, rfl⟩
      · cases hx; exact ⟨_, _, _, rfl⟩
      · cases h
  · cases h

theorem op_append {φ : Phi} {s : St} {w : World} {a : Act} {nt : Nat} {e : Env} {r : Res} {next : Act → World → Prop} {Q : Exit → Act → World → Prop}
    {dst : Option Tmp} {t u el : TypeId} {X Y : Operand} {x y : Opd} {n : Nat} {z : List AV} {du : TypeDesc} {ty : TypeId} {pos : String} {after : Array Edge} {g : Option (Nat × Bool)}
    (hg : GlobOk P φ) (he : RelEnv nt φ e a) (hs : RelSt φ s w) (hu : P.underlying t = some (.slice el)) (hsz : szOf P el = some n) (hz : zeroCellsV P el = some z) (hzl : z.length = n)
    (hxu : P.underlying u = some du) (hdu : ∀ k, du ≠ .int k) (hX : ofOpd P X = some x) (hY : ofOpd P Y = some y)
    (hev : evalIns T rec e s (.append n (bytesOfT P el) x y) = r) (hn : r ≠ .fail) (hf : Free s r.nextId)
    (hk : Cont φ s w r (fun c w' => next (a.put dst c) w') (fun c w' => Q (.panic [{ v := c, recovered := false }]) a w')) :
    Oper.wp P.toProgram ⟨dst, .call ⟨.builtin .append, [X, Y].toArray, [t, u].toArray⟩, ty, pos, after, g⟩ a w next Q := by
  simp only [evalIns] at hev
  split at hev
  · rename_i l hl
    split at hev
    · rename_i hb
      obtain ⟨v, s', h1, rfl⟩ := ofBoth_ne hev hn
      have rx := opd_rel hg he hX
      have ry := opd_rel hg he hY
      obtain ⟨k, k1, k2, k3⟩ := more_ok (P := P) hs ry hl
      obtain ⟨base, sLen, sCap, hcx⟩ := appendV_sl h1 rx
      rw [hcx] at rx
      obtain ⟨d, i, hd, hi, hsi⟩ := szOf_some hsz
      have hbi : i.bytes ≤ 65536 := by simpa [bytesOfT, hi] using hb
      obtain ⟨cz, z1, z2⟩ := zeroCells_rel hz
      have hcz : ∃ zv, i.zero = some zv ∧ zv.cells.size = n := by
        simp only [zeroCellsV, hi, Option.bind_some] at hz
        cases hzz : i.zero with
        | none => rw [hzz] at hz; simp at hz
        | some zv =>
          rw [hzz] at hz
          refine ⟨zv, rfl, ?_⟩
          have := (constAVs_rel (φ := φ) 8 hz).length
          simp at this
          omega
      obtain ⟨zv, hzv, hzs⟩ := hcz
      have hkk : l.length / n = k := by
        have hn0 : 0 < n := by
          unfold appendV at h1
          split at h1
          · rename_i hc; exact hc.2.2
          · cases h1
        rw [k1]; exact Nat.mul_div_cancel _ hn0
      rw [hkk] at h1
      have hlim := appendV_lim h1 rx
      obtain ⟨c, w', φ', c1, c2, c3⟩ := appendRest_ok (P := P) (el := el) (zv := zv) hs rx hzs k3 h1 hf
      obtain ⟨cs, hrun⟩ := builtin_run (P := P) (a := a) (w := w) (dst := dst) (b := .append) (al := [X, Y]) (tl := [t, u]) (ty := ty) (pos := pos) (after := after) (g := g)
      refine wp_val (c := c) (w' := w') ?_ (hk _ _ _ c2 c3)
      rw [hrun]
      simp only [builtin, Sem.run_bind, List.map_cons, List.map_nil, hcx]
      have := append_core (P := P) (w := w) (argTypes := [t, u].toArray) (ty := ty) (sT := t) (xT := u) (el := el) (esz := n) (n := k) (base := base) (sLen := sLen) (sCap := sCap) (cx := a.eval Y) (zv := zv) (ei := i)
        rfl rfl hu hi hsi hbi hzv hxu hdu k2 hlim
      rw [show [Value.slice base sLen sCap, a.eval Y].toArray = #[Value.slice base sLen sCap, a.eval Y] from rfl, this, c1]
      rfl
    · exact absurd hev.symm hn
  · exact absurd hev.symm hn

theorem op_appendZ {φ : Phi} {s : St} {w : World} {a : Act} {nt : Nat} {e : Env} {r : Res} {next : Act → World → Prop} {Q : Exit → Act → World → Prop}
    {dst : Option Tmp} {t u el : TypeId} {X Y : Operand} {x y : Opd} {n : Nat} {z : List AV} {k' : IntKind} {ty : TypeId} {pos : String} {after : Array Edge} {g : Option (Nat × Bool)}
    (hg : GlobOk P φ) (he : RelEnv nt φ e a) (hs : RelSt φ s w) (hu : P.underlying t = some (.slice el)) (hsz : szOf P el = some n) (hz : zeroCellsV P el = some z) (hzl : z.length = n)
    (hxu : P.underlying u = some (.int k')) (hX : ofOpd P X = some x) (hY : ofOpd P Y = some y)
    (hev : evalIns T rec e s (.appendZ n (bytesOfT P el) z x y) = r) (hn : r ≠ .fail) (hf : Free s r.nextId)
    (hk : Cont φ s w r (fun c w' => next (a.put dst c) w') (fun c w' => Q (.panic [{ v := c, recovered := false }]) a w')) :
    Oper.wp P.toProgram ⟨dst, .call ⟨.builtin .append, [X, Y].toArray, [t, u].toArray⟩, ty, pos, after, g⟩ a w next Q := by
  simp only [evalIns] at hev
  split at hev
  · rename_i k hkn
    split at hev
    · rename_i hb
      obtain ⟨hb, _⟩ := hb
      obtain ⟨v, s', h1, rfl⟩ := ofBoth_ne hev hn
      have rx := opd_rel hg he hX
      have ry := opd_rel hg he hY
      obtain ⟨kk, hcy⟩ : ∃ kk, a.eval Y = .int kk (Int.ofNat k) := by
        unfold bitsNonneg at hkn
        split at hkn
        · rename_i hq; cases hkn; rw [hq] at ry; cases hyy : a.eval Y <;> rw [hyy] at ry <;> cases ry; exact ⟨_, rfl⟩
        · cases hkn
      obtain ⟨base, sLen, sCap, hcx⟩ := appendV_sl h1 rx
      rw [hcx] at rx
      obtain ⟨d, i, hd, hi, hsi⟩ := szOf_some hsz
      have hbi : i.bytes ≤ 65536 := by simpa [bytesOfT, hi] using hb
      have hn0 : 0 < n := by
        unfold appendV at h1
        split at h1
        · rename_i hc; exact hc.2.2
        · cases h1
      have hcz : ∃ zv, i.zero = some zv ∧ VRels φ z zv.cells.toList := by
        simp only [zeroCellsV, hi, Option.bind_some] at hz
        cases hzz : i.zero with
        | none => rw [hzz] at hz; simp at hz
        | some zv =>
          rw [hzz] at hz
          exact ⟨zv, rfl, constAVs_rel (φ := φ) 8 hz⟩
      obtain ⟨zv, hzv, hzr⟩ := hcz
      have hzs : zv.cells.size = n := by have := hzr.length; simp at this; omega
      have hzv' : ∀ w1 : World, (zeroValue el).run P.toProgram w1 = .ok zv w1 := fun w1 => run_zeroValue hi hzv
      have hgives : Gives P w φ (if k * n = 0 then pure #[] else do pure (Builtin.zeroCells (← zeroValue el).cells k)) (zerosV z k) := by
        have hzz := zeros_rel hzr (by omega) k
        refine ⟨_, hzz, fun w1 _ => ?_⟩
        split
        · rename_i h0
          have : k = 0 := by
            rcases Nat.mul_eq_zero.1 h0 with h | h <;> omega
          subst this
          simp [Builtin.zeroCells]
        · simp only [Sem.run_bind, hzv', Result.andThen_ok, Sem.run_pure]
      have hlim := appendV_lim h1 rx
      obtain ⟨c, w', φ', c1, c2, c3⟩ := appendRest_ok (P := P) (el := el) (zv := zv) hs rx hzs hgives h1 hf
      obtain ⟨cs, hrun⟩ := builtin_run (P := P) (a := a) (w := w) (dst := dst) (b := .append) (al := [X, Y]) (tl := [t, u]) (ty := ty) (pos := pos) (after := after) (g := g)
      refine wp_val (c := c) (w' := w') ?_ (hk _ _ _ c2 c3)
      rw [hrun]
      simp only [builtin, Sem.run_bind, List.map_cons, List.map_nil, hcx, hcy]
      have := append_coreZ (P := P) (w := w) (argTypes := [t, u].toArray) (ty := ty) (sT := t) (xT := u) (el := el) (esz := n) (n := k) (base := base) (sLen := sLen) (sCap := sCap) (k := kk) (zv := zv) (ei := i)
        rfl rfl hu hi hsi hbi hzv hxu hlim
      rw [show [Value.slice base sLen sCap, Value.int kk (Int.ofNat k)].toArray = #[Value.slice base sLen sCap, Value.int kk (Int.ofNat k)] from rfl, this, c1]
      rfl
    · exact absurd hev.symm hn
  · exact absurd hev.symm hn

theorem op_call (hF : FuncsOk P T rec) {dst : Option Tmp} {c : Call} {ty : TypeId} {pos : String} {after : Array Edge} {g : Option (Nat × Bool)} : OpOk P T rec ⟨dst, .call c, ty, pos, after, g⟩ := by
  obtain ⟨callee, ⟨al⟩, ⟨tl⟩⟩ := c
  intro φ s w a nt e r next Q hg he hs hev hn hf hk
  simp only [ofOp, callIns] at hev
  split at hev
  · exact (bad_ne hev hn).elim
  · rename_i args hargs
    have rargs := opds_rel hg he hargs
    split at hev
    · -- a function
      rename_i f
      simp only [evalIns] at hev
      have := hF f (opds e args) s r hev hn φ w _ hg hs rargs hf ⟨dst, .call ⟨.value (.func f), ⟨al⟩, ⟨tl⟩⟩, ty, pos, after, g⟩ a next Q hk
      unfold Oper.wp
      simp only [execOp, resolve, Sem.run_bind, Act.eval, Deferred.ofValue, Sem.run_pure, Result.andThen_ok, invoke]
      simpa using this
    · -- a function's value
      rename_i x hx
      obtain ⟨y, hy, h⟩ := map1_ne hev hn
      have rx := opd_rel hg he hy
      simp only [evalIns] at h
      split at h
      · rename_i f l m hc
        rw [hc] at rx
        obtain ⟨cl, cm, hcx, rl, rm⟩ : ∃ cl cm, a.eval x = .func (.func f) cl.toArray cm.toArray ∧ VRels φ l cl ∧ VRels φ m cm := by
          cases hcx : a.eval x <;> rw [hcx] at rx <;> cases rx
          exact ⟨_, _, rfl, by assumption, by assumption⟩
        have := hF f (l ++ opds e args ++ m) s r h hn φ w _ hg hs ((rl.append rargs).append rm) hf ⟨dst, .call ⟨.value x, ⟨al⟩, ⟨tl⟩⟩, ty, pos, after, g⟩ a next Q hk
        unfold Oper.wp
        simp only [execOp, resolve, Sem.run_bind, hcx, Deferred.ofValue, Sem.run_pure, Result.andThen_ok, invoke]
        simpa using this
      · exact absurd h.symm hn
    · exact (bad_ne hev hn).elim
    · -- a builtin
      rename_i b
      obtain ⟨cs, hrun⟩ := builtin_run (P := P) (a := a) (w := w) (dst := dst) (b := b) (al := al) (tl := tl) (ty := ty) (pos := pos) (after := after) (g := g)
      have done : ∀ (c : Value) (w' : World), (builtin b tl.toArray ty cs (al.map a.eval).toArray).run P.toProgram w = .ok (.value c) w' → next (a.put dst c) w' → Oper.wp P.toProgram ⟨dst, .call ⟨.builtin b, al.toArray, tl.toArray⟩, ty, pos, after, g⟩ a w next Q := by
        intro c w' h1 h2
        exact wp_val (c := c) (w' := w') (by rw [hrun]; exact h1) h2
      split at hev
      · -- len
        rename_i x t
        obtain ⟨X, rfl, hX⟩ := ofOpds1 hargs
        have rx := opd_rel hg he hX
        split at hev
        · rename_i hu
          simp only [evalIns] at hev
          split at hev
          · rename_i l hc
            subst hev
            rw [hc] at rx
            cases hcx : a.eval X <;> rw [hcx] at rx <;> cases rx
            rename_i str
            refine done (.int .i64 str.size) w ?_ (hk _ _ _ (.refl hs) (by rw [mkInt_eq]; exact .int _ _))
            simp [builtin, Builtin.len_, hcx, run_underlying_some hu, goInt]
          · exact absurd hev.symm hn
        · rename_i el hu
          simp only [evalIns] at hev
          split at hev
          · rename_i ad len cap ex es hc
            subst hev
            rw [hc] at rx
            cases hcx : a.eval X <;> rw [hcx] at rx <;> cases rx
            refine done (.int .i64 len) w ?_ (hk _ _ _ (.refl hs) (by rw [mkInt_eq]; exact .int _ _))
            simp [builtin, Builtin.len_, hcx, run_underlying_some hu, goInt]
          · rename_i hc
            subst hev
            rw [hc] at rx
            cases hcx : a.eval X <;> rw [hcx] at rx <;> cases rx
            refine done (.int .i64 0) w ?_ (hk _ _ _ (.refl hs) (.int _ _))
            simp [builtin, Builtin.len_, hcx, run_underlying_some hu, goInt]
          · rename_i hc
            subst hev
            rw [hc] at rx
            cases hcx : a.eval X <;> rw [hcx] at rx <;> cases rx
            refine done (.int .i64 0) w ?_ (hk _ _ _ (.refl hs) (.int _ _))
            simp [builtin, Builtin.len_, hcx, run_underlying_some hu, goInt]
          · exact absurd hev.symm hn
        · rename_i n el hu
          simp only [evalIns] at hev
          subst hev
          refine done (.int .i64 n) w ?_ (hk _ _ _ (.refl hs) (.int _ _))
          simp [builtin, Builtin.len_, run_underlying_some hu, goInt]
        · rename_i el hu
          split at hev
          · rename_i n el' hu'
            simp only [evalIns] at hev
            subst hev
            refine done (.int .i64 n) w ?_ (hk _ _ _ (.refl hs) (.int _ _))
            simp [builtin, Builtin.len_, run_underlying_some hu, run_underlying_some hu', goInt]
          · exact (bad_ne hev hn).elim
        · rename_i kt el hu
          simp only [evalIns] at hev
          split at hev
          · rename_i hc
            subst hev
            rw [hc] at rx
            cases hcx : a.eval X <;> rw [hcx] at rx <;> cases rx
            refine done (.int .i64 0) w ?_ (hk _ _ _ (.refl hs) (.int _ _))
            simp [builtin, Builtin.len_, hcx, run_underlying_some hu, goInt]
          · rename_i rr hc
            split at hev
            · rename_i es cl ho
              subst hev
              rw [hc] at rx
              cases hcx : a.eval X <;> rw [hcx] at rx <;> cases rx
              rename_i q hq
              obtain ⟨ces, q1, q2⟩ := map_inv hs ho hq
              refine done (.int .i64 es.length) w ?_ (hk _ _ _ (.refl hs) (by rw [mkInt_eq]; exact .int _ _))
              have hl : ces.size = es.length := by have := q2.length; simpa using this.symm
              simp [builtin, Builtin.len_, hcx, run_underlying_some hu, goInt, run_getObj q1, hl]
            · exact absurd hev.symm hn
          · exact absurd hev.symm hn
        · exact (bad_ne hev hn).elim
      · -- cap
        rename_i x t
        obtain ⟨X, rfl, hX⟩ := ofOpds1 hargs
        have rx := opd_rel hg he hX
        split at hev
        · rename_i el hu
          simp only [evalIns] at hev
          split at hev
          · rename_i ad len cap es hc
            subst hev
            rw [hc] at rx
            obtain ⟨q, cap', hcx, _, _, _, _, _, _, hex, _⟩ := rx.slice_inv
            have := hex rfl
            subst this
            refine done (.int .i64 cap') w ?_ (hk _ _ _ (.refl hs) (by rw [mkInt_eq]; exact .int _ _))
            simp [builtin, Builtin.cap_, hcx, run_underlying_some hu, goInt]
          · rename_i hc
            subst hev
            rw [hc] at rx
            cases hcx : a.eval X <;> rw [hcx] at rx <;> cases rx
            refine done (.int .i64 0) w ?_ (hk _ _ _ (.refl hs) (.int _ _))
            simp [builtin, Builtin.cap_, hcx, run_underlying_some hu, goInt]
          · exact absurd hev.symm hn
        · exact (bad_ne hev hn).elim
      · -- append
        rename_i x y t u
        obtain ⟨X, Y, rfl, hX, hY⟩ := ofOpds2 hargs
        split at hev
        · rename_i el hu
          split at hev
          · rename_i n z hsz hz
            split at hev
            · exact (bad_ne hev hn).elim
            · rename_i hzl
              have hzl' : z.length = n := by simpa using hzl
              split at hev
              · rename_i k hxu
                exact op_appendZ hg he hs hu hsz hz hzl' hxu hX hY hev hn hf hk
              · rename_i el' hxu
                exact op_append hg he hs hu hsz hz hzl' hxu (by intro k; simp) hX hY hev hn hf hk
              · rename_i hxu
                exact op_append hg he hs hu hsz hz hzl' hxu (by intro k; simp) hX hY hev hn hf hk
              · exact (bad_ne hev hn).elim
          · exact (bad_ne hev hn).elim
        · exact (bad_ne hev hn).elim
      · -- min
        simp only [evalIns] at hev
        split at hev
        · rename_i x l hc
          obtain ⟨v, h1, rfl⟩ := ofOpt_ne hev hn
          rw [hc] at rargs
          generalize hcl : al.map a.eval = cl at *
          cases rargs
          rename_i cx cl r1 r2
          obtain ⟨c, c1, c2⟩ := minmax_ok (P := P) r1 r2 h1
          refine done c w ?_ (hk _ _ _ (.refl hs) c2)
          have c1' := c1 w
          simp only [builtin, Builtin.min_, Sem.run_bind]
          rw [show Builtin.min2 = mm false from rfl, c1']
          rfl
        · exact absurd hev.symm hn
      · -- max
        simp only [evalIns] at hev
        split at hev
        · rename_i x l hc
          obtain ⟨v, h1, rfl⟩ := ofOpt_ne hev hn
          rw [hc] at rargs
          generalize hcl : al.map a.eval = cl at *
          cases rargs
          rename_i cx cl r1 r2
          obtain ⟨c, c1, c2⟩ := minmax_ok (P := P) r1 r2 h1
          refine done c w ?_ (hk _ _ _ (.refl hs) c2)
          have c1' := c1 w
          simp only [builtin, Builtin.max_, Sem.run_bind]
          rw [show Builtin.max2 = mm true from rfl, c1']
          rfl
        · exact absurd hev.symm hn
      · -- real
        rename_i x
        obtain ⟨X, rfl, hX⟩ := ofOpds1 hargs
        have rx := opd_rel hg he hX
        simp only [evalIns] at hev
        split at hev
        · rename_i k p q hc
          subst hev
          rw [hc] at rx
          cases hcx : a.eval X <;> rw [hcx] at rx <;> cases rx
          refine done (.float k p) w ?_ (hk _ _ _ (.refl hs) (.float _ _))
          simp only [builtin, Sem.run_bind, List.map_cons, List.map_nil, hcx]
          rfl
        · exact absurd hev.symm hn
      · -- imag
        rename_i x
        obtain ⟨X, rfl, hX⟩ := ofOpds1 hargs
        have rx := opd_rel hg he hX
        simp only [evalIns] at hev
        split at hev
        · rename_i k p q hc
          subst hev
          rw [hc] at rx
          cases hcx : a.eval X <;> rw [hcx] at rx <;> cases rx
          refine done (.float k q) w ?_ (hk _ _ _ (.refl hs) (.float _ _))
          simp only [builtin, Sem.run_bind, List.map_cons, List.map_nil, hcx]
          rfl
        · exact absurd hev.symm hn
      · -- complex
        rename_i x y
        obtain ⟨X, Y, rfl, hX, hY⟩ := ofOpds2 hargs
        have rx := opd_rel hg he hX
        have ry := opd_rel hg he hY
        simp only [evalIns] at hev
        split at hev
        · rename_i k p k' q hc1 hc2
          split at hev
          · rename_i hkk
            subst hkk
            subst hev
            rw [hc1] at rx
            rw [hc2] at ry
            cases hcx : a.eval X <;> rw [hcx] at rx <;> cases rx
            cases hcy : a.eval Y <;> rw [hcy] at ry <;> cases ry
            refine done (.complex k p q) w ?_ (hk _ _ _ (.refl hs) (.complex _ _ _))
            simp only [builtin, Sem.run_bind, List.map_cons, List.map_nil, hcx, hcy]
            cases k <;> rfl
          · exact absurd hev.symm hn
        · exact absurd hev.symm hn
      · -- clear
        rename_i x t
        obtain ⟨X, rfl, hX⟩ := ofOpds1 hargs
        have rx := opd_rel hg he hX
        split at hev
        · rename_i el hu
          split at hev
          · rename_i n z hsz hz
            split at hev
            · rename_i hzl
              simp only [evalIns] at hev
              split at hev
              · rename_i hc
                subst hev
                rw [hc] at rx
                cases hcx : a.eval X <;> rw [hcx] at rx <;> cases rx
                refine done (.tuple #[]) w ?_ (hk _ _ _ (.refl hs) (.tuple (l' := []) .nil))
                simp [builtin, Builtin.clear_, hcx, run_underlying_some hu]
              · rename_i hc
                subst hev
                rw [hc] at rx
                cases hcx : a.eval X <;> rw [hcx] at rx <;> cases rx
                refine done (.tuple #[]) w ?_ (hk _ _ _ (.refl hs) (.tuple (l' := []) .nil))
                simp [builtin, Builtin.clear_, hcx, run_underlying_some hu]
              · rename_i ad len cap ex es hc
                rw [hc] at rx
                split at hev
                · rename_i hlen
                  subst hlen
                  subst hev
                  cases hcx : a.eval X <;> rw [hcx] at rx <;> cases rx
                  refine done (.tuple #[]) w ?_ (hk _ _ _ (.refl hs) (.tuple (l' := []) .nil))
                  simp [builtin, Builtin.clear_, hcx, run_underlying_some hu]
                · rename_i hlen
                  split at hev
                  · rename_i hes
                    subst hes
                    split at hev
                    · rename_i s' hst
                      subst hev
                      obtain ⟨w', c1, c2⟩ := clear_ok (P := P) (argTypes := [t].toArray) (ty := ty) hs rfl hu hz hzl.1 rx hlen hzl.2 hst
                      refine done (.tuple #[]) w' ?_ (hk _ _ _ c2 (.tuple (l' := []) .nil))
                      simp only [builtin, Sem.run_bind, List.map_cons, List.map_nil]
                      rw [show [a.eval X].toArray = #[a.eval X] from rfl, c1]
                      rfl
                    · exact absurd hev.symm hn
                  · exact absurd hev.symm hn
              · exact absurd hev.symm hn
            · exact (bad_ne hev hn).elim
          · exact (bad_ne hev hn).elim
        · exact (bad_ne hev hn).elim
      · -- delete
        rename_i m k t u
        obtain ⟨M, K, rfl, hM, hK⟩ := ofOpds2 hargs
        have rm := opd_rel hg he hM
        have rk := opd_rel hg he hK
        split at hev
        · rename_i kt et hu
          split at hev
          · rename_i kk hkk
            simp only [evalIns] at hev
            split at hev
            · rename_i s' hst
              subst hev
              obtain ⟨w', c1, c2⟩ := delete_ok (P := P) (argTypes := [t, u].toArray) (ty := ty) hs rfl hu hkk rm rk hst
              refine done (.tuple #[]) w' ?_ (hk _ _ _ c2 (.tuple (l' := []) .nil))
              simp only [builtin, Sem.run_bind, List.map_cons, List.map_nil]
              rw [show [a.eval M, a.eval K].toArray = #[a.eval M, a.eval K] from rfl, c1]
              rfl
            · exact absurd hev.symm hn
          · exact (bad_ne hev hn).elim
        · exact (bad_ne hev hn).elim
      · split at hev <;> exact (bad_ne hev hn).elim
end
end Go.V
