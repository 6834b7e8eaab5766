/- SOUNDNESS: numbers, strings, comparisons, conversions. -/
import Derived.Test.YtlpdekocilhciaaV7
/- SOUNDNESS: numbers, strings, comparisons, conversions. -/
namespace Go.V
open Go

theorem wrapBy_eq (half full : Nat) (sg : Bool) (n : Int) (h0 : 0 < half) (h : full = 2 * half) :
    wrapBy half full sg n = (if sg && decide (n % (full : Int) ≥ (half : Int)) then n % (full : Int) - (full : Int) else n % (full : Int)) := by
  cases n with
  | ofNat m =>
    have em : (Int.ofNat m) % (full : Int) = ((m % full : Nat) : Int) := by simp
    rw [em]
    simp only [wrapBy]
    cases sg with
    | true =>
      by_cases h1 : m < half
      · have h2 : m % full = m := Nat.mod_eq_of_lt (by omega)
        have h3 : Nat.blt m half = true := by rw [Nat.blt_eq]; exact h1
        have h4 : decide (((m : Nat) : Int) ≥ (half : Int)) = false := by simp; omega
        simp only [h3, h2, h4, Bool.and_false, Bool.false_eq_true, if_false]; rfl
      · have : Nat.blt m half = false := by rw [← Bool.not_eq_true, Nat.blt_eq]; exact h1
        simp only [this, Bool.true_and]
        by_cases h3 : half ≤ m % full
        · have : Nat.ble half (m % full) = true := by rw [Nat.ble_eq]; exact h3
          have h4 : decide (((m % full : Nat) : Int) ≥ (half : Int)) = true := by simp; omega
          simp only [this, h4, if_true]
          exact Int.subNatNat_eq_coe
        · have : Nat.ble half (m % full) = false := by rw [← Bool.not_eq_true, Nat.ble_eq]; exact h3
          have h4 : decide (((m % full : Nat) : Int) ≥ (half : Int)) = false := by simp; omega
          simp only [this, h4]
          simp
    | false =>
      by_cases h1 : m < full
      · have h2 : m % full = m := Nat.mod_eq_of_lt h1
        have h3 : Nat.blt m full = true := by rw [Nat.blt_eq]; exact h1
        simp [h3, h2]
      · have : Nat.blt m full = false := by rw [← Bool.not_eq_true, Nat.blt_eq]; exact h1
        simp [this]
  | negSucc m =>
    have em : (Int.negSucc m) % (full : Int) = ((full - 1 - m % full : Nat) : Int) := by
      have h5 : m % full < full := Nat.mod_lt _ (by omega)
      rw [Int.negSucc_emod _ (by omega)]
      have : ((m : Int) % (full : Int)) = ((m % full : Nat) : Int) := by simp
      rw [this]; omega
    rw [em]
    simp only [wrapBy]
    cases sg with
    | true =>
      by_cases h1 : m < half
      · have h2 : m % full = m := Nat.mod_eq_of_lt (by omega)
        have h3 : decide (((full - 1 - m % full : Nat) : Int) ≥ (half : Int)) = true := by simp; omega
        have h4 : Nat.blt m half = true := by rw [Nat.blt_eq]; exact h1
        simp only [h3, h4, Bool.true_and, if_true]
        rw [h2, Int.negSucc_eq]; omega
      · have : Nat.blt m half = false := by rw [← Bool.not_eq_true, Nat.blt_eq]; exact h1
        simp only [this, Bool.true_and]
        by_cases h3 : half ≤ full - 1 - m % full
        · have : Nat.ble half (full - 1 - m % full) = true := by rw [Nat.ble_eq]; exact h3
          have h4 : decide (((full - 1 - m % full : Nat) : Int) ≥ (half : Int)) = true := by simp; omega
          simp only [this, h4, if_true]
          exact Int.subNatNat_eq_coe
        · have : Nat.ble half (full - 1 - m % full) = false := by rw [← Bool.not_eq_true, Nat.ble_eq]; exact h3
          have h4 : decide (((full - 1 - m % full : Nat) : Int) ≥ (half : Int)) = false := by simp; omega
          simp only [this, h4]
          simp
    | false => simp

theorem wrapF_eq (k : IntKind) (n : Int) : wrapF k n = k.wrap n := by
  cases k <;> simp only [wrapF] <;> rw [wrapBy_eq _ _ _ _ (by omega) (by omega)] <;> rfl

theorem mkInt_eq (k : IntKind) (n : Int) : mkInt k n = .int k n := by simp [mkInt]

section
variable {P : Prog} {φ : Phi} {s : St} {w : World}

/-- A pure computation of a plain value. -/
theorem pureAV_ok {m : Sem Value} {v : AV} (h : pureAV m = some v) : ∃ c, m = .pure c ∧ VRel φ v c := by
  unfold pureAV at h
  split at h
  · cases h; rw [mkInt_eq]; exact ⟨_, rfl, .int _ _⟩
  · cases h; exact ⟨_, rfl, .bool _⟩
  · cases h; exact ⟨_, rfl, .float _ _⟩
  · cases h; exact ⟨_, rfl, .complex _ _ _⟩
  · cases h

theorem pureAV_run {m : Sem Value} {v : AV} (h : pureAV m = some v) : ∃ c, (∀ w, m.run P.toProgram w = .ok c w) ∧ VRel φ v c := by
  obtain ⟨c, rfl, hv⟩ := pureAV_ok (φ := φ) h
  exact ⟨c, fun _ => rfl, hv⟩

theorem binInt_ok {op : BinOp} {k k' : IntKind} {a b : Int} {v : AV} (h : binInt op k a k' b = some v) (t : TypeId) :
    ∃ c, (∀ w, (binOp op t (.int k a) (.int k' b)).run P.toProgram w = .ok c w) ∧ VRel φ v c := by
  unfold binInt at h
  split at h
  · -- shl
    split at h
    · rename_i m
      cases h
      rw [mkInt_eq, wrapF_eq]
      refine ⟨_, fun w => ?_, .int _ _⟩
      have : ¬ (Int.ofNat m < 0) := by simp
      simp only [binOp, Op.shift, this, if_false, Sem.run_pure]
      congr 3
    · cases h
  · split at h
    · rename_i m
      cases h
      rw [mkInt_eq]
      refine ⟨_, fun w => ?_, .int _ _⟩
      have : ¬ (Int.ofNat m < 0) := by simp
      simp only [binOp, Op.shift, this, if_false, Sem.run_pure]
      congr 3
    · cases h
  · rename_i n1 n2
    split at h
    · rename_i hk
      subst hk
      cases op <;> dsimp only at h
      case shl => exact absurd rfl n1
      case shr => exact absurd rfl n2
      case quo =>
        split at h
        · cases h
        · rename_i hb; cases h; rw [mkInt_eq, wrapF_eq]
          exact ⟨_, fun w => by simp only [binOp, ne_eq, not_true, if_false, Op.intDiv, hb, Sem.run_pure], .int _ _⟩
      case rem =>
        split at h
        · cases h
        · rename_i hb; cases h; rw [mkInt_eq]
          exact ⟨_, fun w => by simp only [binOp, ne_eq, not_true, if_false, Op.intDiv, hb, Sem.run_pure], .int _ _⟩
      case and => obtain ⟨c, hc, hv⟩ := pureAV_ok (φ := φ) h; exact ⟨c, fun w => by simp [binOp, hc], hv⟩
      case or => obtain ⟨c, hc, hv⟩ := pureAV_ok (φ := φ) h; exact ⟨c, fun w => by simp [binOp, hc], hv⟩
      case xor => obtain ⟨c, hc, hv⟩ := pureAV_ok (φ := φ) h; exact ⟨c, fun w => by simp [binOp, hc], hv⟩
      case andNot => obtain ⟨c, hc, hv⟩ := pureAV_ok (φ := φ) h; exact ⟨c, fun w => by simp [binOp, hc], hv⟩
      case add => cases h; rw [mkInt_eq, wrapF_eq]; exact ⟨_, fun w => by simp [binOp, Op.intArith], .int _ _⟩
      case sub => cases h; rw [mkInt_eq, wrapF_eq]; exact ⟨_, fun w => by simp [binOp, Op.intArith]; rfl, .int _ _⟩
      case mul => cases h; rw [mkInt_eq, wrapF_eq]; exact ⟨_, fun w => by simp [binOp, Op.intArith], .int _ _⟩
      case eql => cases h; exact ⟨.bool (decide (a = b)), fun w => by simp [binOp, Op.intCmp]; rfl, .bool _⟩
      case neq => cases h; exact ⟨.bool (!decide (a = b)), fun w => by simp [binOp, Op.intCmp]; rfl, .bool _⟩
      case lss => cases h; exact ⟨.bool (decide (a < b)), fun w => by simp [binOp, Op.intCmp], .bool _⟩
      case leq => cases h; exact ⟨.bool (decide (a ≤ b)), fun w => by simp [binOp, Op.intCmp], .bool _⟩
      case gtr => cases h; exact ⟨.bool (decide (b < a)), fun w => by simp [binOp, Op.intCmp], .bool _⟩
      case geq => cases h; exact ⟨.bool (decide (b ≤ a)), fun w => by simp [binOp, Op.intCmp], .bool _⟩
    · cases h

theorem bytesEq_eq : ∀ (a b : List UInt8), bytesEq a b = (a == b)
  | [], [] => rfl
  | [], _ :: _ => rfl
  | _ :: _, [] => rfl
  | a :: l, b :: m => by
    simp only [bytesEq]
    by_cases h : a = b
    · subst h
      have : Nat.beq a.toNat a.toNat = true := by rw [Nat.beq_eq]
      simp [bytesEq_eq l m]
    · have h2 : a.toNat ≠ b.toNat := fun e => h (UInt8.toNat_inj.1 e)
      have : Nat.beq a.toNat b.toNat = false := by rw [← Bool.not_eq_true, Nat.beq_eq]; exact h2
      simp [this, h]
theorem bytesLt_eq : ∀ (a b : List UInt8), bytesLt a b = Op.bytesLess a b
  | [], [] => rfl
  | [], _ :: _ => rfl
  | _ :: _, [] => rfl
  | a :: l, b :: m => by
    simp only [bytesLt, Op.bytesLess]
    have e1 : decide (a < b) = Nat.blt a.toNat b.toNat := by
      rw [Bool.eq_iff_iff, Nat.blt_eq]; simp [UInt8.lt_iff_toNat_lt]
    have e2 : (a == b) = Nat.beq a.toNat b.toNat := by
      rw [Bool.eq_iff_iff, Nat.beq_eq]; simp [UInt8.toNat_inj]
    rw [e1, e2, bytesLt_eq l m]
    cases Nat.blt a.toNat b.toNat <;> cases Nat.beq a.toNat b.toNat <;> simp

theorem binStr_ok {op : BinOp} {x y : ByteArray} {v : AV} (h : binStr op x.data.toList y.data.toList = some v) (t : TypeId) :
    ∃ c, (∀ w, (binOp op t (.string x) (.string y)).run P.toProgram w = .ok c w) ∧ VRel φ v c := by
  have hb : ∀ o, o ≠ .shl → o ≠ .shr → binOp o t (.string x) (.string y) = Op.stringOp o x y := by
    intro o h1 h2; cases o <;> simp_all [binOp]
  have hx := ByteArray.toList_eq x
  have hy := ByteArray.toList_eq y
  cases op <;> simp only [binStr] at h
  case add =>
    split at h
    · rename_i hl
      cases h
      have e : (x ++ y).data.toList = x.data.toList ++ y.data.toList := by simp
      refine ⟨.string (x ++ y), fun w => ?_, by rw [← e]; exact .str _⟩
      rw [hb _ (by simp) (by simp)]
      have hi : IntKind.i64.max = 9223372036854775807 := rfl
      have hl' : x.size + y.size ≤ 1099511627776 := hl
      have : ¬ (((x.size + y.size : Nat) : Int) > IntKind.i64.max) := by rw [hi]; omega
      simp only [Op.stringOp, this, if_false, Sem.run_pure]
    · cases h
  case eql => cases h; exact ⟨_, fun w => by rw [hb _ (by simp) (by simp)]; simp [Op.stringOp, hx, hy, bytesEq_eq], .bool _⟩
  case neq => cases h; exact ⟨_, fun w => by rw [hb _ (by simp) (by simp)]; simp [Op.stringOp, hx, hy, bytesEq_eq], .bool _⟩
  case lss => cases h; exact ⟨_, fun w => by rw [hb _ (by simp) (by simp)]; simp [Op.stringOp, hx, hy, bytesLt_eq], .bool _⟩
  case leq => cases h; exact ⟨_, fun w => by rw [hb _ (by simp) (by simp)]; simp [Op.stringOp, hx, hy, bytesLt_eq, bytesEq_eq], .bool _⟩
  case gtr => cases h; exact ⟨_, fun w => by rw [hb _ (by simp) (by simp)]; simp [Op.stringOp, hx, hy, bytesLt_eq, bytesEq_eq], .bool _⟩
  case geq => cases h; exact ⟨_, fun w => by rw [hb _ (by simp) (by simp)]; simp [Op.stringOp, hx, hy, bytesLt_eq], .bool _⟩
  all_goals cases h

theorem binV_ok {op : BinOp} {x y v : AV} {cx cy : Value} (hx : VRel φ x cx) (hy : VRel φ y cy) (h : binV op x y = some v) (t : TypeId) :
    ∃ c, (∀ w, (binOp op t cx cy).run P.toProgram w = .ok c w) ∧ VRel φ v c := by
  unfold binV at h
  split at h
  · cases hx; cases hy; exact binInt_ok h t
  · cases hx; cases hy; exact binStr_ok h t
  · cases hx; cases hy
    split at h
    · rename_i hk
      subst hk
      cases op <;> dsimp only at h <;> (obtain ⟨c, hc, hv⟩ := pureAV_ok (φ := φ) h) <;> exact ⟨c, fun w => by simp [binOp, hc], hv⟩
    · cases h
  · cases hx; cases hy
    split at h
    · rename_i hk
      subst hk
      obtain ⟨c, hc, hv⟩ := pureAV_ok (φ := φ) h
      exact ⟨c, fun w => by cases op <;> simp [binOp, hc], hv⟩
    · cases h
  · cases h

theorem unV_ok {op : UnOp} {x v : AV} {cx : Value} (hx : VRel φ x cx) (h : unV op x = some v) :
    ∃ c, (∀ w, (Op.unary op cx).run P.toProgram w = .ok c w) ∧ VRel φ v c := by
  unfold unV at h
  split at h
  · cases hx; cases h; exact ⟨_, fun w => rfl, .bool _⟩
  · cases hx; cases h; rw [mkInt_eq, wrapF_eq]; exact ⟨_, fun w => by simp [Op.unary, Op.intArith]; rfl, .int _ _⟩
  · cases hx; cases h; exact ⟨_, fun w => rfl, .float _ _⟩
  · cases hx; cases h; exact ⟨_, fun w => rfl, .complex _ _ _⟩
  · cases hx; obtain ⟨c, hc, hv⟩ := pureAV_ok (φ := φ) h; exact ⟨c, fun w => by simp [Op.unary, hc], hv⟩
  · cases h

theorem part_ok {t : TypeId} {n off : Nat} {cs : List AV} {cc : Array Value} {v : AV} (hc : VRels φ cs cc.toList) (hsz : szOf P t = some n) (h : partAV (aggT P t) cs off n = some v) :
    ∃ c, (∀ w, (part t cc off).run P.toProgram w = .ok c w) ∧ VRel φ v c := by
  unfold partAV at h
  split at h
  · rename_i hag
    cases h
    refine ⟨.agg (cc.extract off (off + n)), fun w => by simp [part, run_isAgg hsz, hag, run_sizeOf hsz], ?_⟩
    have := VRel.agg ((hc.drop off).take n)
    have e : cc.extract off (off + n) = ⟨(cc.toList.drop off).take n⟩ := by
      apply Array.ext'
      simp [Array.toList_extract, List.extract_eq_take_drop]
    rw [e]; exact this
  · rename_i hag
    obtain ⟨c, h1, h2⟩ := hc.get h
    refine ⟨c, fun w => ?_, h2⟩
    have h1' : cc[off]? = some c := by simpa using h1
    simp [part, run_isAgg hsz, hag, h1']

theorem fieldsOf_eq {t : TypeId} {fs : Array Field} (h : P.underlying t = some (.struct fs)) : P.fieldsOf t = fs := by
  simp [Program.fieldsOf, h]

theorem beq_data (a b : ByteArray) : (a == b) = (a.data.toList == b.data.toList) := by
  rw [beq_toListBytes, ByteArray.toList_eq, ByteArray.toList_eq]

theorem ptr_eq_ok {e : TypeId} {n : Nat} {a b : AAddr} {ca cb : Addr} (hsz : szOf P e = some n) (hn : n ≠ 0) (ha : VRel φ (.ptr a) (.pointer (some ca))) (hb : VRel φ (.ptr b) (.pointer (some cb)))
    (h1 : a.id = b.id) (h2 : a.inc = b.inc) {D : Nat} {t : TypeId} (hu : P.underlying t = some (.pointer e)) (w : World) :
    (Op.equalIn (D + 1) t (.pointer (some ca)) (.pointer (some cb))).run P.toProgram w = .ok (decide (a.off = b.off)) w := by
  cases ha
  rename_i x p1 p2 p3
  cases hb
  rename_i y q1 q2 q3
  rw [← h1, ← h2, p1] at q1
  cases q1
  have hs : (sizeOf e).run P.toProgram w = .ok n w := run_sizeOf hsz
  simp only [Op.equalIn, Sem.run_bind, run_underlying_some hu, Result.andThen_ok, hs, ne_eq, hn, not_false_eq_true, if_true, sameAddr, beq_self_eq_true, Sem.run_pure]
  congr 1
  rw [Bool.eq_iff_iff]
  simp
  constructor
  · intro h; omega
  · intro h; rw [h]

/-- The parts of a struct, as the model goes through them. -/
theorem eqFields_ok {D : Nat} {f : TypeId → Option EqT}
    (ih : ∀ (t : TypeId) (e : EqT), f t = some e → ∀ {x y : AV} {cx cy : Value} {b : Bool}, VRel φ x cx → VRel φ y cy → eqV e x y = some b → ∀ w : World, (Op.equalIn D t cx cy).run P.toProgram w = .ok b w)
    {xs ys : List AV} {cxs cys : Array Value} (hx : VRels φ xs cxs.toList) (hy : VRels φ ys cys.toList) :
    ∀ (fs : List Field) (ps : List (Nat × Nat × Bool × EqT)), eqTs f P ((fs.filter fun f => f.name ≠ "_").map fun f => (f.offset, f.type)) = some ps → ∀ (b : Bool), eqParts ps xs ys = some b →
      ∀ w : World, (Op.eqFields D cxs cys fs).run P.toProgram w = .ok b w
  | [], ps, h, b, hb, w => by
    simp [eqTs] at h; subst h
    simp [eqParts] at hb; subst hb
    simp [Op.eqFields]
  | fl :: fs, ps, h, b, hb, w => by
    simp only [Op.eqFields]
    by_cases hn : fl.name ≠ "_"
    · rw [if_pos hn]
      rw [List.filter_cons_of_pos (by simpa using hn)] at h
      simp only [List.map_cons, eqTs] at h
      split at h
      · rename_i n e r h1 h2 h3
        cases h
        simp only [eqParts] at hb
        split at hb
        · rename_i x y h4 h5
          obtain ⟨cx, c1, c2⟩ := part_ok (P := P) hx h1 h4
          obtain ⟨cy, d1, d2⟩ := part_ok (P := P) hy h1 h5
          simp only [Sem.run_bind, c1, d1, Result.andThen_ok]
          cases he : eqV e x y with
          | none => rw [he] at hb; cases hb
          | some q =>
            rw [he] at hb
            rw [ih _ _ h2 c2 d2 he w]
            cases q with
            | true =>
              simp only [Result.andThen_ok, Bool.not_true, Bool.false_eq_true, if_false]
              exact eqFields_ok ih hx hy fs r h3 b hb w
            | false =>
              cases hb
              simp
        · cases hb
      · cases h
    · rw [if_neg hn]
      rw [List.filter_cons_of_neg (by simpa using hn)] at h
      exact eqFields_ok ih hx hy fs ps h b hb w

/-- The elements of an array, as the model goes through them. -/
def eqElems (D : Nat) (elem : TypeId) (n : Nat) (xs ys : Array Value) : List Nat → Sem Bool
  | [] => pure true
  | i :: l => do
    let a ← part elem xs (i * n)
    let b ← part elem ys (i * n)
    let r ← Op.equalIn D elem a b
    if (!r) = true then pure false else eqElems D elem n xs ys l

theorem eqElems_ok {D : Nat} {f : TypeId → Option EqT} {elem : TypeId} {n : Nat} (hsz : szOf P elem = some n)
    (ih : ∀ (t : TypeId) (e : EqT), f t = some e → ∀ {x y : AV} {cx cy : Value} {b : Bool}, VRel φ x cx → VRel φ y cy → eqV e x y = some b → ∀ w : World, (Op.equalIn D t cx cy).run P.toProgram w = .ok b w)
    {xs ys : List AV} {cxs cys : Array Value} (hx : VRels φ xs cxs.toList) (hy : VRels φ ys cys.toList) :
    ∀ (l : List Nat) (ps : List (Nat × Nat × Bool × EqT)), eqTs f P (l.map fun i => (i * n, elem)) = some ps → ∀ (b : Bool), eqParts ps xs ys = some b →
      ∀ w : World, (eqElems D elem n cxs cys l).run P.toProgram w = .ok b w
  | [], ps, h, b, hb, w => by
    simp [eqTs] at h; subst h
    simp [eqParts] at hb; subst hb
    simp [eqElems]
  | i :: l, ps, h, b, hb, w => by
    simp only [eqElems]
    simp only [List.map_cons, eqTs] at h
    split at h
    · rename_i n' e r h1 h2 h3
      cases h
      rw [hsz] at h1; cases h1
      simp only [eqParts] at hb
      split at hb
      · rename_i x y h4 h5
        obtain ⟨cx, c1, c2⟩ := part_ok (P := P) hx hsz h4
        obtain ⟨cy, d1, d2⟩ := part_ok (P := P) hy hsz h5
        simp only [Sem.run_bind, c1, d1, Result.andThen_ok]
        cases he : eqV e x y with
        | none => rw [he] at hb; cases hb
        | some q =>
          rw [he] at hb
          rw [ih _ _ h2 c2 d2 he w]
          cases q with
          | true =>
            simp only [Result.andThen_ok, Bool.not_true, Bool.false_eq_true, if_false]
            exact eqElems_ok hsz ih hx hy l r h3 b hb w
          | false =>
            cases hb
            simp
      · cases hb
    · cases h

theorem run_equalIn_array (d : Nat) (t elem : TypeId) (len n : Nat) (xs ys : Array Value) (ht : P.underlying t = some (.array len elem)) (hsz : szOf P elem = some n) (w : World) :
    (Op.equalIn (d + 1) t (.agg xs) (.agg ys)).run P.toProgram w = (eqElems d elem n xs ys (List.range len)).run P.toProgram w := by
  have hs : (sizeOf elem).run P.toProgram w = .ok n w := run_sizeOf hsz
  simp only [Op.equalIn, Sem.run_bind, run_underlying_some ht, Result.andThen_ok, hs]
  rw [Std.Legacy.Range.forIn_eq_forIn_range']
  have er : List.range' (Std.Legacy.Range.start [:len]) (Std.Legacy.Range.size [:len]) (Std.Legacy.Range.step [:len]) = List.range len := by
    simp [Std.Legacy.Range.size, List.range_eq_range']
  rw [er]
  clear hs er
  generalize List.range len = l
  induction l generalizing w with
  | nil => simp [eqElems]
  | cons i l ih =>
    simp only [List.forIn_cons, eqElems, Sem.run_bind, Sem.run_ite]
    generalize (part elem xs (i * n)).run P.toProgram w = r1
    cases r1 with
    | ok a w1 =>
      simp only [Result.andThen_ok]
      generalize (part elem ys (i * n)).run P.toProgram w1 = r2
      cases r2 with
      | ok b w2 =>
        simp only [Result.andThen_ok]
        generalize (Op.equalIn d elem a b).run P.toProgram w2 = r3
        cases r3 with
        | ok r w3 =>
          cases r
          · simp only [Result.andThen_ok, Bool.not_false, if_true, Sem.run_pure]
          · simp only [Result.andThen_ok, Bool.not_true, Bool.false_eq_true, if_false, Sem.run_pure]
            exact ih w3
        | halt x w3 => simp [Result.andThen]
      | halt x w2 => simp [Result.andThen]
    | halt x w1 => simp [Result.andThen]

theorem eqV_agg {ps : List (Nat × Nat × Bool × EqT)} {x y : AV} {b : Bool} (h : eqV (.agg ps) x y = some b) : ∃ xs ys, x = .agg xs ∧ y = .agg ys ∧ eqParts ps xs ys = some b := by
  cases x
  case agg xs =>
    cases y
    case agg ys => exact ⟨xs, ys, rfl, rfl, by simpa only [eqV] using h⟩
    all_goals (simp [eqV] at h)
  all_goals (simp [eqV] at h)

set_option maxHeartbeats 800000 in
theorem eq_ok : ∀ (d : Nat) (D : Nat) (t : TypeId) (e : EqT), eqT P d t = some e → d ≤ D → ∀ {x y : AV} {cx cy : Value} {b : Bool}, VRel φ x cx → VRel φ y cy → eqV e x y = some b →
    ∀ w : World, (Op.equalIn D t cx cy).run P.toProgram w = .ok b w
  | 0, _, _, _, h, _, _, _, _, _, _, _, _, _, _ => by simp [eqT] at h
  | d + 1, 0, _, _, _, hD, _, _, _, _, _, _, _, _, _ => by omega
  | d + 1, D + 1, t, e, h, hD, x, y, cx, cy, b, hx, hy, hv, w => by
    unfold eqT at h
    split at h
    · rename_i hu
      cases h
      cases x <;> cases y <;> simp [eqV, primEq] at hv
      subst hv
      cases hx; cases hy
      exact run_equalIn_bool w D t _ _ hu
    · rename_i k hu
      cases h
      cases x <;> cases y <;> simp [eqV, primEq] at hv
      obtain ⟨rfl, rfl⟩ := hv
      cases hx; cases hy
      rw [run_equalIn_int w D t _ _ _ _ hu]
      congr 1
    · rename_i hu
      cases h
      cases x <;> cases y <;> simp [eqV, primEq] at hv
      subst hv
      cases hx; cases hy
      rw [run_equalIn_string w D t _ _ hu, bytesEq_eq, ByteArray.toList_eq, ByteArray.toList_eq]
    · rename_i e' hu
      split at h
      · rename_i n hsz
        split at h
        · cases h
        · rename_i hn
          cases h
          cases x <;> cases y <;> simp [eqV, nilEq] at hv
          · obtain ⟨⟨c1, c2⟩, rfl⟩ := hv
            cases hx
            rename_i a1 a2 a3
            cases hy
            rename_i b1 b2 b3
            exact ptr_eq_ok hsz hn (.ptr a1 a2 a3) (.ptr b1 b2 b3) c1 c2 hu w
          all_goals (subst hv; cases hx; cases hy; simp [Op.equalIn, run_underlying_some hu])
      · cases h
    · rename_i e' hu
      cases h
      cases x <;> cases y <;> simp [eqV, nilEq] at hv
      all_goals (subst hv; cases hx; cases hy; simp [Op.equalIn, run_underlying_some hu])
    · rename_i k' e' hu
      cases h
      cases x <;> cases y <;> simp [eqV, nilEq] at hv
      all_goals (subst hv; cases hx; cases hy; simp [Op.equalIn, run_underlying_some hu])
    · rename_i k' e' hu
      cases h
      cases x <;> cases y <;> simp [eqV, nilEq] at hv
      all_goals (subst hv; cases hx; cases hy; simp [Op.equalIn, run_underlying_some hu])
    · rename_i k' hu
      cases h
      cases x <;> cases y <;> simp [eqV, nilEq] at hv
      all_goals (subst hv; cases hx; cases hy; simp [Op.equalIn, run_underlying_some hu])
    · rename_i fs hu
      split at h
      · cases h
      · rename_i hst
        split at h
        · rename_i ps hps
          cases h
          obtain ⟨_, _, rfl, rfl, hv⟩ := eqV_agg hv
          cases hx; cases hy
          rename_i xs hxs ys hys
          have hf := fieldsOf_eq hu
          rw [run_equalIn_struct w D t _ _ (by rw [hf]; exact hu) (by simpa using hst), hf]
          exact eqFields_ok (f := eqT P d) (fun t e ht => eq_ok d D t e ht (by omega)) hxs hys fs.toList ps hps b hv w
        · cases h
    · rename_i n e' hu
      split at h
      · rename_i k hsz
        split at h
        · rename_i ps hps
          cases h
          obtain ⟨_, _, rfl, rfl, hv⟩ := eqV_agg hv
          cases hx; cases hy
          rename_i xs hxs ys hys
          rw [run_equalIn_array D t e' n k _ _ hu hsz w]
          exact eqElems_ok hsz (f := eqT P d) (fun t e ht => eq_ok d D t e ht (by omega)) hxs hys (List.range n) ps hps b hv w
        · cases h
      · cases h
    · cases h
end
end Go.V
