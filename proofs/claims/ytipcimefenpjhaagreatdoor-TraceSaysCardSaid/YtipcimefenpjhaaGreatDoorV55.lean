/- A function that defers a closure which recovers: as a hook. -/
import Derived.Test.YtipcimefenpjhaaGreatDoorV54
import Derived.Recover
set_option linter.unusedVariables false
set_option linter.unusedSimpArgs false
set_option linter.unusedSectionVars false
/- A function that defers a closure which recovers: as a hook. -/
namespace Go.V
open Go

/-- A function whose code is: something; a closure made and deferred; the rest. The closure's code: recover; something. -/
structure DFn where
  nt : Nat
  pre : ICode
  cd : Nat
  caps : List Opd
  rest : ICode
  results : List RVar
  g : Nat
  gnt : Nat
  gd : Nat
  ginit : List IOp
  grest : ICode

def exitVal : Ex → Option AV
  | .normal => some .nilIface
  | .ret => some .nilIface
  | .panic v => some v
  | _ => none

def deferH (rec : Rec) (D : DFn) (args : List AV) (s : St) : Option (AV × St) :=
  match Nat.ble args.length D.nt with
  | false => none
  | true => match rec D.pre (bind args 0 .leaf) s with
    | .ok .normal e1 s1 => match Nat.ble (opds e1 D.caps).length D.gnt with
      | false => none
      | true => match rec D.rest (e1.set D.cd (.func D.g [] (opds e1 D.caps))) s1 with
        | .ok x e3 s2 => match exitVal x with
          | none => none
          | some v => match rec (.region D.ginit false) ((bind (opds e1 D.caps) 0 .leaf).set D.gd v) s2 with
            | .ok .normal eg s3 => match rec D.grest eg s3 with
              | .ok .normal _ s4 => match resultsV e3 s4 D.results with
                | some l => some (tupled l, s4)
                | none => none
              | .ok .ret _ s4 => match resultsV e3 s4 D.results with
                | some l => some (tupled l, s4)
                | none => none
              | _ => none
            | _ => none
        | _ => none
    | _ => none

/-- The parts of such a function, out of the program's code. -/
def dOf (P : Prog) (F G : Func) : Option DFn :=
  match F.body, G.body with
  | some (.seq pre (.seq (.region _ ops false) rest)), some (.seq (.region _ gops false) grest) =>
    match ops.toList, gops.toList with
    | [⟨some cd, .makeFunc (.func g) first cap, _, _, _, none⟩, ⟨none, .defer c, _, _, _, none⟩], ⟨some gd, .call rc, _, _, _, none⟩ :: _ =>
      match first.toList, c.callee, c.args.toList, rc.callee, ofOpds P cap.toList, ofResults P F.results.toList, opsFrom P G.ntmps gops ((List.range gops.size).tail) with
      | [], .value (.tmp cd'), [], .builtin .recover, some caps, some rs, some ginit =>
        if cd' = cd ∧ cd < F.ntmps ∧ gd < G.ntmps then some ⟨F.ntmps, ofCode P F.ntmps 400 pre, cd, caps, ofCode P F.ntmps 400 rest, rs, g, G.ntmps, gd, ginit, ofCode P G.ntmps 400 grest⟩ else none
      | _, _, _, _, _, _, _ => none
    | _, _ => none
  | _, _ => none
end Go.V
namespace Go.V
open Go

section
variable {P : Program} {Q : Exit → Act → List Frame → World → Prop} {a : Act} {cs : List Frame} {w : World}

def recd (cs : List Frame) : Value × List Frame := match recoverD cs with
  | some (v, cs') => (v, cs')
  | none => (.nilIface, cs)

theorem wpS_region_rec {id : Nat} {ops : Array Oper} {o : Oper} {rest : List Nat} (hr : List.range ops.size = 0 :: rest) (ho : ops[0]? = some o) (hw : Region.wanted o (yielded ops a.tmps) = true)
    (hrun : (execOp a.eval o).run P w = .ok .recover w) (h : wpOps P ops (fun e a' w' => Q e a' (recd cs).2 w') rest (a.put o.dst (recd cs).1) w) : (Code.region id ops false).wpS P Q a cs w := by
  intro b k hb hro
  have hg := stepG_op (P := P) (b := b) (k := k) (cs := cs) (w := w) (rest := rest) ho hw
  have hfin : ∀ v, (b.at a (.inRegion ops (0 :: rest) :: k)).finish v = b.at (a.put o.dst v) (.inRegion ops rest :: k) := by
    intro v; rw [Frame.finish_at, ho]; rfl
  have hk : (b.at a (.inRegion ops (0 :: rest) :: k)).kind = .deferred := hb
  have htr := tryRecover_deferred hk cs
  obtain ⟨e, a', w', hq, harr⟩ := wp_ops _ _ _ h b k (recd cs).2
  have h1 : step P (lone (b.at a (.code (.region id ops false) :: k)) cs w) = .next (lone (b.at a (.inRegion ops (0 :: rest) :: k)) cs w) := by
    rw [step_region, hr]
  have h2 : step P (lone (b.at a (.inRegion ops (0 :: rest) :: k)) cs w) = .next (lone (b.at (a.put o.dst (recd cs).1) (.inRegion ops rest :: k)) (recd cs).2 w) := by
    refine step_lone_go ?_
    rw [hg, ← hfin]
    unfold recd
    cases hrec : recoverD cs with
    | none =>
      simp only [Frame.at] at htr ⊢
      simp [stepG.apply, hrun, htr, hrec]
    | some x =>
      obtain ⟨v, cs'⟩ := x
      simp only [Frame.at] at htr ⊢
      simp [stepG.apply, hrun, htr, hrec]
  exact ⟨e, a', (recd cs).2, w', hq, .of_steps (.one h1) (.of_steps (.one h2) harr)⟩
end

/-- The mode behind a recover. -/
def afterRec : FrameMode → FrameMode
  | .panicking ({ v, recovered := false, goexit := false } :: older) => .panicking ({ v, recovered := true } :: older)
  | m => m
def recVal : FrameMode → Value
  | .panicking ({ v, recovered := false, goexit := false } :: _) => v
  | _ => .nilIface

theorem recd_eq (c : Frame) (cs : List Frame) : recd (c :: cs) = (recVal c.mode, { c with mode := afterRec c.mode } :: cs) := by
  have same : ∀ m, c.mode = m → ({ c with mode := m } : Frame) = c := by intro m h; subst h; rfl
  unfold recd recoverD
  simp only []
  cases hm : c.mode with
  | run => simp only [recVal, afterRec]; rw [same _ hm]
  | returning => simp only [recVal, afterRec]; rw [same _ hm]
  | panicking chain =>
    cases chain with
    | nil => simp only [recVal, afterRec]; rw [same _ hm]
    | cons e older =>
      obtain ⟨v, r, g⟩ := e
      cases r <;> cases g <;> simp only [recVal, afterRec] <;> first | rfl | rw [same _ hm]

section
variable {P : Prog} {T : Tab}

theorem Good.freeIn {s s1 : St} {n : Nat} (hg : Good s s1) (hf : FreeIn s s.next n) : FreeIn s1 s1.next n := hg.free hf

theorem closure_ok (hops : ∀ {rec : Rec}, CodeOk P rec → ∀ o, OpOk P T rec o) (hT : TameHooks T) (hc : ∀ m, CodeOk P (evalN T m)) {n : Nat} {G : Func} {gid : Nat} {gops : Array Oper} {grest : Code} {o : Oper} {gtl : List Oper} {gd : Nat} {ginit : List IOp}
    {g : Nat} (hG : P.funcs[g]? = some G) (hb : G.body = some (.seq (.region gid gops false) grest)) (hgo : gops.toList = o :: gtl) (hod : o.dst = some gd) (hog : o.guard = none) {rc : Call} (hoo : o.op = .call rc) (hrc : rc.callee = .builtin .recover) (hgd : gd < G.ntmps)
    (hin : opsFrom P G.ntmps gops ((List.range gops.size).tail) = some ginit) {cl : List AV} {ccl : List Value} {φ : Phi} {s2 s3 s4 : St} {w : World} {v : AV} {eg e5 : Env} {x : Ex} (hx : x = .normal ∨ x = .ret)
    (hg : GlobOk P φ) (hs : RelSt φ s2 w) (hcl : VRels φ cl ccl) (hle : cl.length ≤ G.ntmps) {u : FrameMode} (hv : VRel φ v (recVal u)) (h1 : evalN T n (.region ginit false) ((bind cl 0 .leaf).set gd v) s2 = .ok .normal eg s3)
    (h2 : evalN T n (ofCode P G.ntmps 400 grest) eg s3 = .ok x e5 s4) (hf : FreeIn s2 s2.next s4.next) (hres : G.results = #[]) {R : Ending → FrameMode → World → Prop}
    (hR : ∀ φ' w', Step φ s2 w φ' s4 w' → R (.returned (.tuple #[])) (afterRec u) w') : CallsD P.toProgram g ccl.toArray u w R := by
  refine callsD_of_wpS hG hb fun c₀ cs hu => wpS_seq ?_
  have hrel := bind_rel (nt := G.ntmps) hcl hle
  have h0 : gops[0]? = some o := by
    rw [← Array.getElem?_toList, hgo]; rfl
  have hsz : gops.size = gtl.length + 1 := by
    rw [← Array.length_toList, hgo]; rfl
  have hrg : List.range gops.size = 0 :: (List.range gops.size).tail := by
    rw [hsz, List.range_succ_eq_map]; rfl
  have hrun : ∀ (a : Act), (execOp a.eval o).run P.toProgram w = .ok .recover w := by
    intro a
    obtain ⟨d, op, ty, pos, aft, gu⟩ := o
    simp only at hoo
    subst hoo
    simp [execOp, resolve, hrc, invoke, builtin]
  refine wpS_region_rec hrg h0 (by simp [Region.wanted, hog]) (hrun _) ?_
  rw [recd_eq, hu]
  cases n with
  | zero => cases h1
  | succ n =>
    have hr := evalN_tame hT n
    have h1' : evalOps T (evalN T n) false ginit ((bind cl 0 .leaf).set gd v) s2 = .ok .normal eg s3 := h1
    have hgood1 := (ops_tame hT hr _ _ _ h1').1
    have hgood2 := (evalN_tame hT (n + 1) _ _ _ _ _ _ h2).1
    rw [hod]
    refine ops_ok (ds := []) (hops (hc n)) hT hr _ hin h1' hg hs (relEnv_put (dst := some gd) hrel (fun d hd => by cases hd; exact hgd) hv) (hf.less hgood2.next) ?_
    intro φ' a' w' st he
    refine wpS_of_wp ?_
    refine hc (n + 1) h2 (hg.mono st.le) st.rel he (hgood1.free hf) ?_
    intro φ'' a'' w'' st' he0
    have he' : RelEnv G.ntmps [] φ'' e5 a'' := by
      rcases hx with rfl | rfl <;> exact he0
    have hfin : bodyPostS P.toProgram G c₀ cs R .ret a'' ({ c₀ with mode := afterRec u } :: cs) w'' := by
      refine ⟨he'.defs, afterRec u, rfl, .tuple #[], ?_, hR _ _ (st.trans st')⟩
      simp [results, hres]
    rcases hx with rfl | rfl
    · exact hfin
    · exact hfin
end
end Go.V
