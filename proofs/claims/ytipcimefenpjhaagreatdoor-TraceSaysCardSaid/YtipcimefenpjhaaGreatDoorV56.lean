/- A function that defers a closure which recovers: the hook is right, and tame. -/
import Derived.Test.YtipcimefenpjhaaGreatDoorV55
set_option linter.unusedVariables false
set_option linter.unusedSimpArgs false
set_option linter.unusedSectionVars false
/- A function that defers a closure which recovers: the hook is right, and tame. -/
namespace Go.V
open Go

theorem deferH_some {rec : Rec} {D : DFn} {args : List AV} {s s4 : St} {r : AV} (h : deferH rec D args s = some (r, s4)) :
    args.length ≤ D.nt ∧ ∃ e1 s1, rec D.pre (bind args 0 .leaf) s = .ok .normal e1 s1 ∧ (opds e1 D.caps).length ≤ D.gnt ∧ ∃ x e3 s2 v, rec D.rest (e1.set D.cd (.func D.g [] (opds e1 D.caps))) s1 = .ok x e3 s2 ∧ exitVal x = some v ∧
      ∃ eg s3, rec (.region D.ginit false) ((bind (opds e1 D.caps) 0 .leaf).set D.gd v) s2 = .ok .normal eg s3 ∧ ∃ y e5 l, (y = .normal ∨ y = .ret) ∧ rec D.grest eg s3 = .ok y e5 s4 ∧ resultsV e3 s4 D.results = some l ∧ r = tupled l := by
  unfold deferH at h
  cases h0 : Nat.ble args.length D.nt with
  | false => rw [h0] at h; cases h
  | true =>
    rw [h0] at h
    refine ⟨Nat.le_of_ble_eq_true h0, ?_⟩
    simp only [] at h
    cases h1 : rec D.pre (bind args 0 .leaf) s with
    | fail => rw [h1] at h; cases h
    | ok x1 e1 s1 =>
      rw [h1] at h
      cases x1 <;> first | (cases h; done) | skip
      refine ⟨e1, s1, rfl, ?_⟩
      simp only [] at h
      cases h2 : Nat.ble (opds e1 D.caps).length D.gnt with
      | false => rw [h2] at h; cases h
      | true =>
        rw [h2] at h
        refine ⟨Nat.le_of_ble_eq_true h2, ?_⟩
        simp only [] at h
        cases h3 : rec D.rest (e1.set D.cd (.func D.g [] (opds e1 D.caps))) s1 with
        | fail => rw [h3] at h; cases h
        | ok x e3 s2 =>
          rw [h3] at h
          simp only [] at h
          cases h4 : exitVal x with
          | none => rw [h4] at h; cases h
          | some v =>
            rw [h4] at h
            refine ⟨x, e3, s2, v, rfl, h4, ?_⟩
            simp only [] at h
            cases h5 : rec (.region D.ginit false) ((bind (opds e1 D.caps) 0 .leaf).set D.gd v) s2 with
            | fail => rw [h5] at h; cases h
            | ok x5 eg s3 =>
              rw [h5] at h
              cases x5 <;> first | (cases h; done) | skip
              refine ⟨eg, s3, rfl, ?_⟩
              simp only [] at h
              cases h6 : rec D.grest eg s3 with
              | fail => rw [h6] at h; cases h
              | ok y e5 s4' =>
                rw [h6] at h
                cases y with
                | normal =>
                  simp only [] at h
                  cases h7 : resultsV e3 s4' D.results with
                  | none => rw [h7] at h; cases h
                  | some l => rw [h7] at h; cases h; exact ⟨_, _, _, .inl rfl, rfl, h7, rfl⟩
                | ret =>
                  simp only [] at h
                  cases h7 : resultsV e3 s4' D.results with
                  | none => rw [h7] at h; cases h
                  | some l => rw [h7] at h; cases h; exact ⟨_, _, _, .inr rfl, rfl, h7, rfl⟩
                | exit _ => cases h
                | goto _ => cases h
                | panic _ => cases h
                | panicW _ => cases h

theorem deferH_of {rec : Rec} {D : DFn} {args : List AV} {s s1 s2 s3 s4 : St} {e1 e3 eg e5 : Env} {x y : Ex} {v : AV} {l : List AV} (h0 : args.length ≤ D.nt) (h1 : rec D.pre (bind args 0 .leaf) s = .ok .normal e1 s1) (h2 : (opds e1 D.caps).length ≤ D.gnt)
    (h3 : rec D.rest (e1.set D.cd (.func D.g [] (opds e1 D.caps))) s1 = .ok x e3 s2) (h4 : exitVal x = some v) (h5 : rec (.region D.ginit false) ((bind (opds e1 D.caps) 0 .leaf).set D.gd v) s2 = .ok .normal eg s3)
    (hy : y = .normal ∨ y = .ret) (h6 : rec D.grest eg s3 = .ok y e5 s4) (h7 : resultsV e3 s4 D.results = some l) : deferH rec D args s = some (tupled l, s4) := by
  unfold deferH
  rw [Nat.ble_eq_true_of_le h0]
  simp only [h1]
  rw [Nat.ble_eq_true_of_le h2]
  simp only [h3, h4, h5, h6]
  rcases hy with rfl | rfl <;> simp only [h7]

theorem deferH_tame {rec : Rec} (hr : TameRec rec) (D : DFn) (args : List AV) (s : St) : Tame s (fun s => ofBoth (deferH rec D args s)) := by
  intro hn
  cases h : deferH rec D args s with
  | none => simp [h, ofBoth] at hn
  | some q =>
    obtain ⟨r, s4⟩ := q
    simp only [h, ofBoth, Res.st]
    obtain ⟨h0, e1, s1, h1, h2, x, e3, s2, v, h3, h4, eg, s3, h5, y, e5, l, hy, h6, h7, rfl⟩ := deferH_some h
    have t1 := hr _ _ _ _ _ _ h1
    have t3 := hr _ _ _ _ _ _ h3
    have t5 := hr _ _ _ _ _ _ h5
    have t6 := hr _ _ _ _ _ _ h6
    refine ⟨t1.1.trans (t3.1.trans (t5.1.trans t6.1)), fun b o hb hnb => ?_⟩
    have n1 := t1.1.next
    have n3 := t3.1.next
    have n5 := t5.1.next
    have n6 := t6.1.next
    have b1 := t1.1.none hb (by omega)
    have b2 := t3.1.none b1 (by omega)
    have b3 := t5.1.none b2 (by omega)
    have b4 := t6.1.none b3 (by omega)
    have := deferH_of (rec := rec) (D := D) h0 (t1.2 b o hb (by omega)) h2 (t3.2 b o b1 (by omega)) h4 (t5.2 b o b2 (by omega)) hy (t6.2 b o b3 (by omega)) (results_over (over_put b4) h7)
    rw [this]
    rfl

section
variable {P : Prog} {T : Tab}

theorem defer_ok (hm : P.follows .mixedOrders = true) (h : TabFine P T) (n : Nat) {f : Nat} {F G : Func} {D : DFn} (hD : dOf P F G = some D) (hF : P.funcs[f]? = some F) (hFn : (F.name == "runtime.NumGoroutine") = false)
    (hG : P.funcs[D.g]? = some G) (hGn : (G.name == "runtime.NumGoroutine") = false) (hGr : G.results = #[]) : HookOk P f (fun args s => ofBoth (deferH (evalN T n) D args s)) := by
  have hall := fun m => evalN_ok h.ok h.tame (fun _ h1 h2 => draw_ok hm h1 h.tame h2) m
  have hc : ∀ m, CodeOk P (evalN T m) := fun m => (hall m).1
  have hops : ∀ {rec : Rec}, CodeOk P rec → ∀ o, OpOk P T rec o := fun hr => op_ok (funcs_ok h.ok hr)
  have hr := evalN_tame h.tame n
  intro args s r hres hne φ w cargs hg hs ha hf
  obtain ⟨r', s4, hdef, rfl⟩ := ofBoth_ne hres hne
  obtain ⟨h0, e1, s1, h1, h2, x, e3, s2, v, h3, h4, eg, s3, h5, y, e5, l, hy, h6, h7, rfl⟩ := deferH_some hdef
  unfold dOf at hD
  split at hD
  · rename_i pre id ops rest gid gops grest hFb hGb
    split at hD
    · rename_i cd g first cap mty mpos maf c dty dpos daf gd rc rty rpos raf gtl hops1 hgops1
      split at hD
      · rename_i cd' caps rs ginit hfi hcc hca hrc hcaps hrs hgi
        split at hD
        · rename_i hcond
          obtain ⟨rfl, hcdlt, hgdlt⟩ := hcond
          cases hD
          simp only at h0 h1 h2 h3 h5 h6 h7 hG
          intro o a next Q hk
          have hrun : (callFunc f cargs.toArray).run P.toProgram w = .ok (.enter f cargs.toArray) w := by
            simp only [beq_eq_false_iff_ne, ne_eq] at hFn; simp [callFunc, hF, hFn, hFb]
          rw [hrun, Oper.upon_enter]
          refine calls_of_wp_defers hF hFb ?_
          have t1 := (hr _ _ _ _ _ _ h1).1
          have t3 := (hr _ _ _ _ _ _ h3).1
          have t5 := (hr _ _ _ _ _ _ h5).1
          have t6 := (hr _ _ _ _ _ _ h6).1
          have n1 := t1.next
          have n3 := t3.next
          have n5 := t5.next
          have n6 := t6.next
          have hf0 : FreeIn s s.next s4.next := hf
          have hf1 := t1.free hf0
          have hf2 := t3.free hf1
          refine wp_seq ?_
          refine hc n h1 hg hs (bind_rel ha h0) (hf0.less (by omega)) ?_
          intro φ1 a1 w1 st1 he1
          have o0 : ops[0]? = some ⟨some cd', .makeFunc (.func g) first cap, mty, mpos, maf, none⟩ := by rw [← Array.getElem?_toList, hops1]; rfl
          have o1 : ops[1]? = some ⟨none, .defer c, dty, dpos, daf, none⟩ := by rw [← Array.getElem?_toList, hops1]; rfl
          have osz : ops.size = 2 := by rw [← Array.length_toList, hops1]; rfl
          refine wp_seq (wp_region ?_)
          rw [osz]
          have rcaps := opds_rel (hg.mono st1.le) he1 hcaps
          show wpOps P.toProgram ops _ [0, 1] a1 w1
          simp only [wpOps, o0, o1]
          have wt : ∀ (d : Option Tmp) (op : Op) (t : TypeId) (p : String) (af : Array Edge) (ys : Nat → Option Bool), Region.wanted ⟨d, op, t, p, af, none⟩ ys = true := fun _ _ _ _ _ _ => rfl
          simp only [wt, if_true]
          refine .inl ?_
          have e2 : cap.map a1.eval = ⟨cap.toList.map a1.eval⟩ := by apply Array.ext'; simp
          refine wp_val (c := .func (.func g) ⟨[]⟩ ⟨cap.toList.map a1.eval⟩) (w' := w1) ?_ ?_
          · have e1 : first = #[] := by rw [← Array.toArray_toList (xs := first), hfi]
            simp [execOp, Instr.makeFunc, e1, e2]
          refine .inl ?_
          generalize hcl : opds e1 caps = cl at *
          have he2 : RelEnv F.ntmps [] φ1 (e1.set cd' (.func g [] cl)) (a1.put (some cd') (.func (.func g) ⟨[]⟩ ⟨cap.toList.map a1.eval⟩)) :=
            relEnv_put (dst := some cd') he1 (fun d hd => by cases hd; exact hcdlt) (.func .nil rcaps)
          generalize ha2 : a1.put (some cd') (.func (.func g) ⟨[]⟩ ⟨cap.toList.map a1.eval⟩) = a2 at *
          have hev : a2.eval (.tmp cd') = .func (.func g) ⟨[]⟩ ⟨cap.toList.map a1.eval⟩ := by
            rw [← ha2]
            have hs : cd' < a1.tmps.size := by rw [he1.size]; exact hcdlt
            simp [Act.eval, Act.put, hs]
          let dd : Deferred := { target := .fn (.func g) ⟨cap.toList.map a1.eval⟩, args := #[] }
          have hca' : c.args = #[] := by rw [← Array.toArray_toList (xs := c.args), hca]
          have hdrun : (execOp a2.eval ⟨none, .defer c, dty, dpos, daf, none⟩).run P.toProgram w1 = .ok (.defer dd) w1 := by
            simp [execOp, resolve, hcc, hca', hev, Deferred.ofValue, dd]
          unfold Oper.wp
          rw [hdrun, Oper.upon_defer]
          have hd0 : a2.defers = [] := he2.defs
          have he3 : RelEnv F.ntmps [dd] φ1 (e1.set cd' (.func g [] cl)) ({ a2 with defers := dd :: a2.defers }) := ⟨he2.size, he2.val, by rw [hd0]⟩
          show Exit.then _ _ .normal { a2 with defers := dd :: a2.defers } w1
          refine hc n h3 (hg.mono st1.le) st1.rel he3 (hf1.less (by omega)) ?_
          intro φ2 a3 w2 st2 he4'
          have he4 : RelEnv F.ntmps [dd] φ2 e3 a3 := by
            cases x with
            | panicW _ => cases h4
            | _ => exact he4'
          clear he4'
          have stB := st1.trans st2
          have key : ∀ (u : FrameMode) (cv : Value), u ≠ .run → VRel φ2 v (recVal u) → settle (afterRec u) = .returning → Leaves P.toProgram F a3.tmps (fun
              | .returned v, w'' => next (a.put o.dst v) w''
              | .panicked chain, w'' => Q (.panic chain) a w''
              | .outgrown, _ => LetsOut Q) a3.defers u w2 := by
            intro u cv hu hv hset
            rw [he4.defs]
            refine leaves_cons (f := g) (args := (cap.toList.map a1.eval).toArray) hu ?_ ?_
            · simp only [beq_eq_false_iff_ne, ne_eq] at hGn
              simp [invoke, callFunc, hG, hGn, hGb]
            refine closure_ok hops h.tame hc (v := v) hG hGb hgops1 rfl rfl rfl hrc hgdlt hgi hy (hg.mono stB.le) stB.rel (rcaps.mono st2.le) h2 hv h5 h6 (hf2.less (by omega)) hGr ?_
            intro φ3 w3 st3
            simp only []
            rw [hset]
            obtain ⟨cr, q1, q2⟩ := results_ok (P := P) st3.rel (he4.mono st3.le) hrs h7
            exact ⟨cr, q1, hk cr w3 φ3 (stB.trans st3) q2⟩
          cases x with
          | normal => cases h4; exact key .returning undef (by simp) .nilIface rfl
          | ret => cases h4; exact key .returning undef (by simp) .nilIface rfl
          | panic pv =>
            cases h4
            intro cv hcv
            exact key _ cv (by simp) hcv rfl
          | exit _ => cases h4
          | goto _ => cases h4
          | panicW _ => cases h4
        · cases hD
      · cases hD
    · cases hD
  · cases hD

theorem EntryOk2.dfr (hm : P.follows .mixedOrders = true) (h : TabFine P T) (n : Nat) {f : Nat} {F G : Func} {D : DFn} (hD : dOf P F G = some D) (hF : P.funcs[f]? = some F) (hFn : (F.name == "runtime.NumGoroutine") = false)
    (hG : P.funcs[D.g]? = some G) (hGn : (G.name == "runtime.NumGoroutine") = false) (hGr : G.results = #[]) : EntryOk2 P f (.hook (deferH (evalF T n) D)) := by
  rw [evalF_eq]
  exact .hook (defer_ok hm h n hD hF hFn hG hGn hGr) (fun args s => deferH_tame (evalN_tame h.tame n) D args s)
end
end Go.V
