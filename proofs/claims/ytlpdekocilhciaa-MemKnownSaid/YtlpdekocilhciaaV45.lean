/- SOUNDNESS: maps.clone. -/
import Derived.Test.YtlpdekocilhciaaV28
import GoSem.Extern.MapsClone
set_option linter.unusedVariables false
set_option linter.unusedSimpArgs false
set_option linter.unusedSectionVars false
/- SOUNDNESS: maps.clone. -/
namespace Go.V
open Go Go.RowKit
theorem ext_mapsClone {P : Prog} : ExtRun P .mapsClone Extern.MapsClone.clone := by
  intro args s r hr hne
  unfold extV at hr
  split at hr <;> first | cases ‹ExtK.mapsClone = _› | skip
  · rename_i t r0
    split at hr
    · rename_i es clock ho
      refine ⟨_, _, hr.symm, fun φ w cargs hs ha hf => ?_⟩
      cases ha with
      | cons a1 a2 =>
      cases a2
      cases a1 with
      | iface b1 =>
      cases b1 with
      | map c1 =>
      rename_i x
      obtain ⟨x2, es', g1, g2, g3⟩ := hs.obj _ _ ho
      rw [c1] at g1
      cases g1
      have hfree : s.heap.get s.next = none := hf s.next (Nat.le_refl _) (by show s.next < s.next + 1; omega)
      let y : Inc := ⟨w.heap.size, 0, 0, 0, 0⟩
      have st := step_add hs hfree (.map es clock) y (.map es' clock) rfl (fun _ _ _ h => by cases h) ⟨y, es', Phi.upd_same _ _ _ _, by simp [y], g3.mono (Phi.upd_le (free_phi hs hfree 0))⟩
      refine ⟨.iface t (.map (some w.heap.size)), _, _, ?_, st, .iface (.map (x := y) (Phi.upd_same _ _ _ _))⟩
      have hrun : Extern.MapsClone.clone [Value.iface t (.map (some x.blk))].toArray = (getObj x.blk >>= fun o => match o with | .map e c => (newObj (.map e c) >>= fun n => pure (Value.iface t (.map (some n)))) | _ => stuck "maps.clone: a map expected") := rfl
      rw [hrun]
      have h2 : (newObj (.map es' clock)).run P.toProgram w = .ok w.heap.size (w.alloc (.map es' clock)) := by simp [newObj, Sem.run]
      simp only [Sem.run_bind, run_getObj (P := P) g2, Result.andThen_ok, h2, Sem.run_pure]
      rfl
    · exact absurd hr.symm hne
  · exact absurd hr.symm hne
end Go.V
