/- THE TOWER OF HOOKS up to inst's functions. -/
import Derived.Test.YtndplpfokhmmjaaGreatDoorInst3d
import Derived.KernelRfl
set_option linter.unusedVariables false
set_option linter.unusedSimpArgs false
set_option linter.unusedSectionVars false
/- THE TOWER OF HOOKS up to inst's functions. -/
namespace Go.V
open Go
set_option linter.unusedSimpArgs false
set_option linter.unusedVariables false
set_option linter.unusedSectionVars false
noncomputable def ofCode1 : List (Nat × FnImp) := [(65, .hook (litH rowG)), (41, .code ir41), (66, .code ir66)]
theorem of_ev : allBelow (fun n => compAuto (callF (tabL ofCode1) (evalF (tabL ofCode1) 100) 41 [.int .u8 (.ofNat n)] s0) (rowAns (.ofNat n)).1 (rowAns (.ofNat n)).2) 256 = true := by kernel_rfl
def instCode : List (Nat × FnImp) := isaCode ++ [(65, .code ir65), (41, .code ir41), (45, .code ir45), (67, .code ir67), (42, .code ir42), (43, .code ir43), (25, .code ir25), (44, .code ir44), (96, .code ir96), (24, .code ir24), (174, .code ir174), (95, .code ir95), (172, .code ir172)]

noncomputable def t_at : List (Nat × FnImp) := [(65, .hook (litH rowG)), (45, .code ir45)]
noncomputable def t_without : List (Nat × FnImp) := [(42, .code ir42)]
noncomputable def t_holds : List (Nat × FnImp) := [(43, .code ir43), (67, .code ir67)]
noncomputable def t_has : List (Nat × FnImp) := [(45, .hook (pureH atG)), (25, .code ir25)]
noncomputable def t_cond : List (Nat × FnImp) := [(25, .hook (pureH hasG)), (44, .code ir44)]
noncomputable def t_class : List (Nat × FnImp) := [(41, .hook (litH rowG)), (96, .code ir96)]
noncomputable def t_right : List (Nat × FnImp) := [(41, .hook (litH rowG)), (42, .hook (pureH withoutG)), (43, .hook (pureH holdsG)), (44, .hook (pureH condG)), (24, .code ir24)]
noncomputable def t_writes : List (Nat × FnImp) := [(24, .hook (pureH (inF rightR))), (25, .hook (pureH hasG)), (174, .code ir174)]
noncomputable def t_writesPred : List (Nat × FnImp) := [(24, .hook (pureH (inF rightR))), (25, .hook (pureH hasG)), (95, .code ir95)]
noncomputable def t_readsPred : List (Nat × FnImp) := [(24, .hook (pureH (inF rightR))), (25, .hook (pureH hasG)), (172, .code ir172)]
section
variable {P : Prog} (hm : P.follows .mixedOrders = true) (hG : P.G = []) (ok : AllOk P instCode)

theorem e_code (ok : AllOk P instCode) {n : Nat} {ir : IFunc} (h : lookT n instCode = some (.code ir)) : EntryOk2 P n (.code ir) := .old (ok.get h)
include hm hG ok
theorem fine_isa : TabFine P (tabL isaCode) := AllOk2.fine (.cons (e_code ok rfl) (.cons (e_code ok rfl) (.cons (e_code ok rfl) (.cons (e_code ok rfl) (.cons (e_code ok rfl) (.cons (e_code ok rfl) (.cons (e_code ok rfl) (.cons (e_code ok rfl) (.cons (e_code ok rfl) (.cons (e_code ok rfl) (.cons (e_code ok rfl) (.cons (e_code ok rfl) (.cons (e_code ok rfl) (.cons (e_code ok rfl) (.nil)))))))))))))))
theorem h_table : EntryOk2 P 92 (.hook (litH tableG)) := by
  refine EntryOk2.lit hm hG (fine_isa hm hG ok) 300 _ _ fun args v l h => ?_
  unfold tableG at h
  split at h
  · cases h; exact ⟨rfl, _, isaTab_ev⟩
  · cases h
theorem fine_find : TabFine P (tabL isaCode1) := AllOk2.fine (.cons (h_table hm hG ok) (.cons (e_code ok rfl) .nil))
omit hm hG ok in
theorem row_rows {T : Tab} {rec : Rec} {f : Nat} (h : allBelow (fun n => compAuto (callF T rec f [.int .u8 (.ofNat n)] s0) (rowAns (.ofNat n)).1 (rowAns (.ofNat n)).2) 256 = true) (args : List AV) (v : AV) (l : List AObj) (hg : rowG args = some (v, l)) : args.all scalar = true ∧ ∃ ks, compOk (callF T rec f args s0) ks v l = true := by
  unfold rowG at hg
  split at hg
  · rename_i op
    split at hg
    · rename_i hb
      cases op with
      | ofNat n =>
        have hn : n < 256 := by simpa [isByte, Nat.blt_eq] using hb
        have e : rowAns (.ofNat n) = (v, l) := Option.some.inj hg
        have := allBelow_get h n hn
        simp only [e] at this
        exact ⟨rfl, _, this⟩
      | negSucc n => simp [isByte] at hb
    · cases hg
  · cases hg
theorem h_find : EntryOk2 P 65 (.hook (litH rowG)) := EntryOk2.lit hm hG (fine_find hm hG ok) 100 _ _ (row_rows find_ev)
theorem fine_of : TabFine P (tabL ofCode1) := AllOk2.fine (.cons (h_find hm hG ok) (.cons (e_code ok rfl) (.cons (e_code ok rfl) .nil)))
theorem h_of : EntryOk2 P 41 (.hook (litH rowG)) := EntryOk2.lit hm hG (fine_of hm hG ok) 100 _ _ (row_rows of_ev)
theorem fine_at : TabFine P (tabL t_at) := AllOk2.fine (.cons (h_find hm hG ok) (.cons (e_code ok rfl) (.nil)))
theorem h_at : EntryOk2 P 45 (.hook (pureH atG)) := EntryOk2.pure hm (fine_at hm hG ok) _ _ (atG_ok rfl rfl)
theorem fine_without : TabFine P (tabL t_without) := AllOk2.fine (.cons (e_code ok rfl) (.nil))
theorem h_without : EntryOk2 P 42 (.hook (pureH withoutG)) := EntryOk2.pure hm (fine_without hm hG ok) _ _ (withoutG_ok rfl)
theorem fine_holds : TabFine P (tabL t_holds) := AllOk2.fine (.cons (e_code ok rfl) (.cons (e_code ok rfl) (.nil)))
theorem h_holds : EntryOk2 P 43 (.hook (pureH holdsG)) := EntryOk2.pure hm (fine_holds hm hG ok) _ _ (holdsG_ok rfl rfl)
theorem fine_has : TabFine P (tabL t_has) := AllOk2.fine (.cons (h_at hm hG ok) (.cons (e_code ok rfl) (.nil)))
theorem h_has : EntryOk2 P 25 (.hook (pureH hasG)) := EntryOk2.pure hm (fine_has hm hG ok) _ _ (hasG_ok rfl rfl)
theorem fine_cond : TabFine P (tabL t_cond) := AllOk2.fine (.cons (h_has hm hG ok) (.cons (e_code ok rfl) (.nil)))
theorem h_cond : EntryOk2 P 44 (.hook (pureH condG)) := EntryOk2.pure hm (fine_cond hm hG ok) _ _ (condG_ok rfl rfl)
theorem fine_class : TabFine P (tabL t_class) := AllOk2.fine (.cons (h_of hm hG ok) (.cons (e_code ok rfl) (.nil)))
theorem h_class : EntryOk2 P 96 (.hook (pureH classG)) := EntryOk2.pure hm (fine_class hm hG ok) _ _ (classG_ok rfl rfl)
theorem fine_right : TabFine P (tabL t_right) := AllOk2.fine (.cons (h_of hm hG ok) (.cons (h_without hm hG ok) (.cons (h_holds hm hG ok) (.cons (h_cond hm hG ok) (.cons (e_code ok rfl) (.nil))))))
theorem h_right : EntryOk2 P 24 (.hook (pureH (inF rightR))) := EntryOk2.pure hm (fine_right hm hG ok) _ _ (inF_ok (fun _ => rfl) fun s hs i hi => right_ran rfl rfl rfl rfl rfl s hs i (by simp only [okI, Bool.and_eq_true] at hi; exact hi.1) (by simp only [okI, Bool.and_eq_true] at hi; exact hi.2))
theorem fine_writes : TabFine P (tabL t_writes) := AllOk2.fine (.cons (h_right hm hG ok) (.cons (h_has hm hG ok) (.cons (e_code ok rfl) (.nil))))
theorem h_writes : EntryOk2 P 174 (.hook (pureH (inF writesR))) := EntryOk2.pure hm (fine_writes hm hG ok) _ _ (inF_ok (fun _ => rfl) fun s hs i hi => writes_ran rfl rfl rfl s hs i hi)
theorem fine_writesPred : TabFine P (tabL t_writesPred) := AllOk2.fine (.cons (h_right hm hG ok) (.cons (h_has hm hG ok) (.cons (e_code ok rfl) (.nil))))
theorem h_writesPred : EntryOk2 P 95 (.hook (pureH (inF writesPredR))) := EntryOk2.pure hm (fine_writesPred hm hG ok) _ _ (inF_ok (fun _ => rfl) fun s hs i hi => writesPred_ran rfl rfl rfl s hs i hi)
theorem fine_readsPred : TabFine P (tabL t_readsPred) := AllOk2.fine (.cons (h_right hm hG ok) (.cons (h_has hm hG ok) (.cons (e_code ok rfl) (.nil))))
theorem h_readsPred : EntryOk2 P 172 (.hook (pureH (inF readsPredR))) := EntryOk2.pure hm (fine_readsPred hm hG ok) _ _ (inF_ok (fun _ => rfl) fun s hs i hi => readsPred_ran rfl rfl rfl s hs i hi)
end
end Go.V
