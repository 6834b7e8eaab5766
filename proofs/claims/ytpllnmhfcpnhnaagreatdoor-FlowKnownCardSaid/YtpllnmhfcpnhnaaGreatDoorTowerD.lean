/- THE TOWER OF HOOKS up to inst's functions. -/
import Derived.Test.YtpllnmhfcpnhnaaGreatDoorInst3d
import Derived.KernelRfl
set_option linter.unusedVariables false
set_option linter.unusedSimpArgs false
set_option linter.unusedSectionVars false
/- THE TOWER OF HOOKS up to inst's functions. -/
namespace Go.V
open Go
set_option linter.unusedSimpArgs false
set_option linter.unusedVariables false
set_option linter.unusedSectionVars false
noncomputable def ofCode1 : List (Nat × FnImp) := [(180, .hook (litH rowG)), (146, .code ir146), (194, .code ir194)]
theorem of_ev : allBelow (fun n => compAuto (callF (tabL ofCode1) (evalF (tabL ofCode1) 100) 146 [.int .u8 (.ofNat n)] s0) (rowAns (.ofNat n)).1 (rowAns (.ofNat n)).2) 256 = true := by kernel_rfl
def instCode : List (Nat × FnImp) := isaCode ++ [(180, .code ir180), (146, .code ir146), (139, .code ir139), (141, .code ir141), (224, .code ir224), (225, .code ir225), (272, .code ir272), (226, .code ir226), (201, .code ir201), (187, .code ir187), (232, .code ir232), (231, .code ir231), (229, .code ir229)]

noncomputable def t_at : List (Nat × FnImp) := [(180, .hook (litH rowG)), (139, .code ir139)]
noncomputable def t_without : List (Nat × FnImp) := [(224, .code ir224)]
noncomputable def t_holds : List (Nat × FnImp) := [(225, .code ir225), (141, .code ir141)]
noncomputable def t_has : List (Nat × FnImp) := [(139, .hook (pureH atG)), (272, .code ir272)]
noncomputable def t_cond : List (Nat × FnImp) := [(272, .hook (pureH hasG)), (226, .code ir226)]
noncomputable def t_class : List (Nat × FnImp) := [(146, .hook (litH rowG)), (201, .code ir201)]
noncomputable def t_right : List (Nat × FnImp) := [(146, .hook (litH rowG)), (224, .hook (pureH withoutG)), (225, .hook (pureH holdsG)), (226, .hook (pureH condG)), (187, .code ir187)]
noncomputable def t_writes : List (Nat × FnImp) := [(187, .hook (pureH (inF rightR))), (272, .hook (pureH hasG)), (232, .code ir232)]
noncomputable def t_writesPred : List (Nat × FnImp) := [(187, .hook (pureH (inF rightR))), (272, .hook (pureH hasG)), (231, .code ir231)]
noncomputable def t_readsPred : List (Nat × FnImp) := [(187, .hook (pureH (inF rightR))), (272, .hook (pureH hasG)), (229, .code ir229)]
section
variable {P : Prog} (hm : P.follows .mixedOrders = true) (hG : P.G = []) (ok : AllOk P instCode)

theorem e_code (ok : AllOk P instCode) {n : Nat} {ir : IFunc} (h : lookT n instCode = some (.code ir)) : EntryOk2 P n (.code ir) := .old (ok.get h)
include hm hG ok
theorem fine_isa : TabFine P (tabL isaCode) := AllOk2.fine (.cons (e_code ok rfl) (.cons (e_code ok rfl) (.cons (e_code ok rfl) (.cons (e_code ok rfl) (.cons (e_code ok rfl) (.cons (e_code ok rfl) (.cons (e_code ok rfl) (.cons (e_code ok rfl) (.cons (e_code ok rfl) (.cons (e_code ok rfl) (.cons (e_code ok rfl) (.cons (e_code ok rfl) (.cons (e_code ok rfl) (.cons (e_code ok rfl) (.nil)))))))))))))))
theorem h_table : EntryOk2 P 217 (.hook (litH tableG)) := by
  refine EntryOk2.lit hm hG (fine_isa hm hG ok) 300 _ _ fun args v l h => ?_
  unfold tableG at h
  split at h
  · cases h; exact ⟨rfl, _, isaTab_ev⟩
  · cases h
theorem fine_find : TabFine P (tabL isaCode1) := AllOk2.fine (.cons (h_table hm hG ok) (.cons (e_code ok rfl) .nil))
omit hm hG ok in
theorem row_rows {T : Tab} {rec : Rec} {f : Nat} (h : allBelow (fun n => compAuto (callF T rec f [.int .u8 (.ofNat n)] s0) (rowAns (.ofNat n)).1 (rowAns (.ofNat n)).2) 256 = true) (args : List AV) (v : AV) (l : List AObj) (hg : rowG args = some (v, l)) : args.all scalar = true ∧ ∃ ks, compOk (callF T rec f args s0) ks v l = true := by
  unfold rowG at hg
  split at hg
  · rename_i op
    split at hg
    · rename_i hb
      cases op with
      | ofNat n =>
        have hn : n < 256 := by simpa [isByte, Nat.blt_eq] using hb
        have e : rowAns (.ofNat n) = (v, l) := Option.some.inj hg
        have := allBelow_get h n hn
        simp only [e] at this
        exact ⟨rfl, _, this⟩
      | negSucc n => simp [isByte] at hb
    · cases hg
  · cases hg
theorem h_find : EntryOk2 P 180 (.hook (litH rowG)) := EntryOk2.lit hm hG (fine_find hm hG ok) 100 _ _ (row_rows find_ev)
theorem fine_of : TabFine P (tabL ofCode1) := AllOk2.fine (.cons (h_find hm hG ok) (.cons (e_code ok rfl) (.cons (e_code ok rfl) .nil)))
theorem h_of : EntryOk2 P 146 (.hook (litH rowG)) := EntryOk2.lit hm hG (fine_of hm hG ok) 100 _ _ (row_rows of_ev)
theorem fine_at : TabFine P (tabL t_at) := AllOk2.fine (.cons (h_find hm hG ok) (.cons (e_code ok rfl) (.nil)))
theorem h_at : EntryOk2 P 139 (.hook (pureH atG)) := EntryOk2.pure hm (fine_at hm hG ok) _ _ (atG_ok rfl rfl)
theorem fine_without : TabFine P (tabL t_without) := AllOk2.fine (.cons (e_code ok rfl) (.nil))
theorem h_without : EntryOk2 P 224 (.hook (pureH withoutG)) := EntryOk2.pure hm (fine_without hm hG ok) _ _ (withoutG_ok rfl)
theorem fine_holds : TabFine P (tabL t_holds) := AllOk2.fine (.cons (e_code ok rfl) (.cons (e_code ok rfl) (.nil)))
theorem h_holds : EntryOk2 P 225 (.hook (pureH holdsG)) := EntryOk2.pure hm (fine_holds hm hG ok) _ _ (holdsG_ok rfl rfl)
theorem fine_has : TabFine P (tabL t_has) := AllOk2.fine (.cons (h_at hm hG ok) (.cons (e_code ok rfl) (.nil)))
theorem h_has : EntryOk2 P 272 (.hook (pureH hasG)) := EntryOk2.pure hm (fine_has hm hG ok) _ _ (hasG_ok rfl rfl)
theorem fine_cond : TabFine P (tabL t_cond) := AllOk2.fine (.cons (h_has hm hG ok) (.cons (e_code ok rfl) (.nil)))
theorem h_cond : EntryOk2 P 226 (.hook (pureH condG)) := EntryOk2.pure hm (fine_cond hm hG ok) _ _ (condG_ok rfl rfl)
theorem fine_class : TabFine P (tabL t_class) := AllOk2.fine (.cons (h_of hm hG ok) (.cons (e_code ok rfl) (.nil)))
theorem h_class : EntryOk2 P 201 (.hook (pureH classG)) := EntryOk2.pure hm (fine_class hm hG ok) _ _ (classG_ok rfl rfl)
theorem fine_right : TabFine P (tabL t_right) := AllOk2.fine (.cons (h_of hm hG ok) (.cons (h_without hm hG ok) (.cons (h_holds hm hG ok) (.cons (h_cond hm hG ok) (.cons (e_code ok rfl) (.nil))))))
theorem h_right : EntryOk2 P 187 (.hook (pureH (inF rightR))) := EntryOk2.pure hm (fine_right hm hG ok) _ _ (inF_ok (fun _ => rfl) fun s hs i hi => right_ran rfl rfl rfl rfl rfl s hs i (by simp only [okI, Bool.and_eq_true] at hi; exact hi.1) (by simp only [okI, Bool.and_eq_true] at hi; exact hi.2))
theorem fine_writes : TabFine P (tabL t_writes) := AllOk2.fine (.cons (h_right hm hG ok) (.cons (h_has hm hG ok) (.cons (e_code ok rfl) (.nil))))
theorem h_writes : EntryOk2 P 232 (.hook (pureH (inF writesR))) := EntryOk2.pure hm (fine_writes hm hG ok) _ _ (inF_ok (fun _ => rfl) fun s hs i hi => writes_ran rfl rfl rfl s hs i hi)
theorem fine_writesPred : TabFine P (tabL t_writesPred) := AllOk2.fine (.cons (h_right hm hG ok) (.cons (h_has hm hG ok) (.cons (e_code ok rfl) (.nil))))
theorem h_writesPred : EntryOk2 P 231 (.hook (pureH (inF writesPredR))) := EntryOk2.pure hm (fine_writesPred hm hG ok) _ _ (inF_ok (fun _ => rfl) fun s hs i hi => writesPred_ran rfl rfl rfl s hs i hi)
theorem fine_readsPred : TabFine P (tabL t_readsPred) := AllOk2.fine (.cons (h_right hm hG ok) (.cons (h_has hm hG ok) (.cons (e_code ok rfl) (.nil))))
theorem h_readsPred : EntryOk2 P 229 (.hook (pureH (inF readsPredR))) := EntryOk2.pure hm (fine_readsPred hm hG ok) _ _ (inF_ok (fun _ => rfl) fun s hs i hi => readsPred_ran rfl rfl rfl s hs i hi)
end
end Go.V
