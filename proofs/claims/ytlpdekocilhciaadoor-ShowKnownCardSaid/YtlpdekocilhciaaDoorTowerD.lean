/- THE TOWER OF HOOKS up to inst's functions. -/
import Derived.Test.YtlpdekocilhciaaDoorInst3d
import Derived.KernelRfl
set_option linter.unusedVariables false
set_option linter.unusedSimpArgs false
set_option linter.unusedSectionVars false
/- THE TOWER OF HOOKS up to inst's functions. -/
namespace Go.V
open Go
set_option linter.unusedSimpArgs false
set_option linter.unusedVariables false
set_option linter.unusedSectionVars false
-- math/bits.Len64
def ir78 : IFunc := ⟨25, [.tmp 2], (.seq (.region [⟨some 2, none, [], (.move (.c (.int .i64 0)))⟩] false)
 (.seq (.seq (.region [⟨some 3, none, [], (.move (.t 0))⟩, ⟨some 4, none, [], (.bin .geq (.t 3) (.c (.int .u64 4294967296)))⟩] false)
 (.cond (.t 4) (.seq (.region [⟨some 5, none, [], (.move (.t 0))⟩, ⟨some 6, none, [], (.bin .shr (.t 5) (.c (.int .u64 32)))⟩, ⟨some 0, none, [], (.move (.t 6))⟩] false)
 (.region [⟨some 2, none, [], (.move (.c (.int .i64 32)))⟩] false)) .skip))
 (.seq (.seq (.region [⟨some 7, none, [], (.move (.t 0))⟩, ⟨some 8, none, [], (.bin .geq (.t 7) (.c (.int .u64 65536)))⟩] false)
 (.cond (.t 8) (.seq (.region [⟨some 9, none, [], (.move (.t 0))⟩, ⟨some 10, none, [], (.bin .shr (.t 9) (.c (.int .u64 16)))⟩, ⟨some 0, none, [], (.move (.t 10))⟩] false)
 (.region [⟨some 11, none, [], (.move (.t 2))⟩, ⟨some 12, none, [], (.bin .add (.t 11) (.c (.int .i64 16)))⟩, ⟨some 2, none, [], (.move (.t 12))⟩] false)) .skip))
 (.seq (.seq (.region [⟨some 13, none, [], (.move (.t 0))⟩, ⟨some 14, none, [], (.bin .geq (.t 13) (.c (.int .u64 256)))⟩] false)
 (.cond (.t 14) (.seq (.region [⟨some 15, none, [], (.move (.t 0))⟩, ⟨some 16, none, [], (.bin .shr (.t 15) (.c (.int .u64 8)))⟩, ⟨some 0, none, [], (.move (.t 16))⟩] false)
 (.region [⟨some 17, none, [], (.move (.t 2))⟩, ⟨some 18, none, [], (.bin .add (.t 17) (.c (.int .i64 8)))⟩, ⟨some 2, none, [], (.move (.t 18))⟩] false)) .skip))
 (.seq (.region [⟨some 19, none, [], (.move (.t 2))⟩, ⟨some 20, none, [], (.move (.t 0))⟩, ⟨some 21, none, [], (.conv (.intInt .u8) (.t 20))⟩, ⟨some 22, none, [], (.idxStr (.c (.str [0, 1, 2, 2, 3, 3, 3, 3, 4, 4, 4, 4, 4, 4, 4, 4, 5, 5, 5, 5, 5, 5, 5, 5, 5, 5, 5, 5, 5, 5, 5, 5, 6, 6, 6, 6, 6, 6, 6, 6, 6, 6, 6, 6, 6, 6, 6, 6, 6, 6, 6, 6, 6, 6, 6, 6, 6, 6, 6, 6, 6, 6, 6, 6, 7, 7, 7, 7, 7, 7, 7, 7, 7, 7, 7, 7, 7, 7, 7, 7, 7, 7, 7, 7, 7, 7, 7, 7, 7, 7, 7, 7, 7, 7, 7, 7, 7, 7, 7, 7, 7, 7, 7, 7, 7, 7, 7, 7, 7, 7, 7, 7, 7, 7, 7, 7, 7, 7, 7, 7, 7, 7, 7, 7, 7, 7, 7, 7, 8, 8, 8, 8, 8, 8, 8, 8, 8, 8, 8, 8, 8, 8, 8, 8, 8, 8, 8, 8, 8, 8, 8, 8, 8, 8, 8, 8, 8, 8, 8, 8, 8, 8, 8, 8, 8, 8, 8, 8, 8, 8, 8, 8, 8, 8, 8, 8, 8, 8, 8, 8, 8, 8, 8, 8, 8, 8, 8, 8, 8, 8, 8, 8, 8, 8, 8, 8, 8, 8, 8, 8, 8, 8, 8, 8, 8, 8, 8, 8, 8, 8, 8, 8, 8, 8, 8, 8, 8, 8, 8, 8, 8, 8, 8, 8, 8, 8, 8, 8, 8, 8, 8, 8, 8, 8, 8, 8, 8, 8, 8, 8, 8, 8, 8, 8, 8, 8, 8, 8, 8, 8, 8, 8, 8, 8, 8, 8])) (.t 21))⟩, ⟨some 23, none, [], (.conv (.intInt .i64) (.t 22))⟩, ⟨some 24, none, [], (.bin .add (.t 19) (.t 23))⟩, ⟨some 2, none, [], (.move (.t 24))⟩] false)
 .ret)))))⟩
noncomputable def ofCode1 : List (Nat × FnImp) := [(28, .hook (litH rowG)), (14, .code ir14), (29, .code ir29)]
theorem of_ev : allBelow (fun n => compAuto (callF (tabL ofCode1) (evalF (tabL ofCode1) 100) 14 [.int .u8 (.ofNat n)] s0) (rowAns (.ofNat n)).1 (rowAns (.ofNat n)).2) 256 = true := by kernel_rfl
def instCode : List (Nat × FnImp) := isaCode ++ [(28, .code ir28), (14, .code ir14), (51, .code ir51), (30, .code ir30), (15, .code ir15), (16, .code ir16), (31, .code ir31), (17, .code ir17), (35, .code ir35), (6, .code ir6), (34, .code ir34), (18, .code ir18), (78, .code ir78)]

noncomputable def t_at : List (Nat × FnImp) := [(28, .hook (litH rowG)), (51, .code ir51)]
noncomputable def t_without : List (Nat × FnImp) := [(15, .code ir15)]
noncomputable def t_holds : List (Nat × FnImp) := [(16, .code ir16), (30, .code ir30)]
noncomputable def t_has : List (Nat × FnImp) := [(51, .hook (pureH atG)), (31, .code ir31)]
noncomputable def t_cond : List (Nat × FnImp) := [(31, .hook (pureH hasG)), (17, .code ir17)]
noncomputable def t_class : List (Nat × FnImp) := [(14, .hook (litH rowG)), (35, .code ir35)]
noncomputable def t_right : List (Nat × FnImp) := [(14, .hook (litH rowG)), (15, .hook (pureH withoutG)), (16, .hook (pureH holdsG)), (17, .hook (pureH condG)), (6, .code ir6)]
noncomputable def t_writesPred : List (Nat × FnImp) := [(6, .hook (pureH (inF rightR))), (31, .hook (pureH hasG)), (34, .code ir34)]
noncomputable def t_target : List (Nat × FnImp) := [(6, .hook (pureH (inF rightR))), (31, .hook (pureH hasG)), (18, .code ir18)]
section
variable {P : Prog} (hm : P.follows .mixedOrders = true) (hG : P.G = []) (ok : AllOk P instCode)

theorem e_code (ok : AllOk P instCode) {n : Nat} {ir : IFunc} (h : lookT n instCode = some (.code ir)) : EntryOk2 P n (.code ir) := .old (ok.get h)
include hm hG ok
theorem fine_isa : TabFine P (tabL isaCode) := AllOk2.fine (.cons (e_code ok rfl) (.cons (e_code ok rfl) (.cons (e_code ok rfl) (.cons (e_code ok rfl) (.cons (e_code ok rfl) (.cons (e_code ok rfl) (.cons (e_code ok rfl) (.cons (e_code ok rfl) (.cons (e_code ok rfl) (.cons (e_code ok rfl) (.cons (e_code ok rfl) (.cons (e_code ok rfl) (.cons (e_code ok rfl) (.cons (e_code ok rfl) (.nil)))))))))))))))
theorem h_table : EntryOk2 P 50 (.hook (litH tableG)) := by
  refine EntryOk2.lit hm hG (fine_isa hm hG ok) 300 _ _ fun args v l h => ?_
  unfold tableG at h
  split at h
  · cases h; exact ⟨rfl, _, isaTab_ev⟩
  · cases h
theorem fine_find : TabFine P (tabL isaCode1) := AllOk2.fine (.cons (h_table hm hG ok) (.cons (e_code ok rfl) .nil))
omit hm hG ok in
theorem row_rows {T : Tab} {rec : Rec} {f : Nat} (h : allBelow (fun n => compAuto (callF T rec f [.int .u8 (.ofNat n)] s0) (rowAns (.ofNat n)).1 (rowAns (.ofNat n)).2) 256 = true) (args : List AV) (v : AV) (l : List AObj) (hg : rowG args = some (v, l)) : args.all scalar = true ∧ ∃ ks, compOk (callF T rec f args s0) ks v l = true := by
  unfold rowG at hg
  split at hg
  · rename_i op
    split at hg
    · rename_i hb
      cases op with
      | ofNat n =>
        have hn : n < 256 := by simpa [isByte, Nat.blt_eq] using hb
        have e : rowAns (.ofNat n) = (v, l) := Option.some.inj hg
        have := allBelow_get h n hn
        simp only [e] at this
        exact ⟨rfl, _, this⟩
      | negSucc n => simp [isByte] at hb
    · cases hg
  · cases hg
theorem h_find : EntryOk2 P 28 (.hook (litH rowG)) := EntryOk2.lit hm hG (fine_find hm hG ok) 100 _ _ (row_rows find_ev)
theorem fine_of : TabFine P (tabL ofCode1) := AllOk2.fine (.cons (h_find hm hG ok) (.cons (e_code ok rfl) (.cons (e_code ok rfl) .nil)))
theorem h_of : EntryOk2 P 14 (.hook (litH rowG)) := EntryOk2.lit hm hG (fine_of hm hG ok) 100 _ _ (row_rows of_ev)
theorem fine_at : TabFine P (tabL t_at) := AllOk2.fine (.cons (h_find hm hG ok) (.cons (e_code ok rfl) (.nil)))
theorem h_at : EntryOk2 P 51 (.hook (pureH atG)) := EntryOk2.pure hm (fine_at hm hG ok) _ _ (atG_ok rfl rfl)
theorem fine_without : TabFine P (tabL t_without) := AllOk2.fine (.cons (e_code ok rfl) (.nil))
theorem h_without : EntryOk2 P 15 (.hook (pureH withoutG)) := EntryOk2.pure hm (fine_without hm hG ok) _ _ (withoutG_ok rfl)
theorem fine_holds : TabFine P (tabL t_holds) := AllOk2.fine (.cons (e_code ok rfl) (.cons (e_code ok rfl) (.nil)))
theorem h_holds : EntryOk2 P 16 (.hook (pureH holdsG)) := EntryOk2.pure hm (fine_holds hm hG ok) _ _ (holdsG_ok rfl rfl)
theorem fine_has : TabFine P (tabL t_has) := AllOk2.fine (.cons (h_at hm hG ok) (.cons (e_code ok rfl) (.nil)))
theorem h_has : EntryOk2 P 31 (.hook (pureH hasG)) := EntryOk2.pure hm (fine_has hm hG ok) _ _ (hasG_ok rfl rfl)
theorem fine_cond : TabFine P (tabL t_cond) := AllOk2.fine (.cons (h_has hm hG ok) (.cons (e_code ok rfl) (.nil)))
theorem h_cond : EntryOk2 P 17 (.hook (pureH condG)) := EntryOk2.pure hm (fine_cond hm hG ok) _ _ (condG_ok rfl rfl)
theorem fine_class : TabFine P (tabL t_class) := AllOk2.fine (.cons (h_of hm hG ok) (.cons (e_code ok rfl) (.nil)))
theorem h_class : EntryOk2 P 35 (.hook (pureH classG)) := EntryOk2.pure hm (fine_class hm hG ok) _ _ (classG_ok rfl rfl)
theorem fine_right : TabFine P (tabL t_right) := AllOk2.fine (.cons (h_of hm hG ok) (.cons (h_without hm hG ok) (.cons (h_holds hm hG ok) (.cons (h_cond hm hG ok) (.cons (e_code ok rfl) (.nil))))))
theorem h_right : EntryOk2 P 6 (.hook (pureH (inF rightR))) := EntryOk2.pure hm (fine_right hm hG ok) _ _ (inF_ok (fun _ => rfl) fun s hs i hi => right_ran rfl rfl rfl rfl rfl s hs i (by simp only [okI, Bool.and_eq_true] at hi; exact hi.1) (by simp only [okI, Bool.and_eq_true] at hi; exact hi.2))
theorem fine_writesPred : TabFine P (tabL t_writesPred) := AllOk2.fine (.cons (h_right hm hG ok) (.cons (h_has hm hG ok) (.cons (e_code ok rfl) (.nil))))
theorem h_writesPred : EntryOk2 P 34 (.hook (pureH (inF writesPredR))) := EntryOk2.pure hm (fine_writesPred hm hG ok) _ _ (inF_ok (fun _ => rfl) fun s hs i hi => writesPred_ran rfl rfl rfl s hs i hi)
theorem fine_target : TabFine P (tabL t_target) := AllOk2.fine (.cons (h_right hm hG ok) (.cons (h_has hm hG ok) (.cons (e_code ok rfl) (.nil))))
theorem h_target : EntryOk2 P 18 (.hook (pureH (inF targetR))) := EntryOk2.pure hm (fine_target hm hG ok) _ _ (inF_ok (fun _ => rfl) fun s hs i hi => target_ran rfl rfl rfl s hs i hi)
end
end Go.V
