/- THE TOWER OF HOOKS up to inst's functions. -/
import Derived.Test.YtlpdekocilhciaaSort2
import Derived.KernelRfl
set_option linter.unusedVariables false
set_option linter.unusedSimpArgs false
set_option linter.unusedSectionVars false
/- THE TOWER OF HOOKS up to inst's functions. -/
namespace Go.V
open Go
set_option linter.unusedSimpArgs false
set_option linter.unusedVariables false
set_option linter.unusedSectionVars false
-- coxless/coxlesslaw04.awake
def ir35 : IFunc := ⟨67, [.tmp 0], (.seq (.region [⟨some 0, none, [], (.move (.c (.bool false)))⟩] false)
 (.seq (.region [⟨some 8, none, [], (.build [(.int .u8 0), (.int .u8 0), (.int .u8 0), (.int .u8 0), (.int .u8 0), (.int .u8 0), (.int .u8 0), (.bool false), (.bool false), (.int .u16 0), (.int .i64 0)] [(0, 1, (.c (.int .u8 2))), (1, 1, (.c (.int .u8 1))), (2, 1, (.c (.int .u8 3))), (3, 1, (.c (.int .u8 2))), (6, 1, (.c (.int .u8 3))), (5, 1, (.c (.int .u8 1)))])⟩, ⟨some 1, none, [], (.alloc [(.int .u8 0), (.int .u8 0), (.int .u8 0), (.int .u8 0), (.int .u8 0), (.int .u8 0), (.int .u8 0), (.bool false), (.bool false), (.int .u16 0), (.int .i64 0)])⟩, ⟨none, none, [], (.store 11 (.t 1) (.t 8))⟩] false)
 (.seq (.region [⟨some 10, none, [], (.load true 11 (.t 1))⟩, ⟨some 11, none, [], (.call 39 [(.t 10)])⟩, ⟨some 9, none, [], (.move (.t 11))⟩, ⟨some 12, none, [], (.extract (.t 9) 0)⟩, ⟨some 13, none, [], (.extract (.t 9) 1)⟩, ⟨some 2, none, [], (.move (.t 12))⟩, ⟨some 3, none, [], (.move (.t 13))⟩] false)
 (.seq (.region [⟨some 15, none, [], (.load true 11 (.t 1))⟩, ⟨some 16, none, [], (.call 41 [(.t 15)])⟩, ⟨some 14, none, [], (.move (.t 16))⟩, ⟨some 17, none, [], (.extract (.t 14) 0)⟩, ⟨some 18, none, [], (.extract (.t 14) 1)⟩, ⟨some 19, none, [], (.extract (.t 14) 2)⟩, ⟨some 4, none, [], (.move (.t 17))⟩, ⟨some 5, none, [], (.move (.t 18))⟩, ⟨some 6, none, [], (.move (.t 19))⟩] false)
 (.seq (.region [⟨some 20, none, [], (.load true 11 (.t 1))⟩, ⟨some 21, none, [], (.call 38 [(.t 20)])⟩, ⟨some 7, none, [], (.move (.t 21))⟩] false)
 (.seq (.region [⟨some 22, none, [], (.load true 11 (.t 1))⟩, ⟨some 23, none, [], (.call 34 [(.t 22)])⟩, ⟨some 24, none, [], (.move (.t 23))⟩, ⟨some 25, some (24, true), [], (.move (.t 2))⟩, ⟨some 26, some (24, true), [], (.bin .eql (.t 25) (.c (.int .u8 1)))⟩, ⟨some 27, none, [], (.pick (.t 24) (.t 26) (.c (.bool false)))⟩, ⟨some 28, none, [], (.move (.t 27))⟩, ⟨some 29, some (28, true), [], (.move (.t 3))⟩, ⟨some 30, none, [], (.pick (.t 28) (.t 29) (.c (.bool false)))⟩, ⟨some 31, none, [], (.move (.t 30))⟩, ⟨some 32, some (31, true), [], (.move (.t 4))⟩, ⟨some 33, some (31, true), [], (.bin .eql (.t 32) (.c (.int .u8 1)))⟩, ⟨some 34, none, [], (.pick (.t 31) (.t 33) (.c (.bool false)))⟩, ⟨some 35, none, [], (.move (.t 34))⟩, ⟨some 36, some (35, true), [], (.move (.t 5))⟩, ⟨some 37, none, [], (.pick (.t 35) (.t 36) (.c (.bool false)))⟩, ⟨some 38, none, [], (.move (.t 37))⟩, ⟨some 39, some (38, true), [], (.move (.t 6))⟩, ⟨some 40, none, [], (.pick (.t 38) (.t 39) (.c (.bool false)))⟩, ⟨some 41, none, [], (.move (.t 40))⟩, ⟨some 42, some (41, true), [], (.move (.t 7))⟩, ⟨some 43, some (41, true), [], (.lenSl (.t 42))⟩, ⟨some 44, some (41, true), [], (.bin .eql (.t 43) (.c (.int .i64 2)))⟩, ⟨some 45, none, [], (.pick (.t 41) (.t 44) (.c (.bool false)))⟩, ⟨some 46, none, [], (.move (.t 45))⟩, ⟨some 47, some (46, true), [], (.move (.t 7))⟩, ⟨some 48, some (46, true), [], (.idxSl 1 (.t 47) (.c (.int .i64 0)))⟩, ⟨some 49, some (46, true), [], (.load false 1 (.t 48))⟩, ⟨some 50, some (46, true), [], (.bin .eql (.t 49) (.c (.int .u8 2)))⟩, ⟨some 51, none, [], (.pick (.t 46) (.t 50) (.c (.bool false)))⟩, ⟨some 52, none, [], (.move (.t 51))⟩, ⟨some 53, some (52, true), [], (.move (.t 7))⟩, ⟨some 54, some (52, true), [], (.idxSl 1 (.t 53) (.c (.int .i64 1)))⟩, ⟨some 55, some (52, true), [], (.load false 1 (.t 54))⟩, ⟨some 56, some (52, true), [], (.bin .eql (.t 55) (.c (.int .u8 3)))⟩, ⟨some 57, none, [], (.pick (.t 52) (.t 56) (.c (.bool false)))⟩, ⟨some 58, none, [], (.move (.t 57))⟩, ⟨some 59, some (58, true), [], (.load true 11 (.t 1))⟩, ⟨some 60, some (58, true), [], (.call 42 [(.t 59)])⟩, ⟨some 61, some (58, true), [], (.bin .eql (.t 60) (.c (.int .u8 1)))⟩, ⟨some 62, none, [], (.pick (.t 58) (.t 61) (.c (.bool false)))⟩, ⟨some 63, none, [], (.move (.t 62))⟩, ⟨some 64, some (63, true), [], (.load true 11 (.t 1))⟩, ⟨some 65, some (63, true), [], (.call 43 [(.t 64)])⟩, ⟨some 66, none, [], (.pick (.t 63) (.t 65) (.c (.bool false)))⟩, ⟨some 0, none, [], (.move (.t 66))⟩] false)
 .ret))))))⟩
noncomputable def ofCode1 : List (Nat × FnImp) := [(66, .hook (litH rowG)), (63, .code ir63), (84, .code ir84)]
theorem of_ev : allBelow (fun n => compAuto (callF (tabL ofCode1) (evalF (tabL ofCode1) 100) 63 [.int .u8 (.ofNat n)] s0) (rowAns (.ofNat n)).1 (rowAns (.ofNat n)).2) 256 = true := by kernel_rfl
def lenCode : List (Nat × FnImp) := [(88, .code ir88), (115, .code ir115)]
theorem len_ev : allBelow (fun n => compAuto (callF (tabL lenCode) (evalF (tabL lenCode) 100) 88 [.int .u64 (.ofNat n)] s0) (.int .i64 (.ofNat n)) []) 3 = true := by kernel_rfl

/-- All code that is used. -/
def instCode : List (Nat × FnImp) := isaCode ++ [(66, .code ir66), (63, .code ir63), (36, .code ir36), (85, .code ir85), (64, .code ir64), (65, .code ir65), (67, .code ir67), (43, .code ir43), (42, .code ir42), (34, .code ir34), (39, .code ir39), (37, .code ir37), (41, .code ir41), (40, .code ir40), (38, .code ir38), (111, .code ir111), (150, .code ir150), (105, .code ir105), (87, .code ir87), (68, .code ir68), (69, .code ir69), (88, .code ir88), (115, .code ir115), (35, .code ir35)]

noncomputable def t_at : List (Nat × FnImp) := [(66, .hook (litH rowG)), (36, .code ir36)]
noncomputable def t_without : List (Nat × FnImp) := [(64, .code ir64)]
noncomputable def t_holds : List (Nat × FnImp) := [(65, .code ir65), (85, .code ir85)]
noncomputable def t_has : List (Nat × FnImp) := [(36, .hook (pureH atG)), (67, .code ir67)]
noncomputable def t_cond : List (Nat × FnImp) := [(67, .hook (pureH hasG)), (43, .code ir43)]
noncomputable def t_class : List (Nat × FnImp) := [(63, .hook (litH rowG)), (42, .code ir42)]
noncomputable def t_right : List (Nat × FnImp) := [(63, .hook (litH rowG)), (64, .hook (pureH withoutG)), (65, .hook (pureH holdsG)), (43, .hook (pureH condG)), (34, .code ir34)]
noncomputable def t_writes : List (Nat × FnImp) := [(34, .hook (pureH (inF rightR))), (67, .hook (pureH hasG)), (39, .code ir39)]
noncomputable def t_writesPred : List (Nat × FnImp) := [(34, .hook (pureH (inF rightR))), (67, .hook (pureH hasG)), (37, .code ir37)]
noncomputable def t_readsPred : List (Nat × FnImp) := [(34, .hook (pureH (inF rightR))), (67, .hook (pureH hasG)), (41, .code ir41)]
noncomputable def t_target : List (Nat × FnImp) := [(34, .hook (pureH (inF rightR))), (67, .hook (pureH hasG)), (40, .code ir40)]
noncomputable def t_less : List (Nat × FnImp) := [(111, .code ir111), (150, .code ir150)]
noncomputable def t_awake : List (Nat × FnImp) := [(35, .code ir35), (39, .hook (pureH (inF writesR))), (41, .hook (pureH (inF readsPredR))), (37, .hook (pureH (inF writesPredR))), (42, .hook (pureH classG)), (43, .hook (pureH condG)), (38, .code ir38), (68, .code ir68), (87, .code ir87), (105, .code ir105), (69, .code ir69), (111, .hook (pureH lessG)), (88, .hook (litH lenG)), (34, .hook (pureH (inF rightR))), (67, .hook (pureH hasG))]
section
variable {P : Prog} (hm : P.follows .mixedOrders = true) (hG : P.G = []) (ok : AllOk P instCode)

theorem e_code (ok : AllOk P instCode) {n : Nat} {ir : IFunc} (h : lookT n instCode = some (.code ir)) : EntryOk2 P n (.code ir) := .old (ok.get h)
include hm hG ok
theorem fine_isa : TabFine P (tabL isaCode) := AllOk2.fine (.cons (e_code ok rfl) (.cons (e_code ok rfl) (.cons (e_code ok rfl) (.cons (e_code ok rfl) (.cons (e_code ok rfl) (.cons (e_code ok rfl) (.cons (e_code ok rfl) (.cons (e_code ok rfl) (.cons (e_code ok rfl) (.cons (e_code ok rfl) (.cons (e_code ok rfl) (.cons (e_code ok rfl) (.cons (e_code ok rfl) (.cons (e_code ok rfl) (.nil)))))))))))))))
theorem h_table : EntryOk2 P 86 (.hook (litH tableG)) := by
  refine EntryOk2.lit hm hG (fine_isa hm hG ok) 300 _ _ fun args v l h => ?_
  unfold tableG at h
  split at h
  · cases h; exact ⟨rfl, _, isaTab_ev⟩
  · cases h
theorem fine_find : TabFine P (tabL isaCode1) := AllOk2.fine (.cons (h_table hm hG ok) (.cons (e_code ok rfl) .nil))
omit hm hG ok in
theorem row_rows {T : Tab} {rec : Rec} {f : Nat} (h : allBelow (fun n => compAuto (callF T rec f [.int .u8 (.ofNat n)] s0) (rowAns (.ofNat n)).1 (rowAns (.ofNat n)).2) 256 = true) (args : List AV) (v : AV) (l : List AObj) (hg : rowG args = some (v, l)) : args.all scalar = true ∧ ∃ ks, compOk (callF T rec f args s0) ks v l = true := by
  unfold rowG at hg
  split at hg
  · rename_i op
    split at hg
    · rename_i hb
      cases op with
      | ofNat n =>
        have hn : n < 256 := by simpa [isByte, Nat.blt_eq] using hb
        have e : rowAns (.ofNat n) = (v, l) := Option.some.inj hg
        have := allBelow_get h n hn
        simp only [e] at this
        exact ⟨rfl, _, this⟩
      | negSucc n => simp [isByte] at hb
    · cases hg
  · cases hg
theorem h_find : EntryOk2 P 66 (.hook (litH rowG)) := EntryOk2.lit hm hG (fine_find hm hG ok) 100 _ _ (row_rows find_ev)
theorem fine_of : TabFine P (tabL ofCode1) := AllOk2.fine (.cons (h_find hm hG ok) (.cons (e_code ok rfl) (.cons (e_code ok rfl) .nil)))
theorem h_of : EntryOk2 P 63 (.hook (litH rowG)) := EntryOk2.lit hm hG (fine_of hm hG ok) 100 _ _ (row_rows of_ev)
theorem fine_at : TabFine P (tabL t_at) := AllOk2.fine (.cons (h_find hm hG ok) (.cons (e_code ok rfl) (.nil)))
theorem h_at : EntryOk2 P 36 (.hook (pureH atG)) := EntryOk2.pure hm (fine_at hm hG ok) _ _ (atG_ok rfl rfl)
theorem fine_without : TabFine P (tabL t_without) := AllOk2.fine (.cons (e_code ok rfl) (.nil))
theorem h_without : EntryOk2 P 64 (.hook (pureH withoutG)) := EntryOk2.pure hm (fine_without hm hG ok) _ _ (withoutG_ok rfl)
theorem fine_holds : TabFine P (tabL t_holds) := AllOk2.fine (.cons (e_code ok rfl) (.cons (e_code ok rfl) (.nil)))
theorem h_holds : EntryOk2 P 65 (.hook (pureH holdsG)) := EntryOk2.pure hm (fine_holds hm hG ok) _ _ (holdsG_ok rfl rfl)
theorem fine_has : TabFine P (tabL t_has) := AllOk2.fine (.cons (h_at hm hG ok) (.cons (e_code ok rfl) (.nil)))
theorem h_has : EntryOk2 P 67 (.hook (pureH hasG)) := EntryOk2.pure hm (fine_has hm hG ok) _ _ (hasG_ok rfl rfl)
theorem fine_cond : TabFine P (tabL t_cond) := AllOk2.fine (.cons (h_has hm hG ok) (.cons (e_code ok rfl) (.nil)))
theorem h_cond : EntryOk2 P 43 (.hook (pureH condG)) := EntryOk2.pure hm (fine_cond hm hG ok) _ _ (condG_ok rfl rfl)
theorem fine_class : TabFine P (tabL t_class) := AllOk2.fine (.cons (h_of hm hG ok) (.cons (e_code ok rfl) (.nil)))
theorem h_class : EntryOk2 P 42 (.hook (pureH classG)) := EntryOk2.pure hm (fine_class hm hG ok) _ _ (classG_ok rfl rfl)
theorem fine_right : TabFine P (tabL t_right) := AllOk2.fine (.cons (h_of hm hG ok) (.cons (h_without hm hG ok) (.cons (h_holds hm hG ok) (.cons (h_cond hm hG ok) (.cons (e_code ok rfl) (.nil))))))
theorem h_right : EntryOk2 P 34 (.hook (pureH (inF rightR))) := EntryOk2.pure hm (fine_right hm hG ok) _ _ (inF_ok (fun _ => rfl) fun s hs i hi => right_ran rfl rfl rfl rfl rfl s hs i (by simp only [okI, Bool.and_eq_true] at hi; exact hi.1) (by simp only [okI, Bool.and_eq_true] at hi; exact hi.2))
theorem fine_writes : TabFine P (tabL t_writes) := AllOk2.fine (.cons (h_right hm hG ok) (.cons (h_has hm hG ok) (.cons (e_code ok rfl) (.nil))))
theorem h_writes : EntryOk2 P 39 (.hook (pureH (inF writesR))) := EntryOk2.pure hm (fine_writes hm hG ok) _ _ (inF_ok (fun _ => rfl) fun s hs i hi => writes_ran rfl rfl rfl s hs i hi)
theorem fine_writesPred : TabFine P (tabL t_writesPred) := AllOk2.fine (.cons (h_right hm hG ok) (.cons (h_has hm hG ok) (.cons (e_code ok rfl) (.nil))))
theorem h_writesPred : EntryOk2 P 37 (.hook (pureH (inF writesPredR))) := EntryOk2.pure hm (fine_writesPred hm hG ok) _ _ (inF_ok (fun _ => rfl) fun s hs i hi => writesPred_ran rfl rfl rfl s hs i hi)
theorem fine_readsPred : TabFine P (tabL t_readsPred) := AllOk2.fine (.cons (h_right hm hG ok) (.cons (h_has hm hG ok) (.cons (e_code ok rfl) (.nil))))
theorem h_readsPred : EntryOk2 P 41 (.hook (pureH (inF readsPredR))) := EntryOk2.pure hm (fine_readsPred hm hG ok) _ _ (inF_ok (fun _ => rfl) fun s hs i hi => readsPred_ran rfl rfl rfl s hs i hi)
theorem fine_target : TabFine P (tabL t_target) := AllOk2.fine (.cons (h_right hm hG ok) (.cons (h_has hm hG ok) (.cons (e_code ok rfl) (.nil))))
theorem h_target : EntryOk2 P 40 (.hook (pureH (inF targetR))) := EntryOk2.pure hm (fine_target hm hG ok) _ _ (inF_ok (fun _ => rfl) fun s hs i hi => target_ran rfl rfl rfl s hs i hi)
theorem fine_less : TabFine P (tabL t_less) := AllOk2.fine (.cons (e_code ok rfl) (.cons (e_code ok rfl) (.nil)))
theorem h_less : EntryOk2 P 111 (.hook (pureH lessG)) := EntryOk2.pure hm (fine_less hm hG ok) _ _ (lessG_ok rfl rfl)
theorem fine_len : TabFine P (tabL lenCode) := AllOk2.fine (.cons (e_code ok rfl) (.cons (e_code ok rfl) .nil))
theorem h_len : EntryOk2 P 88 (.hook (litH lenG)) := by
  refine EntryOk2.lit hm hG (fine_len hm hG ok) 100 _ _ fun args v l h => ?_
  unfold lenG at h
  split at h
  · cases h; exact ⟨rfl, _, allBelow_get len_ev 0 (by omega)⟩
  · cases h; exact ⟨rfl, _, allBelow_get len_ev 1 (by omega)⟩
  · cases h; exact ⟨rfl, _, allBelow_get len_ev 2 (by omega)⟩
  · cases h
theorem fine_awake : TabFine P (tabL t_awake) := AllOk2.fine (.cons (e_code ok rfl) (.cons (h_writes hm hG ok) (.cons (h_readsPred hm hG ok) (.cons (h_writesPred hm hG ok) (.cons (h_class hm hG ok) (.cons (h_cond hm hG ok) (.cons (e_code ok rfl) (.cons (e_code ok rfl) (.cons (e_code ok rfl) (.cons (e_code ok rfl) (.cons (e_code ok rfl) (.cons (h_less hm hG ok) (.cons (h_len hm hG ok) (.cons (h_right hm hG ok) (.cons (h_has hm hG ok) (.nil))))))))))))))))
omit hm hG ok in
theorem awake_ev : compAuto (callF (tabL t_awake) (evalF (tabL t_awake) 200) 35 [] s0) (.bool true) [] = true := by kernel_rfl
theorem h_awake : EntryOk2 P 35 (.hook (litH yesG)) := by
  refine EntryOk2.lit hm hG (fine_awake hm hG ok) 200 _ _ fun args v l h => ?_
  unfold yesG at h
  split at h
  · cases h; exact ⟨rfl, _, awake_ev⟩
  · cases h
end
end Go.V
