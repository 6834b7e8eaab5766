/- InstTells over its table. -/
import Derived.Test.YtlpdekocilhciaaLTells6
set_option linter.unusedVariables false
set_option linter.unusedSimpArgs false
set_option linter.unusedSectionVars false
/- InstTells over its table. -/
namespace Go.V
open Go
set_option linter.unusedSimpArgs false
set_option linter.unusedVariables false
set_option linter.unusedSectionVars false
def tellsCode : List (Nat × FnImp) := [(46, .code ir46), (45, .code ir45), (72, .code ir72), (70, .code ir70), (73, .code ir73), (71, .code ir71), (44, .code ir44), (47, .code ir47), (48, .code ir48), (49, .code ir49), (50, .code ir50), (51, .code ir51)]
noncomputable def t_rcond : List (Nat × FnImp) := [(70, .code ir70)]
noncomputable def t_rtarget : List (Nat × FnImp) := [(73, .code ir73)]
noncomputable def t_rwithin : List (Nat × FnImp) := [(71, .code ir71)]
noncomputable def t_rright : List (Nat × FnImp) := [(44, .code ir44), (46, .hook (litH (byteG kindR))), (72, .hook (litH (byteG scaleR))), (70, .hook (pureH (inF condRR))), (73, .hook (pureH targetRG)), (71, .hook (pureH withinRG))]
noncomputable def t_rwrites : List (Nat × FnImp) := [(47, .code ir47), (44, .hook (pureH (inF refRR))), (46, .hook (litH (byteG kindR)))]
noncomputable def t_rwritesPred : List (Nat × FnImp) := [(48, .code ir48), (44, .hook (pureH (inF refRR))), (46, .hook (litH (byteG kindR)))]
noncomputable def t_rreadsPred : List (Nat × FnImp) := [(49, .code ir49), (44, .hook (pureH (inF refRR))), (46, .hook (litH (byteG kindR)))]
noncomputable def t_rtargetO : List (Nat × FnImp) := [(50, .code ir50), (44, .hook (pureH (inF refRR))), (46, .hook (litH (byteG kindR)))]
noncomputable def t_tells : List (Nat × FnImp) := [(10, .code ir10), (38, .code ir38), (68, .code ir68), (87, .code ir87), (105, .code ir105), (69, .code ir69), (111, .hook (pureH lessG)), (88, .hook (litH lenG)), (34, .hook (pureH (inF rightR))), (67, .hook (pureH hasG)), (39, .hook (pureH (inF writesR))), (37, .hook (pureH (inF writesPredR))), (41, .hook (pureH (inF readsPredR))), (40, .hook (pureH (inF targetR))), (42, .hook (pureH classG)), (43, .hook (pureH condG)), (35, .hook (litH yesG)),
  (44, .hook (pureH (inF refRR))), (45, .hook (litH (byteG classR))), (46, .hook (litH (byteG kindR))), (47, .hook (pureH (inF rWritesR))), (48, .hook (pureH (inF rWritesPredR))), (49, .hook (pureH (inF rReadsPredR))), (50, .hook (pureH (inF rTargetR))), (51, .code ir51)]
section
variable {P : Prog} (hm : P.follows .mixedOrders = true) (hG : P.G = []) (ok : AllOk P instCode) (ok2 : AllOk P tellsCode)
theorem e_code2 (ok : AllOk P tellsCode) {n : Nat} {ir : IFunc} (h : lookT n tellsCode = some (.code ir)) : EntryOk2 P n (.code ir) := .old (ok.get h)
include hm hG ok2
theorem fine_ref1 : TabFine P (tabL refCode1) := AllOk2.fine (.cons (e_code2 ok2 rfl) (.cons (e_code2 ok2 rfl) (.cons (e_code2 ok2 rfl) .nil)))
theorem h_rkind : EntryOk2 P 46 (.hook (litH (byteG kindR))) := EntryOk2.lit hm hG (fine_ref1 hm hG ok2) 100 _ _ (byte_rows kind_ev)
theorem h_rclass : EntryOk2 P 45 (.hook (litH (byteG classR))) := EntryOk2.lit hm hG (fine_ref1 hm hG ok2) 100 _ _ (byte_rows class_ev)
theorem h_rscale : EntryOk2 P 72 (.hook (litH (byteG scaleR))) := EntryOk2.lit hm hG (fine_ref1 hm hG ok2) 100 _ _ (byte_rows scale_ev)
theorem fine_rcond : TabFine P (tabL t_rcond) := AllOk2.fine (.cons (e_code2 ok2 rfl) .nil)
theorem h_rcond : EntryOk2 P 70 (.hook (pureH (inF condRR))) := EntryOk2.pure hm (fine_rcond hm hG ok2) _ _ (inF_ok (fun _ => rfl) fun s hs i _ => condR_ran rfl s hs i)
theorem fine_rtarget : TabFine P (tabL t_rtarget) := AllOk2.fine (.cons (e_code2 ok2 rfl) .nil)
theorem h_rtarget : EntryOk2 P 73 (.hook (pureH targetRG)) := EntryOk2.pure hm (fine_rtarget hm hG ok2) _ _ (targetRG_ok rfl)
theorem fine_rwithin : TabFine P (tabL t_rwithin) := AllOk2.fine (.cons (e_code2 ok2 rfl) .nil)
theorem h_rwithin : EntryOk2 P 71 (.hook (pureH withinRG)) := EntryOk2.pure hm (fine_rwithin hm hG ok2) _ _ (withinRG_ok rfl)
theorem fine_rright : TabFine P (tabL t_rright) := AllOk2.fine (.cons (e_code2 ok2 rfl) (.cons (h_rkind hm hG ok2) (.cons (h_rscale hm hG ok2) (.cons (h_rcond hm hG ok2) (.cons (h_rtarget hm hG ok2) (.cons (h_rwithin hm hG ok2) .nil))))))
theorem h_rright : EntryOk2 P 44 (.hook (pureH (inF refRR))) := EntryOk2.pure hm (fine_rright hm hG ok2) _ _ (inF_ok (fun _ => rfl) fun s hs i hi => refRight_ran rfl rfl rfl rfl rfl rfl s hs i hi)
theorem fine_rwrites : TabFine P (tabL t_rwrites) := AllOk2.fine (.cons (e_code2 ok2 rfl) (.cons (h_rright hm hG ok2) (.cons (h_rkind hm hG ok2) .nil)))
theorem h_rwrites : EntryOk2 P 47 (.hook (pureH (inF rWritesR))) := EntryOk2.pure hm (fine_rwrites hm hG ok2) _ _ (inF_ok (fun _ => rfl) fun s hs i hi => rwrites_ran rfl rfl rfl s hs i hi)
theorem fine_rwritesPred : TabFine P (tabL t_rwritesPred) := AllOk2.fine (.cons (e_code2 ok2 rfl) (.cons (h_rright hm hG ok2) (.cons (h_rkind hm hG ok2) .nil)))
theorem h_rwritesPred : EntryOk2 P 48 (.hook (pureH (inF rWritesPredR))) := EntryOk2.pure hm (fine_rwritesPred hm hG ok2) _ _ (inF_ok (fun _ => rfl) fun s hs i hi => rwritesPred_ran rfl rfl rfl s hs i hi)
theorem fine_rreadsPred : TabFine P (tabL t_rreadsPred) := AllOk2.fine (.cons (e_code2 ok2 rfl) (.cons (h_rright hm hG ok2) (.cons (h_rkind hm hG ok2) .nil)))
theorem h_rreadsPred : EntryOk2 P 49 (.hook (pureH (inF rReadsPredR))) := EntryOk2.pure hm (fine_rreadsPred hm hG ok2) _ _ (inF_ok (fun _ => rfl) fun s hs i hi => rreadsPred_ran rfl rfl rfl s hs i hi)
theorem fine_rtargetO : TabFine P (tabL t_rtargetO) := AllOk2.fine (.cons (e_code2 ok2 rfl) (.cons (h_rright hm hG ok2) (.cons (h_rkind hm hG ok2) .nil)))
theorem h_rtargetO : EntryOk2 P 50 (.hook (pureH (inF rTargetR))) := EntryOk2.pure hm (fine_rtargetO hm hG ok2) _ _ (inF_ok (fun _ => rfl) fun s hs i hi => rtarget_ran rfl rfl rfl s hs i hi)
include ok
theorem fine_tells (e : EntryOk P 10 (.code ir10)) : TabFine P (tabL t_tells) :=
  AllOk2.fine (.cons (.old e) (.cons (e_code ok rfl) (.cons (e_code ok rfl) (.cons (e_code ok rfl) (.cons (e_code ok rfl) (.cons (e_code ok rfl) (.cons (h_less hm hG ok) (.cons (h_len hm hG ok) (.cons (h_right hm hG ok) (.cons (h_has hm hG ok) (.cons (h_writes hm hG ok) (.cons (h_writesPred hm hG ok) (.cons (h_readsPred hm hG ok) (.cons (h_target hm hG ok) (.cons (h_class hm hG ok) (.cons (h_cond hm hG ok) (.cons (h_awake hm hG ok) (.cons (h_rright hm hG ok2) (.cons (h_rclass hm hG ok2) (.cons (h_rkind hm hG ok2) (.cons (h_rwrites hm hG ok2) (.cons (h_rwritesPred hm hG ok2) (.cons (h_rreadsPred hm hG ok2) (.cons (h_rtargetO hm hG ok2) (.cons (e_code2 ok2 rfl) .nil)))))))))))))))))))))))))
end
theorem tells_done (s : St) (hs : WFS s) (i : In) (hi : In.ok i = true) : Ran (tabL t_tells) 10 [.agg i.cells] s fun v _ => v = .bool true :=
  tells_ran rfl rfl rfl rfl rfl rfl rfl i hi s hs fun e σ hσ b h1 hbox hlt => tells_mid rfl rfl rfl rfl rfl rfl rfl rfl rfl i hi (fun s hs => rreads_ran rfl rfl rfl s hs i hi) (fun s hs => reads_ran rfl rfl rfl rfl rfl rfl rfl rfl rfl s hs i (In.okI_of hi)) e σ hσ b h1 hbox hlt
end Go.V
