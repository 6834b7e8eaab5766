/- SqTab -/
import Derived.Test.YtkjddipkaaelaaaDoorSA
import Derived.Test.YtkjddipkaaelaaaDoorSG
import Derived.Test.YtkjddipkaaelaaaDoorProg
import Derived.Test.YtkjddipkaaelaaaDoorV54
import Derived.Test.YtkjddipkaaelaaaDoorV64
set_option linter.unusedVariables false
set_option linter.unusedSimpArgs false
set_option linter.unusedSectionVars false
namespace Go.V
open Go
set_option linter.unusedSimpArgs false
set_option linter.unusedVariables false
def gd0 : DataW Unit := .agg [.lit (.int .u64 1), .lit (.int .u64 10), .lit (.int .u64 100), .lit (.int .u64 1000), .lit (.int .u64 10000), .lit (.int .u64 100000), .lit (.int .u64 1000000), .lit (.int .u64 10000000), .lit (.int .u64 100000000), .lit (.int .u64 1000000000), .lit (.int .u64 10000000000), .lit (.int .u64 100000000000), .lit (.int .u64 1000000000000), .lit (.int .u64 10000000000000), .lit (.int .u64 100000000000000), .lit (.int .u64 1000000000000000), .lit (.int .u64 10000000000000000), .lit (.int .u64 100000000000000000), .lit (.int .u64 1000000000000000000), .lit (.int .u64 10000000000000000000)]
def gt0 : Ty := (.arr 20 (.int .u64))
def gd2 : DataW Unit := .agg [.lit (.int .u8 0), .lit (.int .u8 1), .lit (.int .u8 28), .lit (.int .u8 2), .lit (.int .u8 29), .lit (.int .u8 14), .lit (.int .u8 24), .lit (.int .u8 3), .lit (.int .u8 30), .lit (.int .u8 22), .lit (.int .u8 20), .lit (.int .u8 15), .lit (.int .u8 25), .lit (.int .u8 17), .lit (.int .u8 4), .lit (.int .u8 8), .lit (.int .u8 31), .lit (.int .u8 27), .lit (.int .u8 13), .lit (.int .u8 23), .lit (.int .u8 21), .lit (.int .u8 19), .lit (.int .u8 16), .lit (.int .u8 7), .lit (.int .u8 26), .lit (.int .u8 12), .lit (.int .u8 18), .lit (.int .u8 6), .lit (.int .u8 11), .lit (.int .u8 5), .lit (.int .u8 10), .lit (.int .u8 9)]
def gt2 : Ty := (.arr 32 (.int .u8))
def gd3 : DataW Unit := .agg [.lit (.int .u8 0), .lit (.int .u8 1), .lit (.int .u8 56), .lit (.int .u8 2), .lit (.int .u8 57), .lit (.int .u8 49), .lit (.int .u8 28), .lit (.int .u8 3), .lit (.int .u8 61), .lit (.int .u8 58), .lit (.int .u8 42), .lit (.int .u8 50), .lit (.int .u8 38), .lit (.int .u8 29), .lit (.int .u8 17), .lit (.int .u8 4), .lit (.int .u8 62), .lit (.int .u8 47), .lit (.int .u8 59), .lit (.int .u8 36), .lit (.int .u8 45), .lit (.int .u8 43), .lit (.int .u8 51), .lit (.int .u8 22), .lit (.int .u8 53), .lit (.int .u8 39), .lit (.int .u8 33), .lit (.int .u8 30), .lit (.int .u8 24), .lit (.int .u8 18), .lit (.int .u8 12), .lit (.int .u8 5), .lit (.int .u8 63), .lit (.int .u8 55), .lit (.int .u8 48), .lit (.int .u8 27), .lit (.int .u8 60), .lit (.int .u8 41), .lit (.int .u8 37), .lit (.int .u8 16), .lit (.int .u8 46), .lit (.int .u8 35), .lit (.int .u8 44), .lit (.int .u8 21), .lit (.int .u8 52), .lit (.int .u8 32), .lit (.int .u8 23), .lit (.int .u8 11), .lit (.int .u8 54), .lit (.int .u8 26), .lit (.int .u8 40), .lit (.int .u8 15), .lit (.int .u8 34), .lit (.int .u8 20), .lit (.int .u8 31), .lit (.int .u8 10), .lit (.int .u8 25), .lit (.int .u8 14), .lit (.int .u8 19), .lit (.int .u8 9), .lit (.int .u8 13), .lit (.int .u8 8), .lit (.int .u8 7), .lit (.int .u8 6)]
def gt3 : Ty := (.arr 64 (.int .u8))
def gst (ty : Ty) (d : DataW Unit) (g : Nat) (s : St) : St := match layD ty d s with
  | some (l, s1) => s1.put g (.cells l 0 0 true)
  | none => s
def sG : St := (gdummy 1 (gst gt3 gd3 3 (gst gt2 gd2 2 (gst gt0 gd0 0 { s0 with next := 4 }))))
open Go.Proofs
noncomputable def prog : Prog := { toProgram := Tryd.prog, G := [0, 2, 3], B := [72, 5] }
noncomputable def cx (F : Func) : FnImp := .code ((ofFunc prog F).getD ⟨0, [], .skip⟩)
abbrev Okx (f : Nat) (F : Func) : Prop := EntryOk prog f (cx F)
theorem okx {f : Nat} {F : Func} (h : prog.funcs[f]? = some F) (h2 : ((ofFunc prog F).isSome && !(F.name == "runtime.NumGoroutine")) = true) : Okx f F := by
  simp only [Bool.and_eq_true, Bool.not_eq_true'] at h2
  obtain ⟨a, b⟩ := h2
  refine ⟨F, h, ?_, b⟩
  obtain ⟨c, e⟩ := Option.isSome_iff_exists.1 a
  rw [e]; rfl
open Tryd in
noncomputable def lawCode : List (Nat × FnImp) := [(6, cx f6), (7, .code ir7), (19, .code ir19), (38, .code ir38), (53, .code ir53), (36, .code ir36), (51, .code ir51), (70, cx f70), (80, cx f80), (50, .code ir50), (69, .code ir69), (79, .code ir79), (83, .code ir83), (82, cx f82), (78, .code ir78), (68, cx f68), (67, cx f67), (77, cx f77), (75, cx f75), (76, cx f76), (66, cx f66), (31, .code ir31), (54, .code ir54), (30, .code ir30), (37, .code ir37), (35, .code ir35), (34, .code ir34), (52, .code ir52), (18, .code ir18), (17, .code ir17), (16, .code ir16)]
def lawExt : List (Nat × FnImp) := []
def lawHooks : List (Nat × FnImp) := [(5, .hook (pureH (inF rightR))), (32, .hook (pureH (inF writesPredR))), (33, .hook (pureH classG)), (29, .hook (pureH hasG))]
def lawH2 : List (Nat × FnImp) := []
noncomputable def t_law : List (Nat × FnImp) := lawCode ++ (lawExt ++ (lawH2 ++ lawHooks))
def lawDfr : List (Nat × DFn) := []
end Go.V
