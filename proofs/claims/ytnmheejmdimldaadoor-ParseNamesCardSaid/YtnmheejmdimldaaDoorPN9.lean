/- The law over any name. -/
import Derived.Test.YtnmheejmdimldaaDoorPN8
set_option linter.unusedVariables false
set_option linter.unusedSimpArgs false
set_option linter.unusedSectionVars false
/- The law over any name. -/
namespace Go.V
open Go
set_option linter.unusedSimpArgs false
set_option linter.unusedVariables false
theorem ran_of_yes1 {T : Tab} {n : Nat} {f : FuncId} {args : List AV} {s : St} (h : isYes1 (callF T (evalF T n) f args s) = true) : Ran T f args s fun v _ => v = .bool true := by
  rw [evalF_eq] at h
  cases hr : callF T (evalN T n) f args s with
  | fail => rw [hr] at h; cases h
  | panic v s => rw [hr] at h; cases h
  | val v s' =>
    rw [hr] at h
    refine ⟨n, v, s', hr, ?_⟩
    cases v with
    | bool b => exact congrArg AV.bool h
    | _ => cases h
theorem names_ran (hw : WFS sG) (a : List UInt8) : Ran (tabL t_names) 3 [.str a] sG fun v _ => v = .bool true := by
  by_cases h : a.take 60 ∈ namesN
  · have h1 : (a.take 60).length < 60 := by simpa using List.all_eq_true.1 namesN_short _ h
    have h2 : a.take 60 = a := List.take_of_length_le (by rw [List.length_take] at h1; omega)
    rw [h2] at h
    rw [← List.take_append_drop 50 namesN] at h
    rcases List.mem_append.1 h with h | h
    · exact ran_of_yes1 (List.all_eq_true.1 yes1 a h)
    · exact ran_of_yes1 (List.all_eq_true.1 yes2 a h)
  · exact names_no rfl sG hw (fun b s' hx hb => reserved_ran rfl rfl rfl rfl rfl rfl rfl rfl rfl rfl (gs := 0) (gr := 1) rfl rfl s' hx.1 (iface_up hx (by decide) rfl) (iface_up hx (by decide) rfl) (by exact Nat.lt_of_lt_of_le (by decide) hx.2.1) (by exact Nat.lt_of_lt_of_le (by decide) hx.2.1) b hb)
      (fun s' hx => (memoYes_ran rfl hw hx awake_yes).mono fun _ _ e => e.1) a h
end Go.V
