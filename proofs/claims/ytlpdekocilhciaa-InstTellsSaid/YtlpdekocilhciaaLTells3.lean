/- InstTells: the loop over the marks. -/
import Derived.Test.YtlpdekocilhciaaLTells2
set_option linter.unusedVariables false
set_option linter.unusedSimpArgs false
set_option linter.unusedSectionVars false
/- InstTells: the loop over the marks. -/
namespace Go.V
open Go
set_option linter.unusedSimpArgs false
set_option linter.unusedVariables false
-- coxless/coxlesslaw04.InstTells
def ir10 : IFunc := ⟨203, [.tmp 2], (.seq (.region [⟨some 1, none, [], (.box (.t 0))⟩, ⟨some 2, none, [], (.move (.c (.bool false)))⟩] false)
 (.seq (.seq (.region [⟨some 26, none, [], (.load true 11 (.t 1))⟩, ⟨some 28, none, [], (.load true 11 (.t 1))⟩, ⟨some 27, none, [(.t 1)], (.call 34 [(.t 26)])⟩, ⟨some 29, none, [], (.call 44 [(.t 28)])⟩, ⟨some 30, none, [], (.eq true (.prim .bool) (.t 27) (.t 29))⟩, ⟨some 31, none, [], (.move (.t 30))⟩, ⟨some 32, some (31, false), [], (.load true 11 (.t 1))⟩, ⟨some 34, some (31, false), [], (.fieldAddr 0 (.t 1))⟩, ⟨some 35, some (31, false), [], (.load false 1 (.t 34))⟩, ⟨some 33, some (31, false), [(.t 34)], (.call 42 [(.t 32)])⟩, ⟨some 36, some (31, false), [], (.call 45 [(.t 35)])⟩, ⟨some 37, some (31, false), [], (.bin .neq (.t 33) (.t 36))⟩, ⟨some 38, none, [], (.pick (.t 31) (.c (.bool true)) (.t 37))⟩] true)
 (.cond (.t 38) (.seq (.region [⟨some 2, none, [], (.move (.c (.bool false)))⟩] false)
 .ret) .skip))
 (.seq (.region [⟨some 39, none, [], (.fieldAddr 0 (.t 1))⟩, ⟨some 40, none, [], (.load false 1 (.t 39))⟩, ⟨some 41, none, [], (.call 46 [(.t 40)])⟩, ⟨some 3, none, [], (.move (.t 41))⟩] false)
 (.seq (.seq (.region [⟨some 42, none, [], (.load true 11 (.t 1))⟩, ⟨some 43, none, [], (.call 43 [(.t 42)])⟩, ⟨some 44, none, [], (.move (.t 3))⟩, ⟨some 45, none, [], (.bin .eql (.t 44) (.c (.int .i64 1)))⟩, ⟨some 46, none, [], (.move (.t 45))⟩, ⟨some 47, some (46, false), [], (.move (.t 3))⟩, ⟨some 48, some (46, false), [], (.bin .eql (.t 47) (.c (.int .i64 3)))⟩, ⟨some 49, none, [], (.pick (.t 46) (.c (.bool true)) (.t 48))⟩, ⟨some 50, none, [], (.move (.t 49))⟩, ⟨some 51, some (50, false), [], (.move (.t 3))⟩, ⟨some 52, some (50, false), [], (.bin .eql (.t 51) (.c (.int .i64 4)))⟩, ⟨some 53, none, [], (.pick (.t 50) (.c (.bool true)) (.t 52))⟩, ⟨some 54, none, [], (.move (.t 53))⟩, ⟨some 55, some (54, false), [], (.move (.t 3))⟩, ⟨some 56, some (54, false), [], (.bin .eql (.t 55) (.c (.int .i64 12)))⟩, ⟨some 57, none, [], (.pick (.t 54) (.c (.bool true)) (.t 56))⟩, ⟨some 58, none, [], (.move (.t 57))⟩, ⟨some 59, some (58, false), [], (.move (.t 3))⟩, ⟨some 60, some (58, false), [], (.bin .eql (.t 59) (.c (.int .i64 13)))⟩, ⟨some 61, none, [], (.pick (.t 58) (.c (.bool true)) (.t 60))⟩, ⟨some 62, none, [], (.eq true (.prim .bool) (.t 43) (.t 61))⟩] false)
 (.cond (.t 62) (.seq (.region [⟨some 2, none, [], (.move (.c (.bool false)))⟩] false)
 .ret) .skip))
 (.seq (.region [⟨some 64, none, [], (.load true 11 (.t 1))⟩, ⟨some 65, none, [], (.call 39 [(.t 64)])⟩, ⟨some 63, none, [], (.move (.t 65))⟩, ⟨some 66, none, [], (.extract (.t 63) 0)⟩, ⟨some 67, none, [], (.extract (.t 63) 1)⟩, ⟨some 4, none, [], (.move (.t 66))⟩, ⟨some 5, none, [], (.move (.t 67))⟩] false)
 (.seq (.region [⟨some 69, none, [], (.load true 11 (.t 1))⟩, ⟨some 70, none, [], (.call 47 [(.t 69)])⟩, ⟨some 68, none, [], (.move (.t 70))⟩, ⟨some 71, none, [], (.extract (.t 68) 0)⟩, ⟨some 72, none, [], (.extract (.t 68) 1)⟩, ⟨some 6, none, [], (.move (.t 71))⟩, ⟨some 7, none, [], (.move (.t 72))⟩] false)
 (.seq (.region [⟨some 74, none, [], (.load true 11 (.t 1))⟩, ⟨some 75, none, [], (.call 37 [(.t 74)])⟩, ⟨some 73, none, [], (.move (.t 75))⟩, ⟨some 76, none, [], (.extract (.t 73) 0)⟩, ⟨some 77, none, [], (.extract (.t 73) 1)⟩, ⟨some 8, none, [], (.move (.t 76))⟩, ⟨some 9, none, [], (.move (.t 77))⟩] false)
 (.seq (.region [⟨some 79, none, [], (.load true 11 (.t 1))⟩, ⟨some 80, none, [], (.call 48 [(.t 79)])⟩, ⟨some 78, none, [], (.move (.t 80))⟩, ⟨some 81, none, [], (.extract (.t 78) 0)⟩, ⟨some 82, none, [], (.extract (.t 78) 1)⟩, ⟨some 10, none, [], (.move (.t 81))⟩, ⟨some 11, none, [], (.move (.t 82))⟩] false)
 (.seq (.region [⟨some 84, none, [], (.load true 11 (.t 1))⟩, ⟨some 85, none, [], (.call 41 [(.t 84)])⟩, ⟨some 83, none, [], (.move (.t 85))⟩, ⟨some 86, none, [], (.extract (.t 83) 0)⟩, ⟨some 87, none, [], (.extract (.t 83) 1)⟩, ⟨some 88, none, [], (.extract (.t 83) 2)⟩, ⟨some 12, none, [], (.move (.t 86))⟩, ⟨some 13, none, [], (.move (.t 87))⟩, ⟨some 14, none, [], (.move (.t 88))⟩] false)
 (.seq (.region [⟨some 90, none, [], (.load true 11 (.t 1))⟩, ⟨some 91, none, [], (.call 49 [(.t 90)])⟩, ⟨some 89, none, [], (.move (.t 91))⟩, ⟨some 92, none, [], (.extract (.t 89) 0)⟩, ⟨some 93, none, [], (.extract (.t 89) 1)⟩, ⟨some 94, none, [], (.extract (.t 89) 2)⟩, ⟨some 15, none, [], (.move (.t 92))⟩, ⟨some 16, none, [], (.move (.t 93))⟩, ⟨some 17, none, [], (.move (.t 94))⟩] false)
 (.seq (.region [⟨some 96, none, [], (.load true 11 (.t 1))⟩, ⟨some 97, none, [], (.call 40 [(.t 96)])⟩, ⟨some 95, none, [], (.move (.t 97))⟩, ⟨some 98, none, [], (.extract (.t 95) 0)⟩, ⟨some 99, none, [], (.extract (.t 95) 1)⟩, ⟨some 18, none, [], (.move (.t 98))⟩, ⟨some 19, none, [], (.move (.t 99))⟩] false)
 (.seq (.region [⟨some 101, none, [], (.load true 11 (.t 1))⟩, ⟨some 102, none, [], (.call 50 [(.t 101)])⟩, ⟨some 100, none, [], (.move (.t 102))⟩, ⟨some 103, none, [], (.extract (.t 100) 0)⟩, ⟨some 104, none, [], (.extract (.t 100) 1)⟩, ⟨some 20, none, [], (.move (.t 103))⟩, ⟨some 21, none, [], (.move (.t 104))⟩] false)
 (.seq (.seq (.region [⟨some 105, none, [], (.move (.t 5))⟩, ⟨some 106, none, [], (.move (.t 7))⟩, ⟨some 107, none, [], (.eq true (.prim .bool) (.t 105) (.t 106))⟩, ⟨some 108, none, [], (.move (.t 107))⟩, ⟨some 109, some (108, false), [], (.move (.t 9))⟩, ⟨some 110, some (108, false), [], (.move (.t 11))⟩, ⟨some 111, some (108, false), [], (.eq true (.prim .bool) (.t 109) (.t 110))⟩, ⟨some 112, none, [], (.pick (.t 108) (.c (.bool true)) (.t 111))⟩, ⟨some 113, none, [], (.move (.t 112))⟩, ⟨some 114, some (113, false), [], (.move (.t 5))⟩, ⟨some 115, some (113, false), [], (.move (.t 114))⟩, ⟨some 116, some (115, true), [], (.move (.t 4))⟩, ⟨some 117, some (115, true), [], (.move (.t 6))⟩, ⟨some 118, some (115, true), [], (.bin .neq (.t 116) (.t 117))⟩, ⟨some 119, some (113, false), [], (.pick (.t 115) (.t 118) (.c (.bool false)))⟩, ⟨some 120, none, [], (.pick (.t 113) (.c (.bool true)) (.t 119))⟩, ⟨some 121, none, [], (.move (.t 120))⟩, ⟨some 122, some (121, false), [], (.move (.t 9))⟩, ⟨some 123, some (121, false), [], (.move (.t 122))⟩, ⟨some 124, some (123, true), [], (.move (.t 8))⟩, ⟨some 125, some (123, true), [], (.move (.t 10))⟩, ⟨some 126, some (123, true), [], (.bin .neq (.t 124) (.t 125))⟩, ⟨some 127, some (121, false), [], (.pick (.t 123) (.t 126) (.c (.bool false)))⟩, ⟨some 128, none, [], (.pick (.t 121) (.c (.bool true)) (.t 127))⟩, ⟨some 129, none, [], (.move (.t 128))⟩, ⟨some 130, some (129, false), [], (.move (.t 12))⟩, ⟨some 131, some (129, false), [], (.move (.t 15))⟩, ⟨some 132, some (129, false), [], (.bin .neq (.t 130) (.t 131))⟩, ⟨some 133, none, [], (.pick (.t 129) (.c (.bool true)) (.t 132))⟩, ⟨some 134, none, [], (.move (.t 133))⟩, ⟨some 135, some (134, false), [], (.move (.t 13))⟩, ⟨some 136, some (134, false), [], (.move (.t 16))⟩, ⟨some 137, some (134, false), [], (.eq true (.prim .bool) (.t 135) (.t 136))⟩, ⟨some 138, none, [], (.pick (.t 134) (.c (.bool true)) (.t 137))⟩, ⟨some 139, none, [], (.move (.t 138))⟩, ⟨some 140, some (139, false), [], (.move (.t 14))⟩, ⟨some 141, some (139, false), [], (.move (.t 17))⟩, ⟨some 142, some (139, false), [], (.eq true (.prim .bool) (.t 140) (.t 141))⟩, ⟨some 143, none, [], (.pick (.t 139) (.c (.bool true)) (.t 142))⟩, ⟨some 144, none, [], (.move (.t 143))⟩, ⟨some 145, some (144, false), [], (.move (.t 18))⟩, ⟨some 146, some (144, false), [], (.move (.t 20))⟩, ⟨some 147, some (144, false), [], (.bin .neq (.t 145) (.t 146))⟩, ⟨some 148, none, [], (.pick (.t 144) (.c (.bool true)) (.t 147))⟩, ⟨some 149, none, [], (.move (.t 148))⟩, ⟨some 150, some (149, false), [], (.move (.t 19))⟩, ⟨some 151, some (149, false), [], (.move (.t 21))⟩, ⟨some 152, some (149, false), [], (.eq true (.prim .bool) (.t 150) (.t 151))⟩, ⟨some 153, none, [], (.pick (.t 149) (.c (.bool true)) (.t 152))⟩, ⟨some 154, none, [], (.move (.t 153))⟩, ⟨some 155, some (154, false), [], (.move (.t 5))⟩, ⟨some 156, some (154, false), [], (.un .not (.t 155))⟩, ⟨some 157, some (154, false), [], (.move (.t 156))⟩, ⟨some 158, some (157, true), [], (.move (.t 4))⟩, ⟨some 159, some (157, true), [], (.bin .neq (.t 158) (.c (.int .u8 0)))⟩, ⟨some 160, some (154, false), [], (.pick (.t 157) (.t 159) (.c (.bool false)))⟩, ⟨some 161, none, [], (.pick (.t 154) (.c (.bool true)) (.t 160))⟩, ⟨some 162, none, [], (.move (.t 161))⟩, ⟨some 163, some (162, false), [], (.move (.t 9))⟩, ⟨some 164, some (162, false), [], (.un .not (.t 163))⟩, ⟨some 165, some (162, false), [], (.move (.t 164))⟩, ⟨some 166, some (165, true), [], (.move (.t 8))⟩, ⟨some 167, some (165, true), [], (.bin .neq (.t 166) (.c (.int .u8 0)))⟩, ⟨some 168, some (162, false), [], (.pick (.t 165) (.t 167) (.c (.bool false)))⟩, ⟨some 169, none, [], (.pick (.t 162) (.c (.bool true)) (.t 168))⟩] false)
 (.cond (.t 169) (.seq (.region [⟨some 2, none, [], (.move (.c (.bool false)))⟩] false)
 .ret) .skip))
 (.seq (.region [⟨some 170, none, [], (.load true 11 (.t 1))⟩, ⟨some 171, none, [], (.call 51 [(.t 170)])⟩, ⟨some 22, none, [], (.alloc [(.bool false), (.bool false), (.bool false), (.bool false), (.bool false), (.bool false), (.bool false), (.bool false), (.bool false), (.bool false), (.bool false), (.bool false), (.bool false), (.bool false), (.bool false), (.bool false), (.bool false), (.bool false), (.bool false), (.bool false), (.bool false), (.bool false), (.bool false), (.bool false), (.bool false), (.bool false), (.bool false), (.bool false), (.bool false), (.bool false), (.bool false), (.bool false)])⟩, ⟨none, none, [], (.store 32 (.t 22) (.t 171))⟩] false)
 (.seq (.region [⟨some 172, none, [], (.load true 11 (.t 1))⟩, ⟨some 173, none, [], (.call 38 [(.t 172)])⟩, ⟨some 23, none, [], (.move (.t 173))⟩] false)
 (.seq (.region [⟨some 24, none, [], (.move (.c (.int .i64 0)))⟩] false)
 (.seq (.seq (.region [⟨some 25, none, [], (.move (.c (.int .i64 0)))⟩] false)
 (.block 0 (.loop (.seq (.seq (.region [⟨some 174, none, [], (.move (.t 25))⟩, ⟨some 175, none, [], (.bin .lss (.t 174) (.c (.int .i64 32)))⟩] false)
 (.cond (.t 175) .skip (.exit 0)))
 (.seq (.block 1 (.seq (.region [⟨some 178, none, [], (.move (.t 25))⟩, ⟨some 179, none, [], (.idxArr 32 1 (.t 22) (.t 178))⟩, ⟨some 180, none, [], (.load false 1 (.t 179))⟩] false)
 (.cond (.t 180) (.seq (.seq (.region [⟨some 181, none, [], (.move (.t 24))⟩, ⟨some 182, none, [], (.move (.t 23))⟩, ⟨some 183, none, [], (.lenSl (.t 182))⟩, ⟨some 184, none, [], (.bin .geq (.t 181) (.t 183))⟩, ⟨some 185, none, [], (.move (.t 184))⟩, ⟨some 186, some (185, false), [], (.move (.t 23))⟩, ⟨some 187, some (185, false), [], (.move (.t 24))⟩, ⟨some 188, some (185, false), [], (.idxSl 1 (.t 186) (.t 187))⟩, ⟨some 189, some (185, false), [], (.load false 1 (.t 188))⟩, ⟨some 190, some (185, false), [], (.conv (.intInt .i64) (.t 189))⟩, ⟨some 191, some (185, false), [], (.move (.t 25))⟩, ⟨some 192, some (185, false), [], (.bin .neq (.t 190) (.t 191))⟩, ⟨some 193, none, [], (.pick (.t 185) (.c (.bool true)) (.t 192))⟩] false)
 (.cond (.t 193) (.seq (.region [⟨some 2, none, [], (.move (.c (.bool false)))⟩] false)
 .ret) .skip))
 (.region [⟨some 194, none, [], (.move (.t 24))⟩, ⟨some 195, none, [], (.bin .add (.t 194) (.c (.int .i64 1)))⟩, ⟨some 24, none, [], (.move (.t 195))⟩] false)) .skip)))
 (.region [⟨some 176, none, [], (.move (.t 25))⟩, ⟨some 177, none, [], (.bin .add (.t 176) (.c (.int .i64 1)))⟩, ⟨some 25, none, [], (.move (.t 177))⟩] false))))))
 (.seq (.region [⟨some 196, none, [], (.move (.t 24))⟩, ⟨some 197, none, [], (.move (.t 23))⟩, ⟨some 198, none, [], (.lenSl (.t 197))⟩, ⟨some 199, none, [], (.bin .eql (.t 196) (.t 198))⟩, ⟨some 200, none, [], (.move (.t 199))⟩, ⟨some 201, some (200, true), [], (.call 35 [])⟩, ⟨some 202, none, [], (.pick (.t 200) (.t 201) (.c (.bool false)))⟩, ⟨some 2, none, [], (.move (.t 202))⟩] false)
 .ret))))))))))))))))))⟩
def cntB (l : List Int) (j : Nat) : Nat := (l.filter fun x => decide (x < (j : Int))).length
theorem cnt_no {l : List Int} {j : Nat} (h : ¬ (j : Int) ∈ l) : cntB l (j + 1) = cntB l j := by
  unfold cntB
  congr 1
  apply List.filter_congr
  intro x hx
  have : x ≠ j := fun e => h (e ▸ hx)
  rw [decide_eq_decide]; omega
theorem cnt_yes {l : List Int} (hs : l = [] ∨ (∃ x, l = [x]) ∨ ∃ x y, x < y ∧ l = [x, y]) {j : Nat} (h : (j : Int) ∈ l) : ∃ hl : cntB l j < l.length, l[cntB l j] = (j : Int) ∧ cntB l (j + 1) = cntB l j + 1 := by
  rcases hs with rfl | ⟨x, rfl⟩ | ⟨x, y, hxy, rfl⟩
  · simp at h
  · simp at h; subst h
    have : (j : Int) < j + 1 := by omega
    simp [cntB, List.filter, this]
  · simp at h
    rcases h with h | h
    · subst h
      have a1 : (j : Int) < j + 1 := by omega
      have a2 : ¬ (y < j) := by omega
      have a3 : ¬ (y < j + 1) := by omega
      simp [cntB, List.filter, a1, a2, a3]
    · subst h
      have a1 : (j : Int) < j + 1 := by omega
      have a2 : x < j + 1 := by omega
      simp [cntB, List.filter, a1, a2, hxy]
theorem cnt_end {l : List Int} (h : ∀ x ∈ l, x < 32) : cntB l 32 = l.length := by
  unfold cntB
  rw [List.filter_eq_self.2]
  intro x hx
  exact decide_eq_true (h x hx)
theorem cnt_zero {l : List Int} (h : ∀ x ∈ l, 0 ≤ x) : cntB l 0 = 0 := by
  unfold cntB
  rw [List.filter_eq_nil_iff.2]
  · rfl
  · intro x hx
    have := h x hx
    simp; omega
theorem sl_at {cs : List AV} {o : Nat} {l : List Int} (h : (cs.drop o).take l.length = l.map (.int .u8)) (k : Nat) (hk : k < l.length) : (cs.drop (o + k)).take 1 = [.int .u8 l[k]] := by
  have := congrArg (fun z => (z.drop k).take 1) h
  simp only [List.drop_take, List.take_take, List.drop_drop, ← List.map_drop, ← List.map_take] at this
  rw [Nat.min_eq_left (by omega)] at this
  rw [this]
  rw [List.drop_eq_getElem_cons hk]
  rfl
section
variable {T : Tab}
set_option maxHeartbeats 4000000 in
theorem tells_loop (haw : T 35 = some (.hook (litH yesG))) (l : List Int) (hs : l = [] ∨ (∃ x, l = [x]) ∨ ∃ x y, x < y ∧ l = [x, y]) (hl : ∀ x ∈ l, x < 32) (σ : St) (v : AV) (b : Nat) (hv : SlU8 σ v l) (p : Nat → Bool) (hp : ∀ j, p j = decide ((j : Int) ∈ l)) (ob : σ.heap.get b = some (.cells (marksC p) 0 0 false)) :
    ∀ (k j : Nat) (e : Env), k + j = 32 → opd e (.t 24) = .int .i64 (cntB l j) → opd e (.t 25) = .int .i64 j → opd e (.t 22) = .ptr ⟨b, 0, 0, 32⟩ → opd e (.t 23) = v →
      Go T (Fin [.tmp 2] fun v _ => v = .bool true) ((.loop (.seq (.seq (.region [⟨some 174, none, [], (.move (.t 25))⟩, ⟨some 175, none, [], (.bin .lss (.t 174) (.c (.int .i64 32)))⟩] false)
 (.cond (.t 175) .skip (.exit 0)))
 (.seq (.block 1 (.seq (.region [⟨some 178, none, [], (.move (.t 25))⟩, ⟨some 179, none, [], (.idxArr 32 1 (.t 22) (.t 178))⟩, ⟨some 180, none, [], (.load false 1 (.t 179))⟩] false)
 (.cond (.t 180) (.seq (.seq (.region [⟨some 181, none, [], (.move (.t 24))⟩, ⟨some 182, none, [], (.move (.t 23))⟩, ⟨some 183, none, [], (.lenSl (.t 182))⟩, ⟨some 184, none, [], (.bin .geq (.t 181) (.t 183))⟩, ⟨some 185, none, [], (.move (.t 184))⟩, ⟨some 186, some (185, false), [], (.move (.t 23))⟩, ⟨some 187, some (185, false), [], (.move (.t 24))⟩, ⟨some 188, some (185, false), [], (.idxSl 1 (.t 186) (.t 187))⟩, ⟨some 189, some (185, false), [], (.load false 1 (.t 188))⟩, ⟨some 190, some (185, false), [], (.conv (.intInt .i64) (.t 189))⟩, ⟨some 191, some (185, false), [], (.move (.t 25))⟩, ⟨some 192, some (185, false), [], (.bin .neq (.t 190) (.t 191))⟩, ⟨some 193, none, [], (.pick (.t 185) (.c (.bool true)) (.t 192))⟩] false)
 (.cond (.t 193) (.seq (.region [⟨some 2, none, [], (.move (.c (.bool false)))⟩] false)
 .ret) .skip))
 (.region [⟨some 194, none, [], (.move (.t 24))⟩, ⟨some 195, none, [], (.bin .add (.t 194) (.c (.int .i64 1)))⟩, ⟨some 24, none, [], (.move (.t 195))⟩] false)) .skip)))
 (.region [⟨some 176, none, [], (.move (.t 25))⟩, ⟨some 177, none, [], (.bin .add (.t 176) (.c (.int .i64 1)))⟩, ⟨some 25, none, [], (.move (.t 177))⟩] false))))) [.block 0, .seq (.seq (.region [⟨some 196, none, [], (.move (.t 24))⟩, ⟨some 197, none, [], (.move (.t 23))⟩, ⟨some 198, none, [], (.lenSl (.t 197))⟩, ⟨some 199, none, [], (.bin .eql (.t 196) (.t 198))⟩, ⟨some 200, none, [], (.move (.t 199))⟩, ⟨some 201, some (200, true), [], (.call 35 [])⟩, ⟨some 202, none, [], (.pick (.t 200) (.t 201) (.c (.bool false)))⟩, ⟨some 2, none, [], (.move (.t 202))⟩] false)
 .ret)] e σ := by
  have k5 := goCall_hook haw
  have hlen : l.length ≤ 2 := by rcases hs with rfl | ⟨x, rfl⟩ | ⟨x, y, _, rfl⟩ <;> simp
  have lenv : (v = .nilSlice ∧ l = []) ∨ ∃ a cap ex, v = .slice a l.length cap ex 1 := by
    rcases hv with h | ⟨a, cap, ex, _, _, _, h, _⟩
    · exact .inl h
    · exact .inr ⟨a, cap, ex, h⟩
  intro k
  induction k with
  | zero =>
    intro j e hj h24 h25 h22 h23
    have hjj : j = 32 := by omega
    subst hjj
    rw [cnt_end hl] at h24
    generalize hQ : Fin _ _ = Q
    rcases lenv with ⟨rfl, rfl⟩ | ⟨a, cap, ex, rfl⟩
    all_goals rw [go_loop]
    all_goals simp only [h24, h25, h22, h23, k5, yesH_eq, List.length_nil, go_skip, go_label, go_exit, go_goto, go_ret, go_region, go_seq, go_block, go_scope, go_cond, goC_true, goC_false, ret_nil, ret_seq, ret_seq_exit, ret_seq_ret, ret_seq_goto, ret_seq_panic, ret_block, ret_block_exit, ret_block_ret, ret_block_goto, ret_block_panic, ret_loop, ret_loop_exit, ret_loop_ret, ret_loop_goto, ret_loop_panic, ret_scope, ret_scope_exit, ret_scope_ret, ret_scope_panic, ops_nil, ops_guard, ops_call, ops_callVal, goCV_func, goR_val, goR_panic, gx_tt, gx_ff, gx_tf, gx_ft, gx_undef, w0, w1, w2, w3, w4, w5, w6, w7, w8, w9, w10, w11, w12, w13, w14, w15, w16, Nat.reduceAdd, Nat.reduceEqDiff, Nat.reduceLeDiff, Nat.reduceLT, Nat.reduceMul, Nat.add_zero, Nat.add_assoc, Nat.add_left_cancel_iff, Nat.reduceBEq, Int.reduceLT, Int.reduceLE, Int.reduceEq, Int.reduceAdd, Int.reduceSub, Int.cast_ofNat_Int, Int.reduceMul, Int.reduceMod, Int.reduceTMod, Int.reduceTDiv, Int.reduceNeg, Nat.reduceSub, Nat.reduceDiv, Nat.mul_one, Nat.one_mul, Int.lt_irrefl, decide_true, decide_false, reduceIte, reduceCtorEq, Nat.zero_add, Nat.le_refl, Nat.zero_le, and_self, and_true, true_and, List.length_cons, List.length_nil, List.drop_succ_cons, List.drop_zero, List.take_succ_cons, List.take_zero, List.getElem?_cons_succ, List.getElem?_cons_zero, List.cons_append, List.nil_append, List.append_nil, List.all_cons, List.all_nil, Bool.and_true, Nat.left_eq_add, Nat.add_eq_left, Nat.succ_ne_self, Bool.not_true, Bool.not_false, Option.some.injEq, exists_eq_left']
    all_goals subst hQ
    all_goals simp only [go_skip, go_label, go_exit, go_goto, go_ret, go_region, go_seq, go_block, go_scope, go_cond, goC_true, goC_false, ret_nil, ret_seq, ret_seq_exit, ret_seq_ret, ret_seq_goto, ret_seq_panic, ret_block, ret_block_exit, ret_block_ret, ret_block_goto, ret_block_panic, ret_loop, ret_loop_exit, ret_loop_ret, ret_loop_goto, ret_loop_panic, ret_scope, ret_scope_exit, ret_scope_ret, ret_scope_panic, ops_nil, ops_guard, ops_call, ops_callVal, goCV_func, goR_val, goR_panic, gx_tt, gx_ff, gx_tf, gx_ft, gx_undef, w0, w1, w2, w3, w4, w5, w6, w7, w8, w9, w10, w11, w12, w13, w14, w15, w16, Nat.reduceAdd, Nat.reduceEqDiff, Nat.reduceLeDiff, Nat.reduceLT, Nat.reduceMul, Nat.add_zero, Nat.add_assoc, Nat.add_left_cancel_iff, Nat.reduceBEq, Int.reduceLT, Int.reduceLE, Int.reduceEq, Int.reduceAdd, Int.reduceSub, Int.cast_ofNat_Int, Int.reduceMul, Int.reduceMod, Int.reduceTMod, Int.reduceTDiv, Int.reduceNeg, Nat.reduceSub, Nat.reduceDiv, Nat.mul_one, Nat.one_mul, Int.lt_irrefl, decide_true, decide_false, reduceIte, reduceCtorEq, Nat.zero_add, Nat.le_refl, Nat.zero_le, and_self, and_true, true_and, List.length_cons, List.length_nil, List.drop_succ_cons, List.drop_zero, List.take_succ_cons, List.take_zero, List.getElem?_cons_succ, List.getElem?_cons_zero, List.cons_append, List.nil_append, List.append_nil, List.all_cons, List.all_nil, Bool.and_true, Nat.left_eq_add, Nat.add_eq_left, Nat.succ_ne_self, Bool.not_true, Bool.not_false, Option.some.injEq, exists_eq_left']
  | succ k ih =>
    intro j e hj h24 h25 h22 h23
    have hlt : (j : Int) < 32 := by omega
    have hj32 : j < 32 := by omega
    have hj31 : j ≤ 31 := by omega
    have hone := marks_one p j hj32
    by_cases hm : (j : Int) ∈ l
    · obtain ⟨c1, c2, c3⟩ := cnt_yes hs hm
      have hpj : p j = true := by rw [hp]; exact decide_eq_true hm
      rcases hv with ⟨rfl, rfl⟩ | ⟨a, cap, ex, cs, lo, inc, rfl, ho, g1, g2, g3, g4, g5⟩
      · simp at hm
      have hat := sl_at g4 _ c1
      rw [c2] at hat
      have r1 : a.off + cntB l j + 1 ≤ a.lim := by omega
      have r2 : a.off + (cntB l j + 1) ≤ a.lim := by omega
      have r3 : ¬ ((l.length : Int) ≤ (cntB l j : Int)) := by omega
      have r4 : wrapF .i64 ((j : Int)) = j := wrap_i64 _ (by omega) (by omega)
      generalize hQ : Fin _ _ = Q at *
      rw [go_loop]
      simp only [h24, h25, h22, h23, hlt, hj32, hj31, ob, hone, hpj, ho, g1, g2, r1, r2, r3, r4, hat, c1, go_skip, go_label, go_exit, go_goto, go_ret, go_region, go_seq, go_block, go_scope, go_cond, goC_true, goC_false, ret_nil, ret_seq, ret_seq_exit, ret_seq_ret, ret_seq_goto, ret_seq_panic, ret_block, ret_block_exit, ret_block_ret, ret_block_goto, ret_block_panic, ret_loop, ret_loop_exit, ret_loop_ret, ret_loop_goto, ret_loop_panic, ret_scope, ret_scope_exit, ret_scope_ret, ret_scope_panic, ops_nil, ops_guard, ops_call, ops_callVal, goCV_func, goR_val, goR_panic, gx_tt, gx_ff, gx_tf, gx_ft, gx_undef, w0, w1, w2, w3, w4, w5, w6, w7, w8, w9, w10, w11, w12, w13, w14, w15, w16, Nat.reduceAdd, Nat.reduceEqDiff, Nat.reduceLeDiff, Nat.reduceLT, Nat.reduceMul, Nat.add_zero, Nat.add_assoc, Nat.add_left_cancel_iff, Nat.reduceBEq, Int.reduceLT, Int.reduceLE, Int.reduceEq, Int.reduceAdd, Int.reduceSub, Int.cast_ofNat_Int, Int.reduceMul, Int.reduceMod, Int.reduceTMod, Int.reduceTDiv, Int.reduceNeg, Nat.reduceSub, Nat.reduceDiv, Nat.mul_one, Nat.one_mul, Int.lt_irrefl, decide_true, decide_false, reduceIte, reduceCtorEq, Nat.zero_add, Nat.le_refl, Nat.zero_le, and_self, and_true, true_and, List.length_cons, List.length_nil, List.drop_succ_cons, List.drop_zero, List.take_succ_cons, List.take_zero, List.getElem?_cons_succ, List.getElem?_cons_zero, List.cons_append, List.nil_append, List.append_nil, List.all_cons, List.all_nil, Bool.and_true, Nat.left_eq_add, Nat.add_eq_left, Nat.succ_ne_self, Bool.not_true, Bool.not_false, Option.some.injEq, exists_eq_left']
      refine ih (j + 1) _ (by omega) ?_ ?_ ?_ ?_
      all_goals (try simp only [h24, h25, h22, h23, go_skip, go_label, go_exit, go_goto, go_ret, go_region, go_seq, go_block, go_scope, go_cond, goC_true, goC_false, ret_nil, ret_seq, ret_seq_exit, ret_seq_ret, ret_seq_goto, ret_seq_panic, ret_block, ret_block_exit, ret_block_ret, ret_block_goto, ret_block_panic, ret_loop, ret_loop_exit, ret_loop_ret, ret_loop_goto, ret_loop_panic, ret_scope, ret_scope_exit, ret_scope_ret, ret_scope_panic, ops_nil, ops_guard, ops_call, ops_callVal, goCV_func, goR_val, goR_panic, gx_tt, gx_ff, gx_tf, gx_ft, gx_undef, w0, w1, w2, w3, w4, w5, w6, w7, w8, w9, w10, w11, w12, w13, w14, w15, w16, Nat.reduceAdd, Nat.reduceEqDiff, Nat.reduceLeDiff, Nat.reduceLT, Nat.reduceMul, Nat.add_zero, Nat.add_assoc, Nat.add_left_cancel_iff, Nat.reduceBEq, Int.reduceLT, Int.reduceLE, Int.reduceEq, Int.reduceAdd, Int.reduceSub, Int.cast_ofNat_Int, Int.reduceMul, Int.reduceMod, Int.reduceTMod, Int.reduceTDiv, Int.reduceNeg, Nat.reduceSub, Nat.reduceDiv, Nat.mul_one, Nat.one_mul, Int.lt_irrefl, decide_true, decide_false, reduceIte, reduceCtorEq, Nat.zero_add, Nat.le_refl, Nat.zero_le, and_self, and_true, true_and, List.length_cons, List.length_nil, List.drop_succ_cons, List.drop_zero, List.take_succ_cons, List.take_zero, List.getElem?_cons_succ, List.getElem?_cons_zero, List.cons_append, List.nil_append, List.append_nil, List.all_cons, List.all_nil, Bool.and_true, Nat.left_eq_add, Nat.add_eq_left, Nat.succ_ne_self, Bool.not_true, Bool.not_false, Option.some.injEq, exists_eq_left'])
      · rw [c3, wrap_i64 _ (by omega) (by omega)]; rfl
      · rw [wrap_i64 _ (by omega) (by omega)]; rfl
    · have hpj : p j = false := by rw [hp]; exact decide_eq_false hm
      generalize hQ : Fin _ _ = Q at *
      rw [go_loop]
      simp only [h24, h25, h22, h23, hlt, hj32, hj31, ob, hone, hpj, go_skip, go_label, go_exit, go_goto, go_ret, go_region, go_seq, go_block, go_scope, go_cond, goC_true, goC_false, ret_nil, ret_seq, ret_seq_exit, ret_seq_ret, ret_seq_goto, ret_seq_panic, ret_block, ret_block_exit, ret_block_ret, ret_block_goto, ret_block_panic, ret_loop, ret_loop_exit, ret_loop_ret, ret_loop_goto, ret_loop_panic, ret_scope, ret_scope_exit, ret_scope_ret, ret_scope_panic, ops_nil, ops_guard, ops_call, ops_callVal, goCV_func, goR_val, goR_panic, gx_tt, gx_ff, gx_tf, gx_ft, gx_undef, w0, w1, w2, w3, w4, w5, w6, w7, w8, w9, w10, w11, w12, w13, w14, w15, w16, Nat.reduceAdd, Nat.reduceEqDiff, Nat.reduceLeDiff, Nat.reduceLT, Nat.reduceMul, Nat.add_zero, Nat.add_assoc, Nat.add_left_cancel_iff, Nat.reduceBEq, Int.reduceLT, Int.reduceLE, Int.reduceEq, Int.reduceAdd, Int.reduceSub, Int.cast_ofNat_Int, Int.reduceMul, Int.reduceMod, Int.reduceTMod, Int.reduceTDiv, Int.reduceNeg, Nat.reduceSub, Nat.reduceDiv, Nat.mul_one, Nat.one_mul, Int.lt_irrefl, decide_true, decide_false, reduceIte, reduceCtorEq, Nat.zero_add, Nat.le_refl, Nat.zero_le, and_self, and_true, true_and, List.length_cons, List.length_nil, List.drop_succ_cons, List.drop_zero, List.take_succ_cons, List.take_zero, List.getElem?_cons_succ, List.getElem?_cons_zero, List.cons_append, List.nil_append, List.append_nil, List.all_cons, List.all_nil, Bool.and_true, Nat.left_eq_add, Nat.add_eq_left, Nat.succ_ne_self, Bool.not_true, Bool.not_false, Option.some.injEq, exists_eq_left']
      refine ih (j + 1) _ (by omega) ?_ ?_ ?_ ?_
      all_goals (try simp only [h24, h25, h22, h23, go_skip, go_label, go_exit, go_goto, go_ret, go_region, go_seq, go_block, go_scope, go_cond, goC_true, goC_false, ret_nil, ret_seq, ret_seq_exit, ret_seq_ret, ret_seq_goto, ret_seq_panic, ret_block, ret_block_exit, ret_block_ret, ret_block_goto, ret_block_panic, ret_loop, ret_loop_exit, ret_loop_ret, ret_loop_goto, ret_loop_panic, ret_scope, ret_scope_exit, ret_scope_ret, ret_scope_panic, ops_nil, ops_guard, ops_call, ops_callVal, goCV_func, goR_val, goR_panic, gx_tt, gx_ff, gx_tf, gx_ft, gx_undef, w0, w1, w2, w3, w4, w5, w6, w7, w8, w9, w10, w11, w12, w13, w14, w15, w16, Nat.reduceAdd, Nat.reduceEqDiff, Nat.reduceLeDiff, Nat.reduceLT, Nat.reduceMul, Nat.add_zero, Nat.add_assoc, Nat.add_left_cancel_iff, Nat.reduceBEq, Int.reduceLT, Int.reduceLE, Int.reduceEq, Int.reduceAdd, Int.reduceSub, Int.cast_ofNat_Int, Int.reduceMul, Int.reduceMod, Int.reduceTMod, Int.reduceTDiv, Int.reduceNeg, Nat.reduceSub, Nat.reduceDiv, Nat.mul_one, Nat.one_mul, Int.lt_irrefl, decide_true, decide_false, reduceIte, reduceCtorEq, Nat.zero_add, Nat.le_refl, Nat.zero_le, and_self, and_true, true_and, List.length_cons, List.length_nil, List.drop_succ_cons, List.drop_zero, List.take_succ_cons, List.take_zero, List.getElem?_cons_succ, List.getElem?_cons_zero, List.cons_append, List.nil_append, List.append_nil, List.all_cons, List.all_nil, Bool.and_true, Nat.left_eq_add, Nat.add_eq_left, Nat.succ_ne_self, Bool.not_true, Bool.not_false, Option.some.injEq, exists_eq_left'])
      · rw [cnt_no hm]
      · rw [wrap_i64 _ (by omega) (by omega)]; rfl
end
end Go.V
