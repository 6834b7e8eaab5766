/- THE RULES OF THE WALK, in one row. -/
import Derived.Test.YtlpdekocilhciaaV44
set_option linter.unusedVariables false
set_option linter.unusedSimpArgs false
set_option linter.unusedSectionVars false
/- THE RULES OF THE WALK, in one row. -/
namespace Go.V
open Go
theorem wk1 : type_of% @Nat.add_zero ∧ type_of% @Nat.add_assoc ∧ type_of% @Nat.add_left_cancel_iff ∧ type_of% @Int.cast_ofNat_Int ∧ type_of% @Nat.mul_one ∧ type_of% @Nat.one_mul ∧ type_of% @Int.lt_irrefl ∧ type_of% @Nat.zero_add ∧ type_of% @Nat.le_refl ∧ type_of% @Nat.zero_le ∧ type_of% @and_self ∧ type_of% @and_true ∧ type_of% @true_and ∧ type_of% @Bool.and_true ∧ type_of% @Nat.left_eq_add ∧ type_of% @Nat.add_eq_left ∧ type_of% @Nat.succ_ne_self ∧ type_of% @Bool.not_true ∧ type_of% @Bool.not_false :=
  ⟨@Nat.add_zero, @Nat.add_assoc, @Nat.add_left_cancel_iff, @Int.cast_ofNat_Int, @Nat.mul_one, @Nat.one_mul, @Int.lt_irrefl, @Nat.zero_add, @Nat.le_refl, @Nat.zero_le, @and_self, @and_true, @true_and, @Bool.and_true, @Nat.left_eq_add, @Nat.add_eq_left, @Nat.succ_ne_self, @Bool.not_true, @Bool.not_false⟩
theorem wk2 : type_of% @List.length_cons.{0} ∧ type_of% @List.length_nil.{0} ∧ type_of% @List.drop_succ_cons.{0} ∧ type_of% @List.drop_zero.{0} ∧ type_of% @List.take_succ_cons.{0} ∧ type_of% @List.take_zero.{0} ∧ type_of% @List.getElem?_cons_succ.{0} ∧ type_of% @List.getElem?_cons_zero.{0} ∧ type_of% @List.cons_append.{0} ∧ type_of% @List.nil_append.{0} ∧ type_of% @List.append_nil.{0} ∧ type_of% @List.all_cons.{0} ∧ type_of% @List.all_nil.{0} :=
  ⟨@List.length_cons.{0}, @List.length_nil.{0}, @List.drop_succ_cons.{0}, @List.drop_zero.{0}, @List.take_succ_cons.{0}, @List.take_zero.{0}, @List.getElem?_cons_succ.{0}, @List.getElem?_cons_zero.{0}, @List.cons_append.{0}, @List.nil_append.{0}, @List.append_nil.{0}, @List.all_cons.{0}, @List.all_nil.{0}⟩
theorem wk : type_of% @w0 ∧ type_of% @w1 ∧ type_of% @w2 ∧ type_of% @w3 ∧ type_of% @w4 ∧ type_of% @w5 ∧ type_of% @w6 ∧ type_of% @w7 ∧ type_of% @w8 ∧ type_of% @w9 ∧ type_of% @w10 ∧ type_of% @w11 ∧ type_of% @w12 ∧ type_of% @w13 ∧ type_of% @w14 ∧ type_of% @w15 ∧ type_of% @w16 :=
  ⟨@w0, @w1, @w2, @w3, @w4, @w5, @w6, @w7, @w8, @w9, @w10, @w11, @w12, @w13, @w14, @w15, @w16⟩
end Go.V
