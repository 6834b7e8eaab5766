/- WATCHES IN WALKS. -/
import Derived.Test.YtlpdekocilhciaaVD
set_option linter.unusedVariables false
set_option linter.unusedSimpArgs false
set_option linter.unusedSectionVars false
/- WATCHES IN WALKS. -/
namespace Go.V
open Go

mutual
theorem AV.beq_refl : ∀ (a : AV), AV.beq a a = true
  | .bool b => by simp [AV.beq]
  | .int k n => by simp [AV.beq]
  | .float k n => by simp [AV.beq]
  | .complex k n m => by simp [AV.beq]
  | .str s => by
    simp only [AV.beq]
    rw [bytesEq_dec]; simp
  | .ptr a => by simp [AV.beq]
  | .nilPtr => by simp [AV.beq]
  | .slice a b c d e => by simp [AV.beq]
  | .nilSlice => by simp [AV.beq]
  | .empty => by simp [AV.beq]
  | .map a => by simp [AV.beq]
  | .nilMap => by simp [AV.beq]
  | .func f l m => by simp [AV.beq, AV.beqs_refl l, AV.beqs_refl m]
  | .nilFunc => by simp [AV.beq]
  | .iface t v => by simp [AV.beq, AV.beq_refl v]
  | .nilIface => by simp [AV.beq]
  | .agg l => by simp [AV.beq, AV.beqs_refl l]
  | .tuple l => by simp [AV.beq, AV.beqs_refl l]
theorem AV.beqs_refl : ∀ (l : List AV), AV.beqs l l = true
  | [] => by simp [AV.beqs]
  | a :: l => by simp [AV.beqs, AV.beq_refl a, AV.beqs_refl l]
end
theorem entsBeq_refl : ∀ (l : List AEntry), entsBeq l l = true
  | [] => rfl
  | a :: l => by simp [entsBeq, AV.beq_refl, entsBeq_refl l]
theorem sameObj_refl (o : AObj) : sameObj (some o) (some o) = true := by
  cases o with
  | cells a b c d => simp [sameObj, AObj.beq, AV.beqs_refl]
  | map l c => simp [sameObj, AObj.beq, entsBeq_refl]

def wat (v : AV) (s s' : St) : Bool := match footId v with
  | some id => sameObj (s.heap.get id) (s'.heap.get id)
  | none => true
theorem watch_nil (e : Env) (s s' : St) : watchOk e s s' [] = true := rfl
theorem watch_cons (e : Env) (s s' : St) (x : Opd) (l : List Opd) : watchOk e s s' (x :: l) = (wat (opd e x) s s' && watchOk e s s' l) := rfl
theorem wat_ptr (a : AAddr) (s s' : St) : wat (.ptr a) s s' = sameObj (s.heap.get a.id) (s'.heap.get a.id) := rfl
theorem wat_slice (a : AAddr) (l c : Nat) (x : Bool) (z : Nat) (s s' : St) : wat (.slice a l c x z) s s' = sameObj (s.heap.get a.id) (s'.heap.get a.id) := rfl
theorem wat_map (r : Nat) (s s' : St) : wat (.map r) s s' = sameObj (s.heap.get r) (s'.heap.get r) := rfl
theorem wat_nilSlice (s s' : St) : wat .nilSlice s s' = true := rfl
theorem wat_empty (s s' : St) : wat .empty s s' = true := rfl
theorem wat_nilMap (s s' : St) : wat .nilMap s s' = true := rfl
theorem wat_str (l : List UInt8) (s s' : St) : wat (.str l) s s' = true := rfl
theorem goR_watch (T : Tab) (Q : Post) (d : Bool) (dst : Option Nat) (x : Opd) (w : List Opd) (v : AV) (s' : St) (l : List IOp) (fs : List Fr) (e : Env) (s : St) : GoR T Q d dst (x :: w) (.val v s') l fs e s ↔ (watchOk e s s' (x :: w) = true ∧ GoOps T Q d l fs (putV e dst v) s') := Iff.rfl
theorem wz0 : type_of% @sameObj_refl ∧ type_of% @watch_nil ∧ type_of% @watch_cons ∧ type_of% @wat_ptr ∧ type_of% @wat_slice ∧ type_of% @wat_map ∧ type_of% @wat_nilSlice ∧ type_of% @wat_empty ∧ type_of% @wat_nilMap ∧ type_of% @wat_str ∧ type_of% @goR_watch :=
  ⟨@sameObj_refl, @watch_nil, @watch_cons, @wat_ptr, @wat_slice, @wat_map, @wat_nilSlice, @wat_empty, @wat_nilMap, @wat_str, @goR_watch⟩
end Go.V
