/- internal/bytealg.IndexByteString. -/
import Derived.Test.YteepeacefpkmbaaGreatDoorV63
set_option linter.unusedVariables false
set_option linter.unusedSimpArgs false
set_option linter.unusedSectionVars false
/- internal/bytealg.IndexByteString. -/
namespace Go.V
open Go Go.RowKit

theorem find_indexOf (L : ByteArray) (c : UInt8) : ∀ (l : List UInt8) (k : Nat), (∀ j x, l[j]? = some x → L[k + j]! = x) →
    (match (List.range' k l.length).find? fun i => L[i]! == c with | some i => (Int.ofNat i) | none => -1) = indexOf c.toNat l k
  | [], k, _ => rfl
  | b :: l, k, h => by
    have h0 : L[k]! = b := by simpa using h 0 b (by simp)
    have ih := find_indexOf L c l (k + 1) fun j x hj => by
      have := h (j + 1) x (by simpa using hj)
      rwa [show k + 1 + j = k + (j + 1) by omega]
    simp only [List.length_cons, List.range'_succ, List.find?_cons, h0, indexOf]
    cases hb : Nat.beq b.toNat c.toNat with
    | true =>
      have : b = c := UInt8.toNat_inj.1 (by simpa using hb)
      subst this
      simp
    | false =>
      have hne : (b == c) = false := by
        cases he : b == c with
        | false => rfl
        | true => 
          have : b = c := by simpa using he
          subst this
          rw [Nat.beq_refl] at hb
          cases hb
      rw [hne]
      exact ih

theorem ext_indexByte {P : Prog} : ExtRun P .indexByte Extern.BytealgIndexByte.indexByte := by
  refine pure_run fun args s r hr hne => ?_
  unfold extV at hr
  split at hr <;> first | cases ‹ExtK.indexByte = _› | skip
  · rename_i l c
    obtain ⟨v, h1, rfl⟩ := ofOpt_ne hr hne
    refine ⟨v, rfl, fun φ cargs ha => ?_⟩
    unfold idxByte at h1
    cases hb : Nat.blt c 256 with
    | false => rw [hb] at h1; cases h1
    | true =>
      rw [hb] at h1
      cases h1
      have hc : c < 256 := by simpa using hb
      cases ha with
      | cons a b =>
        cases b with
        | cons b d =>
          cases d
          obtain ⟨sb, rfl, rfl⟩ := str_inv a
          cases b
          have key := find_indexOf sb (UInt8.ofNat c) sb.data.toList 0 fun j x hj => by
            have hj' : sb.data[j]? = some x := by simpa using hj
            have hlt : j < sb.data.size := (Array.getElem?_eq_some_iff.1 hj').1
            show sb[0 + j]! = x
            rw [Nat.zero_add]
            have hs : j < sb.size := hlt
            rw [getElem!_pos sb j hs]
            have : sb.data[j] = x := (Array.getElem?_eq_some_iff.1 hj').2
            exact this
          have hcn : (UInt8.ofNat c).toNat = c := by simp [UInt8.toNat_ofNat']; omega
          rw [hcn, ← List.range_eq_range'] at key
          have hsz : sb.data.toList.length = sb.size := Array.length_toList
          rw [hsz] at key
          refine ⟨_, fun w => ?_, by rw [mkInt_eq]; exact .int _ _⟩
          rw [← key]
          have e : Extern.BytealgIndexByte.indexByte [Value.string sb, Value.int .u8 (Int.ofNat c)].toArray = (match (List.range sb.size).find? (fun i => sb[i]! == UInt8.ofNat c) with
            | some i => pure (goInt i)
            | none => pure (goInt (-1))) := rfl
          rw [e]
          cases hf : (List.range sb.size).find? (fun i => sb[i]! == UInt8.ofNat c) <;> rfl
  · exact absurd hr.symm hne
end Go.V
