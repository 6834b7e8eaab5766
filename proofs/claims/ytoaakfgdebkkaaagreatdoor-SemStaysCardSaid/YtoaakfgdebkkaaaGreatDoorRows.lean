/-
  NARROWER THAN 'FOR EVERY INPUT', by the rows' own cells (each row's printed sentence says how): SemStays: laid · SemDoes: laid.
  DERIVED. THE GIVEN ROWS OF THIS SEAT. 2 by the template 'for every input the law returns true; each argument reads behind the call as it read before'; 0 by the template 'total and deterministic' (their statements: YtoaakfgdebkkaaaGreatDoorTotals.lean).
  GIVEN WITH THE SEED: the statements are not yours to turn. If you find one false, say at which input.
  Laid BY PROGRAM, IN A SANDBOX (cutbox-rows.mjs): the forced cells as the released guide's own fill.sh prints them over the translation 2c833b03215417e8… (all of the seat's roots in one cut). By AI agents, Wed Nov 11 2026. No macro, syntax, notation, axiom, sorry.
-/
import Derived.Test.YtoaakfgdebkkaaaGreatDoorChecked
import GoSem.Claim
import GoSem.ClaimJoined
import GoSem.ClaimMapViews
import Derived.JoinedTies
import Derived.KernelRfl
namespace Go.Proofs.YtoaakfgdebkkaaaGreatDoor
/- THE CELL 'sum', in the pinned program and in every row, IS THE sha256 OF THE DUMP (.gsa) THAT YtoaakfgdebkkaaaGreatDoorProg.lean LOADS. Nothing in Lean hashes anything: it is a label: what it is worth is what the hold of that sum in a sandbox is worth. -/
noncomputable def Tryz.pinned : Pinned := { name := "ytoaakfgdebkkaaagreatdoor", sum := "2c833b03215417e84762087723b7743b9e5f1df24843ecbf8f17433cb5368fb8", checked := Tryz.checked }
namespace Rows
def none {H : Type} : Left H := { results := [], args := [] }

/- WHAT THE LISTED PACKAGE-LEVEL VARIABLES READ AS WHEN THE CALL BEGINS. Each datum BY PROGRAM (the guide's laid-datum.mjs) off the statement by which the dump's own 'gosem.cut.vars' lays the variable. In a bare row this is a premise. The card (YtoaakfgdebkkaaaGreatDoorCards.lean) ties it to the program's text. -/
def laid_coxless_bits_ends {H : Type} : DataW H := .agg [.agg [.lit (.int .i64 0), .lit (.int .i64 14)], .agg [.lit (.int .i64 16), .lit (.int .i64 10)]]
def laid_coxless_bits_parseAt {H : Type} : DataW H := .agg [.lit (.int .i64 14), .lit (.int .i64 2)]
def laid_coxless_bits_upper {H : Type} : DataW H := .agg [.lit (.int .i64 16), .lit (.int .i64 16)]
def laid_coxless_sub_rows {H : Type} : DataW H := .slice [.agg [.lit (.int .u8 8), .agg [.agg [.lit (.int .i64 1), .lit (.int .i64 4), .lit (.int .i64 0)], .agg [.lit (.int .i64 5), .lit (.int .i64 7), .lit (.int .i64 0)], .agg [.lit (.int .i64 0), .lit (.int .i64 0), .lit (.int .i64 0)]]], .agg [.lit (.int .u8 7), .agg [.agg [.lit (.int .i64 4), .lit (.int .i64 4), .lit (.int .i64 0)], .agg [.lit (.int .i64 6), .lit (.int .i64 7), .lit (.int .i64 0)], .agg [.lit (.int .i64 0), .lit (.int .i64 0), .lit (.int .i64 0)]]], .agg [.lit (.int .u8 9), .agg [.agg [.lit (.int .i64 1), .lit (.int .i64 4), .lit (.int .i64 0)], .agg [.lit (.int .i64 2), .lit (.int .i64 4), .lit (.int .i64 0)], .agg [.lit (.int .i64 0), .lit (.int .i64 0), .lit (.int .i64 0)]]], .agg [.lit (.int .u8 2), .agg [.agg [.lit (.int .i64 4), .lit (.int .i64 4), .lit (.int .i64 0)], .agg [.lit (.int .i64 3), .lit (.int .i64 4), .lit (.int .i64 0)], .agg [.lit (.int .i64 0), .lit (.int .i64 0), .lit (.int .i64 0)]]], .agg [.lit (.int .u8 21), .agg [.agg [.lit (.int .i64 1), .lit (.int .i64 4), .lit (.int .i64 0)], .agg [.lit (.int .i64 2), .lit (.int .i64 4), .lit (.int .i64 0)], .agg [.lit (.int .i64 5), .lit (.int .i64 3), .lit (.int .i64 2)]]], .agg [.lit (.int .u8 24), .agg [.agg [.lit (.int .i64 2), .lit (.int .i64 4), .lit (.int .i64 0)], .agg [.lit (.int .i64 3), .lit (.int .i64 4), .lit (.int .i64 0)], .agg [.lit (.int .i64 5), .lit (.int .i64 3), .lit (.int .i64 2)]]], .agg [.lit (.int .u8 23), .agg [.agg [.lit (.int .i64 1), .lit (.int .i64 4), .lit (.int .i64 0)], .agg [.lit (.int .i64 2), .lit (.int .i64 4), .lit (.int .i64 0)], .agg [.lit (.int .i64 5), .lit (.int .i64 3), .lit (.int .i64 0)]]], .agg [.lit (.int .u8 26), .agg [.agg [.lit (.int .i64 2), .lit (.int .i64 4), .lit (.int .i64 0)], .agg [.lit (.int .i64 3), .lit (.int .i64 4), .lit (.int .i64 0)], .agg [.lit (.int .i64 5), .lit (.int .i64 3), .lit (.int .i64 0)]]], .agg [.lit (.int .u8 13), .agg [.agg [.lit (.int .i64 2), .lit (.int .i64 4), .lit (.int .i64 0)], .agg [.lit (.int .i64 5), .lit (.int .i64 7), .lit (.int .i64 0)], .agg [.lit (.int .i64 0), .lit (.int .i64 0), .lit (.int .i64 0)]]]] []

/-- 'coxlesslaw25.SemStays': WHATEVER THE INPUT: true; the input reads as it did. -/
def semStaysSpec : ChangeSpec := { name := "semStays", fn := fun _ => fun
  | [d1, d2, d3, d4] => { results := [.lit (.bool true)], args := [d1, d2, d3, d4] }
  | _ => none }
def semStaysRow : OpenClaim := { program := "ytoaakfgdebkkaaagreatdoor", sum := "2c833b03215417e84762087723b7743b9e5f1df24843ecbf8f17433cb5368fb8", func := "coxless/coxlesslaw25.SemStays", spec := "semStays", inPlace := ["math.archFloor", "math.Float64bits", "math.Float64frombits", "math.archTrunc", "math.archMin", "math.archMax"], unfollowed := true, recurses := true, named := ["coxless/sub.rows", "coxless/bits.ends", "coxless/bits.upper", "coxless/bits.parseAt"], apart := false, laid := [("coxless/bits.ends", laid_coxless_bits_ends), ("coxless/bits.parseAt", laid_coxless_bits_parseAt), ("coxless/bits.upper", laid_coxless_bits_upper), ("coxless/sub.rows", laid_coxless_sub_rows)] }
def SemStaysSaid : Prop := semStaysRow.holds Tryz.pinned (OpenSpec.ofChange semStaysSpec)

/-- ITS FALSE NEIGHBOUR: 'it returns false'. Refute it at one input. -/
def semStaysWrong : ChangeSpec := { name := "semStays", fn := fun _ => fun
  | [d1, d2, d3, d4] => { results := [.lit (.bool false)], args := [d1, d2, d3, d4] }
  | _ => none }
def SemStaysWrongFalsely : Prop := semStaysRow.holds Tryz.pinned (OpenSpec.ofChange semStaysWrong)

/-- 'coxlesslaw25.SemDoes': WHATEVER THE INPUT: true; the input reads as it did. -/
def semDoesSpec : ChangeSpec := { name := "semDoes", fn := fun _ => fun
  | [d1, d2, d3, d4] => { results := [.lit (.bool true)], args := [d1, d2, d3, d4] }
  | _ => none }
def semDoesRow : OpenClaim := { program := "ytoaakfgdebkkaaagreatdoor", sum := "2c833b03215417e84762087723b7743b9e5f1df24843ecbf8f17433cb5368fb8", func := "coxless/coxlesslaw25.SemDoes", spec := "semDoes", inPlace := ["math.archFloor", "math.Float64bits", "math.Float64frombits", "math.archTrunc", "math.archMin", "math.archMax", "maps.clone"], unfollowed := true, recurses := true, named := ["coxless/sub.rows", "coxless/bits.ends", "coxless/bits.upper", "coxless/bits.parseAt"], apart := false, laid := [("coxless/bits.ends", laid_coxless_bits_ends), ("coxless/bits.parseAt", laid_coxless_bits_parseAt), ("coxless/bits.upper", laid_coxless_bits_upper), ("coxless/sub.rows", laid_coxless_sub_rows)] }
def SemDoesSaid : Prop := semDoesRow.holds Tryz.pinned (OpenSpec.ofChange semDoesSpec)

/-- ITS FALSE NEIGHBOUR: 'it returns false'. Refute it at one input. -/
def semDoesWrong : ChangeSpec := { name := "semDoes", fn := fun _ => fun
  | [d1, d2, d3, d4] => { results := [.lit (.bool false)], args := [d1, d2, d3, d4] }
  | _ => none }
def SemDoesWrongFalsely : Prop := semDoesRow.holds Tryz.pinned (OpenSpec.ofChange semDoesWrong)

/- THE SECOND FORM. 'bulk': how many values and letters a reading holds, each counted each time it is reached (what is shared counts as often as it is met; a slice's spare places count too). A statement '..UptoSaid' is the law's where the arguments, and the package variables that the reading takes, are together of bulk at most 1048576: NARROWER than '..Said'. Prove '..Said' where nothing that the law and all that it calls make is longer than what came in: it says more and counts as full. Else prove '..UptoSaid'. A law counts once. -/
mutual
def uptoBulk {H : Type} : DataW H → Nat
  | .lit (.string bytes) => bytes.length + 1
  | .lit _ => 1
  | .nil => 1
  | .ptr d => uptoBulk d + 1
  | .slice elems spare => uptoBulkAll elems + uptoBulkAll spare + 1
  | .agg parts => uptoBulkAll parts + 1
  | .iface _ d => uptoBulk d + 1
  | .map entries => uptoBulkEntries entries + 1
  | .held _ => 1
def uptoBulkAll {H : Type} : List (DataW H) → Nat
  | [] => 0
  | d :: r => uptoBulk d + uptoBulkAll r
def uptoBulkEntries {H : Type} : List (Lit × DataW H) → Nat
  | [] => 0
  | x :: r => uptoBulkEntry x + uptoBulkEntries r
def uptoBulkEntry {H : Type} : Lit × DataW H → Nat
  | (.string bytes, d) => bytes.length + uptoBulk d + 1
  | (_, d) => uptoBulk d + 1
 end
def uptoSmall : (H : Type) → List (DataW H) → Bool := fun _ ds => decide (uptoBulkAll ds ≤ 1048576)
def OpenSpec.upto (s : _root_.Go.ChangeSpec) : _root_.Go.OpenSpec := { _root_.Go.OpenSpec.ofChange s with cond := some uptoSmall }

/-- 'coxlesslaw25.SemStays', WHERE WHAT IT READS IS OF BULK AT MOST 1048576: true; the input reads as it did. -/
def semStaysUptoRow : OpenClaim := { program := "ytoaakfgdebkkaaagreatdoor", sum := "2c833b03215417e84762087723b7743b9e5f1df24843ecbf8f17433cb5368fb8", func := "coxless/coxlesslaw25.SemStays", spec := "semStays", inPlace := ["math.archFloor", "math.Float64bits", "math.Float64frombits", "math.archTrunc", "math.archMin", "math.archMax"], unfollowed := true, recurses := true, named := ["coxless/sub.rows", "coxless/bits.ends", "coxless/bits.upper", "coxless/bits.parseAt"], apart := false, laid := [("coxless/bits.ends", laid_coxless_bits_ends), ("coxless/bits.parseAt", laid_coxless_bits_parseAt), ("coxless/bits.upper", laid_coxless_bits_upper), ("coxless/sub.rows", laid_coxless_sub_rows)], narrowed := true }
def SemStaysUptoSaid : Prop := semStaysUptoRow.holds Tryz.pinned (OpenSpec.upto semStaysSpec)

/-- 'coxlesslaw25.SemDoes', WHERE WHAT IT READS IS OF BULK AT MOST 1048576: true; the input reads as it did. -/
def semDoesUptoRow : OpenClaim := { program := "ytoaakfgdebkkaaagreatdoor", sum := "2c833b03215417e84762087723b7743b9e5f1df24843ecbf8f17433cb5368fb8", func := "coxless/coxlesslaw25.SemDoes", spec := "semDoes", inPlace := ["math.archFloor", "math.Float64bits", "math.Float64frombits", "math.archTrunc", "math.archMin", "math.archMax", "maps.clone"], unfollowed := true, recurses := true, named := ["coxless/sub.rows", "coxless/bits.ends", "coxless/bits.upper", "coxless/bits.parseAt"], apart := false, laid := [("coxless/bits.ends", laid_coxless_bits_ends), ("coxless/bits.parseAt", laid_coxless_bits_parseAt), ("coxless/bits.upper", laid_coxless_bits_upper), ("coxless/sub.rows", laid_coxless_sub_rows)], narrowed := true }
def SemDoesUptoSaid : Prop := semDoesUptoRow.holds Tryz.pinned (OpenSpec.upto semDoesSpec)

end Rows
end Go.Proofs.YtoaakfgdebkkaaaGreatDoor
