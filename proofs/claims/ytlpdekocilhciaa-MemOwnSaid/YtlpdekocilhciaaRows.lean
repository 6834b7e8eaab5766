/-
  No cell of these rows narrows 'for every input' (looked for: loops, veiled, ifaces, maps, wideKeys, modest, calm, conditions, laid).
  DERIVED. THE GIVEN ROWS OF THIS SEAT. 9 by the template 'for every input the law returns true; each argument reads behind the call as it read before'; 0 by the template 'total and deterministic' (their statements: YtlpdekocilhciaaTotals.lean).
  GIVEN WITH THE SEED: the statements are not yours to turn. If you find one false, say at which input.
  Laid BY PROGRAM, IN A SANDBOX (cutbox-rows.mjs): the forced cells as the released guide's own fill.sh prints them over the translation bd182f0afb20a586… (all of the seat's roots in one cut). By AI agents, Wed Nov 11 2026. No macro, syntax, notation, axiom, sorry.
-/
import Derived.Test.YtlpdekocilhciaaChecked
import GoSem.Claim
import GoSem.ClaimJoined
import GoSem.ClaimMapViews
import Derived.JoinedTies
import Derived.KernelRfl
namespace Go.Proofs.Ytlpdekocilhciaa
/- THE CELL 'sum', in the pinned program and in every row, IS THE sha256 OF THE DUMP (.gsa) THAT YtlpdekocilhciaaProg.lean LOADS. Nothing in Lean hashes anything: it is a label: what it is worth is what the hold of that sum in a sandbox is worth. -/
noncomputable def Try.pinned : Pinned := { name := "ytlpdekocilhciaa", sum := "bd182f0afb20a5863d46a5024a3cea74504bab132ef87f05969e21a109176958", checked := Try.checked }
namespace Rows
def none {H : Type} : Left H := { results := [], args := [] }

/-- 'coxlesslaw25.SemKnown': WHATEVER THE INPUT: true; the input reads as it did. -/
def semKnownSpec : ChangeSpec := { name := "semKnown", fn := fun _ => fun
  | [] => { results := [.lit (.bool true)], args := [] }
  | _ => none }
def semKnownRow : OpenClaim := { program := "ytlpdekocilhciaa", sum := "bd182f0afb20a5863d46a5024a3cea74504bab132ef87f05969e21a109176958", func := "coxless/coxlesslaw25.SemKnown", spec := "semKnown", inPlace := ["math.archFloor", "math.Float64bits", "math.Float64frombits", "math.archTrunc", "math.archMin", "math.archMax"], unfollowed := true, recurses := true, apart := false }
def SemKnownSaid : Prop := semKnownRow.holds Try.pinned (OpenSpec.ofChange semKnownSpec)

/-- ITS FALSE NEIGHBOUR: 'it returns false'. Refute it at one input. -/
def semKnownWrong : ChangeSpec := { name := "semKnown", fn := fun _ => fun
  | [] => { results := [.lit (.bool false)], args := [] }
  | _ => none }
def SemKnownWrongFalsely : Prop := semKnownRow.holds Try.pinned (OpenSpec.ofChange semKnownWrong)

/-- 'coxlesslaw24.MemPlays': WHATEVER THE INPUT: true; the input reads as it did. -/
def memPlaysSpec : ChangeSpec := { name := "memPlays", fn := fun _ => fun
  | [d] => { results := [.lit (.bool true)], args := [d] }
  | _ => none }
def memPlaysRow : OpenClaim := { program := "ytlpdekocilhciaa", sum := "bd182f0afb20a5863d46a5024a3cea74504bab132ef87f05969e21a109176958", func := "coxless/coxlesslaw24.MemPlays", spec := "memPlays", unfollowed := true, recurses := true, apart := false }
def MemPlaysSaid : Prop := memPlaysRow.holds Try.pinned (OpenSpec.ofChange memPlaysSpec)

/-- ITS FALSE NEIGHBOUR: 'it returns false'. Refute it at one input. -/
def memPlaysWrong : ChangeSpec := { name := "memPlays", fn := fun _ => fun
  | [d] => { results := [.lit (.bool false)], args := [d] }
  | _ => none }
def MemPlaysWrongFalsely : Prop := memPlaysRow.holds Try.pinned (OpenSpec.ofChange memPlaysWrong)

/-- 'coxlesslaw24.MemKnown': WHATEVER THE INPUT: true; the input reads as it did. -/
def memKnownSpec : ChangeSpec := { name := "memKnown", fn := fun _ => fun
  | [] => { results := [.lit (.bool true)], args := [] }
  | _ => none }
def memKnownRow : OpenClaim := { program := "ytlpdekocilhciaa", sum := "bd182f0afb20a5863d46a5024a3cea74504bab132ef87f05969e21a109176958", func := "coxless/coxlesslaw24.MemKnown", spec := "memKnown", inPlace := ["maps.clone"], unfollowed := true, recurses := true, apart := false }
def MemKnownSaid : Prop := memKnownRow.holds Try.pinned (OpenSpec.ofChange memKnownSpec)

/-- ITS FALSE NEIGHBOUR: 'it returns false'. Refute it at one input. -/
def memKnownWrong : ChangeSpec := { name := "memKnown", fn := fun _ => fun
  | [] => { results := [.lit (.bool false)], args := [] }
  | _ => none }
def MemKnownWrongFalsely : Prop := memKnownRow.holds Try.pinned (OpenSpec.ofChange memKnownWrong)

/-- 'coxlesslaw24.MemOwn': WHATEVER THE INPUT: true; the input reads as it did. -/
def memOwnSpec : ChangeSpec := { name := "memOwn", fn := fun _ => fun
  | [d1, d2] => { results := [.lit (.bool true)], args := [d1, d2] }
  | _ => none }
def memOwnRow : OpenClaim := { program := "ytlpdekocilhciaa", sum := "bd182f0afb20a5863d46a5024a3cea74504bab132ef87f05969e21a109176958", func := "coxless/coxlesslaw24.MemOwn", spec := "memOwn", inPlace := ["maps.clone"], unfollowed := true, recurses := true, apart := false }
def MemOwnSaid : Prop := memOwnRow.holds Try.pinned (OpenSpec.ofChange memOwnSpec)

/-- ITS FALSE NEIGHBOUR: 'it returns false'. Refute it at one input. -/
def memOwnWrong : ChangeSpec := { name := "memOwn", fn := fun _ => fun
  | [d1, d2] => { results := [.lit (.bool false)], args := [d1, d2] }
  | _ => none }
def MemOwnWrongFalsely : Prop := memOwnRow.holds Try.pinned (OpenSpec.ofChange memOwnWrong)

/-- 'coxlesslaw24.MemStays': WHATEVER THE INPUT: true; the input reads as it did. -/
def memStaysSpec : ChangeSpec := { name := "memStays", fn := fun _ => fun
  | [d1, d2, d3, d4, d5] => { results := [.lit (.bool true)], args := [d1, d2, d3, d4, d5] }
  | _ => none }
def memStaysRow : OpenClaim := { program := "ytlpdekocilhciaa", sum := "bd182f0afb20a5863d46a5024a3cea74504bab132ef87f05969e21a109176958", func := "coxless/coxlesslaw24.MemStays", spec := "memStays", inPlace := ["maps.clone"], unfollowed := true, recurses := true, apart := false }
def MemStaysSaid : Prop := memStaysRow.holds Try.pinned (OpenSpec.ofChange memStaysSpec)

/-- ITS FALSE NEIGHBOUR: 'it returns false'. Refute it at one input. -/
def memStaysWrong : ChangeSpec := { name := "memStays", fn := fun _ => fun
  | [d1, d2, d3, d4, d5] => { results := [.lit (.bool false)], args := [d1, d2, d3, d4, d5] }
  | _ => none }
def MemStaysWrongFalsely : Prop := memStaysRow.holds Try.pinned (OpenSpec.ofChange memStaysWrong)

/-- 'coxlesslaw04.InstTurned': WHATEVER THE INPUT: true; the input reads as it did. -/
def instTurnedSpec : ChangeSpec := { name := "instTurned", fn := fun _ => fun
  | [d1, d2] => { results := [.lit (.bool true)], args := [d1, d2] }
  | _ => none }
def instTurnedRow : OpenClaim := { program := "ytlpdekocilhciaa", sum := "bd182f0afb20a5863d46a5024a3cea74504bab132ef87f05969e21a109176958", func := "coxless/coxlesslaw04.InstTurned", spec := "instTurned", recurses := true, apart := false }
def InstTurnedSaid : Prop := instTurnedRow.holds Try.pinned (OpenSpec.ofChange instTurnedSpec)

/-- ITS FALSE NEIGHBOUR: 'it returns false'. Refute it at one input. -/
def instTurnedWrong : ChangeSpec := { name := "instTurned", fn := fun _ => fun
  | [d1, d2] => { results := [.lit (.bool false)], args := [d1, d2] }
  | _ => none }
def InstTurnedWrongFalsely : Prop := instTurnedRow.holds Try.pinned (OpenSpec.ofChange instTurnedWrong)

/-- 'coxlesslaw04.InstKnown': WHATEVER THE INPUT: true; the input reads as it did. -/
def instKnownSpec : ChangeSpec := { name := "instKnown", fn := fun _ => fun
  | [] => { results := [.lit (.bool true)], args := [] }
  | _ => none }
def instKnownRow : OpenClaim := { program := "ytlpdekocilhciaa", sum := "bd182f0afb20a5863d46a5024a3cea74504bab132ef87f05969e21a109176958", func := "coxless/coxlesslaw04.InstKnown", spec := "instKnown", recurses := true, apart := false }
def InstKnownSaid : Prop := instKnownRow.holds Try.pinned (OpenSpec.ofChange instKnownSpec)

/-- ITS FALSE NEIGHBOUR: 'it returns false'. Refute it at one input. -/
def instKnownWrong : ChangeSpec := { name := "instKnown", fn := fun _ => fun
  | [] => { results := [.lit (.bool false)], args := [] }
  | _ => none }
def InstKnownWrongFalsely : Prop := instKnownRow.holds Try.pinned (OpenSpec.ofChange instKnownWrong)

/-- 'coxlesslaw04.InstTells': WHATEVER THE INPUT: true; the input reads as it did. -/
def instTellsSpec : ChangeSpec := { name := "instTells", fn := fun _ => fun
  | [d] => { results := [.lit (.bool true)], args := [d] }
  | _ => none }
def instTellsRow : OpenClaim := { program := "ytlpdekocilhciaa", sum := "bd182f0afb20a5863d46a5024a3cea74504bab132ef87f05969e21a109176958", func := "coxless/coxlesslaw04.InstTells", spec := "instTells", recurses := true, apart := false }
def InstTellsSaid : Prop := instTellsRow.holds Try.pinned (OpenSpec.ofChange instTellsSpec)

/-- ITS FALSE NEIGHBOUR: 'it returns false'. Refute it at one input. -/
def instTellsWrong : ChangeSpec := { name := "instTells", fn := fun _ => fun
  | [d] => { results := [.lit (.bool false)], args := [d] }
  | _ => none }
def InstTellsWrongFalsely : Prop := instTellsRow.holds Try.pinned (OpenSpec.ofChange instTellsWrong)

/-- 'coxlesslaw04.InstOne': WHATEVER THE INPUT: true; the input reads as it did. -/
def instOneSpec : ChangeSpec := { name := "instOne", fn := fun _ => fun
  | [d] => { results := [.lit (.bool true)], args := [d] }
  | _ => none }
def instOneRow : OpenClaim := { program := "ytlpdekocilhciaa", sum := "bd182f0afb20a5863d46a5024a3cea74504bab132ef87f05969e21a109176958", func := "coxless/coxlesslaw04.InstOne", spec := "instOne", recurses := true, apart := false }
def InstOneSaid : Prop := instOneRow.holds Try.pinned (OpenSpec.ofChange instOneSpec)

/-- ITS FALSE NEIGHBOUR: 'it returns false'. Refute it at one input. -/
def instOneWrong : ChangeSpec := { name := "instOne", fn := fun _ => fun
  | [d] => { results := [.lit (.bool false)], args := [d] }
  | _ => none }
def InstOneWrongFalsely : Prop := instOneRow.holds Try.pinned (OpenSpec.ofChange instOneWrong)

/- THE SECOND FORM. 'bulk': how many values and letters a reading holds, each counted each time it is reached (what is shared counts as often as it is met; a slice's spare places count too). A statement '..UptoSaid' is the law's where the arguments, and the package variables that the reading takes, are together of bulk at most 1048576: NARROWER than '..Said'. Prove '..Said' where nothing that the law and all that it calls make is longer than what came in: it says more and counts as full. Else prove '..UptoSaid'. A law counts once. -/
mutual
def uptoBulk {H : Type} : DataW H → Nat
  | .lit (.string bytes) => bytes.length + 1
  | .lit _ => 1
  | .nil => 1
  | .ptr d => uptoBulk d + 1
  | .slice elems spare => uptoBulkAll elems + uptoBulkAll spare + 1
  | .agg parts => uptoBulkAll parts + 1
  | .iface _ d => uptoBulk d + 1
  | .map entries => uptoBulkEntries entries + 1
  | .held _ => 1
def uptoBulkAll {H : Type} : List (DataW H) → Nat
  | [] => 0
  | d :: r => uptoBulk d + uptoBulkAll r
def uptoBulkEntries {H : Type} : List (Lit × DataW H) → Nat
  | [] => 0
  | x :: r => uptoBulkEntry x + uptoBulkEntries r
def uptoBulkEntry {H : Type} : Lit × DataW H → Nat
  | (.string bytes, d) => bytes.length + uptoBulk d + 1
  | (_, d) => uptoBulk d + 1
 end
def uptoSmall : (H : Type) → List (DataW H) → Bool := fun _ ds => decide (uptoBulkAll ds ≤ 1048576)
def OpenSpec.upto (s : _root_.Go.ChangeSpec) : _root_.Go.OpenSpec := { _root_.Go.OpenSpec.ofChange s with cond := some uptoSmall }

/-- 'coxlesslaw25.SemKnown', WHERE WHAT IT READS IS OF BULK AT MOST 1048576: true; the input reads as it did. -/
def semKnownUptoRow : OpenClaim := { program := "ytlpdekocilhciaa", sum := "bd182f0afb20a5863d46a5024a3cea74504bab132ef87f05969e21a109176958", func := "coxless/coxlesslaw25.SemKnown", spec := "semKnown", inPlace := ["math.archFloor", "math.Float64bits", "math.Float64frombits", "math.archTrunc", "math.archMin", "math.archMax"], unfollowed := true, recurses := true, apart := false, narrowed := true }
def SemKnownUptoSaid : Prop := semKnownUptoRow.holds Try.pinned (OpenSpec.upto semKnownSpec)

/-- 'coxlesslaw24.MemPlays', WHERE WHAT IT READS IS OF BULK AT MOST 1048576: true; the input reads as it did. -/
def memPlaysUptoRow : OpenClaim := { program := "ytlpdekocilhciaa", sum := "bd182f0afb20a5863d46a5024a3cea74504bab132ef87f05969e21a109176958", func := "coxless/coxlesslaw24.MemPlays", spec := "memPlays", unfollowed := true, recurses := true, apart := false, narrowed := true }
def MemPlaysUptoSaid : Prop := memPlaysUptoRow.holds Try.pinned (OpenSpec.upto memPlaysSpec)

/-- 'coxlesslaw24.MemKnown', WHERE WHAT IT READS IS OF BULK AT MOST 1048576: true; the input reads as it did. -/
def memKnownUptoRow : OpenClaim := { program := "ytlpdekocilhciaa", sum := "bd182f0afb20a5863d46a5024a3cea74504bab132ef87f05969e21a109176958", func := "coxless/coxlesslaw24.MemKnown", spec := "memKnown", inPlace := ["maps.clone"], unfollowed := true, recurses := true, apart := false, narrowed := true }
def MemKnownUptoSaid : Prop := memKnownUptoRow.holds Try.pinned (OpenSpec.upto memKnownSpec)

/-- 'coxlesslaw24.MemOwn', WHERE WHAT IT READS IS OF BULK AT MOST 1048576: true; the input reads as it did. -/
def memOwnUptoRow : OpenClaim := { program := "ytlpdekocilhciaa", sum := "bd182f0afb20a5863d46a5024a3cea74504bab132ef87f05969e21a109176958", func := "coxless/coxlesslaw24.MemOwn", spec := "memOwn", inPlace := ["maps.clone"], unfollowed := true, recurses := true, apart := false, narrowed := true }
def MemOwnUptoSaid : Prop := memOwnUptoRow.holds Try.pinned (OpenSpec.upto memOwnSpec)

/-- 'coxlesslaw24.MemStays', WHERE WHAT IT READS IS OF BULK AT MOST 1048576: true; the input reads as it did. -/
def memStaysUptoRow : OpenClaim := { program := "ytlpdekocilhciaa", sum := "bd182f0afb20a5863d46a5024a3cea74504bab132ef87f05969e21a109176958", func := "coxless/coxlesslaw24.MemStays", spec := "memStays", inPlace := ["maps.clone"], unfollowed := true, recurses := true, apart := false, narrowed := true }
def MemStaysUptoSaid : Prop := memStaysUptoRow.holds Try.pinned (OpenSpec.upto memStaysSpec)

/-- 'coxlesslaw04.InstTurned', WHERE WHAT IT READS IS OF BULK AT MOST 1048576: true; the input reads as it did. -/
def instTurnedUptoRow : OpenClaim := { program := "ytlpdekocilhciaa", sum := "bd182f0afb20a5863d46a5024a3cea74504bab132ef87f05969e21a109176958", func := "coxless/coxlesslaw04.InstTurned", spec := "instTurned", recurses := true, apart := false, narrowed := true }
def InstTurnedUptoSaid : Prop := instTurnedUptoRow.holds Try.pinned (OpenSpec.upto instTurnedSpec)

/-- 'coxlesslaw04.InstKnown', WHERE WHAT IT READS IS OF BULK AT MOST 1048576: true; the input reads as it did. -/
def instKnownUptoRow : OpenClaim := { program := "ytlpdekocilhciaa", sum := "bd182f0afb20a5863d46a5024a3cea74504bab132ef87f05969e21a109176958", func := "coxless/coxlesslaw04.InstKnown", spec := "instKnown", recurses := true, apart := false, narrowed := true }
def InstKnownUptoSaid : Prop := instKnownUptoRow.holds Try.pinned (OpenSpec.upto instKnownSpec)

/-- 'coxlesslaw04.InstTells', WHERE WHAT IT READS IS OF BULK AT MOST 1048576: true; the input reads as it did. -/
def instTellsUptoRow : OpenClaim := { program := "ytlpdekocilhciaa", sum := "bd182f0afb20a5863d46a5024a3cea74504bab132ef87f05969e21a109176958", func := "coxless/coxlesslaw04.InstTells", spec := "instTells", recurses := true, apart := false, narrowed := true }
def InstTellsUptoSaid : Prop := instTellsUptoRow.holds Try.pinned (OpenSpec.upto instTellsSpec)

/-- 'coxlesslaw04.InstOne', WHERE WHAT IT READS IS OF BULK AT MOST 1048576: true; the input reads as it did. -/
def instOneUptoRow : OpenClaim := { program := "ytlpdekocilhciaa", sum := "bd182f0afb20a5863d46a5024a3cea74504bab132ef87f05969e21a109176958", func := "coxless/coxlesslaw04.InstOne", spec := "instOne", recurses := true, apart := false, narrowed := true }
def InstOneUptoSaid : Prop := instOneUptoRow.holds Try.pinned (OpenSpec.upto instOneSpec)

end Rows
end Go.Proofs.Ytlpdekocilhciaa
