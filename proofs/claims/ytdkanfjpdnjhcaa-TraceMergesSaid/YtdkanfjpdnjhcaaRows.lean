/-
  No cell of these rows narrows 'for every input' (looked for: loops, veiled, ifaces, maps, wideKeys, modest, calm, conditions, laid).
  DERIVED. THE GIVEN ROWS OF THIS SEAT. 4 by the template 'for every input the law returns true; each argument reads behind the call as it read before'; 0 by the template 'total and deterministic' (their statements: YtdkanfjpdnjhcaaTotals.lean).
  GIVEN WITH THE SEED: the statements are not yours to turn. If you find one false, say at which input.
  Laid BY PROGRAM, IN A SANDBOX (cutbox-rows.mjs): the forced cells as the released guide's own fill.sh prints them over the translation b27ac07b9efd5ae7… (all of the seat's roots in one cut). By AI agents, Wed Nov 11 2026. No macro, syntax, notation, axiom, sorry.
-/
import Derived.Test.YtdkanfjpdnjhcaaChecked
import GoSem.Claim
import GoSem.ClaimJoined
import GoSem.ClaimMapViews
import Derived.JoinedTies
import Derived.KernelRfl
namespace Go.Proofs.Ytdkanfjpdnjhcaa
/- THE CELL 'sum', in the pinned program and in every row, IS THE sha256 OF THE DUMP (.gsa) THAT YtdkanfjpdnjhcaaProg.lean LOADS. Nothing in Lean hashes anything: it is a label: what it is worth is what the hold of that sum in a sandbox is worth. -/
noncomputable def Try.pinned : Pinned := { name := "ytdkanfjpdnjhcaa", sum := "b27ac07b9efd5ae7c76cae79b89ff53520eecb0c315e14bee4d31ae675753d96", checked := Try.checked }
namespace Rows
def none {H : Type} : Left H := { results := [], args := [] }

/-- 'commonagelaw26.TraceBytes': WHATEVER THE INPUT: true; the input reads as it did. -/
def traceBytesSpec : ChangeSpec := { name := "traceBytes", fn := fun _ => fun
  | [d1, d2] => { results := [.lit (.bool true)], args := [d1, d2] }
  | _ => none }
def traceBytesRow : OpenClaim := { program := "ytdkanfjpdnjhcaa", sum := "b27ac07b9efd5ae7c76cae79b89ff53520eecb0c315e14bee4d31ae675753d96", func := "commonage/commonagelaw26.TraceBytes", spec := "traceBytes", unfollowed := true, recurses := true, apart := false }
def TraceBytesSaid : Prop := traceBytesRow.holds Try.pinned (OpenSpec.ofChange traceBytesSpec)

/-- ITS FALSE NEIGHBOUR: 'it returns false'. Refute it at one input. -/
def traceBytesWrong : ChangeSpec := { name := "traceBytes", fn := fun _ => fun
  | [d1, d2] => { results := [.lit (.bool false)], args := [d1, d2] }
  | _ => none }
def TraceBytesWrongFalsely : Prop := traceBytesRow.holds Try.pinned (OpenSpec.ofChange traceBytesWrong)

/-- 'commonagelaw26.TraceParts': WHATEVER THE INPUT: true; the input reads as it did. -/
def tracePartsSpec : ChangeSpec := { name := "traceParts", fn := fun _ => fun
  | [d1, d2] => { results := [.lit (.bool true)], args := [d1, d2] }
  | _ => none }
def tracePartsRow : OpenClaim := { program := "ytdkanfjpdnjhcaa", sum := "b27ac07b9efd5ae7c76cae79b89ff53520eecb0c315e14bee4d31ae675753d96", func := "commonage/commonagelaw26.TraceParts", spec := "traceParts", unfollowed := true, recurses := true, apart := false }
def TracePartsSaid : Prop := tracePartsRow.holds Try.pinned (OpenSpec.ofChange tracePartsSpec)

/-- ITS FALSE NEIGHBOUR: 'it returns false'. Refute it at one input. -/
def tracePartsWrong : ChangeSpec := { name := "traceParts", fn := fun _ => fun
  | [d1, d2] => { results := [.lit (.bool false)], args := [d1, d2] }
  | _ => none }
def TracePartsWrongFalsely : Prop := tracePartsRow.holds Try.pinned (OpenSpec.ofChange tracePartsWrong)

/-- 'commonagelaw26.TraceDiffs': WHATEVER THE INPUT: true; the input reads as it did. -/
def traceDiffsSpec : ChangeSpec := { name := "traceDiffs", fn := fun _ => fun
  | [d1, d2] => { results := [.lit (.bool true)], args := [d1, d2] }
  | _ => none }
def traceDiffsRow : OpenClaim := { program := "ytdkanfjpdnjhcaa", sum := "b27ac07b9efd5ae7c76cae79b89ff53520eecb0c315e14bee4d31ae675753d96", func := "commonage/commonagelaw26.TraceDiffs", spec := "traceDiffs", unfollowed := true, recurses := true, apart := false }
def TraceDiffsSaid : Prop := traceDiffsRow.holds Try.pinned (OpenSpec.ofChange traceDiffsSpec)

/-- ITS FALSE NEIGHBOUR: 'it returns false'. Refute it at one input. -/
def traceDiffsWrong : ChangeSpec := { name := "traceDiffs", fn := fun _ => fun
  | [d1, d2] => { results := [.lit (.bool false)], args := [d1, d2] }
  | _ => none }
def TraceDiffsWrongFalsely : Prop := traceDiffsRow.holds Try.pinned (OpenSpec.ofChange traceDiffsWrong)

/-- 'commonagelaw26.TraceMerges': WHATEVER THE INPUT: true; the input reads as it did. -/
def traceMergesSpec : ChangeSpec := { name := "traceMerges", fn := fun _ => fun
  | [d1, d2] => { results := [.lit (.bool true)], args := [d1, d2] }
  | _ => none }
def traceMergesRow : OpenClaim := { program := "ytdkanfjpdnjhcaa", sum := "b27ac07b9efd5ae7c76cae79b89ff53520eecb0c315e14bee4d31ae675753d96", func := "commonage/commonagelaw26.TraceMerges", spec := "traceMerges", unfollowed := true, recurses := true, apart := false }
def TraceMergesSaid : Prop := traceMergesRow.holds Try.pinned (OpenSpec.ofChange traceMergesSpec)

/-- ITS FALSE NEIGHBOUR: 'it returns false'. Refute it at one input. -/
def traceMergesWrong : ChangeSpec := { name := "traceMerges", fn := fun _ => fun
  | [d1, d2] => { results := [.lit (.bool false)], args := [d1, d2] }
  | _ => none }
def TraceMergesWrongFalsely : Prop := traceMergesRow.holds Try.pinned (OpenSpec.ofChange traceMergesWrong)

/- THE SECOND FORM. 'bulk': how many values and letters a reading holds, each counted each time it is reached (what is shared counts as often as it is met; a slice's spare places count too). A statement '..UptoSaid' is the law's where the arguments, and the package variables that the reading takes, are together of bulk at most 1048576: NARROWER than '..Said'. Prove '..Said' where nothing that the law and all that it calls make is longer than what came in: it says more and counts as full. Else prove '..UptoSaid'. A law counts once. -/
mutual
def uptoBulk {H : Type} : DataW H → Nat
  | .lit (.string bytes) => bytes.length + 1
  | .lit _ => 1
  | .nil => 1
  | .ptr d => uptoBulk d + 1
  | .slice elems spare => uptoBulkAll elems + uptoBulkAll spare + 1
  | .agg parts => uptoBulkAll parts + 1
  | .iface _ d => uptoBulk d + 1
  | .map entries => uptoBulkEntries entries + 1
  | .held _ => 1
def uptoBulkAll {H : Type} : List (DataW H) → Nat
  | [] => 0
  | d :: r => uptoBulk d + uptoBulkAll r
def uptoBulkEntries {H : Type} : List (Lit × DataW H) → Nat
  | [] => 0
  | x :: r => uptoBulkEntry x + uptoBulkEntries r
def uptoBulkEntry {H : Type} : Lit × DataW H → Nat
  | (.string bytes, d) => bytes.length + uptoBulk d + 1
  | (_, d) => uptoBulk d + 1
 end
def uptoSmall : (H : Type) → List (DataW H) → Bool := fun _ ds => decide (uptoBulkAll ds ≤ 1048576)
def OpenSpec.upto (s : _root_.Go.ChangeSpec) : _root_.Go.OpenSpec := { _root_.Go.OpenSpec.ofChange s with cond := some uptoSmall }

/-- 'commonagelaw26.TraceBytes', WHERE WHAT IT READS IS OF BULK AT MOST 1048576: true; the input reads as it did. -/
def traceBytesUptoRow : OpenClaim := { program := "ytdkanfjpdnjhcaa", sum := "b27ac07b9efd5ae7c76cae79b89ff53520eecb0c315e14bee4d31ae675753d96", func := "commonage/commonagelaw26.TraceBytes", spec := "traceBytes", unfollowed := true, recurses := true, apart := false, narrowed := true }
def TraceBytesUptoSaid : Prop := traceBytesUptoRow.holds Try.pinned (OpenSpec.upto traceBytesSpec)

/-- 'commonagelaw26.TraceParts', WHERE WHAT IT READS IS OF BULK AT MOST 1048576: true; the input reads as it did. -/
def tracePartsUptoRow : OpenClaim := { program := "ytdkanfjpdnjhcaa", sum := "b27ac07b9efd5ae7c76cae79b89ff53520eecb0c315e14bee4d31ae675753d96", func := "commonage/commonagelaw26.TraceParts", spec := "traceParts", unfollowed := true, recurses := true, apart := false, narrowed := true }
def TracePartsUptoSaid : Prop := tracePartsUptoRow.holds Try.pinned (OpenSpec.upto tracePartsSpec)

/-- 'commonagelaw26.TraceDiffs', WHERE WHAT IT READS IS OF BULK AT MOST 1048576: true; the input reads as it did. -/
def traceDiffsUptoRow : OpenClaim := { program := "ytdkanfjpdnjhcaa", sum := "b27ac07b9efd5ae7c76cae79b89ff53520eecb0c315e14bee4d31ae675753d96", func := "commonage/commonagelaw26.TraceDiffs", spec := "traceDiffs", unfollowed := true, recurses := true, apart := false, narrowed := true }
def TraceDiffsUptoSaid : Prop := traceDiffsUptoRow.holds Try.pinned (OpenSpec.upto traceDiffsSpec)

/-- 'commonagelaw26.TraceMerges', WHERE WHAT IT READS IS OF BULK AT MOST 1048576: true; the input reads as it did. -/
def traceMergesUptoRow : OpenClaim := { program := "ytdkanfjpdnjhcaa", sum := "b27ac07b9efd5ae7c76cae79b89ff53520eecb0c315e14bee4d31ae675753d96", func := "commonage/commonagelaw26.TraceMerges", spec := "traceMerges", unfollowed := true, recurses := true, apart := false, narrowed := true }
def TraceMergesUptoSaid : Prop := traceMergesUptoRow.holds Try.pinned (OpenSpec.upto traceMergesSpec)

end Rows
end Go.Proofs.Ytdkanfjpdnjhcaa
