/-
  NARROWER THAN 'FOR EVERY INPUT', by the rows' own cells (each row's printed sentence says how): SweepJust: laid · SweepNone: laid · SweepAgain: laid · SweepPlays: laid · MarkNone: laid · MarkPlays: laid · MarkSnapshot: laid · MarkExact: laid · MarkAgain: laid · MarkWhoever: laid.
  DERIVED. THE GIVEN ROWS OF THIS SEAT. 10 by the template 'for every input the law returns true; each argument reads behind the call as it read before'; 0 by the template 'total and deterministic' (their statements: YtalholahapcpkaaGreatDoorTotals.lean).
  GIVEN WITH THE SEED: the statements are not yours to turn. If you find one false, say at which input.
  Laid BY PROGRAM, IN A SANDBOX (cutbox-rows.mjs): the forced cells as the released guide's own fill.sh prints them over the translation 5f0d1a856649f527… (all of the seat's roots in one cut). By AI agents, Wed Nov 11 2026. No macro, syntax, notation, axiom, sorry.
-/
import Derived.Test.YtalholahapcpkaaGreatDoorChecked
import GoSem.Claim
import GoSem.ClaimJoined
import GoSem.ClaimMapViews
import Derived.JoinedTies
import Derived.KernelRfl
namespace Go.Proofs.YtalholahapcpkaaGreatDoor
/- THE CELL 'sum', in the pinned program and in every row, IS THE sha256 OF THE DUMP (.gsa) THAT YtalholahapcpkaaGreatDoorProg.lean LOADS. Nothing in Lean hashes anything: it is a label: what it is worth is what the hold of that sum in a sandbox is worth. -/
noncomputable def Tryz.pinned : Pinned := { name := "ytalholahapcpkaagreatdoor", sum := "5f0d1a856649f527f31bac895d1c0004ea6873eb632166f2d6c2a1521d67d646", checked := Tryz.checked }
namespace Rows
def none {H : Type} : Left H := { results := [], args := [] }

/- WHAT THE LISTED PACKAGE-LEVEL VARIABLES READ AS WHEN THE CALL BEGINS. Each datum BY PROGRAM (the guide's laid-datum.mjs) off the statement by which the dump's own 'gosem.cut.vars' lays the variable. In a bare row this is a premise. The card (YtalholahapcpkaaGreatDoorCards.lean) ties it to the program's text. -/
def laid_math_bits_deBruijn64tab {H : Type} : DataW H := .agg [.lit (.int .u8 0), .lit (.int .u8 1), .lit (.int .u8 56), .lit (.int .u8 2), .lit (.int .u8 57), .lit (.int .u8 49), .lit (.int .u8 28), .lit (.int .u8 3), .lit (.int .u8 61), .lit (.int .u8 58), .lit (.int .u8 42), .lit (.int .u8 50), .lit (.int .u8 38), .lit (.int .u8 29), .lit (.int .u8 17), .lit (.int .u8 4), .lit (.int .u8 62), .lit (.int .u8 47), .lit (.int .u8 59), .lit (.int .u8 36), .lit (.int .u8 45), .lit (.int .u8 43), .lit (.int .u8 51), .lit (.int .u8 22), .lit (.int .u8 53), .lit (.int .u8 39), .lit (.int .u8 33), .lit (.int .u8 30), .lit (.int .u8 24), .lit (.int .u8 18), .lit (.int .u8 12), .lit (.int .u8 5), .lit (.int .u8 63), .lit (.int .u8 55), .lit (.int .u8 48), .lit (.int .u8 27), .lit (.int .u8 60), .lit (.int .u8 41), .lit (.int .u8 37), .lit (.int .u8 16), .lit (.int .u8 46), .lit (.int .u8 35), .lit (.int .u8 44), .lit (.int .u8 21), .lit (.int .u8 52), .lit (.int .u8 32), .lit (.int .u8 23), .lit (.int .u8 11), .lit (.int .u8 54), .lit (.int .u8 26), .lit (.int .u8 40), .lit (.int .u8 15), .lit (.int .u8 34), .lit (.int .u8 20), .lit (.int .u8 31), .lit (.int .u8 10), .lit (.int .u8 25), .lit (.int .u8 14), .lit (.int .u8 19), .lit (.int .u8 9), .lit (.int .u8 13), .lit (.int .u8 8), .lit (.int .u8 7), .lit (.int .u8 6)]
def laid_commonage_head_widths {H : Type} : DataW H := .agg [.lit (.int .i64 16), .lit (.int .i64 16), .lit (.int .i64 16), .lit (.int .i64 8), .lit (.int .i64 8)]

/-- 'commonagelaw20.SweepJust': WHATEVER THE INPUT: true; the input reads as it did. -/
def sweepJustSpec : ChangeSpec := { name := "sweepJust", fn := fun _ => fun
  | [d1, d2] => { results := [.lit (.bool true)], args := [d1, d2] }
  | _ => none }
def sweepJustRow : OpenClaim := { program := "ytalholahapcpkaagreatdoor", sum := "5f0d1a856649f527f31bac895d1c0004ea6873eb632166f2d6c2a1521d67d646", func := "commonage/commonagelaw20.SweepJust", spec := "sweepJust", unfollowed := true, recurses := true, named := ["commonage/head.widths", "math/bits.deBruijn64tab"], apart := false, laid := [("math/bits.deBruijn64tab", laid_math_bits_deBruijn64tab), ("commonage/head.widths", laid_commonage_head_widths)] }
def SweepJustSaid : Prop := sweepJustRow.holds Tryz.pinned (OpenSpec.ofChange sweepJustSpec)

/-- ITS FALSE NEIGHBOUR: 'it returns false'. Refute it at one input. -/
def sweepJustWrong : ChangeSpec := { name := "sweepJust", fn := fun _ => fun
  | [d1, d2] => { results := [.lit (.bool false)], args := [d1, d2] }
  | _ => none }
def SweepJustWrongFalsely : Prop := sweepJustRow.holds Tryz.pinned (OpenSpec.ofChange sweepJustWrong)

/-- 'commonagelaw20.SweepNone': WHATEVER THE INPUT: true; the input reads as it did. -/
def sweepNoneSpec : ChangeSpec := { name := "sweepNone", fn := fun _ => fun
  | [d] => { results := [.lit (.bool true)], args := [d] }
  | _ => none }
def sweepNoneRow : OpenClaim := { program := "ytalholahapcpkaagreatdoor", sum := "5f0d1a856649f527f31bac895d1c0004ea6873eb632166f2d6c2a1521d67d646", func := "commonage/commonagelaw20.SweepNone", spec := "sweepNone", unfollowed := true, recurses := true, named := ["commonage/head.widths", "math/bits.deBruijn64tab"], apart := false, laid := [("math/bits.deBruijn64tab", laid_math_bits_deBruijn64tab), ("commonage/head.widths", laid_commonage_head_widths)] }
def SweepNoneSaid : Prop := sweepNoneRow.holds Tryz.pinned (OpenSpec.ofChange sweepNoneSpec)

/-- ITS FALSE NEIGHBOUR: 'it returns false'. Refute it at one input. -/
def sweepNoneWrong : ChangeSpec := { name := "sweepNone", fn := fun _ => fun
  | [d] => { results := [.lit (.bool false)], args := [d] }
  | _ => none }
def SweepNoneWrongFalsely : Prop := sweepNoneRow.holds Tryz.pinned (OpenSpec.ofChange sweepNoneWrong)

/-- 'commonagelaw20.SweepAgain': WHATEVER THE INPUT: true; the input reads as it did. -/
def sweepAgainSpec : ChangeSpec := { name := "sweepAgain", fn := fun _ => fun
  | [d1, d2, d3] => { results := [.lit (.bool true)], args := [d1, d2, d3] }
  | _ => none }
def sweepAgainRow : OpenClaim := { program := "ytalholahapcpkaagreatdoor", sum := "5f0d1a856649f527f31bac895d1c0004ea6873eb632166f2d6c2a1521d67d646", func := "commonage/commonagelaw20.SweepAgain", spec := "sweepAgain", unfollowed := true, recurses := true, named := ["commonage/head.widths", "math/bits.deBruijn64tab"], apart := false, laid := [("math/bits.deBruijn64tab", laid_math_bits_deBruijn64tab), ("commonage/head.widths", laid_commonage_head_widths)] }
def SweepAgainSaid : Prop := sweepAgainRow.holds Tryz.pinned (OpenSpec.ofChange sweepAgainSpec)

/-- ITS FALSE NEIGHBOUR: 'it returns false'. Refute it at one input. -/
def sweepAgainWrong : ChangeSpec := { name := "sweepAgain", fn := fun _ => fun
  | [d1, d2, d3] => { results := [.lit (.bool false)], args := [d1, d2, d3] }
  | _ => none }
def SweepAgainWrongFalsely : Prop := sweepAgainRow.holds Tryz.pinned (OpenSpec.ofChange sweepAgainWrong)

/-- 'commonagelaw20.SweepPlays': WHATEVER THE INPUT: true; the input reads as it did. -/
def sweepPlaysSpec : ChangeSpec := { name := "sweepPlays", fn := fun _ => fun
  | [d1, d2, d3] => { results := [.lit (.bool true)], args := [d1, d2, d3] }
  | _ => none }
def sweepPlaysRow : OpenClaim := { program := "ytalholahapcpkaagreatdoor", sum := "5f0d1a856649f527f31bac895d1c0004ea6873eb632166f2d6c2a1521d67d646", func := "commonage/commonagelaw20.SweepPlays", spec := "sweepPlays", unfollowed := true, recurses := true, named := ["commonage/head.widths", "math/bits.deBruijn64tab"], apart := false, laid := [("math/bits.deBruijn64tab", laid_math_bits_deBruijn64tab), ("commonage/head.widths", laid_commonage_head_widths)] }
def SweepPlaysSaid : Prop := sweepPlaysRow.holds Tryz.pinned (OpenSpec.ofChange sweepPlaysSpec)

/-- ITS FALSE NEIGHBOUR: 'it returns false'. Refute it at one input. -/
def sweepPlaysWrong : ChangeSpec := { name := "sweepPlays", fn := fun _ => fun
  | [d1, d2, d3] => { results := [.lit (.bool false)], args := [d1, d2, d3] }
  | _ => none }
def SweepPlaysWrongFalsely : Prop := sweepPlaysRow.holds Tryz.pinned (OpenSpec.ofChange sweepPlaysWrong)

/-- 'commonagelaw19.MarkNone': WHATEVER THE INPUT: true; the input reads as it did. -/
def markNoneSpec : ChangeSpec := { name := "markNone", fn := fun _ => fun
  | [d1, d2] => { results := [.lit (.bool true)], args := [d1, d2] }
  | _ => none }
def markNoneRow : OpenClaim := { program := "ytalholahapcpkaagreatdoor", sum := "5f0d1a856649f527f31bac895d1c0004ea6873eb632166f2d6c2a1521d67d646", func := "commonage/commonagelaw19.MarkNone", spec := "markNone", unfollowed := true, recurses := true, named := ["commonage/head.widths", "math/bits.deBruijn64tab"], apart := false, laid := [("math/bits.deBruijn64tab", laid_math_bits_deBruijn64tab), ("commonage/head.widths", laid_commonage_head_widths)] }
def MarkNoneSaid : Prop := markNoneRow.holds Tryz.pinned (OpenSpec.ofChange markNoneSpec)

/-- ITS FALSE NEIGHBOUR: 'it returns false'. Refute it at one input. -/
def markNoneWrong : ChangeSpec := { name := "markNone", fn := fun _ => fun
  | [d1, d2] => { results := [.lit (.bool false)], args := [d1, d2] }
  | _ => none }
def MarkNoneWrongFalsely : Prop := markNoneRow.holds Tryz.pinned (OpenSpec.ofChange markNoneWrong)

/-- 'commonagelaw19.MarkPlays': WHATEVER THE INPUT: true; the input reads as it did. -/
def markPlaysSpec : ChangeSpec := { name := "markPlays", fn := fun _ => fun
  | [d1, d2, d3] => { results := [.lit (.bool true)], args := [d1, d2, d3] }
  | _ => none }
def markPlaysRow : OpenClaim := { program := "ytalholahapcpkaagreatdoor", sum := "5f0d1a856649f527f31bac895d1c0004ea6873eb632166f2d6c2a1521d67d646", func := "commonage/commonagelaw19.MarkPlays", spec := "markPlays", unfollowed := true, recurses := true, named := ["commonage/head.widths", "math/bits.deBruijn64tab"], apart := false, laid := [("math/bits.deBruijn64tab", laid_math_bits_deBruijn64tab), ("commonage/head.widths", laid_commonage_head_widths)] }
def MarkPlaysSaid : Prop := markPlaysRow.holds Tryz.pinned (OpenSpec.ofChange markPlaysSpec)

/-- ITS FALSE NEIGHBOUR: 'it returns false'. Refute it at one input. -/
def markPlaysWrong : ChangeSpec := { name := "markPlays", fn := fun _ => fun
  | [d1, d2, d3] => { results := [.lit (.bool false)], args := [d1, d2, d3] }
  | _ => none }
def MarkPlaysWrongFalsely : Prop := markPlaysRow.holds Tryz.pinned (OpenSpec.ofChange markPlaysWrong)

/-- 'commonagelaw19.MarkSnapshot': WHATEVER THE INPUT: true; the input reads as it did. -/
def markSnapshotSpec : ChangeSpec := { name := "markSnapshot", fn := fun _ => fun
  | [d1, d2, d3] => { results := [.lit (.bool true)], args := [d1, d2, d3] }
  | _ => none }
def markSnapshotRow : OpenClaim := { program := "ytalholahapcpkaagreatdoor", sum := "5f0d1a856649f527f31bac895d1c0004ea6873eb632166f2d6c2a1521d67d646", func := "commonage/commonagelaw19.MarkSnapshot", spec := "markSnapshot", unfollowed := true, recurses := true, named := ["commonage/head.widths", "math/bits.deBruijn64tab"], apart := false, laid := [("math/bits.deBruijn64tab", laid_math_bits_deBruijn64tab), ("commonage/head.widths", laid_commonage_head_widths)] }
def MarkSnapshotSaid : Prop := markSnapshotRow.holds Tryz.pinned (OpenSpec.ofChange markSnapshotSpec)

/-- ITS FALSE NEIGHBOUR: 'it returns false'. Refute it at one input. -/
def markSnapshotWrong : ChangeSpec := { name := "markSnapshot", fn := fun _ => fun
  | [d1, d2, d3] => { results := [.lit (.bool false)], args := [d1, d2, d3] }
  | _ => none }
def MarkSnapshotWrongFalsely : Prop := markSnapshotRow.holds Tryz.pinned (OpenSpec.ofChange markSnapshotWrong)

/-- 'commonagelaw19.MarkExact': WHATEVER THE INPUT: true; the input reads as it did. -/
def markExactSpec : ChangeSpec := { name := "markExact", fn := fun _ => fun
  | [d1, d2, d3] => { results := [.lit (.bool true)], args := [d1, d2, d3] }
  | _ => none }
def markExactRow : OpenClaim := { program := "ytalholahapcpkaagreatdoor", sum := "5f0d1a856649f527f31bac895d1c0004ea6873eb632166f2d6c2a1521d67d646", func := "commonage/commonagelaw19.MarkExact", spec := "markExact", unfollowed := true, recurses := true, named := ["commonage/head.widths", "math/bits.deBruijn64tab"], apart := false, laid := [("math/bits.deBruijn64tab", laid_math_bits_deBruijn64tab), ("commonage/head.widths", laid_commonage_head_widths)] }
def MarkExactSaid : Prop := markExactRow.holds Tryz.pinned (OpenSpec.ofChange markExactSpec)

/-- ITS FALSE NEIGHBOUR: 'it returns false'. Refute it at one input. -/
def markExactWrong : ChangeSpec := { name := "markExact", fn := fun _ => fun
  | [d1, d2, d3] => { results := [.lit (.bool false)], args := [d1, d2, d3] }
  | _ => none }
def MarkExactWrongFalsely : Prop := markExactRow.holds Tryz.pinned (OpenSpec.ofChange markExactWrong)

/-- 'commonagelaw19.MarkAgain': WHATEVER THE INPUT: true; the input reads as it did. -/
def markAgainSpec : ChangeSpec := { name := "markAgain", fn := fun _ => fun
  | [d1, d2, d3] => { results := [.lit (.bool true)], args := [d1, d2, d3] }
  | _ => none }
def markAgainRow : OpenClaim := { program := "ytalholahapcpkaagreatdoor", sum := "5f0d1a856649f527f31bac895d1c0004ea6873eb632166f2d6c2a1521d67d646", func := "commonage/commonagelaw19.MarkAgain", spec := "markAgain", unfollowed := true, recurses := true, named := ["commonage/head.widths", "math/bits.deBruijn64tab"], apart := false, laid := [("math/bits.deBruijn64tab", laid_math_bits_deBruijn64tab), ("commonage/head.widths", laid_commonage_head_widths)] }
def MarkAgainSaid : Prop := markAgainRow.holds Tryz.pinned (OpenSpec.ofChange markAgainSpec)

/-- ITS FALSE NEIGHBOUR: 'it returns false'. Refute it at one input. -/
def markAgainWrong : ChangeSpec := { name := "markAgain", fn := fun _ => fun
  | [d1, d2, d3] => { results := [.lit (.bool false)], args := [d1, d2, d3] }
  | _ => none }
def MarkAgainWrongFalsely : Prop := markAgainRow.holds Tryz.pinned (OpenSpec.ofChange markAgainWrong)

/-- 'commonagelaw19.MarkWhoever': WHATEVER THE INPUT: true; the input reads as it did. -/
def markWhoeverSpec : ChangeSpec := { name := "markWhoever", fn := fun _ => fun
  | [d1, d2, d3] => { results := [.lit (.bool true)], args := [d1, d2, d3] }
  | _ => none }
def markWhoeverRow : OpenClaim := { program := "ytalholahapcpkaagreatdoor", sum := "5f0d1a856649f527f31bac895d1c0004ea6873eb632166f2d6c2a1521d67d646", func := "commonage/commonagelaw19.MarkWhoever", spec := "markWhoever", unfollowed := true, recurses := true, named := ["commonage/head.widths", "math/bits.deBruijn64tab"], apart := false, laid := [("math/bits.deBruijn64tab", laid_math_bits_deBruijn64tab), ("commonage/head.widths", laid_commonage_head_widths)] }
def MarkWhoeverSaid : Prop := markWhoeverRow.holds Tryz.pinned (OpenSpec.ofChange markWhoeverSpec)

/-- ITS FALSE NEIGHBOUR: 'it returns false'. Refute it at one input. -/
def markWhoeverWrong : ChangeSpec := { name := "markWhoever", fn := fun _ => fun
  | [d1, d2, d3] => { results := [.lit (.bool false)], args := [d1, d2, d3] }
  | _ => none }
def MarkWhoeverWrongFalsely : Prop := markWhoeverRow.holds Tryz.pinned (OpenSpec.ofChange markWhoeverWrong)

/- THE SECOND FORM. 'bulk': how many values and letters a reading holds, each counted each time it is reached (what is shared counts as often as it is met; a slice's spare places count too). A statement '..UptoSaid' is the law's where the arguments, and the package variables that the reading takes, are together of bulk at most 1048576: NARROWER than '..Said'. Prove '..Said' where nothing that the law and all that it calls make is longer than what came in: it says more and counts as full. Else prove '..UptoSaid'. A law counts once. -/
mutual
def uptoBulk {H : Type} : DataW H → Nat
  | .lit (.string bytes) => bytes.length + 1
  | .lit _ => 1
  | .nil => 1
  | .ptr d => uptoBulk d + 1
  | .slice elems spare => uptoBulkAll elems + uptoBulkAll spare + 1
  | .agg parts => uptoBulkAll parts + 1
  | .iface _ d => uptoBulk d + 1
  | .map entries => uptoBulkEntries entries + 1
  | .held _ => 1
def uptoBulkAll {H : Type} : List (DataW H) → Nat
  | [] => 0
  | d :: r => uptoBulk d + uptoBulkAll r
def uptoBulkEntries {H : Type} : List (Lit × DataW H) → Nat
  | [] => 0
  | x :: r => uptoBulkEntry x + uptoBulkEntries r
def uptoBulkEntry {H : Type} : Lit × DataW H → Nat
  | (.string bytes, d) => bytes.length + uptoBulk d + 1
  | (_, d) => uptoBulk d + 1
 end
def uptoSmall : (H : Type) → List (DataW H) → Bool := fun _ ds => decide (uptoBulkAll ds ≤ 1048576)
def OpenSpec.upto (s : _root_.Go.ChangeSpec) : _root_.Go.OpenSpec := { _root_.Go.OpenSpec.ofChange s with cond := some uptoSmall }

/-- 'commonagelaw20.SweepJust', WHERE WHAT IT READS IS OF BULK AT MOST 1048576: true; the input reads as it did. -/
def sweepJustUptoRow : OpenClaim := { program := "ytalholahapcpkaagreatdoor", sum := "5f0d1a856649f527f31bac895d1c0004ea6873eb632166f2d6c2a1521d67d646", func := "commonage/commonagelaw20.SweepJust", spec := "sweepJust", unfollowed := true, recurses := true, named := ["commonage/head.widths", "math/bits.deBruijn64tab"], apart := false, laid := [("math/bits.deBruijn64tab", laid_math_bits_deBruijn64tab), ("commonage/head.widths", laid_commonage_head_widths)], narrowed := true }
def SweepJustUptoSaid : Prop := sweepJustUptoRow.holds Tryz.pinned (OpenSpec.upto sweepJustSpec)

/-- 'commonagelaw20.SweepNone', WHERE WHAT IT READS IS OF BULK AT MOST 1048576: true; the input reads as it did. -/
def sweepNoneUptoRow : OpenClaim := { program := "ytalholahapcpkaagreatdoor", sum := "5f0d1a856649f527f31bac895d1c0004ea6873eb632166f2d6c2a1521d67d646", func := "commonage/commonagelaw20.SweepNone", spec := "sweepNone", unfollowed := true, recurses := true, named := ["commonage/head.widths", "math/bits.deBruijn64tab"], apart := false, laid := [("math/bits.deBruijn64tab", laid_math_bits_deBruijn64tab), ("commonage/head.widths", laid_commonage_head_widths)], narrowed := true }
def SweepNoneUptoSaid : Prop := sweepNoneUptoRow.holds Tryz.pinned (OpenSpec.upto sweepNoneSpec)

/-- 'commonagelaw20.SweepAgain', WHERE WHAT IT READS IS OF BULK AT MOST 1048576: true; the input reads as it did. -/
def sweepAgainUptoRow : OpenClaim := { program := "ytalholahapcpkaagreatdoor", sum := "5f0d1a856649f527f31bac895d1c0004ea6873eb632166f2d6c2a1521d67d646", func := "commonage/commonagelaw20.SweepAgain", spec := "sweepAgain", unfollowed := true, recurses := true, named := ["commonage/head.widths", "math/bits.deBruijn64tab"], apart := false, laid := [("math/bits.deBruijn64tab", laid_math_bits_deBruijn64tab), ("commonage/head.widths", laid_commonage_head_widths)], narrowed := true }
def SweepAgainUptoSaid : Prop := sweepAgainUptoRow.holds Tryz.pinned (OpenSpec.upto sweepAgainSpec)

/-- 'commonagelaw20.SweepPlays', WHERE WHAT IT READS IS OF BULK AT MOST 1048576: true; the input reads as it did. -/
def sweepPlaysUptoRow : OpenClaim := { program := "ytalholahapcpkaagreatdoor", sum := "5f0d1a856649f527f31bac895d1c0004ea6873eb632166f2d6c2a1521d67d646", func := "commonage/commonagelaw20.SweepPlays", spec := "sweepPlays", unfollowed := true, recurses := true, named := ["commonage/head.widths", "math/bits.deBruijn64tab"], apart := false, laid := [("math/bits.deBruijn64tab", laid_math_bits_deBruijn64tab), ("commonage/head.widths", laid_commonage_head_widths)], narrowed := true }
def SweepPlaysUptoSaid : Prop := sweepPlaysUptoRow.holds Tryz.pinned (OpenSpec.upto sweepPlaysSpec)

/-- 'commonagelaw19.MarkNone', WHERE WHAT IT READS IS OF BULK AT MOST 1048576: true; the input reads as it did. -/
def markNoneUptoRow : OpenClaim := { program := "ytalholahapcpkaagreatdoor", sum := "5f0d1a856649f527f31bac895d1c0004ea6873eb632166f2d6c2a1521d67d646", func := "commonage/commonagelaw19.MarkNone", spec := "markNone", unfollowed := true, recurses := true, named := ["commonage/head.widths", "math/bits.deBruijn64tab"], apart := false, laid := [("math/bits.deBruijn64tab", laid_math_bits_deBruijn64tab), ("commonage/head.widths", laid_commonage_head_widths)], narrowed := true }
def MarkNoneUptoSaid : Prop := markNoneUptoRow.holds Tryz.pinned (OpenSpec.upto markNoneSpec)

/-- 'commonagelaw19.MarkPlays', WHERE WHAT IT READS IS OF BULK AT MOST 1048576: true; the input reads as it did. -/
def markPlaysUptoRow : OpenClaim := { program := "ytalholahapcpkaagreatdoor", sum := "5f0d1a856649f527f31bac895d1c0004ea6873eb632166f2d6c2a1521d67d646", func := "commonage/commonagelaw19.MarkPlays", spec := "markPlays", unfollowed := true, recurses := true, named := ["commonage/head.widths", "math/bits.deBruijn64tab"], apart := false, laid := [("math/bits.deBruijn64tab", laid_math_bits_deBruijn64tab), ("commonage/head.widths", laid_commonage_head_widths)], narrowed := true }
def MarkPlaysUptoSaid : Prop := markPlaysUptoRow.holds Tryz.pinned (OpenSpec.upto markPlaysSpec)

/-- 'commonagelaw19.MarkSnapshot', WHERE WHAT IT READS IS OF BULK AT MOST 1048576: true; the input reads as it did. -/
def markSnapshotUptoRow : OpenClaim := { program := "ytalholahapcpkaagreatdoor", sum := "5f0d1a856649f527f31bac895d1c0004ea6873eb632166f2d6c2a1521d67d646", func := "commonage/commonagelaw19.MarkSnapshot", spec := "markSnapshot", unfollowed := true, recurses := true, named := ["commonage/head.widths", "math/bits.deBruijn64tab"], apart := false, laid := [("math/bits.deBruijn64tab", laid_math_bits_deBruijn64tab), ("commonage/head.widths", laid_commonage_head_widths)], narrowed := true }
def MarkSnapshotUptoSaid : Prop := markSnapshotUptoRow.holds Tryz.pinned (OpenSpec.upto markSnapshotSpec)

/-- 'commonagelaw19.MarkExact', WHERE WHAT IT READS IS OF BULK AT MOST 1048576: true; the input reads as it did. -/
def markExactUptoRow : OpenClaim := { program := "ytalholahapcpkaagreatdoor", sum := "5f0d1a856649f527f31bac895d1c0004ea6873eb632166f2d6c2a1521d67d646", func := "commonage/commonagelaw19.MarkExact", spec := "markExact", unfollowed := true, recurses := true, named := ["commonage/head.widths", "math/bits.deBruijn64tab"], apart := false, laid := [("math/bits.deBruijn64tab", laid_math_bits_deBruijn64tab), ("commonage/head.widths", laid_commonage_head_widths)], narrowed := true }
def MarkExactUptoSaid : Prop := markExactUptoRow.holds Tryz.pinned (OpenSpec.upto markExactSpec)

/-- 'commonagelaw19.MarkAgain', WHERE WHAT IT READS IS OF BULK AT MOST 1048576: true; the input reads as it did. -/
def markAgainUptoRow : OpenClaim := { program := "ytalholahapcpkaagreatdoor", sum := "5f0d1a856649f527f31bac895d1c0004ea6873eb632166f2d6c2a1521d67d646", func := "commonage/commonagelaw19.MarkAgain", spec := "markAgain", unfollowed := true, recurses := true, named := ["commonage/head.widths", "math/bits.deBruijn64tab"], apart := false, laid := [("math/bits.deBruijn64tab", laid_math_bits_deBruijn64tab), ("commonage/head.widths", laid_commonage_head_widths)], narrowed := true }
def MarkAgainUptoSaid : Prop := markAgainUptoRow.holds Tryz.pinned (OpenSpec.upto markAgainSpec)

/-- 'commonagelaw19.MarkWhoever', WHERE WHAT IT READS IS OF BULK AT MOST 1048576: true; the input reads as it did. -/
def markWhoeverUptoRow : OpenClaim := { program := "ytalholahapcpkaagreatdoor", sum := "5f0d1a856649f527f31bac895d1c0004ea6873eb632166f2d6c2a1521d67d646", func := "commonage/commonagelaw19.MarkWhoever", spec := "markWhoever", unfollowed := true, recurses := true, named := ["commonage/head.widths", "math/bits.deBruijn64tab"], apart := false, laid := [("math/bits.deBruijn64tab", laid_math_bits_deBruijn64tab), ("commonage/head.widths", laid_commonage_head_widths)], narrowed := true }
def MarkWhoeverUptoSaid : Prop := markWhoeverUptoRow.holds Tryz.pinned (OpenSpec.upto markWhoeverSpec)

end Rows
end Go.Proofs.YtalholahapcpkaaGreatDoor
