/-
  NARROWER THAN 'FOR EVERY INPUT', by the rows' own cells (each row's printed sentence says how): CycleNone: laid · CycleSame: laid · CycleTwice: laid · CycleKeeps: laid · CyclePhases: laid · CycleFrees: laid · CyclePlays: laid.
  DERIVED. THE GIVEN ROWS OF THIS SEAT. 7 by the template 'for every input the law returns true; each argument reads behind the call as it read before'; 0 by the template 'total and deterministic' (their statements: YtldomapkmopomaaGreatDoorTotals.lean).
  GIVEN WITH THE SEED: the statements are not yours to turn. If you find one false, say at which input.
  Laid BY PROGRAM, IN A SANDBOX (cutbox-rows.mjs): the forced cells as the released guide's own fill.sh prints them over the translation 0ff29721ada4fffc… (all of the seat's roots in one cut). By AI agents, Wed Nov 11 2026. No macro, syntax, notation, axiom, sorry.
-/
import Derived.Test.YtldomapkmopomaaGreatDoorChecked
import GoSem.Claim
import GoSem.ClaimJoined
import GoSem.ClaimMapViews
import Derived.JoinedTies
import Derived.KernelRfl
namespace Go.Proofs.YtldomapkmopomaaGreatDoor
/- THE CELL 'sum', in the pinned program and in every row, IS THE sha256 OF THE DUMP (.gsa) THAT YtldomapkmopomaaGreatDoorProg.lean LOADS. Nothing in Lean hashes anything: it is a label: what it is worth is what the hold of that sum in a sandbox is worth. -/
noncomputable def Tryz.pinned : Pinned := { name := "ytldomapkmopomaagreatdoor", sum := "0ff29721ada4fffcf8d7b0e8294dc0e13a7246edeb48867d6194ff09c0884eab", checked := Tryz.checked }
namespace Rows
def none {H : Type} : Left H := { results := [], args := [] }

/- WHAT THE LISTED PACKAGE-LEVEL VARIABLES READ AS WHEN THE CALL BEGINS. Each datum BY PROGRAM (the guide's laid-datum.mjs) off the statement by which the dump's own 'gosem.cut.vars' lays the variable. In a bare row this is a premise. The card (YtldomapkmopomaaGreatDoorCards.lean) ties it to the program's text. -/
def laid_math_bits_deBruijn64tab {H : Type} : DataW H := .agg [.lit (.int .u8 0), .lit (.int .u8 1), .lit (.int .u8 56), .lit (.int .u8 2), .lit (.int .u8 57), .lit (.int .u8 49), .lit (.int .u8 28), .lit (.int .u8 3), .lit (.int .u8 61), .lit (.int .u8 58), .lit (.int .u8 42), .lit (.int .u8 50), .lit (.int .u8 38), .lit (.int .u8 29), .lit (.int .u8 17), .lit (.int .u8 4), .lit (.int .u8 62), .lit (.int .u8 47), .lit (.int .u8 59), .lit (.int .u8 36), .lit (.int .u8 45), .lit (.int .u8 43), .lit (.int .u8 51), .lit (.int .u8 22), .lit (.int .u8 53), .lit (.int .u8 39), .lit (.int .u8 33), .lit (.int .u8 30), .lit (.int .u8 24), .lit (.int .u8 18), .lit (.int .u8 12), .lit (.int .u8 5), .lit (.int .u8 63), .lit (.int .u8 55), .lit (.int .u8 48), .lit (.int .u8 27), .lit (.int .u8 60), .lit (.int .u8 41), .lit (.int .u8 37), .lit (.int .u8 16), .lit (.int .u8 46), .lit (.int .u8 35), .lit (.int .u8 44), .lit (.int .u8 21), .lit (.int .u8 52), .lit (.int .u8 32), .lit (.int .u8 23), .lit (.int .u8 11), .lit (.int .u8 54), .lit (.int .u8 26), .lit (.int .u8 40), .lit (.int .u8 15), .lit (.int .u8 34), .lit (.int .u8 20), .lit (.int .u8 31), .lit (.int .u8 10), .lit (.int .u8 25), .lit (.int .u8 14), .lit (.int .u8 19), .lit (.int .u8 9), .lit (.int .u8 13), .lit (.int .u8 8), .lit (.int .u8 7), .lit (.int .u8 6)]
def laid_commonage_head_widths {H : Type} : DataW H := .agg [.lit (.int .i64 16), .lit (.int .i64 16), .lit (.int .i64 16), .lit (.int .i64 8), .lit (.int .i64 8)]

/-- 'commonagelaw22.CycleNone': WHATEVER THE INPUT: true; the input reads as it did. -/
def cycleNoneSpec : ChangeSpec := { name := "cycleNone", fn := fun _ => fun
  | [d1, d2, d3] => { results := [.lit (.bool true)], args := [d1, d2, d3] }
  | _ => none }
def cycleNoneRow : OpenClaim := { program := "ytldomapkmopomaagreatdoor", sum := "0ff29721ada4fffcf8d7b0e8294dc0e13a7246edeb48867d6194ff09c0884eab", func := "commonage/commonagelaw22.CycleNone", spec := "cycleNone", unfollowed := true, recurses := true, named := ["commonage/head.widths", "math/bits.deBruijn64tab"], apart := false, laid := [("math/bits.deBruijn64tab", laid_math_bits_deBruijn64tab), ("commonage/head.widths", laid_commonage_head_widths)] }
def CycleNoneSaid : Prop := cycleNoneRow.holds Tryz.pinned (OpenSpec.ofChange cycleNoneSpec)

/-- ITS FALSE NEIGHBOUR: 'it returns false'. Refute it at one input. -/
def cycleNoneWrong : ChangeSpec := { name := "cycleNone", fn := fun _ => fun
  | [d1, d2, d3] => { results := [.lit (.bool false)], args := [d1, d2, d3] }
  | _ => none }
def CycleNoneWrongFalsely : Prop := cycleNoneRow.holds Tryz.pinned (OpenSpec.ofChange cycleNoneWrong)

/-- 'commonagelaw22.CycleSame': WHATEVER THE INPUT: true; the input reads as it did. -/
def cycleSameSpec : ChangeSpec := { name := "cycleSame", fn := fun _ => fun
  | [d1, d2, d3] => { results := [.lit (.bool true)], args := [d1, d2, d3] }
  | _ => none }
def cycleSameRow : OpenClaim := { program := "ytldomapkmopomaagreatdoor", sum := "0ff29721ada4fffcf8d7b0e8294dc0e13a7246edeb48867d6194ff09c0884eab", func := "commonage/commonagelaw22.CycleSame", spec := "cycleSame", unfollowed := true, recurses := true, named := ["commonage/head.widths", "math/bits.deBruijn64tab"], apart := false, laid := [("math/bits.deBruijn64tab", laid_math_bits_deBruijn64tab), ("commonage/head.widths", laid_commonage_head_widths)] }
def CycleSameSaid : Prop := cycleSameRow.holds Tryz.pinned (OpenSpec.ofChange cycleSameSpec)

/-- ITS FALSE NEIGHBOUR: 'it returns false'. Refute it at one input. -/
def cycleSameWrong : ChangeSpec := { name := "cycleSame", fn := fun _ => fun
  | [d1, d2, d3] => { results := [.lit (.bool false)], args := [d1, d2, d3] }
  | _ => none }
def CycleSameWrongFalsely : Prop := cycleSameRow.holds Tryz.pinned (OpenSpec.ofChange cycleSameWrong)

/-- 'commonagelaw22.CycleTwice': WHATEVER THE INPUT: true; the input reads as it did. -/
def cycleTwiceSpec : ChangeSpec := { name := "cycleTwice", fn := fun _ => fun
  | [d1, d2] => { results := [.lit (.bool true)], args := [d1, d2] }
  | _ => none }
def cycleTwiceRow : OpenClaim := { program := "ytldomapkmopomaagreatdoor", sum := "0ff29721ada4fffcf8d7b0e8294dc0e13a7246edeb48867d6194ff09c0884eab", func := "commonage/commonagelaw22.CycleTwice", spec := "cycleTwice", unfollowed := true, recurses := true, named := ["commonage/head.widths", "math/bits.deBruijn64tab"], apart := false, laid := [("math/bits.deBruijn64tab", laid_math_bits_deBruijn64tab), ("commonage/head.widths", laid_commonage_head_widths)] }
def CycleTwiceSaid : Prop := cycleTwiceRow.holds Tryz.pinned (OpenSpec.ofChange cycleTwiceSpec)

/-- ITS FALSE NEIGHBOUR: 'it returns false'. Refute it at one input. -/
def cycleTwiceWrong : ChangeSpec := { name := "cycleTwice", fn := fun _ => fun
  | [d1, d2] => { results := [.lit (.bool false)], args := [d1, d2] }
  | _ => none }
def CycleTwiceWrongFalsely : Prop := cycleTwiceRow.holds Tryz.pinned (OpenSpec.ofChange cycleTwiceWrong)

/-- 'commonagelaw22.CycleKeeps': WHATEVER THE INPUT: true; the input reads as it did. -/
def cycleKeepsSpec : ChangeSpec := { name := "cycleKeeps", fn := fun _ => fun
  | [d1, d2] => { results := [.lit (.bool true)], args := [d1, d2] }
  | _ => none }
def cycleKeepsRow : OpenClaim := { program := "ytldomapkmopomaagreatdoor", sum := "0ff29721ada4fffcf8d7b0e8294dc0e13a7246edeb48867d6194ff09c0884eab", func := "commonage/commonagelaw22.CycleKeeps", spec := "cycleKeeps", unfollowed := true, recurses := true, named := ["commonage/head.widths", "math/bits.deBruijn64tab"], apart := false, laid := [("math/bits.deBruijn64tab", laid_math_bits_deBruijn64tab), ("commonage/head.widths", laid_commonage_head_widths)] }
def CycleKeepsSaid : Prop := cycleKeepsRow.holds Tryz.pinned (OpenSpec.ofChange cycleKeepsSpec)

/-- ITS FALSE NEIGHBOUR: 'it returns false'. Refute it at one input. -/
def cycleKeepsWrong : ChangeSpec := { name := "cycleKeeps", fn := fun _ => fun
  | [d1, d2] => { results := [.lit (.bool false)], args := [d1, d2] }
  | _ => none }
def CycleKeepsWrongFalsely : Prop := cycleKeepsRow.holds Tryz.pinned (OpenSpec.ofChange cycleKeepsWrong)

/-- 'commonagelaw22.CyclePhases': WHATEVER THE INPUT: true; the input reads as it did. -/
def cyclePhasesSpec : ChangeSpec := { name := "cyclePhases", fn := fun _ => fun
  | [d1, d2] => { results := [.lit (.bool true)], args := [d1, d2] }
  | _ => none }
def cyclePhasesRow : OpenClaim := { program := "ytldomapkmopomaagreatdoor", sum := "0ff29721ada4fffcf8d7b0e8294dc0e13a7246edeb48867d6194ff09c0884eab", func := "commonage/commonagelaw22.CyclePhases", spec := "cyclePhases", unfollowed := true, recurses := true, named := ["commonage/head.widths", "math/bits.deBruijn64tab"], apart := false, laid := [("math/bits.deBruijn64tab", laid_math_bits_deBruijn64tab), ("commonage/head.widths", laid_commonage_head_widths)] }
def CyclePhasesSaid : Prop := cyclePhasesRow.holds Tryz.pinned (OpenSpec.ofChange cyclePhasesSpec)

/-- ITS FALSE NEIGHBOUR: 'it returns false'. Refute it at one input. -/
def cyclePhasesWrong : ChangeSpec := { name := "cyclePhases", fn := fun _ => fun
  | [d1, d2] => { results := [.lit (.bool false)], args := [d1, d2] }
  | _ => none }
def CyclePhasesWrongFalsely : Prop := cyclePhasesRow.holds Tryz.pinned (OpenSpec.ofChange cyclePhasesWrong)

/-- 'commonagelaw22.CycleFrees': WHATEVER THE INPUT: true; the input reads as it did. -/
def cycleFreesSpec : ChangeSpec := { name := "cycleFrees", fn := fun _ => fun
  | [d1, d2, d3] => { results := [.lit (.bool true)], args := [d1, d2, d3] }
  | _ => none }
def cycleFreesRow : OpenClaim := { program := "ytldomapkmopomaagreatdoor", sum := "0ff29721ada4fffcf8d7b0e8294dc0e13a7246edeb48867d6194ff09c0884eab", func := "commonage/commonagelaw22.CycleFrees", spec := "cycleFrees", unfollowed := true, recurses := true, named := ["commonage/head.widths", "math/bits.deBruijn64tab"], apart := false, laid := [("math/bits.deBruijn64tab", laid_math_bits_deBruijn64tab), ("commonage/head.widths", laid_commonage_head_widths)] }
def CycleFreesSaid : Prop := cycleFreesRow.holds Tryz.pinned (OpenSpec.ofChange cycleFreesSpec)

/-- ITS FALSE NEIGHBOUR: 'it returns false'. Refute it at one input. -/
def cycleFreesWrong : ChangeSpec := { name := "cycleFrees", fn := fun _ => fun
  | [d1, d2, d3] => { results := [.lit (.bool false)], args := [d1, d2, d3] }
  | _ => none }
def CycleFreesWrongFalsely : Prop := cycleFreesRow.holds Tryz.pinned (OpenSpec.ofChange cycleFreesWrong)

/-- 'commonagelaw22.CyclePlays': WHATEVER THE INPUT: true; the input reads as it did. -/
def cyclePlaysSpec : ChangeSpec := { name := "cyclePlays", fn := fun _ => fun
  | [d1, d2, d3] => { results := [.lit (.bool true)], args := [d1, d2, d3] }
  | _ => none }
def cyclePlaysRow : OpenClaim := { program := "ytldomapkmopomaagreatdoor", sum := "0ff29721ada4fffcf8d7b0e8294dc0e13a7246edeb48867d6194ff09c0884eab", func := "commonage/commonagelaw22.CyclePlays", spec := "cyclePlays", unfollowed := true, recurses := true, named := ["commonage/head.widths", "math/bits.deBruijn64tab"], apart := false, laid := [("math/bits.deBruijn64tab", laid_math_bits_deBruijn64tab), ("commonage/head.widths", laid_commonage_head_widths)] }
def CyclePlaysSaid : Prop := cyclePlaysRow.holds Tryz.pinned (OpenSpec.ofChange cyclePlaysSpec)

/-- ITS FALSE NEIGHBOUR: 'it returns false'. Refute it at one input. -/
def cyclePlaysWrong : ChangeSpec := { name := "cyclePlays", fn := fun _ => fun
  | [d1, d2, d3] => { results := [.lit (.bool false)], args := [d1, d2, d3] }
  | _ => none }
def CyclePlaysWrongFalsely : Prop := cyclePlaysRow.holds Tryz.pinned (OpenSpec.ofChange cyclePlaysWrong)

/- THE SECOND FORM. 'bulk': how many values and letters a reading holds, each counted each time it is reached (what is shared counts as often as it is met; a slice's spare places count too). A statement '..UptoSaid' is the law's where the arguments, and the package variables that the reading takes, are together of bulk at most 1048576: NARROWER than '..Said'. Prove '..Said' where nothing that the law and all that it calls make is longer than what came in: it says more and counts as full. Else prove '..UptoSaid'. A law counts once. -/
mutual
def uptoBulk {H : Type} : DataW H → Nat
  | .lit (.string bytes) => bytes.length + 1
  | .lit _ => 1
  | .nil => 1
  | .ptr d => uptoBulk d + 1
  | .slice elems spare => uptoBulkAll elems + uptoBulkAll spare + 1
  | .agg parts => uptoBulkAll parts + 1
  | .iface _ d => uptoBulk d + 1
  | .map entries => uptoBulkEntries entries + 1
  | .held _ => 1
def uptoBulkAll {H : Type} : List (DataW H) → Nat
  | [] => 0
  | d :: r => uptoBulk d + uptoBulkAll r
def uptoBulkEntries {H : Type} : List (Lit × DataW H) → Nat
  | [] => 0
  | x :: r => uptoBulkEntry x + uptoBulkEntries r
def uptoBulkEntry {H : Type} : Lit × DataW H → Nat
  | (.string bytes, d) => bytes.length + uptoBulk d + 1
  | (_, d) => uptoBulk d + 1
 end
def uptoSmall : (H : Type) → List (DataW H) → Bool := fun _ ds => decide (uptoBulkAll ds ≤ 1048576)
def OpenSpec.upto (s : _root_.Go.ChangeSpec) : _root_.Go.OpenSpec := { _root_.Go.OpenSpec.ofChange s with cond := some uptoSmall }

/-- 'commonagelaw22.CycleNone', WHERE WHAT IT READS IS OF BULK AT MOST 1048576: true; the input reads as it did. -/
def cycleNoneUptoRow : OpenClaim := { program := "ytldomapkmopomaagreatdoor", sum := "0ff29721ada4fffcf8d7b0e8294dc0e13a7246edeb48867d6194ff09c0884eab", func := "commonage/commonagelaw22.CycleNone", spec := "cycleNone", unfollowed := true, recurses := true, named := ["commonage/head.widths", "math/bits.deBruijn64tab"], apart := false, laid := [("math/bits.deBruijn64tab", laid_math_bits_deBruijn64tab), ("commonage/head.widths", laid_commonage_head_widths)], narrowed := true }
def CycleNoneUptoSaid : Prop := cycleNoneUptoRow.holds Tryz.pinned (OpenSpec.upto cycleNoneSpec)

/-- 'commonagelaw22.CycleSame', WHERE WHAT IT READS IS OF BULK AT MOST 1048576: true; the input reads as it did. -/
def cycleSameUptoRow : OpenClaim := { program := "ytldomapkmopomaagreatdoor", sum := "0ff29721ada4fffcf8d7b0e8294dc0e13a7246edeb48867d6194ff09c0884eab", func := "commonage/commonagelaw22.CycleSame", spec := "cycleSame", unfollowed := true, recurses := true, named := ["commonage/head.widths", "math/bits.deBruijn64tab"], apart := false, laid := [("math/bits.deBruijn64tab", laid_math_bits_deBruijn64tab), ("commonage/head.widths", laid_commonage_head_widths)], narrowed := true }
def CycleSameUptoSaid : Prop := cycleSameUptoRow.holds Tryz.pinned (OpenSpec.upto cycleSameSpec)

/-- 'commonagelaw22.CycleTwice', WHERE WHAT IT READS IS OF BULK AT MOST 1048576: true; the input reads as it did. -/
def cycleTwiceUptoRow : OpenClaim := { program := "ytldomapkmopomaagreatdoor", sum := "0ff29721ada4fffcf8d7b0e8294dc0e13a7246edeb48867d6194ff09c0884eab", func := "commonage/commonagelaw22.CycleTwice", spec := "cycleTwice", unfollowed := true, recurses := true, named := ["commonage/head.widths", "math/bits.deBruijn64tab"], apart := false, laid := [("math/bits.deBruijn64tab", laid_math_bits_deBruijn64tab), ("commonage/head.widths", laid_commonage_head_widths)], narrowed := true }
def CycleTwiceUptoSaid : Prop := cycleTwiceUptoRow.holds Tryz.pinned (OpenSpec.upto cycleTwiceSpec)

/-- 'commonagelaw22.CycleKeeps', WHERE WHAT IT READS IS OF BULK AT MOST 1048576: true; the input reads as it did. -/
def cycleKeepsUptoRow : OpenClaim := { program := "ytldomapkmopomaagreatdoor", sum := "0ff29721ada4fffcf8d7b0e8294dc0e13a7246edeb48867d6194ff09c0884eab", func := "commonage/commonagelaw22.CycleKeeps", spec := "cycleKeeps", unfollowed := true, recurses := true, named := ["commonage/head.widths", "math/bits.deBruijn64tab"], apart := false, laid := [("math/bits.deBruijn64tab", laid_math_bits_deBruijn64tab), ("commonage/head.widths", laid_commonage_head_widths)], narrowed := true }
def CycleKeepsUptoSaid : Prop := cycleKeepsUptoRow.holds Tryz.pinned (OpenSpec.upto cycleKeepsSpec)

/-- 'commonagelaw22.CyclePhases', WHERE WHAT IT READS IS OF BULK AT MOST 1048576: true; the input reads as it did. -/
def cyclePhasesUptoRow : OpenClaim := { program := "ytldomapkmopomaagreatdoor", sum := "0ff29721ada4fffcf8d7b0e8294dc0e13a7246edeb48867d6194ff09c0884eab", func := "commonage/commonagelaw22.CyclePhases", spec := "cyclePhases", unfollowed := true, recurses := true, named := ["commonage/head.widths", "math/bits.deBruijn64tab"], apart := false, laid := [("math/bits.deBruijn64tab", laid_math_bits_deBruijn64tab), ("commonage/head.widths", laid_commonage_head_widths)], narrowed := true }
def CyclePhasesUptoSaid : Prop := cyclePhasesUptoRow.holds Tryz.pinned (OpenSpec.upto cyclePhasesSpec)

/-- 'commonagelaw22.CycleFrees', WHERE WHAT IT READS IS OF BULK AT MOST 1048576: true; the input reads as it did. -/
def cycleFreesUptoRow : OpenClaim := { program := "ytldomapkmopomaagreatdoor", sum := "0ff29721ada4fffcf8d7b0e8294dc0e13a7246edeb48867d6194ff09c0884eab", func := "commonage/commonagelaw22.CycleFrees", spec := "cycleFrees", unfollowed := true, recurses := true, named := ["commonage/head.widths", "math/bits.deBruijn64tab"], apart := false, laid := [("math/bits.deBruijn64tab", laid_math_bits_deBruijn64tab), ("commonage/head.widths", laid_commonage_head_widths)], narrowed := true }
def CycleFreesUptoSaid : Prop := cycleFreesUptoRow.holds Tryz.pinned (OpenSpec.upto cycleFreesSpec)

/-- 'commonagelaw22.CyclePlays', WHERE WHAT IT READS IS OF BULK AT MOST 1048576: true; the input reads as it did. -/
def cyclePlaysUptoRow : OpenClaim := { program := "ytldomapkmopomaagreatdoor", sum := "0ff29721ada4fffcf8d7b0e8294dc0e13a7246edeb48867d6194ff09c0884eab", func := "commonage/commonagelaw22.CyclePlays", spec := "cyclePlays", unfollowed := true, recurses := true, named := ["commonage/head.widths", "math/bits.deBruijn64tab"], apart := false, laid := [("math/bits.deBruijn64tab", laid_math_bits_deBruijn64tab), ("commonage/head.widths", laid_commonage_head_widths)], narrowed := true }
def CyclePlaysUptoSaid : Prop := cyclePlaysUptoRow.holds Tryz.pinned (OpenSpec.upto cyclePlaysSpec)

end Rows
end Go.Proofs.YtldomapkmopomaaGreatDoor
