/-
  NARROWER THAN 'FOR EVERY INPUT', by the rows' own cells (each row's printed sentence says how): FarmApart: laid · FarmAlone: laid · FarmWorkers: laid · FarmAssists: laid · FarmRegions: laid · FarmUsed: laid · FarmRests: laid · MachineApart: laid · MachineForged: laid · MachineSwaps: laid · MachineIdle: laid · MachineWrong: laid.
  DERIVED. THE GIVEN ROWS OF THIS SEAT. 12 by the template 'for every input the law returns true; each argument reads behind the call as it read before'; 0 by the template 'total and deterministic' (their statements: YtebiafomiemgbaaGreatDoorTotals.lean).
  GIVEN WITH THE SEED: the statements are not yours to turn. If you find one false, say at which input.
  Laid BY PROGRAM, IN A SANDBOX (cutbox-rows.mjs): the forced cells as the released guide's own fill.sh prints them over the translation 730104898ba0c649… (all of the seat's roots in one cut). By AI agents, Wed Nov 11 2026. No macro, syntax, notation, axiom, sorry.
-/
import Derived.Test.YtebiafomiemgbaaGreatDoorChecked
import GoSem.Claim
import GoSem.ClaimJoined
import GoSem.ClaimMapViews
import Derived.JoinedTies
import Derived.KernelRfl
namespace Go.Proofs.YtebiafomiemgbaaGreatDoor
/- THE CELL 'sum', in the pinned program and in every row, IS THE sha256 OF THE DUMP (.gsa) THAT YtebiafomiemgbaaGreatDoorProg.lean LOADS. Nothing in Lean hashes anything: it is a label: what it is worth is what the hold of that sum in a sandbox is worth. -/
noncomputable def Tryz.pinned : Pinned := { name := "ytebiafomiemgbaagreatdoor", sum := "730104898ba0c649ba00720fec4be6c591d48052a3f8514294c3332c9ac58c92", checked := Tryz.checked }
namespace Rows
def none {H : Type} : Left H := { results := [], args := [] }

/- WHAT THE LISTED PACKAGE-LEVEL VARIABLES READ AS WHEN THE CALL BEGINS. Each datum BY PROGRAM (the guide's laid-datum.mjs) off the statement by which the dump's own 'gosem.cut.vars' lays the variable. In a bare row this is a premise. The card (YtebiafomiemgbaaGreatDoorCards.lean) ties it to the program's text. -/
def laid_math_bits_deBruijn64tab {H : Type} : DataW H := .agg [.lit (.int .u8 0), .lit (.int .u8 1), .lit (.int .u8 56), .lit (.int .u8 2), .lit (.int .u8 57), .lit (.int .u8 49), .lit (.int .u8 28), .lit (.int .u8 3), .lit (.int .u8 61), .lit (.int .u8 58), .lit (.int .u8 42), .lit (.int .u8 50), .lit (.int .u8 38), .lit (.int .u8 29), .lit (.int .u8 17), .lit (.int .u8 4), .lit (.int .u8 62), .lit (.int .u8 47), .lit (.int .u8 59), .lit (.int .u8 36), .lit (.int .u8 45), .lit (.int .u8 43), .lit (.int .u8 51), .lit (.int .u8 22), .lit (.int .u8 53), .lit (.int .u8 39), .lit (.int .u8 33), .lit (.int .u8 30), .lit (.int .u8 24), .lit (.int .u8 18), .lit (.int .u8 12), .lit (.int .u8 5), .lit (.int .u8 63), .lit (.int .u8 55), .lit (.int .u8 48), .lit (.int .u8 27), .lit (.int .u8 60), .lit (.int .u8 41), .lit (.int .u8 37), .lit (.int .u8 16), .lit (.int .u8 46), .lit (.int .u8 35), .lit (.int .u8 44), .lit (.int .u8 21), .lit (.int .u8 52), .lit (.int .u8 32), .lit (.int .u8 23), .lit (.int .u8 11), .lit (.int .u8 54), .lit (.int .u8 26), .lit (.int .u8 40), .lit (.int .u8 15), .lit (.int .u8 34), .lit (.int .u8 20), .lit (.int .u8 31), .lit (.int .u8 10), .lit (.int .u8 25), .lit (.int .u8 14), .lit (.int .u8 19), .lit (.int .u8 9), .lit (.int .u8 13), .lit (.int .u8 8), .lit (.int .u8 7), .lit (.int .u8 6)]
def laid_commonage_head_widths {H : Type} : DataW H := .agg [.lit (.int .i64 16), .lit (.int .i64 16), .lit (.int .i64 16), .lit (.int .i64 8), .lit (.int .i64 8)]

/-- 'commonagelaw24.FarmApart': WHATEVER THE INPUT: true; the input reads as it did. -/
def farmApartSpec : ChangeSpec := { name := "farmApart", fn := fun _ => fun
  | [d1, d2, d3] => { results := [.lit (.bool true)], args := [d1, d2, d3] }
  | _ => none }
def farmApartRow : OpenClaim := { program := "ytebiafomiemgbaagreatdoor", sum := "730104898ba0c649ba00720fec4be6c591d48052a3f8514294c3332c9ac58c92", func := "commonage/commonagelaw24.FarmApart", spec := "farmApart", inPlace := ["math.Float64frombits", "math.Float64bits"], unfollowed := true, recurses := true, named := ["commonage/head.widths", "math/bits.deBruijn64tab"], apart := false, laid := [("math/bits.deBruijn64tab", laid_math_bits_deBruijn64tab), ("commonage/head.widths", laid_commonage_head_widths)] }
def FarmApartSaid : Prop := farmApartRow.holds Tryz.pinned (OpenSpec.ofChange farmApartSpec)

/-- ITS FALSE NEIGHBOUR: 'it returns false'. Refute it at one input. -/
def farmApartWrong : ChangeSpec := { name := "farmApart", fn := fun _ => fun
  | [d1, d2, d3] => { results := [.lit (.bool false)], args := [d1, d2, d3] }
  | _ => none }
def FarmApartWrongFalsely : Prop := farmApartRow.holds Tryz.pinned (OpenSpec.ofChange farmApartWrong)

/-- 'commonagelaw24.FarmAlone': WHATEVER THE INPUT: true; the input reads as it did. -/
def farmAloneSpec : ChangeSpec := { name := "farmAlone", fn := fun _ => fun
  | [d1, d2] => { results := [.lit (.bool true)], args := [d1, d2] }
  | _ => none }
def farmAloneRow : OpenClaim := { program := "ytebiafomiemgbaagreatdoor", sum := "730104898ba0c649ba00720fec4be6c591d48052a3f8514294c3332c9ac58c92", func := "commonage/commonagelaw24.FarmAlone", spec := "farmAlone", inPlace := ["math.Float64frombits", "math.Float64bits"], unfollowed := true, recurses := true, named := ["commonage/head.widths", "math/bits.deBruijn64tab"], apart := false, laid := [("math/bits.deBruijn64tab", laid_math_bits_deBruijn64tab), ("commonage/head.widths", laid_commonage_head_widths)] }
def FarmAloneSaid : Prop := farmAloneRow.holds Tryz.pinned (OpenSpec.ofChange farmAloneSpec)

/-- ITS FALSE NEIGHBOUR: 'it returns false'. Refute it at one input. -/
def farmAloneWrong : ChangeSpec := { name := "farmAlone", fn := fun _ => fun
  | [d1, d2] => { results := [.lit (.bool false)], args := [d1, d2] }
  | _ => none }
def FarmAloneWrongFalsely : Prop := farmAloneRow.holds Tryz.pinned (OpenSpec.ofChange farmAloneWrong)

/-- 'commonagelaw24.FarmWorkers': WHATEVER THE INPUT: true; the input reads as it did. -/
def farmWorkersSpec : ChangeSpec := { name := "farmWorkers", fn := fun _ => fun
  | [d1, d2] => { results := [.lit (.bool true)], args := [d1, d2] }
  | _ => none }
def farmWorkersRow : OpenClaim := { program := "ytebiafomiemgbaagreatdoor", sum := "730104898ba0c649ba00720fec4be6c591d48052a3f8514294c3332c9ac58c92", func := "commonage/commonagelaw24.FarmWorkers", spec := "farmWorkers", inPlace := ["math.Float64frombits", "math.Float64bits"], unfollowed := true, recurses := true, named := ["commonage/head.widths", "math/bits.deBruijn64tab"], apart := false, laid := [("math/bits.deBruijn64tab", laid_math_bits_deBruijn64tab), ("commonage/head.widths", laid_commonage_head_widths)] }
def FarmWorkersSaid : Prop := farmWorkersRow.holds Tryz.pinned (OpenSpec.ofChange farmWorkersSpec)

/-- ITS FALSE NEIGHBOUR: 'it returns false'. Refute it at one input. -/
def farmWorkersWrong : ChangeSpec := { name := "farmWorkers", fn := fun _ => fun
  | [d1, d2] => { results := [.lit (.bool false)], args := [d1, d2] }
  | _ => none }
def FarmWorkersWrongFalsely : Prop := farmWorkersRow.holds Tryz.pinned (OpenSpec.ofChange farmWorkersWrong)

/-- 'commonagelaw24.FarmAssists': WHATEVER THE INPUT: true; the input reads as it did. -/
def farmAssistsSpec : ChangeSpec := { name := "farmAssists", fn := fun _ => fun
  | [d1, d2, d3] => { results := [.lit (.bool true)], args := [d1, d2, d3] }
  | _ => none }
def farmAssistsRow : OpenClaim := { program := "ytebiafomiemgbaagreatdoor", sum := "730104898ba0c649ba00720fec4be6c591d48052a3f8514294c3332c9ac58c92", func := "commonage/commonagelaw24.FarmAssists", spec := "farmAssists", inPlace := ["math.Float64frombits", "math.Float64bits"], unfollowed := true, recurses := true, named := ["commonage/head.widths", "math/bits.deBruijn64tab"], apart := false, laid := [("math/bits.deBruijn64tab", laid_math_bits_deBruijn64tab), ("commonage/head.widths", laid_commonage_head_widths)] }
def FarmAssistsSaid : Prop := farmAssistsRow.holds Tryz.pinned (OpenSpec.ofChange farmAssistsSpec)

/-- ITS FALSE NEIGHBOUR: 'it returns false'. Refute it at one input. -/
def farmAssistsWrong : ChangeSpec := { name := "farmAssists", fn := fun _ => fun
  | [d1, d2, d3] => { results := [.lit (.bool false)], args := [d1, d2, d3] }
  | _ => none }
def FarmAssistsWrongFalsely : Prop := farmAssistsRow.holds Tryz.pinned (OpenSpec.ofChange farmAssistsWrong)

/-- 'commonagelaw24.FarmRegions': WHATEVER THE INPUT: true; the input reads as it did. -/
def farmRegionsSpec : ChangeSpec := { name := "farmRegions", fn := fun _ => fun
  | [d1, d2] => { results := [.lit (.bool true)], args := [d1, d2] }
  | _ => none }
def farmRegionsRow : OpenClaim := { program := "ytebiafomiemgbaagreatdoor", sum := "730104898ba0c649ba00720fec4be6c591d48052a3f8514294c3332c9ac58c92", func := "commonage/commonagelaw24.FarmRegions", spec := "farmRegions", inPlace := ["math.Float64frombits", "math.Float64bits"], unfollowed := true, recurses := true, named := ["commonage/head.widths", "math/bits.deBruijn64tab"], apart := false, laid := [("math/bits.deBruijn64tab", laid_math_bits_deBruijn64tab), ("commonage/head.widths", laid_commonage_head_widths)] }
def FarmRegionsSaid : Prop := farmRegionsRow.holds Tryz.pinned (OpenSpec.ofChange farmRegionsSpec)

/-- ITS FALSE NEIGHBOUR: 'it returns false'. Refute it at one input. -/
def farmRegionsWrong : ChangeSpec := { name := "farmRegions", fn := fun _ => fun
  | [d1, d2] => { results := [.lit (.bool false)], args := [d1, d2] }
  | _ => none }
def FarmRegionsWrongFalsely : Prop := farmRegionsRow.holds Tryz.pinned (OpenSpec.ofChange farmRegionsWrong)

/-- 'commonagelaw24.FarmUsed': WHATEVER THE INPUT: true; the input reads as it did. -/
def farmUsedSpec : ChangeSpec := { name := "farmUsed", fn := fun _ => fun
  | [d1, d2] => { results := [.lit (.bool true)], args := [d1, d2] }
  | _ => none }
def farmUsedRow : OpenClaim := { program := "ytebiafomiemgbaagreatdoor", sum := "730104898ba0c649ba00720fec4be6c591d48052a3f8514294c3332c9ac58c92", func := "commonage/commonagelaw24.FarmUsed", spec := "farmUsed", inPlace := ["math.Float64frombits", "math.Float64bits"], unfollowed := true, recurses := true, named := ["commonage/head.widths", "math/bits.deBruijn64tab"], apart := false, laid := [("math/bits.deBruijn64tab", laid_math_bits_deBruijn64tab), ("commonage/head.widths", laid_commonage_head_widths)] }
def FarmUsedSaid : Prop := farmUsedRow.holds Tryz.pinned (OpenSpec.ofChange farmUsedSpec)

/-- ITS FALSE NEIGHBOUR: 'it returns false'. Refute it at one input. -/
def farmUsedWrong : ChangeSpec := { name := "farmUsed", fn := fun _ => fun
  | [d1, d2] => { results := [.lit (.bool false)], args := [d1, d2] }
  | _ => none }
def FarmUsedWrongFalsely : Prop := farmUsedRow.holds Tryz.pinned (OpenSpec.ofChange farmUsedWrong)

/-- 'commonagelaw24.FarmRests': WHATEVER THE INPUT: true; the input reads as it did. -/
def farmRestsSpec : ChangeSpec := { name := "farmRests", fn := fun _ => fun
  | [d1, d2, d3] => { results := [.lit (.bool true)], args := [d1, d2, d3] }
  | _ => none }
def farmRestsRow : OpenClaim := { program := "ytebiafomiemgbaagreatdoor", sum := "730104898ba0c649ba00720fec4be6c591d48052a3f8514294c3332c9ac58c92", func := "commonage/commonagelaw24.FarmRests", spec := "farmRests", inPlace := ["math.Float64frombits", "math.Float64bits"], unfollowed := true, recurses := true, named := ["commonage/head.widths", "math/bits.deBruijn64tab"], apart := false, laid := [("math/bits.deBruijn64tab", laid_math_bits_deBruijn64tab), ("commonage/head.widths", laid_commonage_head_widths)] }
def FarmRestsSaid : Prop := farmRestsRow.holds Tryz.pinned (OpenSpec.ofChange farmRestsSpec)

/-- ITS FALSE NEIGHBOUR: 'it returns false'. Refute it at one input. -/
def farmRestsWrong : ChangeSpec := { name := "farmRests", fn := fun _ => fun
  | [d1, d2, d3] => { results := [.lit (.bool false)], args := [d1, d2, d3] }
  | _ => none }
def FarmRestsWrongFalsely : Prop := farmRestsRow.holds Tryz.pinned (OpenSpec.ofChange farmRestsWrong)

/-- 'commonagelaw27.MachineApart': WHATEVER THE INPUT: true; the input reads as it did. -/
def machineApartSpec : ChangeSpec := { name := "machineApart", fn := fun _ => fun
  | [d1, d2, d3] => { results := [.lit (.bool true)], args := [d1, d2, d3] }
  | _ => none }
def machineApartRow : OpenClaim := { program := "ytebiafomiemgbaagreatdoor", sum := "730104898ba0c649ba00720fec4be6c591d48052a3f8514294c3332c9ac58c92", func := "commonage/commonagelaw27.MachineApart", spec := "machineApart", inPlace := ["math.Float64frombits", "math.Float64bits"], unfollowed := true, recurses := true, named := ["commonage/head.widths", "math/bits.deBruijn64tab"], apart := false, laid := [("math/bits.deBruijn64tab", laid_math_bits_deBruijn64tab), ("commonage/head.widths", laid_commonage_head_widths)] }
def MachineApartSaid : Prop := machineApartRow.holds Tryz.pinned (OpenSpec.ofChange machineApartSpec)

/-- ITS FALSE NEIGHBOUR: 'it returns false'. Refute it at one input. -/
def machineApartWrong : ChangeSpec := { name := "machineApart", fn := fun _ => fun
  | [d1, d2, d3] => { results := [.lit (.bool false)], args := [d1, d2, d3] }
  | _ => none }
def MachineApartWrongFalsely : Prop := machineApartRow.holds Tryz.pinned (OpenSpec.ofChange machineApartWrong)

/-- 'commonagelaw27.MachineForged': WHATEVER THE INPUT: true; the input reads as it did. -/
def machineForgedSpec : ChangeSpec := { name := "machineForged", fn := fun _ => fun
  | [d1, d2, d3] => { results := [.lit (.bool true)], args := [d1, d2, d3] }
  | _ => none }
def machineForgedRow : OpenClaim := { program := "ytebiafomiemgbaagreatdoor", sum := "730104898ba0c649ba00720fec4be6c591d48052a3f8514294c3332c9ac58c92", func := "commonage/commonagelaw27.MachineForged", spec := "machineForged", inPlace := ["math.Float64frombits", "math.Float64bits"], unfollowed := true, recurses := true, named := ["commonage/head.widths", "math/bits.deBruijn64tab"], apart := false, laid := [("math/bits.deBruijn64tab", laid_math_bits_deBruijn64tab), ("commonage/head.widths", laid_commonage_head_widths)] }
def MachineForgedSaid : Prop := machineForgedRow.holds Tryz.pinned (OpenSpec.ofChange machineForgedSpec)

/-- ITS FALSE NEIGHBOUR: 'it returns false'. Refute it at one input. -/
def machineForgedWrong : ChangeSpec := { name := "machineForged", fn := fun _ => fun
  | [d1, d2, d3] => { results := [.lit (.bool false)], args := [d1, d2, d3] }
  | _ => none }
def MachineForgedWrongFalsely : Prop := machineForgedRow.holds Tryz.pinned (OpenSpec.ofChange machineForgedWrong)

/-- 'commonagelaw27.MachineSwaps': WHATEVER THE INPUT: true; the input reads as it did. -/
def machineSwapsSpec : ChangeSpec := { name := "machineSwaps", fn := fun _ => fun
  | [d1, d2, d3] => { results := [.lit (.bool true)], args := [d1, d2, d3] }
  | _ => none }
def machineSwapsRow : OpenClaim := { program := "ytebiafomiemgbaagreatdoor", sum := "730104898ba0c649ba00720fec4be6c591d48052a3f8514294c3332c9ac58c92", func := "commonage/commonagelaw27.MachineSwaps", spec := "machineSwaps", inPlace := ["math.Float64frombits", "math.Float64bits"], unfollowed := true, recurses := true, named := ["commonage/head.widths", "math/bits.deBruijn64tab"], apart := false, laid := [("math/bits.deBruijn64tab", laid_math_bits_deBruijn64tab), ("commonage/head.widths", laid_commonage_head_widths)] }
def MachineSwapsSaid : Prop := machineSwapsRow.holds Tryz.pinned (OpenSpec.ofChange machineSwapsSpec)

/-- ITS FALSE NEIGHBOUR: 'it returns false'. Refute it at one input. -/
def machineSwapsWrong : ChangeSpec := { name := "machineSwaps", fn := fun _ => fun
  | [d1, d2, d3] => { results := [.lit (.bool false)], args := [d1, d2, d3] }
  | _ => none }
def MachineSwapsWrongFalsely : Prop := machineSwapsRow.holds Tryz.pinned (OpenSpec.ofChange machineSwapsWrong)

/-- 'commonagelaw27.MachineIdle': WHATEVER THE INPUT: true; the input reads as it did. -/
def machineIdleSpec : ChangeSpec := { name := "machineIdle", fn := fun _ => fun
  | [d1, d2] => { results := [.lit (.bool true)], args := [d1, d2] }
  | _ => none }
def machineIdleRow : OpenClaim := { program := "ytebiafomiemgbaagreatdoor", sum := "730104898ba0c649ba00720fec4be6c591d48052a3f8514294c3332c9ac58c92", func := "commonage/commonagelaw27.MachineIdle", spec := "machineIdle", inPlace := ["math.Float64frombits", "math.Float64bits"], unfollowed := true, recurses := true, named := ["commonage/head.widths", "math/bits.deBruijn64tab"], apart := false, laid := [("math/bits.deBruijn64tab", laid_math_bits_deBruijn64tab), ("commonage/head.widths", laid_commonage_head_widths)] }
def MachineIdleSaid : Prop := machineIdleRow.holds Tryz.pinned (OpenSpec.ofChange machineIdleSpec)

/-- ITS FALSE NEIGHBOUR: 'it returns false'. Refute it at one input. -/
def machineIdleWrong : ChangeSpec := { name := "machineIdle", fn := fun _ => fun
  | [d1, d2] => { results := [.lit (.bool false)], args := [d1, d2] }
  | _ => none }
def MachineIdleWrongFalsely : Prop := machineIdleRow.holds Tryz.pinned (OpenSpec.ofChange machineIdleWrong)

/-- 'commonagelaw27.MachineWrong': WHATEVER THE INPUT: true; the input reads as it did. -/
def machineWrongSpec : ChangeSpec := { name := "machineWrong", fn := fun _ => fun
  | [d1, d2, d3] => { results := [.lit (.bool true)], args := [d1, d2, d3] }
  | _ => none }
def machineWrongRow : OpenClaim := { program := "ytebiafomiemgbaagreatdoor", sum := "730104898ba0c649ba00720fec4be6c591d48052a3f8514294c3332c9ac58c92", func := "commonage/commonagelaw27.MachineWrong", spec := "machineWrong", inPlace := ["math.Float64frombits", "math.Float64bits"], unfollowed := true, recurses := true, named := ["commonage/head.widths", "math/bits.deBruijn64tab"], apart := false, laid := [("math/bits.deBruijn64tab", laid_math_bits_deBruijn64tab), ("commonage/head.widths", laid_commonage_head_widths)] }
def MachineWrongSaid : Prop := machineWrongRow.holds Tryz.pinned (OpenSpec.ofChange machineWrongSpec)

/-- ITS FALSE NEIGHBOUR: 'it returns false'. Refute it at one input. -/
def machineWrongWrong : ChangeSpec := { name := "machineWrong", fn := fun _ => fun
  | [d1, d2, d3] => { results := [.lit (.bool false)], args := [d1, d2, d3] }
  | _ => none }
def MachineWrongWrongFalsely : Prop := machineWrongRow.holds Tryz.pinned (OpenSpec.ofChange machineWrongWrong)

/- THE SECOND FORM. 'bulk': how many values and letters a reading holds, each counted each time it is reached (what is shared counts as often as it is met; a slice's spare places count too). A statement '..UptoSaid' is the law's where the arguments, and the package variables that the reading takes, are together of bulk at most 1048576: NARROWER than '..Said'. Prove '..Said' where nothing that the law and all that it calls make is longer than what came in: it says more and counts as full. Else prove '..UptoSaid'. A law counts once. -/
mutual
def uptoBulk {H : Type} : DataW H → Nat
  | .lit (.string bytes) => bytes.length + 1
  | .lit _ => 1
  | .nil => 1
  | .ptr d => uptoBulk d + 1
  | .slice elems spare => uptoBulkAll elems + uptoBulkAll spare + 1
  | .agg parts => uptoBulkAll parts + 1
  | .iface _ d => uptoBulk d + 1
  | .map entries => uptoBulkEntries entries + 1
  | .held _ => 1
def uptoBulkAll {H : Type} : List (DataW H) → Nat
  | [] => 0
  | d :: r => uptoBulk d + uptoBulkAll r
def uptoBulkEntries {H : Type} : List (Lit × DataW H) → Nat
  | [] => 0
  | x :: r => uptoBulkEntry x + uptoBulkEntries r
def uptoBulkEntry {H : Type} : Lit × DataW H → Nat
  | (.string bytes, d) => bytes.length + uptoBulk d + 1
  | (_, d) => uptoBulk d + 1
 end
def uptoSmall : (H : Type) → List (DataW H) → Bool := fun _ ds => decide (uptoBulkAll ds ≤ 1048576)
def OpenSpec.upto (s : _root_.Go.ChangeSpec) : _root_.Go.OpenSpec := { _root_.Go.OpenSpec.ofChange s with cond := some uptoSmall }

/-- 'commonagelaw24.FarmApart', WHERE WHAT IT READS IS OF BULK AT MOST 1048576: true; the input reads as it did. -/
def farmApartUptoRow : OpenClaim := { program := "ytebiafomiemgbaagreatdoor", sum := "730104898ba0c649ba00720fec4be6c591d48052a3f8514294c3332c9ac58c92", func := "commonage/commonagelaw24.FarmApart", spec := "farmApart", inPlace := ["math.Float64frombits", "math.Float64bits"], unfollowed := true, recurses := true, named := ["commonage/head.widths", "math/bits.deBruijn64tab"], apart := false, laid := [("math/bits.deBruijn64tab", laid_math_bits_deBruijn64tab), ("commonage/head.widths", laid_commonage_head_widths)], narrowed := true }
def FarmApartUptoSaid : Prop := farmApartUptoRow.holds Tryz.pinned (OpenSpec.upto farmApartSpec)

/-- 'commonagelaw24.FarmAlone', WHERE WHAT IT READS IS OF BULK AT MOST 1048576: true; the input reads as it did. -/
def farmAloneUptoRow : OpenClaim := { program := "ytebiafomiemgbaagreatdoor", sum := "730104898ba0c649ba00720fec4be6c591d48052a3f8514294c3332c9ac58c92", func := "commonage/commonagelaw24.FarmAlone", spec := "farmAlone", inPlace := ["math.Float64frombits", "math.Float64bits"], unfollowed := true, recurses := true, named := ["commonage/head.widths", "math/bits.deBruijn64tab"], apart := false, laid := [("math/bits.deBruijn64tab", laid_math_bits_deBruijn64tab), ("commonage/head.widths", laid_commonage_head_widths)], narrowed := true }
def FarmAloneUptoSaid : Prop := farmAloneUptoRow.holds Tryz.pinned (OpenSpec.upto farmAloneSpec)

/-- 'commonagelaw24.FarmWorkers', WHERE WHAT IT READS IS OF BULK AT MOST 1048576: true; the input reads as it did. -/
def farmWorkersUptoRow : OpenClaim := { program := "ytebiafomiemgbaagreatdoor", sum := "730104898ba0c649ba00720fec4be6c591d48052a3f8514294c3332c9ac58c92", func := "commonage/commonagelaw24.FarmWorkers", spec := "farmWorkers", inPlace := ["math.Float64frombits", "math.Float64bits"], unfollowed := true, recurses := true, named := ["commonage/head.widths", "math/bits.deBruijn64tab"], apart := false, laid := [("math/bits.deBruijn64tab", laid_math_bits_deBruijn64tab), ("commonage/head.widths", laid_commonage_head_widths)], narrowed := true }
def FarmWorkersUptoSaid : Prop := farmWorkersUptoRow.holds Tryz.pinned (OpenSpec.upto farmWorkersSpec)

/-- 'commonagelaw24.FarmAssists', WHERE WHAT IT READS IS OF BULK AT MOST 1048576: true; the input reads as it did. -/
def farmAssistsUptoRow : OpenClaim := { program := "ytebiafomiemgbaagreatdoor", sum := "730104898ba0c649ba00720fec4be6c591d48052a3f8514294c3332c9ac58c92", func := "commonage/commonagelaw24.FarmAssists", spec := "farmAssists", inPlace := ["math.Float64frombits", "math.Float64bits"], unfollowed := true, recurses := true, named := ["commonage/head.widths", "math/bits.deBruijn64tab"], apart := false, laid := [("math/bits.deBruijn64tab", laid_math_bits_deBruijn64tab), ("commonage/head.widths", laid_commonage_head_widths)], narrowed := true }
def FarmAssistsUptoSaid : Prop := farmAssistsUptoRow.holds Tryz.pinned (OpenSpec.upto farmAssistsSpec)

/-- 'commonagelaw24.FarmRegions', WHERE WHAT IT READS IS OF BULK AT MOST 1048576: true; the input reads as it did. -/
def farmRegionsUptoRow : OpenClaim := { program := "ytebiafomiemgbaagreatdoor", sum := "730104898ba0c649ba00720fec4be6c591d48052a3f8514294c3332c9ac58c92", func := "commonage/commonagelaw24.FarmRegions", spec := "farmRegions", inPlace := ["math.Float64frombits", "math.Float64bits"], unfollowed := true, recurses := true, named := ["commonage/head.widths", "math/bits.deBruijn64tab"], apart := false, laid := [("math/bits.deBruijn64tab", laid_math_bits_deBruijn64tab), ("commonage/head.widths", laid_commonage_head_widths)], narrowed := true }
def FarmRegionsUptoSaid : Prop := farmRegionsUptoRow.holds Tryz.pinned (OpenSpec.upto farmRegionsSpec)

/-- 'commonagelaw24.FarmUsed', WHERE WHAT IT READS IS OF BULK AT MOST 1048576: true; the input reads as it did. -/
def farmUsedUptoRow : OpenClaim := { program := "ytebiafomiemgbaagreatdoor", sum := "730104898ba0c649ba00720fec4be6c591d48052a3f8514294c3332c9ac58c92", func := "commonage/commonagelaw24.FarmUsed", spec := "farmUsed", inPlace := ["math.Float64frombits", "math.Float64bits"], unfollowed := true, recurses := true, named := ["commonage/head.widths", "math/bits.deBruijn64tab"], apart := false, laid := [("math/bits.deBruijn64tab", laid_math_bits_deBruijn64tab), ("commonage/head.widths", laid_commonage_head_widths)], narrowed := true }
def FarmUsedUptoSaid : Prop := farmUsedUptoRow.holds Tryz.pinned (OpenSpec.upto farmUsedSpec)

/-- 'commonagelaw24.FarmRests', WHERE WHAT IT READS IS OF BULK AT MOST 1048576: true; the input reads as it did. -/
def farmRestsUptoRow : OpenClaim := { program := "ytebiafomiemgbaagreatdoor", sum := "730104898ba0c649ba00720fec4be6c591d48052a3f8514294c3332c9ac58c92", func := "commonage/commonagelaw24.FarmRests", spec := "farmRests", inPlace := ["math.Float64frombits", "math.Float64bits"], unfollowed := true, recurses := true, named := ["commonage/head.widths", "math/bits.deBruijn64tab"], apart := false, laid := [("math/bits.deBruijn64tab", laid_math_bits_deBruijn64tab), ("commonage/head.widths", laid_commonage_head_widths)], narrowed := true }
def FarmRestsUptoSaid : Prop := farmRestsUptoRow.holds Tryz.pinned (OpenSpec.upto farmRestsSpec)

/-- 'commonagelaw27.MachineApart', WHERE WHAT IT READS IS OF BULK AT MOST 1048576: true; the input reads as it did. -/
def machineApartUptoRow : OpenClaim := { program := "ytebiafomiemgbaagreatdoor", sum := "730104898ba0c649ba00720fec4be6c591d48052a3f8514294c3332c9ac58c92", func := "commonage/commonagelaw27.MachineApart", spec := "machineApart", inPlace := ["math.Float64frombits", "math.Float64bits"], unfollowed := true, recurses := true, named := ["commonage/head.widths", "math/bits.deBruijn64tab"], apart := false, laid := [("math/bits.deBruijn64tab", laid_math_bits_deBruijn64tab), ("commonage/head.widths", laid_commonage_head_widths)], narrowed := true }
def MachineApartUptoSaid : Prop := machineApartUptoRow.holds Tryz.pinned (OpenSpec.upto machineApartSpec)

/-- 'commonagelaw27.MachineForged', WHERE WHAT IT READS IS OF BULK AT MOST 1048576: true; the input reads as it did. -/
def machineForgedUptoRow : OpenClaim := { program := "ytebiafomiemgbaagreatdoor", sum := "730104898ba0c649ba00720fec4be6c591d48052a3f8514294c3332c9ac58c92", func := "commonage/commonagelaw27.MachineForged", spec := "machineForged", inPlace := ["math.Float64frombits", "math.Float64bits"], unfollowed := true, recurses := true, named := ["commonage/head.widths", "math/bits.deBruijn64tab"], apart := false, laid := [("math/bits.deBruijn64tab", laid_math_bits_deBruijn64tab), ("commonage/head.widths", laid_commonage_head_widths)], narrowed := true }
def MachineForgedUptoSaid : Prop := machineForgedUptoRow.holds Tryz.pinned (OpenSpec.upto machineForgedSpec)

/-- 'commonagelaw27.MachineSwaps', WHERE WHAT IT READS IS OF BULK AT MOST 1048576: true; the input reads as it did. -/
def machineSwapsUptoRow : OpenClaim := { program := "ytebiafomiemgbaagreatdoor", sum := "730104898ba0c649ba00720fec4be6c591d48052a3f8514294c3332c9ac58c92", func := "commonage/commonagelaw27.MachineSwaps", spec := "machineSwaps", inPlace := ["math.Float64frombits", "math.Float64bits"], unfollowed := true, recurses := true, named := ["commonage/head.widths", "math/bits.deBruijn64tab"], apart := false, laid := [("math/bits.deBruijn64tab", laid_math_bits_deBruijn64tab), ("commonage/head.widths", laid_commonage_head_widths)], narrowed := true }
def MachineSwapsUptoSaid : Prop := machineSwapsUptoRow.holds Tryz.pinned (OpenSpec.upto machineSwapsSpec)

/-- 'commonagelaw27.MachineIdle', WHERE WHAT IT READS IS OF BULK AT MOST 1048576: true; the input reads as it did. -/
def machineIdleUptoRow : OpenClaim := { program := "ytebiafomiemgbaagreatdoor", sum := "730104898ba0c649ba00720fec4be6c591d48052a3f8514294c3332c9ac58c92", func := "commonage/commonagelaw27.MachineIdle", spec := "machineIdle", inPlace := ["math.Float64frombits", "math.Float64bits"], unfollowed := true, recurses := true, named := ["commonage/head.widths", "math/bits.deBruijn64tab"], apart := false, laid := [("math/bits.deBruijn64tab", laid_math_bits_deBruijn64tab), ("commonage/head.widths", laid_commonage_head_widths)], narrowed := true }
def MachineIdleUptoSaid : Prop := machineIdleUptoRow.holds Tryz.pinned (OpenSpec.upto machineIdleSpec)

/-- 'commonagelaw27.MachineWrong', WHERE WHAT IT READS IS OF BULK AT MOST 1048576: true; the input reads as it did. -/
def machineWrongUptoRow : OpenClaim := { program := "ytebiafomiemgbaagreatdoor", sum := "730104898ba0c649ba00720fec4be6c591d48052a3f8514294c3332c9ac58c92", func := "commonage/commonagelaw27.MachineWrong", spec := "machineWrong", inPlace := ["math.Float64frombits", "math.Float64bits"], unfollowed := true, recurses := true, named := ["commonage/head.widths", "math/bits.deBruijn64tab"], apart := false, laid := [("math/bits.deBruijn64tab", laid_math_bits_deBruijn64tab), ("commonage/head.widths", laid_commonage_head_widths)], narrowed := true }
def MachineWrongUptoSaid : Prop := machineWrongUptoRow.holds Tryz.pinned (OpenSpec.upto machineWrongSpec)

end Rows
end Go.Proofs.YtebiafomiemgbaaGreatDoor
