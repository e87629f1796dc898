/-
  NARROWER THAN 'FOR EVERY INPUT', by the rows' own cells (each row's printed sentence says how): HeapStale: laid · HeapApart: laid · HeapPlaces: laid · HeapDrains: laid · HeapZero: laid · HeapNone: laid · HeapRefused: laid · HeapWrites: laid · HeapPinned: laid.
  DERIVED. THE GIVEN ROWS OF THIS SEAT. 9 by the template 'for every input the law returns true; each argument reads behind the call as it read before'; 0 by the template 'total and deterministic' (their statements: YtpcgafhgfjlkmaaGreatDoorTotals.lean).
  GIVEN WITH THE SEED: the statements are not yours to turn. If you find one false, say at which input.
  Laid BY PROGRAM, IN A SANDBOX (cutbox-rows.mjs): the forced cells as the released guide's own fill.sh prints them over the translation 38ec591c3395f47a… (all of the seat's roots in one cut). By AI agents, Wed Nov 11 2026. No macro, syntax, notation, axiom, sorry.
-/
import Derived.Test.YtpcgafhgfjlkmaaGreatDoorChecked
import GoSem.Claim
import GoSem.ClaimJoined
import GoSem.ClaimMapViews
import Derived.JoinedTies
import Derived.KernelRfl
namespace Go.Proofs.YtpcgafhgfjlkmaaGreatDoor
/- THE CELL 'sum', in the pinned program and in every row, IS THE sha256 OF THE DUMP (.gsa) THAT YtpcgafhgfjlkmaaGreatDoorProg.lean LOADS. Nothing in Lean hashes anything: it is a label: what it is worth is what the hold of that sum in a sandbox is worth. -/
noncomputable def Tryz.pinned : Pinned := { name := "ytpcgafhgfjlkmaagreatdoor", sum := "38ec591c3395f47ae6c2b0754887d112ed50e407e1977c3e6f986b2fc02824f7", checked := Tryz.checked }
namespace Rows
def none {H : Type} : Left H := { results := [], args := [] }

/- WHAT THE LISTED PACKAGE-LEVEL VARIABLES READ AS WHEN THE CALL BEGINS. Each datum BY PROGRAM (the guide's laid-datum.mjs) off the statement by which the dump's own 'gosem.cut.vars' lays the variable. In a bare row this is a premise. The card (YtpcgafhgfjlkmaaGreatDoorCards.lean) ties it to the program's text. -/
def laid_math_bits_deBruijn64tab {H : Type} : DataW H := .agg [.lit (.int .u8 0), .lit (.int .u8 1), .lit (.int .u8 56), .lit (.int .u8 2), .lit (.int .u8 57), .lit (.int .u8 49), .lit (.int .u8 28), .lit (.int .u8 3), .lit (.int .u8 61), .lit (.int .u8 58), .lit (.int .u8 42), .lit (.int .u8 50), .lit (.int .u8 38), .lit (.int .u8 29), .lit (.int .u8 17), .lit (.int .u8 4), .lit (.int .u8 62), .lit (.int .u8 47), .lit (.int .u8 59), .lit (.int .u8 36), .lit (.int .u8 45), .lit (.int .u8 43), .lit (.int .u8 51), .lit (.int .u8 22), .lit (.int .u8 53), .lit (.int .u8 39), .lit (.int .u8 33), .lit (.int .u8 30), .lit (.int .u8 24), .lit (.int .u8 18), .lit (.int .u8 12), .lit (.int .u8 5), .lit (.int .u8 63), .lit (.int .u8 55), .lit (.int .u8 48), .lit (.int .u8 27), .lit (.int .u8 60), .lit (.int .u8 41), .lit (.int .u8 37), .lit (.int .u8 16), .lit (.int .u8 46), .lit (.int .u8 35), .lit (.int .u8 44), .lit (.int .u8 21), .lit (.int .u8 52), .lit (.int .u8 32), .lit (.int .u8 23), .lit (.int .u8 11), .lit (.int .u8 54), .lit (.int .u8 26), .lit (.int .u8 40), .lit (.int .u8 15), .lit (.int .u8 34), .lit (.int .u8 20), .lit (.int .u8 31), .lit (.int .u8 10), .lit (.int .u8 25), .lit (.int .u8 14), .lit (.int .u8 19), .lit (.int .u8 9), .lit (.int .u8 13), .lit (.int .u8 8), .lit (.int .u8 7), .lit (.int .u8 6)]
def laid_commonage_head_widths {H : Type} : DataW H := .agg [.lit (.int .i64 16), .lit (.int .i64 16), .lit (.int .i64 16), .lit (.int .i64 8), .lit (.int .i64 8)]

/-- 'commonagelaw23.HeapStale': WHATEVER THE INPUT: true; the input reads as it did. -/
def heapStaleSpec : ChangeSpec := { name := "heapStale", fn := fun _ => fun
  | [d1, d2, d3] => { results := [.lit (.bool true)], args := [d1, d2, d3] }
  | _ => none }
def heapStaleRow : OpenClaim := { program := "ytpcgafhgfjlkmaagreatdoor", sum := "38ec591c3395f47ae6c2b0754887d112ed50e407e1977c3e6f986b2fc02824f7", func := "commonage/commonagelaw23.HeapStale", spec := "heapStale", inPlace := ["math.Float64frombits", "math.Float64bits"], unfollowed := true, recurses := true, named := ["commonage/head.widths", "math/bits.deBruijn64tab"], apart := false, laid := [("math/bits.deBruijn64tab", laid_math_bits_deBruijn64tab), ("commonage/head.widths", laid_commonage_head_widths)] }
def HeapStaleSaid : Prop := heapStaleRow.holds Tryz.pinned (OpenSpec.ofChange heapStaleSpec)

/-- ITS FALSE NEIGHBOUR: 'it returns false'. Refute it at one input. -/
def heapStaleWrong : ChangeSpec := { name := "heapStale", fn := fun _ => fun
  | [d1, d2, d3] => { results := [.lit (.bool false)], args := [d1, d2, d3] }
  | _ => none }
def HeapStaleWrongFalsely : Prop := heapStaleRow.holds Tryz.pinned (OpenSpec.ofChange heapStaleWrong)

/-- 'commonagelaw23.HeapApart': WHATEVER THE INPUT: true; the input reads as it did. -/
def heapApartSpec : ChangeSpec := { name := "heapApart", fn := fun _ => fun
  | [d1, d2, d3] => { results := [.lit (.bool true)], args := [d1, d2, d3] }
  | _ => none }
def heapApartRow : OpenClaim := { program := "ytpcgafhgfjlkmaagreatdoor", sum := "38ec591c3395f47ae6c2b0754887d112ed50e407e1977c3e6f986b2fc02824f7", func := "commonage/commonagelaw23.HeapApart", spec := "heapApart", inPlace := ["math.Float64frombits", "math.Float64bits"], unfollowed := true, recurses := true, named := ["commonage/head.widths", "math/bits.deBruijn64tab"], apart := false, laid := [("math/bits.deBruijn64tab", laid_math_bits_deBruijn64tab), ("commonage/head.widths", laid_commonage_head_widths)] }
def HeapApartSaid : Prop := heapApartRow.holds Tryz.pinned (OpenSpec.ofChange heapApartSpec)

/-- ITS FALSE NEIGHBOUR: 'it returns false'. Refute it at one input. -/
def heapApartWrong : ChangeSpec := { name := "heapApart", fn := fun _ => fun
  | [d1, d2, d3] => { results := [.lit (.bool false)], args := [d1, d2, d3] }
  | _ => none }
def HeapApartWrongFalsely : Prop := heapApartRow.holds Tryz.pinned (OpenSpec.ofChange heapApartWrong)

/-- 'commonagelaw23.HeapPlaces': WHATEVER THE INPUT: true; the input reads as it did. -/
def heapPlacesSpec : ChangeSpec := { name := "heapPlaces", fn := fun _ => fun
  | [d1, d2, d3] => { results := [.lit (.bool true)], args := [d1, d2, d3] }
  | _ => none }
def heapPlacesRow : OpenClaim := { program := "ytpcgafhgfjlkmaagreatdoor", sum := "38ec591c3395f47ae6c2b0754887d112ed50e407e1977c3e6f986b2fc02824f7", func := "commonage/commonagelaw23.HeapPlaces", spec := "heapPlaces", inPlace := ["math.Float64frombits", "math.Float64bits"], unfollowed := true, recurses := true, named := ["commonage/head.widths", "math/bits.deBruijn64tab"], apart := false, laid := [("math/bits.deBruijn64tab", laid_math_bits_deBruijn64tab), ("commonage/head.widths", laid_commonage_head_widths)] }
def HeapPlacesSaid : Prop := heapPlacesRow.holds Tryz.pinned (OpenSpec.ofChange heapPlacesSpec)

/-- ITS FALSE NEIGHBOUR: 'it returns false'. Refute it at one input. -/
def heapPlacesWrong : ChangeSpec := { name := "heapPlaces", fn := fun _ => fun
  | [d1, d2, d3] => { results := [.lit (.bool false)], args := [d1, d2, d3] }
  | _ => none }
def HeapPlacesWrongFalsely : Prop := heapPlacesRow.holds Tryz.pinned (OpenSpec.ofChange heapPlacesWrong)

/-- 'commonagelaw23.HeapDrains': WHATEVER THE INPUT: true; the input reads as it did. -/
def heapDrainsSpec : ChangeSpec := { name := "heapDrains", fn := fun _ => fun
  | [d1, d2] => { results := [.lit (.bool true)], args := [d1, d2] }
  | _ => none }
def heapDrainsRow : OpenClaim := { program := "ytpcgafhgfjlkmaagreatdoor", sum := "38ec591c3395f47ae6c2b0754887d112ed50e407e1977c3e6f986b2fc02824f7", func := "commonage/commonagelaw23.HeapDrains", spec := "heapDrains", inPlace := ["math.Float64frombits", "math.Float64bits"], unfollowed := true, recurses := true, named := ["commonage/head.widths", "math/bits.deBruijn64tab"], apart := false, laid := [("math/bits.deBruijn64tab", laid_math_bits_deBruijn64tab), ("commonage/head.widths", laid_commonage_head_widths)] }
def HeapDrainsSaid : Prop := heapDrainsRow.holds Tryz.pinned (OpenSpec.ofChange heapDrainsSpec)

/-- ITS FALSE NEIGHBOUR: 'it returns false'. Refute it at one input. -/
def heapDrainsWrong : ChangeSpec := { name := "heapDrains", fn := fun _ => fun
  | [d1, d2] => { results := [.lit (.bool false)], args := [d1, d2] }
  | _ => none }
def HeapDrainsWrongFalsely : Prop := heapDrainsRow.holds Tryz.pinned (OpenSpec.ofChange heapDrainsWrong)

/-- 'commonagelaw23.HeapZero': WHATEVER THE INPUT: true; the input reads as it did. -/
def heapZeroSpec : ChangeSpec := { name := "heapZero", fn := fun _ => fun
  | [d1, d2, d3] => { results := [.lit (.bool true)], args := [d1, d2, d3] }
  | _ => none }
def heapZeroRow : OpenClaim := { program := "ytpcgafhgfjlkmaagreatdoor", sum := "38ec591c3395f47ae6c2b0754887d112ed50e407e1977c3e6f986b2fc02824f7", func := "commonage/commonagelaw23.HeapZero", spec := "heapZero", inPlace := ["math.Float64frombits", "math.Float64bits"], unfollowed := true, recurses := true, named := ["commonage/head.widths", "math/bits.deBruijn64tab"], apart := false, laid := [("math/bits.deBruijn64tab", laid_math_bits_deBruijn64tab), ("commonage/head.widths", laid_commonage_head_widths)] }
def HeapZeroSaid : Prop := heapZeroRow.holds Tryz.pinned (OpenSpec.ofChange heapZeroSpec)

/-- ITS FALSE NEIGHBOUR: 'it returns false'. Refute it at one input. -/
def heapZeroWrong : ChangeSpec := { name := "heapZero", fn := fun _ => fun
  | [d1, d2, d3] => { results := [.lit (.bool false)], args := [d1, d2, d3] }
  | _ => none }
def HeapZeroWrongFalsely : Prop := heapZeroRow.holds Tryz.pinned (OpenSpec.ofChange heapZeroWrong)

/-- 'commonagelaw23.HeapNone': WHATEVER THE INPUT: true; the input reads as it did. -/
def heapNoneSpec : ChangeSpec := { name := "heapNone", fn := fun _ => fun
  | [d1, d2, d3] => { results := [.lit (.bool true)], args := [d1, d2, d3] }
  | _ => none }
def heapNoneRow : OpenClaim := { program := "ytpcgafhgfjlkmaagreatdoor", sum := "38ec591c3395f47ae6c2b0754887d112ed50e407e1977c3e6f986b2fc02824f7", func := "commonage/commonagelaw23.HeapNone", spec := "heapNone", inPlace := ["math.Float64frombits", "math.Float64bits"], unfollowed := true, recurses := true, named := ["commonage/head.widths", "math/bits.deBruijn64tab"], apart := false, laid := [("math/bits.deBruijn64tab", laid_math_bits_deBruijn64tab), ("commonage/head.widths", laid_commonage_head_widths)] }
def HeapNoneSaid : Prop := heapNoneRow.holds Tryz.pinned (OpenSpec.ofChange heapNoneSpec)

/-- ITS FALSE NEIGHBOUR: 'it returns false'. Refute it at one input. -/
def heapNoneWrong : ChangeSpec := { name := "heapNone", fn := fun _ => fun
  | [d1, d2, d3] => { results := [.lit (.bool false)], args := [d1, d2, d3] }
  | _ => none }
def HeapNoneWrongFalsely : Prop := heapNoneRow.holds Tryz.pinned (OpenSpec.ofChange heapNoneWrong)

/-- 'commonagelaw23.HeapRefused': WHATEVER THE INPUT: true; the input reads as it did. -/
def heapRefusedSpec : ChangeSpec := { name := "heapRefused", fn := fun _ => fun
  | [d1, d2, d3] => { results := [.lit (.bool true)], args := [d1, d2, d3] }
  | _ => none }
def heapRefusedRow : OpenClaim := { program := "ytpcgafhgfjlkmaagreatdoor", sum := "38ec591c3395f47ae6c2b0754887d112ed50e407e1977c3e6f986b2fc02824f7", func := "commonage/commonagelaw23.HeapRefused", spec := "heapRefused", inPlace := ["math.Float64frombits", "math.Float64bits"], unfollowed := true, recurses := true, named := ["commonage/head.widths", "math/bits.deBruijn64tab"], apart := false, laid := [("math/bits.deBruijn64tab", laid_math_bits_deBruijn64tab), ("commonage/head.widths", laid_commonage_head_widths)] }
def HeapRefusedSaid : Prop := heapRefusedRow.holds Tryz.pinned (OpenSpec.ofChange heapRefusedSpec)

/-- ITS FALSE NEIGHBOUR: 'it returns false'. Refute it at one input. -/
def heapRefusedWrong : ChangeSpec := { name := "heapRefused", fn := fun _ => fun
  | [d1, d2, d3] => { results := [.lit (.bool false)], args := [d1, d2, d3] }
  | _ => none }
def HeapRefusedWrongFalsely : Prop := heapRefusedRow.holds Tryz.pinned (OpenSpec.ofChange heapRefusedWrong)

/-- 'commonagelaw23.HeapWrites': WHATEVER THE INPUT: true; the input reads as it did. -/
def heapWritesSpec : ChangeSpec := { name := "heapWrites", fn := fun _ => fun
  | [d1, d2, d3] => { results := [.lit (.bool true)], args := [d1, d2, d3] }
  | _ => none }
def heapWritesRow : OpenClaim := { program := "ytpcgafhgfjlkmaagreatdoor", sum := "38ec591c3395f47ae6c2b0754887d112ed50e407e1977c3e6f986b2fc02824f7", func := "commonage/commonagelaw23.HeapWrites", spec := "heapWrites", inPlace := ["math.Float64frombits", "math.Float64bits"], unfollowed := true, recurses := true, named := ["commonage/head.widths", "math/bits.deBruijn64tab"], apart := false, laid := [("math/bits.deBruijn64tab", laid_math_bits_deBruijn64tab), ("commonage/head.widths", laid_commonage_head_widths)] }
def HeapWritesSaid : Prop := heapWritesRow.holds Tryz.pinned (OpenSpec.ofChange heapWritesSpec)

/-- ITS FALSE NEIGHBOUR: 'it returns false'. Refute it at one input. -/
def heapWritesWrong : ChangeSpec := { name := "heapWrites", fn := fun _ => fun
  | [d1, d2, d3] => { results := [.lit (.bool false)], args := [d1, d2, d3] }
  | _ => none }
def HeapWritesWrongFalsely : Prop := heapWritesRow.holds Tryz.pinned (OpenSpec.ofChange heapWritesWrong)

/-- 'commonagelaw23.HeapPinned': WHATEVER THE INPUT: true; the input reads as it did. -/
def heapPinnedSpec : ChangeSpec := { name := "heapPinned", fn := fun _ => fun
  | [d1, d2, d3] => { results := [.lit (.bool true)], args := [d1, d2, d3] }
  | _ => none }
def heapPinnedRow : OpenClaim := { program := "ytpcgafhgfjlkmaagreatdoor", sum := "38ec591c3395f47ae6c2b0754887d112ed50e407e1977c3e6f986b2fc02824f7", func := "commonage/commonagelaw23.HeapPinned", spec := "heapPinned", inPlace := ["math.Float64frombits", "math.Float64bits"], unfollowed := true, recurses := true, named := ["commonage/head.widths", "math/bits.deBruijn64tab"], apart := false, laid := [("math/bits.deBruijn64tab", laid_math_bits_deBruijn64tab), ("commonage/head.widths", laid_commonage_head_widths)] }
def HeapPinnedSaid : Prop := heapPinnedRow.holds Tryz.pinned (OpenSpec.ofChange heapPinnedSpec)

/-- ITS FALSE NEIGHBOUR: 'it returns false'. Refute it at one input. -/
def heapPinnedWrong : ChangeSpec := { name := "heapPinned", fn := fun _ => fun
  | [d1, d2, d3] => { results := [.lit (.bool false)], args := [d1, d2, d3] }
  | _ => none }
def HeapPinnedWrongFalsely : Prop := heapPinnedRow.holds Tryz.pinned (OpenSpec.ofChange heapPinnedWrong)

/- THE SECOND FORM. 'bulk': how many values and letters a reading holds, each counted each time it is reached (what is shared counts as often as it is met; a slice's spare places count too). A statement '..UptoSaid' is the law's where the arguments, and the package variables that the reading takes, are together of bulk at most 1048576: NARROWER than '..Said'. Prove '..Said' where nothing that the law and all that it calls make is longer than what came in: it says more and counts as full. Else prove '..UptoSaid'. A law counts once. -/
mutual
def uptoBulk {H : Type} : DataW H → Nat
  | .lit (.string bytes) => bytes.length + 1
  | .lit _ => 1
  | .nil => 1
  | .ptr d => uptoBulk d + 1
  | .slice elems spare => uptoBulkAll elems + uptoBulkAll spare + 1
  | .agg parts => uptoBulkAll parts + 1
  | .iface _ d => uptoBulk d + 1
  | .map entries => uptoBulkEntries entries + 1
  | .held _ => 1
def uptoBulkAll {H : Type} : List (DataW H) → Nat
  | [] => 0
  | d :: r => uptoBulk d + uptoBulkAll r
def uptoBulkEntries {H : Type} : List (Lit × DataW H) → Nat
  | [] => 0
  | x :: r => uptoBulkEntry x + uptoBulkEntries r
def uptoBulkEntry {H : Type} : Lit × DataW H → Nat
  | (.string bytes, d) => bytes.length + uptoBulk d + 1
  | (_, d) => uptoBulk d + 1
 end
def uptoSmall : (H : Type) → List (DataW H) → Bool := fun _ ds => decide (uptoBulkAll ds ≤ 1048576)
def OpenSpec.upto (s : _root_.Go.ChangeSpec) : _root_.Go.OpenSpec := { _root_.Go.OpenSpec.ofChange s with cond := some uptoSmall }

/-- 'commonagelaw23.HeapStale', WHERE WHAT IT READS IS OF BULK AT MOST 1048576: true; the input reads as it did. -/
def heapStaleUptoRow : OpenClaim := { program := "ytpcgafhgfjlkmaagreatdoor", sum := "38ec591c3395f47ae6c2b0754887d112ed50e407e1977c3e6f986b2fc02824f7", func := "commonage/commonagelaw23.HeapStale", spec := "heapStale", inPlace := ["math.Float64frombits", "math.Float64bits"], unfollowed := true, recurses := true, named := ["commonage/head.widths", "math/bits.deBruijn64tab"], apart := false, laid := [("math/bits.deBruijn64tab", laid_math_bits_deBruijn64tab), ("commonage/head.widths", laid_commonage_head_widths)], narrowed := true }
def HeapStaleUptoSaid : Prop := heapStaleUptoRow.holds Tryz.pinned (OpenSpec.upto heapStaleSpec)

/-- 'commonagelaw23.HeapApart', WHERE WHAT IT READS IS OF BULK AT MOST 1048576: true; the input reads as it did. -/
def heapApartUptoRow : OpenClaim := { program := "ytpcgafhgfjlkmaagreatdoor", sum := "38ec591c3395f47ae6c2b0754887d112ed50e407e1977c3e6f986b2fc02824f7", func := "commonage/commonagelaw23.HeapApart", spec := "heapApart", inPlace := ["math.Float64frombits", "math.Float64bits"], unfollowed := true, recurses := true, named := ["commonage/head.widths", "math/bits.deBruijn64tab"], apart := false, laid := [("math/bits.deBruijn64tab", laid_math_bits_deBruijn64tab), ("commonage/head.widths", laid_commonage_head_widths)], narrowed := true }
def HeapApartUptoSaid : Prop := heapApartUptoRow.holds Tryz.pinned (OpenSpec.upto heapApartSpec)

/-- 'commonagelaw23.HeapPlaces', WHERE WHAT IT READS IS OF BULK AT MOST 1048576: true; the input reads as it did. -/
def heapPlacesUptoRow : OpenClaim := { program := "ytpcgafhgfjlkmaagreatdoor", sum := "38ec591c3395f47ae6c2b0754887d112ed50e407e1977c3e6f986b2fc02824f7", func := "commonage/commonagelaw23.HeapPlaces", spec := "heapPlaces", inPlace := ["math.Float64frombits", "math.Float64bits"], unfollowed := true, recurses := true, named := ["commonage/head.widths", "math/bits.deBruijn64tab"], apart := false, laid := [("math/bits.deBruijn64tab", laid_math_bits_deBruijn64tab), ("commonage/head.widths", laid_commonage_head_widths)], narrowed := true }
def HeapPlacesUptoSaid : Prop := heapPlacesUptoRow.holds Tryz.pinned (OpenSpec.upto heapPlacesSpec)

/-- 'commonagelaw23.HeapDrains', WHERE WHAT IT READS IS OF BULK AT MOST 1048576: true; the input reads as it did. -/
def heapDrainsUptoRow : OpenClaim := { program := "ytpcgafhgfjlkmaagreatdoor", sum := "38ec591c3395f47ae6c2b0754887d112ed50e407e1977c3e6f986b2fc02824f7", func := "commonage/commonagelaw23.HeapDrains", spec := "heapDrains", inPlace := ["math.Float64frombits", "math.Float64bits"], unfollowed := true, recurses := true, named := ["commonage/head.widths", "math/bits.deBruijn64tab"], apart := false, laid := [("math/bits.deBruijn64tab", laid_math_bits_deBruijn64tab), ("commonage/head.widths", laid_commonage_head_widths)], narrowed := true }
def HeapDrainsUptoSaid : Prop := heapDrainsUptoRow.holds Tryz.pinned (OpenSpec.upto heapDrainsSpec)

/-- 'commonagelaw23.HeapZero', WHERE WHAT IT READS IS OF BULK AT MOST 1048576: true; the input reads as it did. -/
def heapZeroUptoRow : OpenClaim := { program := "ytpcgafhgfjlkmaagreatdoor", sum := "38ec591c3395f47ae6c2b0754887d112ed50e407e1977c3e6f986b2fc02824f7", func := "commonage/commonagelaw23.HeapZero", spec := "heapZero", inPlace := ["math.Float64frombits", "math.Float64bits"], unfollowed := true, recurses := true, named := ["commonage/head.widths", "math/bits.deBruijn64tab"], apart := false, laid := [("math/bits.deBruijn64tab", laid_math_bits_deBruijn64tab), ("commonage/head.widths", laid_commonage_head_widths)], narrowed := true }
def HeapZeroUptoSaid : Prop := heapZeroUptoRow.holds Tryz.pinned (OpenSpec.upto heapZeroSpec)

/-- 'commonagelaw23.HeapNone', WHERE WHAT IT READS IS OF BULK AT MOST 1048576: true; the input reads as it did. -/
def heapNoneUptoRow : OpenClaim := { program := "ytpcgafhgfjlkmaagreatdoor", sum := "38ec591c3395f47ae6c2b0754887d112ed50e407e1977c3e6f986b2fc02824f7", func := "commonage/commonagelaw23.HeapNone", spec := "heapNone", inPlace := ["math.Float64frombits", "math.Float64bits"], unfollowed := true, recurses := true, named := ["commonage/head.widths", "math/bits.deBruijn64tab"], apart := false, laid := [("math/bits.deBruijn64tab", laid_math_bits_deBruijn64tab), ("commonage/head.widths", laid_commonage_head_widths)], narrowed := true }
def HeapNoneUptoSaid : Prop := heapNoneUptoRow.holds Tryz.pinned (OpenSpec.upto heapNoneSpec)

/-- 'commonagelaw23.HeapRefused', WHERE WHAT IT READS IS OF BULK AT MOST 1048576: true; the input reads as it did. -/
def heapRefusedUptoRow : OpenClaim := { program := "ytpcgafhgfjlkmaagreatdoor", sum := "38ec591c3395f47ae6c2b0754887d112ed50e407e1977c3e6f986b2fc02824f7", func := "commonage/commonagelaw23.HeapRefused", spec := "heapRefused", inPlace := ["math.Float64frombits", "math.Float64bits"], unfollowed := true, recurses := true, named := ["commonage/head.widths", "math/bits.deBruijn64tab"], apart := false, laid := [("math/bits.deBruijn64tab", laid_math_bits_deBruijn64tab), ("commonage/head.widths", laid_commonage_head_widths)], narrowed := true }
def HeapRefusedUptoSaid : Prop := heapRefusedUptoRow.holds Tryz.pinned (OpenSpec.upto heapRefusedSpec)

/-- 'commonagelaw23.HeapWrites', WHERE WHAT IT READS IS OF BULK AT MOST 1048576: true; the input reads as it did. -/
def heapWritesUptoRow : OpenClaim := { program := "ytpcgafhgfjlkmaagreatdoor", sum := "38ec591c3395f47ae6c2b0754887d112ed50e407e1977c3e6f986b2fc02824f7", func := "commonage/commonagelaw23.HeapWrites", spec := "heapWrites", inPlace := ["math.Float64frombits", "math.Float64bits"], unfollowed := true, recurses := true, named := ["commonage/head.widths", "math/bits.deBruijn64tab"], apart := false, laid := [("math/bits.deBruijn64tab", laid_math_bits_deBruijn64tab), ("commonage/head.widths", laid_commonage_head_widths)], narrowed := true }
def HeapWritesUptoSaid : Prop := heapWritesUptoRow.holds Tryz.pinned (OpenSpec.upto heapWritesSpec)

/-- 'commonagelaw23.HeapPinned', WHERE WHAT IT READS IS OF BULK AT MOST 1048576: true; the input reads as it did. -/
def heapPinnedUptoRow : OpenClaim := { program := "ytpcgafhgfjlkmaagreatdoor", sum := "38ec591c3395f47ae6c2b0754887d112ed50e407e1977c3e6f986b2fc02824f7", func := "commonage/commonagelaw23.HeapPinned", spec := "heapPinned", inPlace := ["math.Float64frombits", "math.Float64bits"], unfollowed := true, recurses := true, named := ["commonage/head.widths", "math/bits.deBruijn64tab"], apart := false, laid := [("math/bits.deBruijn64tab", laid_math_bits_deBruijn64tab), ("commonage/head.widths", laid_commonage_head_widths)], narrowed := true }
def HeapPinnedUptoSaid : Prop := heapPinnedUptoRow.holds Tryz.pinned (OpenSpec.upto heapPinnedSpec)

end Rows
end Go.Proofs.YtpcgafhgfjlkmaaGreatDoor
