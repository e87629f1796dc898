/-
  No cell of these rows narrows 'for every input' (looked for: loops, veiled, ifaces, maps, wideKeys, modest, calm, conditions, laid).
  DERIVED. THE GIVEN ROWS OF THIS SEAT. 3 by the template 'for every input the law returns true; each argument reads behind the call as it read before'; 0 by the template 'total and deterministic' (their statements: YthamkgghnjenhaaTotals.lean).
  GIVEN WITH THE SEED: the statements are not yours to turn. If you find one false, say at which input.
  Laid BY PROGRAM, IN A SANDBOX (cutbox-rows.mjs): the forced cells as the released guide's own fill.sh prints them over the translation 106584266d84fa9d… (all of the seat's roots in one cut). By AI agents, Wed Nov 11 2026. No macro, syntax, notation, axiom, sorry.
-/
import Derived.Test.YthamkgghnjenhaaChecked
import GoSem.Claim
import GoSem.ClaimJoined
import GoSem.ClaimMapViews
import Derived.JoinedTies
import Derived.KernelRfl
namespace Go.Proofs.Ythamkgghnjenhaa
/- THE CELL 'sum', in the pinned program and in every row, IS THE sha256 OF THE DUMP (.gsa) THAT YthamkgghnjenhaaProg.lean LOADS. Nothing in Lean hashes anything: it is a label: what it is worth is what the hold of that sum in a sandbox is worth. -/
noncomputable def Try.pinned : Pinned := { name := "ythamkgghnjenhaa", sum := "106584266d84fa9db250325afa4526c47c3db83a97becd2e18afc1513352ad7b", checked := Try.checked }
namespace Rows
def none {H : Type} : Left H := { results := [], args := [] }

/-- 'commonagelaw16.IdealRoots': WHATEVER THE INPUT: true; the input reads as it did. -/
def idealRootsSpec : ChangeSpec := { name := "idealRoots", fn := fun _ => fun
  | [d1, d2] => { results := [.lit (.bool true)], args := [d1, d2] }
  | _ => none }
def idealRootsRow : OpenClaim := { program := "ythamkgghnjenhaa", sum := "106584266d84fa9db250325afa4526c47c3db83a97becd2e18afc1513352ad7b", func := "commonage/commonagelaw16.IdealRoots", spec := "idealRoots", inPlace := ["math.Float64frombits", "math.Float64bits"], unfollowed := true, recurses := true, apart := false }
def IdealRootsSaid : Prop := idealRootsRow.holds Try.pinned (OpenSpec.ofChange idealRootsSpec)

/-- ITS FALSE NEIGHBOUR: 'it returns false'. Refute it at one input. -/
def idealRootsWrong : ChangeSpec := { name := "idealRoots", fn := fun _ => fun
  | [d1, d2] => { results := [.lit (.bool false)], args := [d1, d2] }
  | _ => none }
def IdealRootsWrongFalsely : Prop := idealRootsRow.holds Try.pinned (OpenSpec.ofChange idealRootsWrong)

/-- 'commonagelaw16.IdealStays': WHATEVER THE INPUT: true; the input reads as it did. -/
def idealStaysSpec : ChangeSpec := { name := "idealStays", fn := fun _ => fun
  | [d1, d2] => { results := [.lit (.bool true)], args := [d1, d2] }
  | _ => none }
def idealStaysRow : OpenClaim := { program := "ythamkgghnjenhaa", sum := "106584266d84fa9db250325afa4526c47c3db83a97becd2e18afc1513352ad7b", func := "commonage/commonagelaw16.IdealStays", spec := "idealStays", inPlace := ["math.Float64frombits", "math.Float64bits", "maps.clone"], unfollowed := true, recurses := true, apart := false }
def IdealStaysSaid : Prop := idealStaysRow.holds Try.pinned (OpenSpec.ofChange idealStaysSpec)

/-- ITS FALSE NEIGHBOUR: 'it returns false'. Refute it at one input. -/
def idealStaysWrong : ChangeSpec := { name := "idealStays", fn := fun _ => fun
  | [d1, d2] => { results := [.lit (.bool false)], args := [d1, d2] }
  | _ => none }
def IdealStaysWrongFalsely : Prop := idealStaysRow.holds Try.pinned (OpenSpec.ofChange idealStaysWrong)

/-- 'commonagelaw16.IdealNone': WHATEVER THE INPUT: true; the input reads as it did. -/
def idealNoneSpec : ChangeSpec := { name := "idealNone", fn := fun _ => fun
  | [d] => { results := [.lit (.bool true)], args := [d] }
  | _ => none }
def idealNoneRow : OpenClaim := { program := "ythamkgghnjenhaa", sum := "106584266d84fa9db250325afa4526c47c3db83a97becd2e18afc1513352ad7b", func := "commonage/commonagelaw16.IdealNone", spec := "idealNone", inPlace := ["math.Float64frombits", "math.Float64bits", "maps.clone"], unfollowed := true, recurses := true, apart := false }
def IdealNoneSaid : Prop := idealNoneRow.holds Try.pinned (OpenSpec.ofChange idealNoneSpec)

/-- ITS FALSE NEIGHBOUR: 'it returns false'. Refute it at one input. -/
def idealNoneWrong : ChangeSpec := { name := "idealNone", fn := fun _ => fun
  | [d] => { results := [.lit (.bool false)], args := [d] }
  | _ => none }
def IdealNoneWrongFalsely : Prop := idealNoneRow.holds Try.pinned (OpenSpec.ofChange idealNoneWrong)

/- THE SECOND FORM. 'bulk': how many values and letters a reading holds, each counted each time it is reached (what is shared counts as often as it is met; a slice's spare places count too). A statement '..UptoSaid' is the law's where the arguments, and the package variables that the reading takes, are together of bulk at most 1048576: NARROWER than '..Said'. Prove '..Said' where nothing that the law and all that it calls make is longer than what came in: it says more and counts as full. Else prove '..UptoSaid'. A law counts once. -/
mutual
def uptoBulk {H : Type} : DataW H → Nat
  | .lit (.string bytes) => bytes.length + 1
  | .lit _ => 1
  | .nil => 1
  | .ptr d => uptoBulk d + 1
  | .slice elems spare => uptoBulkAll elems + uptoBulkAll spare + 1
  | .agg parts => uptoBulkAll parts + 1
  | .iface _ d => uptoBulk d + 1
  | .map entries => uptoBulkEntries entries + 1
  | .held _ => 1
def uptoBulkAll {H : Type} : List (DataW H) → Nat
  | [] => 0
  | d :: r => uptoBulk d + uptoBulkAll r
def uptoBulkEntries {H : Type} : List (Lit × DataW H) → Nat
  | [] => 0
  | x :: r => uptoBulkEntry x + uptoBulkEntries r
def uptoBulkEntry {H : Type} : Lit × DataW H → Nat
  | (.string bytes, d) => bytes.length + uptoBulk d + 1
  | (_, d) => uptoBulk d + 1
 end
def uptoSmall : (H : Type) → List (DataW H) → Bool := fun _ ds => decide (uptoBulkAll ds ≤ 1048576)
def OpenSpec.upto (s : _root_.Go.ChangeSpec) : _root_.Go.OpenSpec := { _root_.Go.OpenSpec.ofChange s with cond := some uptoSmall }

/-- 'commonagelaw16.IdealRoots', WHERE WHAT IT READS IS OF BULK AT MOST 1048576: true; the input reads as it did. -/
def idealRootsUptoRow : OpenClaim := { program := "ythamkgghnjenhaa", sum := "106584266d84fa9db250325afa4526c47c3db83a97becd2e18afc1513352ad7b", func := "commonage/commonagelaw16.IdealRoots", spec := "idealRoots", inPlace := ["math.Float64frombits", "math.Float64bits"], unfollowed := true, recurses := true, apart := false, narrowed := true }
def IdealRootsUptoSaid : Prop := idealRootsUptoRow.holds Try.pinned (OpenSpec.upto idealRootsSpec)

/-- 'commonagelaw16.IdealStays', WHERE WHAT IT READS IS OF BULK AT MOST 1048576: true; the input reads as it did. -/
def idealStaysUptoRow : OpenClaim := { program := "ythamkgghnjenhaa", sum := "106584266d84fa9db250325afa4526c47c3db83a97becd2e18afc1513352ad7b", func := "commonage/commonagelaw16.IdealStays", spec := "idealStays", inPlace := ["math.Float64frombits", "math.Float64bits", "maps.clone"], unfollowed := true, recurses := true, apart := false, narrowed := true }
def IdealStaysUptoSaid : Prop := idealStaysUptoRow.holds Try.pinned (OpenSpec.upto idealStaysSpec)

/-- 'commonagelaw16.IdealNone', WHERE WHAT IT READS IS OF BULK AT MOST 1048576: true; the input reads as it did. -/
def idealNoneUptoRow : OpenClaim := { program := "ythamkgghnjenhaa", sum := "106584266d84fa9db250325afa4526c47c3db83a97becd2e18afc1513352ad7b", func := "commonage/commonagelaw16.IdealNone", spec := "idealNone", inPlace := ["math.Float64frombits", "math.Float64bits", "maps.clone"], unfollowed := true, recurses := true, apart := false, narrowed := true }
def IdealNoneUptoSaid : Prop := idealNoneUptoRow.holds Try.pinned (OpenSpec.upto idealNoneSpec)

end Rows
end Go.Proofs.Ythamkgghnjenhaa
