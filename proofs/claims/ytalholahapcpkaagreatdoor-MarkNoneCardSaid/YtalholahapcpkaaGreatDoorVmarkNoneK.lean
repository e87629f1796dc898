/- MarkNone: closed facts of the row and of the card. -/
import Derived.Test.YtalholahapcpkaaGreatDoorRows
import Derived.Test.YtalholahapcpkaaGreatDoorCards
import Derived.ProofKit
import Derived.Stop.Joined
import Derived.SevenTiedAt
namespace Go.Proofs.YtalholahapcpkaaGreatDoor.markNone
open Go.ChangeShapes Go.WideShapes Go.ChangeAt Go.RowKit
set_option linter.unusedVariables false
set_option maxRecDepth 100000
theorem k0 : Tryz.pinned.checked.prog.funcNamed "commonage/commonagelaw19.MarkNone" = some 7 := by kernel_rfl
theorem k1 : joinedFacts Tryz.pinned.checked.prog 7 Tryz.f7 Rows.markNoneSpec Rows.markNoneRow = true := by kernel_rfl
theorem k2 : Rows.markNoneRow.wfByText (OpenSpec.ofChange Rows.markNoneSpec) = true := by kernel_rfl
theorem k3 : false = Rows.markNoneRow.goesBy Tryz.pinned.checked.prog := by kernel_rfl
theorem k4 : true = Tryz.pinned.checked.prog.looks [] := by kernel_rfl
theorem k5 : Tryz.pinned.checked.prog.mainIs = some ((true, "0cc4552dcbe8892a481828f8fa7b102a75b95c5f50e93e755d081dfcec13db35").1, (true, "0cc4552dcbe8892a481828f8fa7b102a75b95c5f50e93e755d081dfcec13db35").2.toList) := by kernel_rfl
theorem k6 : (!(true, "0cc4552dcbe8892a481828f8fa7b102a75b95c5f50e93e755d081dfcec13db35").1 && (true, "0cc4552dcbe8892a481828f8fa7b102a75b95c5f50e93e755d081dfcec13db35").2.isEmpty && !true) = false := by kernel_rfl
end Go.Proofs.YtalholahapcpkaaGreatDoor.markNone
