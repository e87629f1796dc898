/- MarkWhoever: closed facts of the row and of the card. -/
import Derived.Test.YtalholahapcpkaaGreatDoorRows
import Derived.Test.YtalholahapcpkaaGreatDoorCards
import Derived.ProofKit
import Derived.Stop.Joined
import Derived.SevenTiedAt
namespace Go.Proofs.YtalholahapcpkaaGreatDoor.markWhoever
open Go.ChangeShapes Go.WideShapes Go.ChangeAt Go.RowKit
set_option linter.unusedVariables false
set_option maxRecDepth 100000
theorem k0 : Tryz.pinned.checked.prog.funcNamed "commonage/commonagelaw19.MarkWhoever" = some 12 := by kernel_rfl
theorem and_t {a b : Bool} (h1 : a = true) (h2 : b = true) : (a && b) = true := by rw [h1, h2]; rfl
set_option maxHeartbeats 16000000 in
theorem k1 : joinedFacts Tryz.pinned.checked.prog 12 Tryz.f12 Rows.markWhoeverSpec Rows.markWhoeverRow = true := by
  unfold joinedFacts
  repeat' with_reducible apply and_t
  all_goals as_aux_lemma => kernel_rfl
theorem k2 : Rows.markWhoeverRow.wfByText (OpenSpec.ofChange Rows.markWhoeverSpec) = true := by kernel_rfl
theorem k3 : false = Rows.markWhoeverRow.goesBy Tryz.pinned.checked.prog := by kernel_rfl
theorem k4 : true = Tryz.pinned.checked.prog.looks [] := by kernel_rfl
theorem k5 : Tryz.pinned.checked.prog.mainIs = some ((true, "0cc4552dcbe8892a481828f8fa7b102a75b95c5f50e93e755d081dfcec13db35").1, (true, "0cc4552dcbe8892a481828f8fa7b102a75b95c5f50e93e755d081dfcec13db35").2.toList) := by kernel_rfl
theorem k6 : (!(true, "0cc4552dcbe8892a481828f8fa7b102a75b95c5f50e93e755d081dfcec13db35").1 && (true, "0cc4552dcbe8892a481828f8fa7b102a75b95c5f50e93e755d081dfcec13db35").2.isEmpty && !true) = false := by kernel_rfl
end Go.Proofs.YtalholahapcpkaaGreatDoor.markWhoever
