/- HeapPlays: closed facts of the row and of the card. -/
import Derived.Test.YtciaccbemnpipaaGreatDoorRows
import Derived.Test.YtciaccbemnpipaaGreatDoorCards
import Derived.ProofKit
import Derived.Stop.Joined
import Derived.SevenTiedAt
namespace Go.Proofs.YtciaccbemnpipaaGreatDoor.heapPlays
open Go.ChangeShapes Go.WideShapes Go.ChangeAt Go.RowKit
set_option linter.unusedVariables false
set_option maxRecDepth 100000
theorem k0 : Tryz.pinned.checked.prog.funcNamed "commonage/commonagelaw23.HeapPlays" = some 3 := by kernel_rfl
theorem and_t {a b : Bool} (h1 : a = true) (h2 : b = true) : (a && b) = true := by rw [h1, h2]; rfl
set_option maxHeartbeats 16000000 in
theorem k1 : joinedFacts Tryz.pinned.checked.prog 3 Tryz.f3 Rows.heapPlaysSpec Rows.heapPlaysRow = true := by
  unfold joinedFacts
  repeat' with_reducible apply and_t
  all_goals as_aux_lemma => kernel_rfl
theorem k2 : Rows.heapPlaysRow.wfByText (OpenSpec.ofChange Rows.heapPlaysSpec) = true := by kernel_rfl
theorem k3 : false = Rows.heapPlaysRow.goesBy Tryz.pinned.checked.prog := by kernel_rfl
theorem k4 : true = Tryz.pinned.checked.prog.looks [] := by kernel_rfl
theorem k5 : Tryz.pinned.checked.prog.mainIs = some ((true, "6619c6f72fe8cde5d93ee8611d8602ea9fc4a2b0984a7531bde11fbe21d71a92").1, (true, "6619c6f72fe8cde5d93ee8611d8602ea9fc4a2b0984a7531bde11fbe21d71a92").2.toList) := by kernel_rfl
theorem k6 : (!(true, "6619c6f72fe8cde5d93ee8611d8602ea9fc4a2b0984a7531bde11fbe21d71a92").1 && (true, "6619c6f72fe8cde5d93ee8611d8602ea9fc4a2b0984a7531bde11fbe21d71a92").2.isEmpty && !true) = false := by kernel_rfl
end Go.Proofs.YtciaccbemnpipaaGreatDoor.heapPlays
