/- HeapApart: closed facts of the row and of the card. -/
import Derived.Test.YtpcgafhgfjlkmaaGreatDoorRows
import Derived.Test.YtpcgafhgfjlkmaaGreatDoorCards
import Derived.ProofKit
import Derived.Stop.Joined
import Derived.SevenTiedAt
namespace Go.Proofs.YtpcgafhgfjlkmaaGreatDoor.heapApart
open Go.ChangeShapes Go.WideShapes Go.ChangeAt Go.RowKit
set_option linter.unusedVariables false
set_option maxRecDepth 100000
theorem k0 : Tryz.pinned.checked.prog.funcNamed "commonage/commonagelaw23.HeapApart" = some 4 := by kernel_rfl
theorem and_t {a b : Bool} (h1 : a = true) (h2 : b = true) : (a && b) = true := by rw [h1, h2]; rfl
set_option maxHeartbeats 16000000 in
theorem k1 : joinedFacts Tryz.pinned.checked.prog 4 Tryz.f4 Rows.heapApartSpec Rows.heapApartRow = true := by
  unfold joinedFacts
  repeat' with_reducible apply and_t
  all_goals as_aux_lemma => kernel_rfl
theorem k2 : Rows.heapApartRow.wfByText (OpenSpec.ofChange Rows.heapApartSpec) = true := by kernel_rfl
theorem k3 : false = Rows.heapApartRow.goesBy Tryz.pinned.checked.prog := by kernel_rfl
theorem k4 : true = Tryz.pinned.checked.prog.looks [] := by kernel_rfl
theorem k5 : Tryz.pinned.checked.prog.mainIs = some ((true, "d1a7fcd9d8ae4d2d19c08546e7d3df0c0b9df7c2b07e7cfbbe2009a9abf912f1").1, (true, "d1a7fcd9d8ae4d2d19c08546e7d3df0c0b9df7c2b07e7cfbbe2009a9abf912f1").2.toList) := by kernel_rfl
theorem k6 : (!(true, "d1a7fcd9d8ae4d2d19c08546e7d3df0c0b9df7c2b07e7cfbbe2009a9abf912f1").1 && (true, "d1a7fcd9d8ae4d2d19c08546e7d3df0c0b9df7c2b07e7cfbbe2009a9abf912f1").2.isEmpty && !true) = false := by kernel_rfl
end Go.Proofs.YtpcgafhgfjlkmaaGreatDoor.heapApart
