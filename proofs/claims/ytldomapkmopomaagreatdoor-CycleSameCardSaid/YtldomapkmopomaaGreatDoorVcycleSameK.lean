/- CycleSame: closed facts of the row and of the card. -/
import Derived.Test.YtldomapkmopomaaGreatDoorRows
import Derived.Test.YtldomapkmopomaaGreatDoorCards
import Derived.ProofKit
import Derived.Stop.Joined
import Derived.SevenTiedAt
namespace Go.Proofs.YtldomapkmopomaaGreatDoor.cycleSame
open Go.ChangeShapes Go.WideShapes Go.ChangeAt Go.RowKit
set_option linter.unusedVariables false
set_option maxRecDepth 100000
theorem k0 : Tryz.pinned.checked.prog.funcNamed "commonage/commonagelaw22.CycleSame" = some 4 := by kernel_rfl
theorem and_t {a b : Bool} (h1 : a = true) (h2 : b = true) : (a && b) = true := by rw [h1, h2]; rfl
set_option maxHeartbeats 16000000 in
theorem k1 : joinedFacts Tryz.pinned.checked.prog 4 Tryz.f4 Rows.cycleSameSpec Rows.cycleSameRow = true := by
  unfold joinedFacts
  repeat' with_reducible apply and_t
  all_goals as_aux_lemma => kernel_rfl
theorem k2 : Rows.cycleSameRow.wfByText (OpenSpec.ofChange Rows.cycleSameSpec) = true := by kernel_rfl
theorem k3 : false = Rows.cycleSameRow.goesBy Tryz.pinned.checked.prog := by kernel_rfl
theorem k4 : true = Tryz.pinned.checked.prog.looks [] := by kernel_rfl
theorem k5 : Tryz.pinned.checked.prog.mainIs = some ((true, "4405538b94c001e33faf4670eeee26c3e636e52ac29f93920c4c18005baf7a05").1, (true, "4405538b94c001e33faf4670eeee26c3e636e52ac29f93920c4c18005baf7a05").2.toList) := by kernel_rfl
theorem k6 : (!(true, "4405538b94c001e33faf4670eeee26c3e636e52ac29f93920c4c18005baf7a05").1 && (true, "4405538b94c001e33faf4670eeee26c3e636e52ac29f93920c4c18005baf7a05").2.isEmpty && !true) = false := by kernel_rfl
end Go.Proofs.YtldomapkmopomaaGreatDoor.cycleSame
