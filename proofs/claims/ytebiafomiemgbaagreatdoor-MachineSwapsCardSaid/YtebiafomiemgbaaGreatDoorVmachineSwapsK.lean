/- MachineSwaps: closed facts of the row and of the card. -/
import Derived.Test.YtebiafomiemgbaaGreatDoorRows
import Derived.Test.YtebiafomiemgbaaGreatDoorCards
import Derived.ProofKit
import Derived.Stop.Joined
import Derived.SevenTiedAt
namespace Go.Proofs.YtebiafomiemgbaaGreatDoor.machineSwaps
open Go.ChangeShapes Go.WideShapes Go.ChangeAt Go.RowKit
set_option linter.unusedVariables false
set_option maxRecDepth 100000
theorem k0 : Tryz.pinned.checked.prog.funcNamed "commonage/commonagelaw27.MachineSwaps" = some 12 := by kernel_rfl
theorem and_t {a b : Bool} (h1 : a = true) (h2 : b = true) : (a && b) = true := by rw [h1, h2]; rfl
set_option maxHeartbeats 16000000 in
theorem k1 : joinedFacts Tryz.pinned.checked.prog 12 Tryz.f12 Rows.machineSwapsSpec Rows.machineSwapsRow = true := by
  unfold joinedFacts
  repeat' with_reducible apply and_t
  all_goals as_aux_lemma => kernel_rfl
theorem k2 : Rows.machineSwapsRow.wfByText (OpenSpec.ofChange Rows.machineSwapsSpec) = true := by kernel_rfl
theorem k3 : false = Rows.machineSwapsRow.goesBy Tryz.pinned.checked.prog := by kernel_rfl
theorem k4 : true = Tryz.pinned.checked.prog.looks [] := by kernel_rfl
theorem k5 : Tryz.pinned.checked.prog.mainIs = some ((true, "006d53b4b18a4c9dc6684499708fe33db118283174e06481e32c100a68d0a6c2").1, (true, "006d53b4b18a4c9dc6684499708fe33db118283174e06481e32c100a68d0a6c2").2.toList) := by kernel_rfl
theorem k6 : (!(true, "006d53b4b18a4c9dc6684499708fe33db118283174e06481e32c100a68d0a6c2").1 && (true, "006d53b4b18a4c9dc6684499708fe33db118283174e06481e32c100a68d0a6c2").2.isEmpty && !true) = false := by kernel_rfl
end Go.Proofs.YtebiafomiemgbaaGreatDoor.machineSwaps
