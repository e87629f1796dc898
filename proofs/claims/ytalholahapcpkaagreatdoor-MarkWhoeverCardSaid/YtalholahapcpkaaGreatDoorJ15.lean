/- The walker and the contracts that the law needs, part 15. -/
import Derived.Test.YtalholahapcpkaaGreatDoorJ1
import Derived.Test.YtalholahapcpkaaGreatDoorJ11
namespace Go.Proofs.YtalholahapcpkaaGreatDoor
open Go.RowKit Go.Lib
set_option linter.unusedVariables false
set_option linter.unusedSimpArgs false
def iE : Enc Int := ⟨fun z => [.int .i64 z], 1, fun _ => rfl, by intro x v hv; simp at hv; subst hv; rfl⟩
end Go.Proofs.YtalholahapcpkaaGreatDoor
