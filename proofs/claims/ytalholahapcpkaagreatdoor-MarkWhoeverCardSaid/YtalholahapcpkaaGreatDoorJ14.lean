/- The walker and the contracts that the law needs, part 14. -/
import Derived.Laws.Externs
import Derived.Test.YtalholahapcpkaaGreatDoorJ13
namespace Go.Proofs.YtalholahapcpkaaGreatDoor
open Go.RowKit
set_option linter.unusedVariables false
set_option linter.unusedSimpArgs false
section
variable {P : Program} {w0 : World} {m : Slots} {H F : Heap} {ty : TypeId} {b c : Nat} {ms : List ME} {k : Int}
end
end Go.Proofs.YtalholahapcpkaaGreatDoor
