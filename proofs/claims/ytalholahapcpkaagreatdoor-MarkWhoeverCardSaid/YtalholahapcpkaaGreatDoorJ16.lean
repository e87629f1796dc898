/- The walker and the contracts that the law needs, part 16. -/
import Derived.Laws.FloatArith
import Derived.Laws.NewFold
import Derived.Test.YtalholahapcpkaaGreatDoorJ14
namespace Go.Proofs.YtalholahapcpkaaGreatDoor
open Go.RowKit
set_option linter.unusedVariables false
set_option linter.unusedSimpArgs false
def fl (b : Nat) : Option Nat := if (Ieee.double.read b).isNaN then none else some b
section
variable {P : Program} {w0 : World} {H F : Heap} {m : Slots} {ty : TypeId}
end
section
variable {P : Program} {w0 : World} {H F : Heap} {m : Slots} {ty : TypeId}
end
section
variable {P : Program} {w0 : World} {ro : Option Nat} {n : Nat} {Q : Exit → Act → World → Prop} {ds : List Deferred} {m : Slots} {H R : Heap} {ops : Array Oper} {op : Op} {ty : TypeId} {pos : String} {af : Array Edge} {ord : Ord}
theorem ActK.eN {T : Post} (he : Eff P w0 H m ty op T) (h : ∀ v H', T v H' → Part H' R ∧ KD P w0 ro n ops R ord Q ds m H') : ActK P w0 ro n ops R ord Q ds m H ⟨none, op, ty, pos, af, none⟩ :=
 fun a w ha hw => ⟨by simp [Region.wanted], by
  rw [ha.exec (o := ⟨none, op, ty, pos, af, none⟩) he.cv]
  exact (he.run w _ _ _ _ hw).mono fun v w' ⟨H', hh, hT⟩ => ⟨_, H', ha, hh, (h v H' hT).1, (h v H' hT).2⟩⟩
end
end Go.Proofs.YtalholahapcpkaaGreatDoor
