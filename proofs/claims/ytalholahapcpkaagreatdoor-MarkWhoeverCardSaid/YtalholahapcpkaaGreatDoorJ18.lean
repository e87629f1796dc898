/- The walker and the contracts that the law needs, part 18. -/
import Derived.SizedLaws
import Derived.Lib.SmallJoins
import Derived.ChangeMaps5
import Derived.Test.YtalholahapcpkaaGreatDoorJ11
import Derived.Test.YtalholahapcpkaaGreatDoorJ13
import Derived.Test.YtalholahapcpkaaGreatDoorJ15
namespace Go.Proofs.YtalholahapcpkaaGreatDoor
open Go.RowKit Go.ChangeShapes Go.WideShapes Go.ChangeAt Go.Deep Go.Joins
set_option linter.unusedVariables false
set_option maxRecDepth 100000
def AwakeEnd (w : World) (e : Ending) (w' : World) : Prop := e = .returned (.bool true) ∧ Only [] w w'
def i64ok (z : Int) : Prop := -9223372036854775808 ≤ z ∧ z ≤ 9223372036854775807
def u8ok (z : Int) : Prop := 0 ≤ z ∧ z ≤ 255
theorem wf_i64 {z : Int} (h : (Lit.int .i64 z).wf = true) : i64ok z := by simpa [Lit.wf, IntKind.min, IntKind.max, IntKind.signed, IntKind.bits, i64ok] using h
theorem wf_u8 {z : Int} (h : (Lit.int .u8 z).wf = true) : u8ok z := by simpa [Lit.wf, IntKind.min, IntKind.max, IntKind.signed, IntKind.bits, u8ok] using h
section
variable {H : Type} {enc : TypeId × Value → H} {W : World}
theorem int_in {fuel : Nat} {cs : List Value} {x : DataW H × List MemPlace} (hx : DataW.trod enc Tryz.prog W 0 (fun _ => true) true fuel 3 cs = some x) : ∃ y : Int, cs = iE.enc y ∧ i64ok y := by
 obtain ⟨a0, e0, -, w0⟩ := DataW.trod_int Tryz.underlying3 hx
 exact ⟨a0, e0, wf_i64 w0⟩
end
end Go.Proofs.YtalholahapcpkaaGreatDoor
