/-The walker and the contracts that the law needs,part 3. -/
import Derived.Sort.BigQuietIn
import Derived.Test.YtebiafomiemgbaaGreatDoorJ2
set_option linter.unusedVariables false
set_option linter.unusedSimpArgs false
namespace Go.Proofs.YtebiafomiemgbaaGreatDoor
open Go.RowKit
variable {F : Fence} {n m : Nat} {P : Program}
theorem jY.putObj {S:List Nat} {a w:World} (h:jY S a w) {l:Nat} (hl:l∈S∨a.heap.size≤l) (o:Obj):jY S a (w.putObj l o):=
 ⟨h.os,h.tape,h.output,by simpa using h.size,fun k hk hS=>by
  refine(World.putObj_heap_other ?_).trans (h.block k hk hS)
  grind⟩
def jde (fn:Nat) (a:Act) (ps:Array Tmp) (assign body:Code) (D:Nat) (st:LoopState) (pe:Option Code):Loop:=
 {state:=st,pending:=pe,fn:=fn,tmps:=a.tmps,params:=ps,assign:=assign,body:=body,defers:=D}
def jfF (W:World) (l:Nat) (r:LoopState→Option Code→Loop) (st:LoopState) (pe:Option Code):Prop:=W.heap[l]?=some (.loop (r st pe))
theorem jfF.lt {W:World} {l:Nat} {r:LoopState→Option Code→Loop} {st:LoopState} {pe:Option Code} (h:jfF W l r st pe):l<W.heap.size:=(Array.getElem?_eq_some_iff.1 h).1
theorem jfF.only {W W':World} {l:Nat} {r:LoopState→Option Code→Loop} {st:LoopState} {pe:Option Code} {S:List Nat} (h:jfF W l r st pe) (ho:jY S W W') (hl:l∉S):jfF W' l r st pe:=
 (ho.block l h.lt hl).trans h
end Go.Proofs.YtebiafomiemgbaaGreatDoor
