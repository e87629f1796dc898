/-The walker and the contracts that the law needs,part 3. -/
import Derived.Sort.BigQuietIn
import Derived.Test.YtldomapkmopomaaGreatDoorJ2
namespace Go.Proofs.YtldomapkmopomaaGreatDoor
open Go.RowKit
variable {F : Fence} {n m : Nat} {P : Program}
theorem jQ.putObj {S:List Nat} {a w:World} (h:jQ S a w) {l:Nat} (hl:l∈S∨a.heap.size≤l) (o:Obj):jQ S a (w.putObj l o):=
 ⟨h.os,h.tape,h.output,by simpa using h.size,fun k hk hS=>by
  refine(World.putObj_heap_other ?_).trans (h.block k hk hS)
  intro e;subst e;rcases hl with hl|hl
  ·exact hS hl
  ·omega⟩
def jbl (fn:Nat) (a:Act) (ps:Array Tmp) (assign body:Code) (D:Nat) (st:LoopState) (pe:Option Code):Loop:=
 {state:=st,pending:=pe,fn:=fn,tmps:=a.tmps,params:=ps,assign:=assign,body:=body,defers:=D}
def jc7 (W:World) (l:Nat) (r:LoopState→Option Code→Loop) (st:LoopState) (pe:Option Code):Prop:=W.heap[l]?=some (.loop (r st pe))
theorem jc7.lt {W:World} {l:Nat} {r:LoopState→Option Code→Loop} {st:LoopState} {pe:Option Code} (h:jc7 W l r st pe):l<W.heap.size:=(Array.getElem?_eq_some_iff.1 h).1
theorem jc7.only {W W':World} {l:Nat} {r:LoopState→Option Code→Loop} {st:LoopState} {pe:Option Code} {S:List Nat} (h:jc7 W l r st pe) (ho:jQ S W W') (hl:l∉S):jc7 W' l r st pe:=
 (ho.block l h.lt hl).trans h
end Go.Proofs.YtldomapkmopomaaGreatDoor
