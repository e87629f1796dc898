/-The walker and contracts, part 3.-/
import Derived.Sort.BigQuietIn
import Derived.Test.YtciaccbemnpipaaGreatDoorJ2
set_option linter.all false
namespace Go.Proofs.YtciaccbemnpipaaGreatDoor
open Go.RowKit
variable {F : Fence} {n m : Nat} {P : Program}
theorem jN.putObj {S:List Nat} {a w:World} (h:jN S a w) {l:Nat} (hl:l∈S\/a.heap.size<=l) (o:Obj):jN S a (w.putObj l o):=
 ⟨h.os,h.tape,h.output,by simpa using h.size,fun k hk hS=>by
  refine(World.putObj_heap_other ?_).trans (h.block k hk hS)
  intro e;subst e;rcases hl with hl|hl
  ·exact hS hl
  ·omega⟩
def jb3 (fn:Nat) (a:Act) (ps:Array Tmp) (assign body:Code) (D:Nat) (st:LoopState) (pe:Option Code):Loop:=
 {state:=st,pending:=pe,fn:=fn,tmps:=a.tmps,params:=ps,assign:=assign,body:=body,defers:=D}
def jdO (W:World) (l:Nat) (r:LoopState->Option Code->Loop) (st:LoopState) (pe:Option Code):Prop:=W.heap[l]?=some (.loop (r st pe))
theorem jdO.lt {W:World} {l:Nat} {r:LoopState->Option Code->Loop} {st:LoopState} {pe:Option Code} (h:jdO W l r st pe):l<W.heap.size:=(Array.getElem?_eq_some_iff.1 h).1
theorem jdO.only {W W':World} {l:Nat} {r:LoopState->Option Code->Loop} {st:LoopState} {pe:Option Code} {S:List Nat} (h:jdO W l r st pe) (ho:jN S W W') (hl:l∉S):jdO W' l r st pe:=
 (ho.block l h.lt hl).trans h
