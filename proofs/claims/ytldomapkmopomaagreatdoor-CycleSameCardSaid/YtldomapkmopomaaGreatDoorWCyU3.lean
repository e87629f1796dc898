/-Cycle:CycleSame:the call of the law's function,for any arguments that came in. -/
import Derived.Test.YtldomapkmopomaaGreatDoorWCyR3
namespace Go.Proofs.YtldomapkmopomaaGreatDoor.Sw
open Go.RowKit Go.ChangeShapes Go.WideShapes Go.ChangeAt Go.Deep Go.Joins
set_option linter.unusedVariables false
set_option maxRecDepth 100000
theorem cycleSame_call {H:Type} {enc:TypeId × Value→H} (W:World) (base:Nat) (v0 v1 v2:Value) {d0 d1 d2:DataW H} {p0 p1 p2:List MemPlace} (hG:jw W)
  (o0:Value.okWide Tryz.prog W .any base 25 v0) (h0:DataW.Trod enc Tryz.prog W 0 (fun _=>true) true 25 v0 d0 p0) (z0: ∀ n∈d0.weights Tryz.prog 25,n≤reachBytes)
  (o1:Value.okWide Tryz.prog W .any base 98 v1) (h1:DataW.Trod enc Tryz.prog W 0 (fun _=>true) true 98 v1 d1 p1)
  (o2:Value.okWide Tryz.prog W .any base 98 v2) (h2:DataW.Trod enc Tryz.prog W 0 (fun _=>true) true 98 v2 d2 p2):
  Calls Tryz.prog 4 #[v0,v1,v2] W (jcp W):=by
 obtain⟨c,vc,vt,rfl,hC,hR,hvc⟩:=jca o0 h0 z0
 obtain⟨x,vL,vS,vK,rfl,hx⟩:=jbH o1 h1
 obtain⟨z,uL,uS,uK,rfl,hz⟩:=jbH o2 h2
 exact(jhS (F:=[]) hG hR (Sli.old hC) hvc hx hz).calls
end Go.Proofs.YtldomapkmopomaaGreatDoor.Sw
