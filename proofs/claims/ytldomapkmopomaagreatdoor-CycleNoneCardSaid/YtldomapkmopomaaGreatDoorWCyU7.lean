/-Cycle:CycleNone:the call of the law's function,for any arguments that came in. -/
import Derived.Test.YtldomapkmopomaaGreatDoorWCyR7
namespace Go.Proofs.YtldomapkmopomaaGreatDoor.Sw
open Go.RowKit Go.ChangeShapes Go.WideShapes Go.ChangeAt Go.Deep Go.Joins
set_option linter.unusedVariables false
set_option maxRecDepth 100000
theorem cycleNone_call {H:Type} {enc:TypeId × Value→H} (W:World) (base:Nat) (v0 v1 v2:Value) {d0 d1 d2:DataW H} {p0 p1 p2:List MemPlace} (hG:jw W)
  (o0:Value.okWide Tryz.prog W .any base 25 v0) (h0:DataW.Trod enc Tryz.prog W 0 (fun _=>true) true 25 v0 d0 p0) (z0: ∀ n∈d0.weights Tryz.prog 25,n≤reachBytes)
  (o1:Value.okWide Tryz.prog W .any base 25 v1) (h1:DataW.Trod enc Tryz.prog W 0 (fun _=>true) true 25 v1 d1 p1) (z1: ∀ n∈d1.weights Tryz.prog 25,n≤reachBytes)
  (o2:Value.okWide Tryz.prog W .any base 27 v2) (h2:DataW.Trod enc Tryz.prog W 0 (fun _=>true) true 27 v2 d2 p2):
  Calls Tryz.prog 3 #[v0,v1,v2] W (jcp W):=by
 obtain⟨c,vc,vt,rfl,hC,hR,hvc⟩:=jca o0 h0 z0
 obtain⟨o,wc,wt,rfl,hCo,hRo,hwc⟩:=jca o1 h1 z1
 obtain⟨x,rfl,hu⟩:=stp_v o2 h2
 exact(jhT (F:=[]) hG hR hRo (Sli.old hC) hvc hwc hu).calls
end Go.Proofs.YtldomapkmopomaaGreatDoor.Sw
