/-Machine:MachineSwaps:the call of the law's function,for any arguments that came in. -/
import Derived.Test.YtebiafomiemgbaaGreatDoorWMtU3c
set_option linter.unusedVariables false
namespace Go.Proofs.YtebiafomiemgbaaGreatDoor.Sw
set_option maxHeartbeats 8000000
open Go.RowKit Go.ChangeShapes Go.WideShapes Go.ChangeAt Go.Deep Go.Joins
set_option maxRecDepth 100000
theorem jeR {H:Type} {enc:TypeId × Value→H} {W:World} {base:Nat} {v:Value} {d:DataW H} {p:List MemPlace} (ho:Value.okWide Tryz.prog W .any base 74 v) (h:DataW.Trod enc Tryz.prog W 0 (fun _=>true) true 74 v d p):
  ∃ l:List (List UInt8),SlW W stE v l:=by
 obtain⟨l,hl,_⟩:=slice_sl (P:=Tryz.prog) (E:=stE) Tryz.underlying74 (by rfl) (by decide) ho h (fun _=>True) (fun fuel cs x hx _=>by
  obtain⟨s,rfl,_⟩:=DataW.trod_string Tryz.underlying9 hx
  exact⟨s.data.toList,rfl,trivial⟩)
 grind
theorem machineSwaps_call {H:Type} {enc:TypeId × Value→H} (W:World) (base:Nat) (v0 v1 v2:Value) {d0 d1 d2:DataW H} {p0 p1 p2:List MemPlace} (hG:ji W)
  (o0:Value.okWide Tryz.prog W .any base 25 v0) (h0:DataW.Trod enc Tryz.prog W 0 (fun _=>true) true 25 v0 d0 p0) (z0: ∀ n∈d0.weights Tryz.prog 25,n≤reachBytes)
  (o1:Value.okWide Tryz.prog W .any base 74 v1) (h1:DataW.Trod enc Tryz.prog W 0 (fun _=>true) true 74 v1 d1 p1)
  (o2:Value.okWide Tryz.prog W .any base 5 v2) (h2:DataW.Trod enc Tryz.prog W 0 (fun _=>true) true 5 v2 d2 p2):
  Calls Tryz.prog 12 #[v0,v1,v2] W (jcJ W):=by
 obtain⟨c,vc,vt,rfl,hC,hR,hvc⟩:=jcO o0 h0 z0
 obtain⟨l,hL⟩:=jeR o1 h1
 obtain⟨t,rfl,rfl,rfl,w1⟩:=open_int Tryz.underlying5 o2 h2
 have hu:=jfG w1
 unfold u8ok at hu
 obtain⟨n,rfl⟩: ∃ n:Nat,t=n:=⟨t.toNat,by omega⟩
 exact(machineSwaps_K (F:=[]) hG hR (Sli.old hL) (by omega)).calls
end Go.Proofs.YtebiafomiemgbaaGreatDoor.Sw
