/-jb:HeapPlays:the call of the law's function,for any arguments that came in. -/
import Derived.Test.YtciaccbemnpipaaGreatDoorD2
import Derived.Test.YtciaccbemnpipaaGreatDoorJ41
set_option linter.all false
namespace Go.Proofs.YtciaccbemnpipaaGreatDoor.Sw
set_option maxHeartbeats 8000000
open Go.RowKit Go.ChangeShapes Go.WideShapes Go.ChangeAt Go.Deep Go.Joins
set_option maxRecDepth 100000
theorem qacts_sl {H:Type} {enc:TypeId × Value->H} {W:World} {base:Nat} {v:Value} {d:DataW H} {p:List MemPlace} (ho:Value.okWide Tryz.prog W .any base 26 v) (h:DataW.Trod enc Tryz.prog W 0 (fun _=>true) true 26 v d p):
  ∃ l:List jcv,SlW W haE v l/\ ∀ x∈l,jdP x:=slice_sl (P:=Tryz.prog) (E:=haE) Tryz.underlying26 bu bn ho h jdP (fun fuel cs x hx hl=>hact_in hx hl)
theorem heapPlays_call {H:Type} {enc:TypeId × Value->H} (W:World) (base:Nat) (v0 v1 v2:Value) {d0 d1 d2:DataW H} {p0 p1 p2:List MemPlace} (hG:ju W)
  (o0:Value.okWide Tryz.prog W .any base 25 v0) (h0:DataW.Trod enc Tryz.prog W 0 (fun _=>true) true 25 v0 d0 p0) (z0: ∀ n∈d0.weights Tryz.prog 25,n<=reachBytes)
  (o1:Value.okWide Tryz.prog W .any base 5 v1) (h1:DataW.Trod enc Tryz.prog W 0 (fun _=>true) true 5 v1 d1 p1)
  (o2:Value.okWide Tryz.prog W .any base 26 v2) (h2:DataW.Trod enc Tryz.prog W 0 (fun _=>true) true 26 v2 d2 p2):
  Calls Tryz.prog 3 #[v0,v1,v2] W (AwakeEnd W):=by
 obtain⟨c,vc,vt,rfl,hC,hR,hvc⟩:=cfg_v o0 h0 z0
 have hvt:vt.oneCell'=true:=(hR.tn W (HF.self W)).one
 obtain⟨t,rfl,rfl,rfl,w1⟩:=open_int Tryz.underlying5 o1 h1
 have hu:=wf_u8 w1
 unfold u8ok at hu
 obtain⟨n,rfl⟩: ∃ n:Nat,t=n:=⟨t.toNat,by omega⟩
 obtain⟨l,hL,hok⟩:=qacts_sl o2 h2
 exact(jle (F:=[]) hG hR hvc hvt (Sli.old hL) hok bc).calls
