/-jb:HeapDrains:the call of the law's function,for any arguments that came in. -/
import Derived.Test.YtpcgafhgfjlkmaaGreatDoorD1
import Derived.Test.YtpcgafhgfjlkmaaGreatDoorWHpU6x1
set_option linter.unusedVariables false set_option linter.unusedSimpArgs false namespace Go.Proofs.YtpcgafhgfjlkmaaGreatDoor.Sw
set_option maxHeartbeats 8000000
open Go.RowKit Go.ChangeShapes Go.WideShapes Go.ChangeAt Go.Deep Go.Joins
set_option linter.unusedVariables false
set_option maxRecDepth 100000
theorem hacts_slZ {H:Type} {enc:TypeId × Value→H} {W:World} {base:Nat} {v:Value} {d:DataW H} {p:List MemPlace} (ho:Value.okWide Tryz.prog W .any base 26 v) (h:DataW.Trod enc Tryz.prog W 0 (fun _=>true) true 26 v d p) (hz: ∀ n∈d.weights Tryz.prog 26,n≤reachBytes):
  ∃ l:List jU,SlW W haE v l∧(∀ x∈l,J7 x)∧l.length*80≤140737488355328:=by
 obtain⟨a,len,cap,rfl⟩:=okWide_slice Tryz.underlying26 ho
 obtain⟨fuel,hf⟩:=h
 have hb8:(Tryz.prog).bytesOf 37=80:=by kernel_rfl
 obtain⟨a',n',c',ps,hcs,hS,hok,hbz⟩:=jgW (P:=Tryz.prog) (E:=haE) Tryz.underlying26 (by kernel_rfl) (by decide) hf hz J7 (fun fuel cs x hx _ hl=>hact_in hx hl)
 simp[Value.cells] at hcs
 obtain⟨rfl,rfl,rfl⟩:=hcs
 rw[hb8] at hbz
 have hr:reachBytes≤140737488355328:=by decide
 exact⟨ps,hS,hok,Nat.le_trans hbz hr⟩
theorem heapDrains_call {H:Type} {enc:TypeId × Value→H} (W:World) (base:Nat) (v0 v1:Value) {d0 d1:DataW H} {p0 p1:List MemPlace} (hG:js W)
  (o0:Value.okWide Tryz.prog W .any base 25 v0) (h0:DataW.Trod enc Tryz.prog W 0 (fun _=>true) true 25 v0 d0 p0) (z0: ∀ n∈d0.weights Tryz.prog 25,n≤reachBytes)
  (o1:Value.okWide Tryz.prog W .any base 26 v1) (h1:DataW.Trod enc Tryz.prog W 0 (fun _=>true) true 26 v1 d1 p1) (z1: ∀ n∈d1.weights Tryz.prog 26,n≤reachBytes):
  Calls Tryz.prog 6 #[v0,v1] W (jcx W):=by
 obtain⟨c,vc,vt,rfl,hC,hR,hvc⟩:=jcF o0 h0 z0
 obtain⟨l,hL,hok,hll⟩:=hacts_slZ o1 h1 z1
 exact(heapDrains_K (F:=[]) hG hR (Sli.old hL) hok hll).calls
end Go.Proofs.YtpcgafhgfjlkmaaGreatDoor.Sw
