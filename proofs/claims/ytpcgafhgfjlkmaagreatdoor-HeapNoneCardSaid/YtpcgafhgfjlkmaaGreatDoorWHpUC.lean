/-jb:HeapNone:the call of the law's function,for any arguments that came in. -/
import Derived.Test.YtpcgafhgfjlkmaaGreatDoorD1
import Derived.Test.YtpcgafhgfjlkmaaGreatDoorWHpUCx1
set_option linter.unusedVariables false set_option linter.unusedSimpArgs false namespace Go.Proofs.YtpcgafhgfjlkmaaGreatDoor.Sw
set_option maxHeartbeats 8000000
open Go.RowKit Go.ChangeShapes Go.WideShapes Go.ChangeAt Go.Deep Go.Joins
set_option linter.unusedVariables false
set_option maxRecDepth 100000
theorem hop_v {H:Type} {enc:TypeId × Value→H} {W:World} {base:Nat} {v:Value} {d:DataW H} {p:List MemPlace} (ho:Value.okWide Tryz.prog W .any base 35 v) (h:DataW.Trod enc Tryz.prog W 0 (fun _=>true) true 35 v d p):
  ∃ x:OpP,v=opV x∧JN x:=by
 obtain⟨cs,rfl,hs⟩:=okWide_struct Tryz.underlying35 ho
 have k6:(Tryz.prog).cellsOf 35=5:=by kernel_rfl
 rw[k6] at hs
 obtain⟨fuel,hf⟩:=h
 obtain⟨l⟩:=cs
 obtain⟨y,hy,hok⟩:=jdL (cs:=l) (by simpa [Value.cells] using hf) hs
 exact⟨y,by rw[hy];rfl,hok⟩
theorem heapNone_call {H:Type} {enc:TypeId × Value→H} (W:World) (base:Nat) (v0 v1 v2:Value) {d0 d1 d2:DataW H} {p0 p1 p2:List MemPlace} (hG:js W)
  (o0:Value.okWide Tryz.prog W .any base 25 v0) (h0:DataW.Trod enc Tryz.prog W 0 (fun _=>true) true 25 v0 d0 p0) (z0: ∀ n∈d0.weights Tryz.prog 25,n≤reachBytes)
  (o1:Value.okWide Tryz.prog W .any base 35 v1) (h1:DataW.Trod enc Tryz.prog W 0 (fun _=>true) true 35 v1 d1 p1)
  (o2:Value.okWide Tryz.prog W .any base 37 v2) (h2:DataW.Trod enc Tryz.prog W 0 (fun _=>true) true 37 v2 d2 p2):
  Calls Tryz.prog 8 #[v0,v1,v2] W (jcx W):=by
 obtain⟨c,vc,vt,rfl,hC,hR,hvc⟩:=jcF o0 h0 z0
 obtain⟨o,rfl,ho⟩:=hop_v o1 h1
 obtain⟨x,rfl,hx⟩:=hact_v o2 h2
 exact(heapNone_K (F:=[]) hG hR ho hx).calls
end Go.Proofs.YtpcgafhgfjlkmaaGreatDoor.Sw
