/-Farm:FarmRests:the call of the law's function,for any arguments that came in. -/
import Derived.Test.YtebiafomiemgbaaGreatDoorWFmU7c
set_option linter.unusedVariables false set_option linter.unusedSimpArgs false set_option linter.unusedVariables false
set_option linter.unusedSimpArgs false
namespace Go.Proofs.YtebiafomiemgbaaGreatDoor.Sw
set_option maxHeartbeats 8000000
open Go.RowKit Go.ChangeShapes Go.WideShapes Go.ChangeAt Go.Deep Go.Joins
set_option maxRecDepth 100000
theorem jee {H:Type} {enc:TypeId × Value→H} {W:World} {base:Nat} {v:Value} {d:DataW H} {p:List MemPlace} (ho:Value.okWide Tryz.prog W .any base 26 v) (h:DataW.Trod enc Tryz.prog W 0 (fun _=>true) true 26 v d p):
  ∃ l:List jM,SlW W faE v l∧ ∀ x∈l,FActOk x:=slice_sl (P:=Tryz.prog) (E:=faE) Tryz.underlying26 (by rfl) (by decide) ho h FActOk (fun fuel cs x hx hl=>fact_in hx hl)
theorem fpick_v {H:Type} {enc:TypeId × Value→H} {W:World} {base:Nat} {v:Value} {d:DataW H} {p:List MemPlace} (ho:Value.okWide Tryz.prog W .any base 38 v) (h:DataW.Trod enc Tryz.prog W 0 (fun _=>true) true 38 v d p):
  ∃ x:PkP,v= .agg [.int .i64 x.k, .int .i64 x.t, .int .u8 (x.u:Nat)].toArray∧x.u<256:=by
 obtain⟨cs,rfl,hs⟩:=okWide_struct Tryz.underlying38 ho
 have k6:(Tryz.prog).cellsOf 38=3:=by rfl
 rw[k6] at hs
 obtain⟨fuel,hf⟩:=h
 obtain⟨l⟩:=cs
 obtain⟨y,hy,hok⟩:=jiN (cs:=l) (by simpa [Value.cells] using hf) hs
 grind
theorem farmRests_call {H:Type} {enc:TypeId × Value→H} (W:World) (base:Nat) (v0 v1 v2:Value) {d0 d1 d2:DataW H} {p0 p1 p2:List MemPlace} (hG:ji W)
  (o0:Value.okWide Tryz.prog W .any base 25 v0) (h0:DataW.Trod enc Tryz.prog W 0 (fun _=>true) true 25 v0 d0 p0) (z0: ∀ n∈d0.weights Tryz.prog 25,n≤reachBytes)
  (o1:Value.okWide Tryz.prog W .any base 26 v1) (h1:DataW.Trod enc Tryz.prog W 0 (fun _=>true) true 26 v1 d1 p1)
  (o2:Value.okWide Tryz.prog W .any base 38 v2) (h2:DataW.Trod enc Tryz.prog W 0 (fun _=>true) true 38 v2 d2 p2):
  Calls Tryz.prog 9 #[v0,v1,v2] W (jcJ W):=by
 obtain⟨c,vc,vt,rfl,hC,hR,hvc⟩:=jcO o0 h0 z0
 obtain⟨l,hL,hok⟩:=jee o1 h1
 have hvt:vt.oneCell'=true:=(hR.tn W (HF.self W)).one
 obtain⟨p,rfl,hp⟩:=fpick_v o2 h2
 exact(farmRests_K (F:=[]) hG hR hvc hvt (Sli.old hL) hok hp).calls
end Go.Proofs.YtebiafomiemgbaaGreatDoor.Sw
