/-What the law needs of its own,part 1. -/
import Derived.Test.YtpcgafhgfjlkmaaGreatDoorD1
import Derived.WalkKit
import Derived.ProofKit
import Derived.RangeFuncNested
import Derived.RangeFuncBound
import Derived.RangeFuncCalls
import Derived.RangeFuncLeaves
import Derived.Lib.Hide
import Derived.Sort.BigQuietIn
import Derived.Deep.Quiet
import Derived.StillTailTactics
import Derived.Deep.LoopGhost
import Derived.Laws.Cells
import Derived.OrdersIn
import Derived.Deep.OwnRows
import Derived.Laws.CopyOwn
import Derived.IntWalk
import Derived.ArgAppend
import Derived.Deep.Slices
import Derived.Deep.Fields
import Derived.Laws.IdiomStrings
import Derived.Laws.StructEq
import Derived.Maps.RangeRun
import Derived.Laws.Externs
import Derived.Laws.FloatArith
import Derived.Laws.NewFold
import Derived.RecoverIn
import Derived.Shelf.Strconv.Itoa0
import Derived.Shelf.Bits.Mul64
import Derived.Shelf.Slices.Turned
import Derived.Test.YtpcgafhgfjlkmaaGreatDoorProg
import Derived.SizedLaws
import Derived.Lib.SmallJoins
import Derived.ChangeMaps5
import Derived.Lib.TrailingZeros
import Derived.Lib.BitFns
import Derived.Shelf.Spec.TrailingZeros
import Derived.Test.YtpcgafhgfjlkmaaGreatDoorRows
import Derived.OpenShut
import Derived.LaidMore
import Derived.Lay
import Derived.LaidHandle
import Derived.Test.YtpcgafhgfjlkmaaGreatDoorJ39
set_option linter.unusedVariables false set_option linter.unusedSimpArgs false namespace Go.Proofs.YtpcgafhgfjlkmaaGreatDoor
set_option maxHeartbeats 8000000
open Go.RowKit Go.ChangeShapes Go.WideShapes Go.ChangeAt Go.Deep Go.Joins
set_option linter.unusedVariables false
set_option maxRecDepth 100000
def jaJ (z:Int):Prop:=0≤z∧z≤18446744073709551615
def u8ok (z:Int):Prop:=0≤z∧z≤255
theorem jbF {z:Int} (h:(Lit.int .u64 z).wf=true):jaJ z:=by simpa [Lit.wf,IntKind.min,IntKind.max,IntKind.signed,IntKind.bits,jaJ] using h
theorem wf_u8 {z:Int} (h:(Lit.int .u8 z).wf=true):u8ok z:=by simpa [Lit.wf,IntKind.min,IntKind.max,IntKind.signed,IntKind.bits,u8ok] using h
end Go.Proofs.YtpcgafhgfjlkmaaGreatDoor
namespace Go.Proofs.YtpcgafhgfjlkmaaGreatDoor.Sw
open Go.Proofs.YtpcgafhgfjlkmaaGreatDoor renaming lo → qL, hi → qH
open Go.RowKit
set_option linter.unusedSimpArgs false
set_option maxRecDepth 10000
def haE:Enc jU:=⟨acL,10,fun _=>rfl,by intro x v hv;simp[acL] at hv;rcases hv with rfl|rfl|rfl|rfl|rfl|rfl|rfl|rfl|rfl|rfl<;>rfl⟩
section
variable {C : HpC} {h h' : HpP} {T G : List Int} {op : OpP}
theorem StI.new0 (hC:jk C):StI C (newH C) [] []:=⟨HeI.new hC,fun x hx=>(by cases hx),fun x hx=>(by cases hx)⟩
end
open Go.RowKit Go.ChangeShapes Go.WideShapes Go.ChangeAt Go.Deep Go.Joins
set_option maxRecDepth 100000
section
variable {H : Type} {enc : TypeId × Value → H} {W : World}
theorem jdL {fuel:Nat} {cs:List Value} {x:DataW H × List MemPlace} (hx:DataW.trod enc Tryz.prog W 0 (fun _=>true) true fuel 35 cs=some x) (hlen:cs.length=5): ∃ y:OpP,cs=[.int .u8 (y.c:Nat), .int .u64 (y.h:Nat), .int .i64 y.a, .int .i64 y.b, .int .u64 (y.v:Nat)]∧JN y:=by
 obtain⟨c0,c1,c2,c3,c4,rfl⟩: ∃ c0 c1 c2 c3 c4,cs=[c0,c1,c2,c3,c4]:=by
  match cs,hlen with
  | [c0,c1,c2,c3,c4],_=>exact⟨c0,c1,c2,c3,c4,rfl⟩
 obtain⟨xs,n,_,rfl,hl,hxl,hf⟩:=DataW.trod_struct Tryz.underlying35 hx
 have k8:(Tryz.prog).cellsOf 5=1:=by kernel_rfl
 have ku:(Tryz.prog).cellsOf 33=1:=by kernel_rfl
 have ki:(Tryz.prog).cellsOf 3=1:=by kernel_rfl
 match xs,hxl with
 | [y0,y1,y2,y3,y4],_=>
  have h0:=hf 0 _ rfl
  have h1:=hf 1 _ rfl
  have h2:=hf 2 _ rfl
  have h3:=hf 3 _ rfl
  have h4:=hf 4 _ rfl
  obtain⟨a0,e0,-,w0⟩:=DataW.trod_int Tryz.underlying5 (by simpa [k8,ku,ki] using h0)
  obtain⟨a1,e1,-,w1⟩:=DataW.trod_int Tryz.underlying33 (by simpa [k8,ku,ki] using h1)
  obtain⟨a2,e2,-,w2⟩:=DataW.trod_int Tryz.underlying3 (by simpa [k8,ku,ki] using h2)
  obtain⟨a3,e3,-,w3⟩:=DataW.trod_int Tryz.underlying3 (by simpa [k8,ku,ki] using h3)
  obtain⟨a4,e4,-,w4⟩:=DataW.trod_int Tryz.underlying33 (by simpa [k8,ku,ki] using h4)
  simp at e0 e1 e2 e3 e4
  have hu0:=wf_u8 w0
  have hu1:=jbF w1
  have hu4:=jbF w4
  unfold u8ok at hu0;unfold jaJ at hu1 hu4
  obtain⟨n0,rfl⟩: ∃ n0:Nat,a0=n0:=⟨a0.toNat,by omega⟩
  obtain⟨n1,rfl⟩: ∃ n1:Nat,a1=n1:=⟨a1.toNat,by omega⟩
  obtain⟨n4,rfl⟩: ∃ n4:Nat,a4=n4:=⟨a4.toNat,by omega⟩
  subst e0 e1 e2 e3 e4;exact zjM
theorem hact_in {fuel:Nat} {cs:List Value} {x:DataW H × List MemPlace} (hx:DataW.trod enc Tryz.prog W 0 (fun _=>true) true fuel 37 cs=some x) (hlen:cs.length=10): ∃ y:jU,cs=haE.enc y∧J7 y:=by
 obtain⟨c0,c1,c2,c3,c4,c5,c6,c7,c8,c9,rfl⟩: ∃ c0 c1 c2 c3 c4 c5 c6 c7 c8 c9,cs=[c0,c1,c2,c3,c4,c5,c6,c7,c8,c9]:=by
  match cs,hlen with
  | [c0,c1,c2,c3,c4,c5,c6,c7,c8,c9],_=>exact⟨c0,c1,c2,c3,c4,c5,c6,c7,c8,c9,rfl⟩
 obtain⟨xs,n,hn,rfl,hl,hxl,hf⟩:=DataW.trod_struct Tryz.underlying37 hx
 have k8:(Tryz.prog).cellsOf 5=1:=by kernel_rfl
 have kb:(Tryz.prog).cellsOf 4=1:=by kernel_rfl
 have ki:(Tryz.prog).cellsOf 3=1:=by kernel_rfl
 have ko:(Tryz.prog).cellsOf 35=5:=by kernel_rfl
 match xs,hxl with
 | [y0,y1,y2,y3,y4,y5],_=>
  have h0:=hf 0 _ rfl
  have h1:=hf 1 _ rfl
  have h2:=hf 2 _ rfl
  have h3:=hf 3 _ rfl
  have h4:=hf 4 _ rfl
  have h5:=hf 5 _ rfl
  obtain⟨o,eo,ho⟩:=jdL (cs:=[c0,c1,c2,c3,c4]) (by simpa [k8,kb,ki,ko] using h0) rfl
  obtain⟨a1,e1,-,w1⟩:=DataW.trod_int Tryz.underlying3 (by simpa [k8,kb,ki,ko] using h1)
  obtain⟨a2,e2,-,w2⟩:=DataW.trod_int Tryz.underlying3 (by simpa [k8,kb,ki,ko] using h2)
  obtain⟨a3,e3,-⟩:=DataW.trod_bool Tryz.underlying4 (by simpa [k8,kb,ki,ko] using h3)
  obtain⟨a4,e4,-,w4⟩:=DataW.trod_int Tryz.underlying3 (by simpa [k8,kb,ki,ko] using h4)
  obtain⟨a5,e5,-,w5⟩:=DataW.trod_int Tryz.underlying5 (by simpa [k8,kb,ki,ko] using h5)
  simp at eo e1 e2 e3 e4 e5
  have hu:=wf_u8 w5
  unfold u8ok at hu
  obtain⟨n5,rfl⟩: ∃ n5:Nat,a5=n5:=⟨a5.toNat,by omega⟩
  obtain⟨q0,q1,q2,q3,q4⟩:=eo
  subst q0 q1 q2 q3 q4 e1 e2 e3 e4 e5;exact zkQ
end
set_option maxRecDepth 100000
theorem hact_v {H:Type} {enc:TypeId × Value→H} {W:World} {base:Nat} {v:Value} {d:DataW H} {p:List MemPlace} (ho:Value.okWide Tryz.prog W .any base 37 v) (h:DataW.Trod enc Tryz.prog W 0 (fun _=>true) true 37 v d p):
  ∃ x:jU,v= .agg (acL x).toArray∧J7 x:=by
 obtain⟨cs,rfl,hs⟩:=okWide_struct Tryz.underlying37 ho
 have k6:(Tryz.prog).cellsOf 37=10:=by kernel_rfl
 rw[k6] at hs
 obtain⟨fuel,hf⟩:=h
 obtain⟨l⟩:=cs
 obtain⟨y,hy,hok⟩:=hact_in (cs:=l) (by simpa [Value.cells] using hf) hs
 exact⟨y,by rw[hy];rfl,hok⟩
open Go.RowKit
set_option maxRecDepth 10000
def zhV:List Value:=[.slice none 0 0, .int .i64 0, .slice none 0 0, .int .i64 0, .int .i64 0, .int .i64 0, .int .i64 0, .pointer none, .pointer none, .int .i64 0]
section
variable {w0 : World} {F : jb} {c : Cfg} {vc vt : Value} {m : Js} {b : Nat} {D : HpD} {y : CyM} {h : HpP}
theorem nomem_K:Call Tryz.prog w0 55 [.pointer none] F (fun r H'=>r= .bool true∧H'=F):=by
 refine Call.enter1 (n:=13) (by kernel_rfl) Tryz.func55 rfl rfl rfl ?_;refine zk9 ?_;refine zdZ ?_;exact zdl
theorem noall_K:Call Tryz.prog w0 20 [.pointer none] F (fun r H'=>r= .slice none 0 0∧H'=F):=by
 refine Call.enter1 (n:=10) (by kernel_rfl) Tryz.func20 rfl rfl rfl ?_;refine zY ?_;refine jq nomem_K ?_;exact zdv
theorem hpNew_nil:Call Tryz.prog w0 37 [jw c vc vt, .int .i64 0, .pointer none] F (fun r H'=>r= .tuple [.pointer none, .int .i64 1].toArray∧H'=F):=by
 have hcy: ∀ A,Call Tryz.prog w0 68 [jw c vc vt, .int .i64 0, .pointer none] A (fun r H'=>r= .tuple [.pointer none, .int .i64 1].toArray∧H'=A):=fun A=>by
  obtain⟨cl,page,tns,workers,grey,gens⟩:=c
  simp only[jw,jT];refine zkE ?_;refine zcj ?_;intro b3;refine zo ?_;refine jq noall_K ?_;refine zdL ?_;exact zmN
 obtain⟨cl,page,tns,workers,grey,gens⟩:=c
 simp only[jw,jT] at hcy⊢;refine zkM ?_;refine zeh ?_;intro b3;refine zcG ?_;refine jq (hcy _) ?_;refine zaM ?_;refine zdy ?_;exact zaT
theorem hpNew_no {t:Int} (hR:Jo w0 F c vc vt) (hn:j9 c t 0=false) (okm:jau m) (hne:m.R.flatten.length≠0):
  Call Tryz.prog w0 37 [jw c vc vt, .int .i64 t, .pointer (some ⟨m.b,0,none⟩)] (jv m++F) (fun r H'=>r= .tuple [.pointer none, .int .i64 2].toArray∧H'=jv m++F):=by
 have hcy: ∀ A,Part A F→Call Tryz.prog w0 68 [jw c vc vt, .int .i64 t, .pointer (some ⟨m.b,0,none⟩)] (jv m++A) (fun r H'=>r= .tuple [.pointer none, .int .i64 2].toArray∧H'=jv m++A):=fun A hp=>by
  have hreg:jaw c t=(0,2):=by unfold jaw;rw [hn];rfl
  have hrg:=fun B (hq:Part B A)=>jhU (t:=t) ((hR.part hp).part hq)
  simp only[hreg] at hrg
  have hall:=fun A=>All_K (w0:=w0) (F:=A) okm
  clear hR hn hreg
  obtain⟨cl,page,tns,workers,grey,gens⟩:=c
  simp only[jw,jT,prV] at hrg⊢;refine zkE ?_;refine zcj ?_;intro b3;refine zx fun T hT=>?_;refine(CallV.part (CallV.fn (hall _)) ja).mono ?_;rintro _ _ ⟨oa,oka,rfl,rfl⟩
  obtain⟨ob,rfl⟩: ∃ ob,oa=some ob:=by
   cases oa with
   |none=>exact absurd (congrArg List.length oka) hne
   |some ob=>exact⟨ob,rfl⟩
  refine zd ?_;clear hT T;refine zdL ?_;refine z9 ?_;refine zb3 ?_;refine jq (hrg _ ja) ?_;refine zcZ ?_;refine zdy ?_;exact zaT
 clear hR hn
 obtain⟨cl,page,tns,workers,grey,gens⟩:=c
 simp only[jw,jT] at hcy⊢;refine zkM ?_;refine zeh ?_;intro b3;refine zcG ?_;refine ji (hcy ((b3,cells [vc, .int .i64 page,vt, .int .i64 workers, .int .i64 grey, .int .i64 gens] 25)::F) ja) ja ?_;refine zaM ?_;refine zdy ?_;exact zaT
theorem hn0_K:Call Tryz.prog w0 47 [.pointer none] F (fun r H'=>r= .bool true∧H'=F):=by
 refine zkD ?_;refine zk9 ?_;refine zdc ?_;refine zfZ ?_;exact zt
theorem hz0_K:Call Tryz.prog w0 47 [.pointer (some ⟨b,0,none⟩)] ((b,cells zhV 84)::F) (fun r H'=>r= .bool true∧H'=(b,cells zhV 84)::F):=by
 unfold zhV;refine zkD ?_;refine zcp ?_;refine zfw ?_;refine zef ?_;exact zt
end
section
variable {w0 : World} {H : jb} {v : Value}
theorem jjt (hn:Call Tryz.prog w0 47 [v] H (fun r H'=>r= .bool true∧H'=H)):Call Tryz.prog w0 34 [v] H (fun r H'=>r= .int .i64 0∧H'=H):=by
 refine zkS ?_;refine zY ?_;refine jq hn ?_;exact zdv
theorem jju (hn:Call Tryz.prog w0 47 [v] H (fun r H'=>r= .bool true∧H'=H)):Call Tryz.prog w0 17 [v] H (fun r H'=>r= .pointer none∧H'=H):=by
 refine zfX ?_;refine zY ?_;refine jq hn ?_;exact zdv
theorem jkk {k u:Int} (hn:Call Tryz.prog w0 47 [v] H (fun r H'=>r= .bool true∧H'=H)):Call Tryz.prog w0 14 [v, .int .i64 k, .int .u8 u] H (fun r H'=>r= .bool false∧H'=H):=by
 refine zjL ?_;refine zbB ?_;refine jq hn ?_;refine zE ?_;refine zaO ?_;refine zfx ?_;refine zfx ?_;exact zt
theorem nodo_K {op:OpP} (hn: ∀ A,Call Tryz.prog w0 47 [v] (A++H) (fun r H'=>r= .bool true∧H'=A++H)):Call Tryz.prog w0 16 [v,opV op] H (fun r H'=>r=snV (told 1)∧H'=H):=by
 unfold opV snV;refine zkO ?_;refine ze0 ?_;intro b3 b4;refine zo ?_;refine jq (hn [_,_]) ?_;refine zac ?_;refine zq fun T hT=>?_;refine(CallV.fn (ja0 (e:=1))).mono ?_;rintro _ _ ⟨rfl,rfl⟩;unfold snV;refine zd ?_;clear hT T;refine zht ?_;refine zbE ?_;exact zZ
end
open Go.RowKit
set_option maxRecDepth 100000
structure HnS where
 i:Nat
 f:Nat
 y:CyM
 h:HpP
section
variable {w0 : World} {F : jb} {c : Cfg} {vc vt v : Value} {op : OpP} {x : jU}
theorem jjY {c:Cfg} {t:Int} (h:t<0∨((c.tn.length:Nat):Int)≤t):j9 c t 0=false:=by
 cases hth:j9 c t 0 with
 |false=>rfl
 |true=>
  obtain⟨i,j,x,y0,rfl,_,hx,_⟩:=jbQ hth
  have:=jx hx
  omega
theorem jjD {t:Int} {D:HpD} {y:CyM} {h:HpP} {nf nk:Nat} (hR:Jo w0 F c vc vt) (hn:j9 c t 0=false) (h1:HpR D nf nk y h):
  Call Tryz.prog w0 37 [jw c vc vt, .int .i64 t, .pointer (some ⟨D.mb,0,none⟩)] (hpH D y h++F) (fun r H'=>r= .tuple [.pointer none, .int .i64 2].toArray∧H'=hpH D y h++F):=by
 have hne:y.B.m.R.flatten.length≠0:=fun e=>by
  have hb:=h1.p.p.bo
  obtain⟨A,B,hR,_⟩:=jcY hb.r
  have hn:=hb.n
  have hs:=hb.p.g.slots.1
  obtain⟨z,hz⟩:=jY (g:=y.B.p.g) (i:=0) (by omega)
  have hf:=hb.p.g.fits hz
  rw[hR,List.flatten_append,List.flatten_cons,List.length_append,List.length_append] at e
  omega
 rw[←h1.m];refine Call.ro (A:=jv y.B.m++F) (H:=hpH D y h++F) (fun F'=>?_) (by simp only[hpH_app,cycH_app];exact ja)
 have:=hpNew_no (w0:=w0) (F:=F++F') (hR.part ja) hn h1.p.p.bo.m hne
 simpa only [List.append_assoc] using this
set_option maxHeartbeats 8000000 in
theorem heapNone_K (hG:js w0) (hR:Jo w0 F c vc vt) (ho:JN op) (hxo:J7 x):Call Tryz.prog w0 8 [jw c vc vt,opV op, .agg (acL x).toArray] F (fun r H'=>r= .bool true∧H'=F):=by
 have haw:=fun A=>jgd (w0:=w0) (F:=A) hG
 have hmn:=fun A (hp:Part A F) (hno:okS c 0=false)=>jf1 (t:=0) (hR.part hp) hno
 have hmd:=fun A (hp:Part A F) (hok:okS c 0=true)=>je8 (t:=0) hG (hR.part hp) hok
 have hnl:=fun A=>hpNew_nil (w0:=w0) (F:=A) (c:=c) (vc:=vc) (vt:=vt)
 have hno1:=fun A D y h (hp:Part A F) (hR2:HpR D 1 400000000 y h)=>jjD (w0:=w0) (F:=A) (t:=((c.tn.length:Nat):Int)) (hR.part hp) (jjY (.inr (Int.le_refl _))) hR2
 have hno2:=fun A D y h (hp:Part A F) (hR2:HpR D 1 400000000 y h)=>jjD (w0:=w0) (F:=A) (t:= -1) (hR.part hp) (jjY (.inl (by decide))) hR2
 obtain⟨hS,hT',o1,o2,l1,l2⟩:=hR
 obtain⟨ok,hok⟩: ∃ ok,okS c 0=ok:=⟨_,rfl⟩
 simp only[hok] at hmn hmd
 have hgD: ∀ D y,HMade c 0 D y→c.workers=(D.C.nw:Nat):=fun D y hM=>by
  rw[←hM.ec];exact hM.ok.nw
 obtain⟨cl,page,tns,workers,grey,gens⟩:=c
 dsimp only at hS hT' l1 l2 hgD hno1 hno2;simp only[jw,jT] at hmn hmd hnl hno1 hno2⊢
 obtain⟨xo,xH,xV,wk,xk,xu⟩:=x
 obtain⟨oc,oh,oa,ob,ov⟩:=op
 have hn0:=fun A=>hn0_K (w0:=w0) (F:=A)
 have hz0:=fun A b=>hz0_K (w0:=w0) (F:=A) (b:=b)
 have hd0:=fun A=>nodo_K (w0:=w0) (H:=A) (op:=⟨oc,oh,oa,ob,ov⟩) (v:= .pointer none) (fun B=>hn0 (B++A))
 have hdz:=fun A b=>nodo_K (w0:=w0) (H:=(b,cells zhV 84)::A) (op:=⟨oc,oh,oa,ob,ov⟩) (v:= .pointer (some ⟨b,0,none⟩)) (fun B=>Call.ro (A:=(b,cells zhV 84)::[]) (H:=B++((b,cells zhV 84)::A)) (fun F'=>hz0 F' b) ja)
 have hs0:=fun A=>jkk (w0:=w0) (H:=A) (k:=xk) (u:=(xu:Nat)) (hn0 A)
 have hsz:=fun A b=>jkk (w0:=w0) (k:=xk) (u:=(xu:Nat)) (hz0 A b)
 have hw0:=fun A=>jjt (w0:=w0) (H:=A) (hn0 A)
 have hwz:=fun A b=>jjt (w0:=w0) (hz0 A b)
 have hc0:=fun A=>jju (w0:=w0) (H:=A) (hn0 A)
 have hcz:=fun A b=>jju (w0:=w0) (hz0 A b)
 unfold acL opV;unfold opV snV at hd0 hdz;unfold told at hd0 hdz;unfold zhV at hdz hsz hwz hcz;dsimp only at hd0 hdz⊢;clear hn0 hz0
 cases ok with
 |false=>
  refine Call.enter3 (n:=126) (by kernel_rfl) Tryz.func8 rfl rfl rfl ?_;refine zaU ?_;intro b3 b4;refine zbR ?_;intro b5;refine zu ?_;refine zbx ?_;refine jq (hmn _ ja rfl) ?_;refine zfG ?_;refine zf1 ?_;refine zdb ?_;exact zaT
 |true=>
  refine Call.enter3 (n:=126) (by kernel_rfl) Tryz.func8 rfl rfl rfl ?_;refine zaU ?_;intro b3 b4;refine zbR ?_;intro b5;refine zu ?_;refine zc2 fun T hT=>?_;refine(CallV.fn (hmd _ ja rfl)).mono ?_;rintro _ _ ⟨D,y0,hM,rfl,rfl⟩
  have hD:=hM.ok
  have hC:=hD.C
  have hR0:=(hM.R).mono (nk':=400000000) (Nat.le_refl _) (by decide)
  have hnw:=hgD D y0 hM
  have hok1:JN ⟨1,0,0,1,0⟩:=⟨by show(1:Nat)<256;decide,by show(0:Nat)<18446744073709551616;decide,by show(0:Nat)<18446744073709551616;decide⟩
  have hn1:=fun A (hp:Part A F)=>hno1 A D y0 _ hp hR0
  have hn2:=fun A (hp:Part A F)=>hno2 A D y0 _ hp hR0
  refine zd ?_;clear hT T;refine zfG ?_;refine zz ?_;refine zbx ?_;refine jq (hnl _) ?_;refine zQ ?_;refine z3 ?_;refine zI ?_;refine zad ?_;refine zo ?_;refine ji (hn1 ((b3,cells [vc, .int .i64 page,vt, .int .i64 workers, .int .i64 grey, .int .i64 gens] 25)::(b4,cells [.int .u8 (oc:Nat), .int .u64 (oh:Nat), .int .i64 oa, .int .i64 ob, .int .u64 (ov:Nat)] 35)::(b5,cells [.int .u8 (xo.c:Nat), .int .u64 (xo.h:Nat), .int .i64 xo.a, .int .i64 xo.b, .int .u64 (xo.v:Nat), .int .i64 xH, .int .i64 xV, .bool wk, .int .i64 xk, .int .u8 (xu:Nat)] 37)::F) ja) ja ?_;refine zQ ?_;refine zb3 ?_;refine ji (hn2 ((b3,cells [vc, .int .i64 page,vt, .int .i64 workers, .int .i64 grey, .int .i64 gens] 25)::(b4,cells [.int .u8 (oc:Nat), .int .u64 (oh:Nat), .int .i64 oa, .int .i64 ob, .int .u64 (ov:Nat)] 35)::(b5,cells [.int .u8 (xo.c:Nat), .int .u64 (xo.h:Nat), .int .i64 xo.a, .int .i64 xo.b, .int .u64 (xo.v:Nat), .int .i64 xH, .int .i64 xV, .bool wk, .int .i64 xk, .int .u8 (xu:Nat)] 37)::F) ja) ja ?_;refine zQ ?_;refine zu ?_;refine zei ?_;intro b47;refine zcn ?_;refine K.loopT (σ:=HnS) [(3,_),(4,_),(5,_),(7,_),(10,_),(12,_),(14,_),(15,_),(16,_)] (fun s kp_=>(17, .int .i64 (s.i:Nat))::kp_) (fun s=>hpH D s.y s.h++((b47,cells [.slice none 0 0, .int .i64 0, .slice none 0 0, .int .i64 0, .int .i64 0, .int .i64 0, .int .i64 0, .pointer none, .pointer none, .int .i64 0] 84)::(b3,cells [vc, .int .i64 page,vt, .int .i64 workers, .int .i64 grey, .int .i64 gens] 25)::(b4,cells [.int .u8 (oc:Nat), .int .u64 (oh:Nat), .int .i64 oa, .int .i64 ob, .int .u64 (ov:Nat)] 35)::(b5,cells [.int .u8 (xo.c:Nat), .int .u64 (xo.h:Nat), .int .i64 xo.a, .int .i64 xo.b, .int .u64 (xo.v:Nat), .int .i64 xH, .int .i64 xV, .bool wk, .int .i64 xk, .int .u8 (xu:Nat)] 37)::F)) (fun s=>s.i≤30∧HpR D s.f 400000000 s.y s.h∧s.f≤1+s.i*2∧StI D.C s.h [] []) (fun s=>30-s.i) (⟨0,1,y0,newH D.C⟩) jj ja (⟨Nat.zero_le _,hR0,(by show 1≤1+0*2;decide),StI.new0 hC⟩) ?_;rintro⟨i,f,y,h⟩ ⟨hi,hR1,hf,hSt⟩;dsimp only at hi hR1 hf hSt⊢
  by_cases hc1:i<30
  ·have hc1':((i:Nat):Int)<30:=by omega
   have hdo:=fun A=>jcf (w0:=w0) (F:=A) hG hD hSt.I hR1 (by omega) hok1
   have hS2:=hSt.do_ hC hok1
   obtain⟨⟨e,hh,w,addr,us,si,cy,ac⟩,h9,hv⟩: ∃ (q:SnP) (h9:HpP),hpDo D.C h ⟨1,0,0,1,0⟩=(q,h9):=⟨_,_,rfl⟩
   rw[hv] at hS2;simp only[hv] at hdo;unfold opV snV HpQ at hdo;dsimp only at hS2 hdo;clear hv;refine zaA ?_;refine zab ?_;refine zbc ?_;refine zco ?_;refine zq fun T hT=>?_;refine(CallV.part (CallV.fn (hdo _)) ja).mono ?_;rintro _ _ ⟨rfl,y1,hR2,rfl⟩
   have hst:=fun A (k:Int) (hk:k= -1∨k=workers)=>jdq (w0:=w0) (F:=A) (k:=k) (u:=1) hG hD hR2 (by omega)
   have hsn: ∀ k:Int,(k= -1∨k=workers)→jay D.C h9 k 1=(false,h9):=fun k hk=>by
    unfold jay;rw[if_neg (by omega)]
   have hs1:=fun A=>hst A workers (.inr rfl)
   have hs2:=fun A=>hst A (-1) (.inl rfl)
   rw[hsn _ (.inr rfl)] at hs1;rw[hsn _ (.inl rfl)] at hs2;unfold HpQ at hs1 hs2;refine zd ?_;clear hT T;refine zW ?_;refine ze ?_;refine zeO ?_;refine zq fun T hT=>?_;refine(CallV.part (CallV.fn (hs1 _)) ja).mono ?_;rintro _ _ ⟨rfl,y2,hR3,rfl⟩
   have hs2:=fun A=>jdq (w0:=w0) (F:=A) (k:= -1) (u:=1) hG hD hR3 (by omega)
   rw[hsn _ (.inl rfl)] at hs2;unfold HpQ at hs2;refine zd ?_;clear hT T;refine zeT ?_;refine j4 (hs2 _) ja ?_;rintro _ _ ⟨rfl,y3,hR4,rfl⟩;refine zC ?_;refine zeD ?_;exact KE.again ⟨i+1,f+2,y3,h9⟩ jj ja ⟨hc1,hR4,(by show f+2≤1+(i+1)*2;omega),hS2⟩ (by show 30-(i+1)<30-i;omega)
  ·have hc1': ¬((i:Nat):Int)<30:=by omega
   refine zaA ?_;refine zT ?_;refine zdh ?_;refine ze ?_;refine zd8 ?_;refine zhA ?_;refine zhA ?_;refine z3 ?_;refine zdk ?_;refine ji (hd0 _) ja ?_;refine zi ?_;refine zM ?_;refine zi ?_;refine zgH ?_;refine zb1 ?_;refine z3 ?_;refine zdk ?_;refine ji (hdz _ b47) ja ?_;refine zi ?_;refine zM ?_;refine zi ?_;refine zgH ?_;refine zb1 ?_;refine zbu ?_;refine zai ?_;refine zaL ?_;refine zai ?_;refine zn ?_;refine ji (hs0 _) ja ?_;refine ziw ?_;refine zb1 ?_;refine zbu ?_;refine zai ?_;refine zaL ?_;refine zai ?_;refine zn ?_;refine ji (hsz _ b47) ja ?_;refine ziw ?_;refine zb1 ?_;refine zn ?_;refine ji (hw0 _) ja ?_;refine zgf ?_;refine ji (hwz _ b47) ja ?_;refine zi ?_;refine zbT ?_;refine zi ?_;refine zf6 ?_;refine ji (hc0 _) ja ?_;refine zi ?_;refine zgq ?_;refine zb1 ?_;refine zn ?_;refine ji (hcz _ b47) ja ?_;refine zi ?_;refine zgq ?_;refine zbw ?_;refine zn ?_;refine ji (haw _) ja ?_;exact zdl
end
end Go.Proofs.YtpcgafhgfjlkmaaGreatDoor.Sw
