/-The walker and the contracts that the law needs,part 36. -/
import Derived.Test.YtldomapkmopomaaGreatDoorD1
import Derived.ArgAppend
import Derived.ChangeMaps5
import Derived.Deep.Fields
import Derived.Deep.LoopGhost
import Derived.Deep.OwnRows
import Derived.Deep.Quiet
import Derived.Deep.Slices
import Derived.IntWalk
import Derived.Laws.Cells
import Derived.Laws.CopyOwn
import Derived.Laws.Externs
import Derived.Laws.FloatArith
import Derived.Laws.IdiomStrings
import Derived.Laws.NewFold
import Derived.Laws.StructEq
import Derived.Lib.BitFns
import Derived.Lib.Hide
import Derived.Lib.SmallJoins
import Derived.Lib.TrailingZeros
import Derived.Maps.RangeRun
import Derived.OrdersIn
import Derived.ProofKit
import Derived.RangeFuncBound
import Derived.RangeFuncCalls
import Derived.RangeFuncLeaves
import Derived.RangeFuncNested
import Derived.RecoverIn
import Derived.Shelf.Bits.Mul64
import Derived.Shelf.Slices.Turned
import Derived.Shelf.Spec.TrailingZeros
import Derived.Shelf.Strconv.Itoa0
import Derived.SizedLaws
import Derived.Sort.BigQuietIn
import Derived.StillTailTactics
import Derived.Test.YtldomapkmopomaaGreatDoorProg
import Derived.WalkKit
import Derived.Test.YtldomapkmopomaaGreatDoorJ31
import Derived.Test.YtldomapkmopomaaGreatDoorJ35
set_option linter.unusedVariables false set_option linter.unusedSimpArgs false namespace Go.Proofs.YtldomapkmopomaaGreatDoor.Sw
set_option maxHeartbeats 8000000
open Go.Proofs.YtldomapkmopomaaGreatDoor renaming lo → qL, hi → qH
open Go.RowKit
set_option linter.unusedVariables false
set_option linter.unusedSimpArgs false
set_option maxRecDepth 10000
structure CyV where
 va:Value
 z:KwV
 q:KmV
 vd:Value
def cyL (v:PlV) (g:PlG) (long:Nat) (d:CyV) (s:CyP):List Value:=v.L::v.F::v.M:: .int .i64 (g.words:Nat)::v.C::d.va::d.z.vr:: .int .i64 ((0:Nat):Int)::v.L::v.F::v.M:: .int .i64 (g.words:Nat)::v.C::d.z.vt:: .int .i64 d.z.gens::d.z.vn::d.q.c::v.L::v.F::v.M:: .int .i64 (g.words:Nat)::v.C:: .int .i64 (long:Nat)::d.q.u.Q::d.q.u.ow::d.q.u.di:: .int .i64 (pgI s.m.G):: .int .i64 (s.m.G.at_:Nat)::d.q.h:: .int .i64 (s.m.root:Nat):: .bool s.m.act:: .int .i64 (s.m.steps:Nat):: .bool s.sa:: .int .i64 (s.at_:Nat)::d.vd:: .int .u8 (s.ph:Nat):: .int .i64 (s.st:Nat)::[]
def cy0:List Value:= .slice none 0 0:: .slice none 0 0:: .slice none 0 0:: .int .i64 0:: .slice none 0 0:: .slice none 0 0:: .slice none 0 0:: .int .i64 0:: .slice none 0 0:: .slice none 0 0:: .slice none 0 0:: .int .i64 0:: .slice none 0 0:: .slice none 0 0:: .int .i64 0:: .slice none 0 0:: .slice none 0 0:: .slice none 0 0:: .slice none 0 0:: .slice none 0 0:: .int .i64 0:: .slice none 0 0:: .int .i64 0:: .slice none 0 0:: .slice none 0 0:: .slice none 0 0:: .int .i64 0:: .int .i64 0:: .slice none 0 0:: .int .i64 0:: .bool false:: .int .i64 0:: .bool false:: .int .i64 0:: .slice none 0 0:: .int .u8 0:: .int .i64 0::[]
structure CyD (R0:List (List Int)) (gn:Int) (w0:World) (D:jb) (v:PlV) (g:PlG) (d:CyV) (s:CyP):Prop where
 A:ArD w0 D v d.va g s.A
 W:KwD w0 D v g d.z s.W
 K:KmD w0 D d.q s.m
 o:d.vd.oneCell'=true
 S:s.sa=true→Sli w0 D boE d.vd s.D
 N:s.sa=false→d.vd= .slice none 0 0
 m:rwX d.z.R=R0.set 0 s.W.x
 ge:d.z.gens=gn
theorem CyD.part {R0:List (List Int)} {gn:Int} {w0:World} {D D':jb} {v:PlV} {g:PlG} {d:CyV} {s:CyP} (h:CyD R0 gn w0 D v g d s) (hp:Part D' D):CyD R0 gn w0 D' v g d s:=⟨h.A.part hp,h.W.part hp,h.K.part hp,h.o,fun e=>(h.S e).part hp,h.N,h.m,h.ge⟩
def CyG (R0:List (List Int)) (gn:Int) (w0:World) (D F:jb) (v:PlV) (g:PlG) (long:Nat) (s':CyP) (f:Value→Value) (r:Value) (H':jb):Prop:=
 ∃ (d':CyV) (N:jb),CyD R0 gn w0 (N++D) v g d' s'∧r=f (.agg (cyL v g long d' s').toArray)∧H'=N++(D++F)
structure CyO (v:PlV) (d:CyV):Prop where
 q1:v.L.oneCell'=true
 q2:v.F.oneCell'=true
 q3:v.M.oneCell'=true
 q4:v.C.oneCell'=true
 q5:d.z.vr.oneCell'=true
 q6:d.z.vt.oneCell'=true
 q7:d.z.vn.oneCell'=true
 q8:d.q.c.oneCell'=true
 q9:d.q.u.Q.oneCell'=true
 r1:d.q.u.ow.oneCell'=true
 r2:d.q.u.di.oneCell'=true
 r3:d.q.h.oneCell'=true
 r4:d.va.oneCell'=true
 r5:d.vd.oneCell'=true
section
variable {R0 : List (List Int)} {gn : Int} {w0 : World} {D F : jb} {v : PlV} {g : PlG} {long : Nat} {d : CyV} {s : CyP}
theorem CyD.c (h:CyD R0 gn w0 D v g d s):CyO v d:=⟨h.A.p.oL,h.A.p.oF,h.A.p.oM,h.A.p.oC,h.W.B.m.o,h.W.oT,h.W.oN,h.K.oc,h.K.G.o1,h.K.G.o2,h.K.G.o3,h.K.oh,h.A.o,h.o⟩
set_option maxHeartbeats 1000000 in
theorem rcgoes_K (h:CyD R0 gn w0 D v g d s) (ok:je g) (hlg:long≤64) (hi:CyPre g long s):
  Call Tryz.prog w0 242 [.agg (cyL v g long d s).toArray] (D++F) (CyG R0 gn w0 D F v g long (goesC g s) id):=by
 obtain⟨q1,q2,q3,q4,q5,q6,q7,q8,q9,r1,r2,r3,r4,r5⟩:=h.c
 have hsl:=ok.slots
 have hdone:=fun A=>rkDone_K (F:=A) ok h.K hi.m hlg h.W
 have hAa:=h.A.a
 have hAl:=hi.A
 have hDl:=hi.D
 unfold CyG id;unfold kmL kwL at hdone;unfold cyL
 by_cases h1:s.ph=1
 ·obtain⟨p1,p2,p3,p4⟩:=hi.p1 h1
  cases hd:Jl g s.W s.m with
  |true=>
   have hg:goesC g s={s with sa:=true,ph:=2}:=by
    unfold goesC;rw [if_pos ⟨h1,hd⟩,if_neg (by omega)]
   rw[hg];simp only[hd] at hdone
   have hst:=fun A=>rsStart_K (w0:=w0) (F:=A) (n:=s.A.length) (by omega)
   have hD: ∀ (vd:Value) (N:jb),Sli w0 N boE vd (List.replicate s.A.length false)→vd.oneCell'=true→CyD R0 gn w0 (N++D) v g ⟨d.va,d.z,d.q,vd⟩ {s with sa:=true,ph:=2}:=fun vd N hS ho=>
    ⟨h.A.part ja,h.W.part ja,h.K.part ja,ho,fun _=>by show Sli _ _ _ _ s.D;rw [p4,←hAl];exact hS.part ja,fun e=>(by cases e),h.m,h.ge⟩
   have hne: ¬(((s.at_:Nat):Int)=((List.replicate s.A.length false).length:Nat)):=by rw[List.length_replicate];omega
   obtain⟨W,m,A,sa,at_,Ds,ph,st⟩:=s
   obtain⟨va,z,q,vd⟩:=d
   dsimp only at*;subst h1 p2;refine zcZ ?_;refine yr2 ?_;refine zj ?_;intro b1 b2;refine yq18 fun T hT=>?_;refine zdH ?_;refine zc ?_;clear hT T;refine yq10 fun T hT=>?_;refine(CallV.fn (hst _)).mono ?_;rintro _ _ ⟨vd',N,hS,ho,rfl,rfl⟩;unfold ksL;refine za ?_;clear hT T;subst p3;refine yr45 ?_;exact KE.fin (H':=N++(D++F)) jd rfl jc ja ⟨⟨va,z,q,vd'⟩,N,hD vd' N hS ho,rfl,rfl⟩
  |false=>
   have hg:goesC g s=s:=by
    unfold goesC;rw [if_neg (by rw[hd];simp),if_neg (by omega)]
   rw[hg];simp only[hd] at hdone
   obtain⟨W,m,A,sa,at_,Ds,ph,st⟩:=s
   obtain⟨va,z,q,vd⟩:=d
   dsimp only at*;subst h1;refine zcZ ?_;refine yr2 ?_;refine zj ?_;intro b1 b2;refine yq18 fun T hT=>?_;refine zdH ?_;refine zc ?_;clear hT T;refine yr34 ?_;exact zeO
 ·by_cases h2:s.ph=2
  ·obtain⟨p1,p2,p3⟩:=hi.p2 h2
   have hS:=h.S p2
   by_cases ha:s.at_=g.slots
   ·have hg:goesC g s={s with ph:=3}:=by
     unfold goesC;rw [if_neg (by omega),if_pos ⟨h2,ha⟩]
    rw[hg]
    have he:((s.at_:Nat):Int)=(s.D.length:Nat):=by omega
    have hD:CyD R0 gn w0 D v g d {s with ph:=3}:=⟨h.A,h.W,h.K,h.o,h.S,h.N,h.m,h.ge⟩
    obtain⟨W,m,A,sa,at_,Ds,ph,st⟩:=s
    obtain⟨va,z,q,vd⟩:=d
    dsimp only at*;subst h2;refine zcZ ?_;refine yr2 ?_;refine zj ?_;intro b1 b2;refine yr59 ?_;exact KE.fin (H':=D++F) jd rfl jc ja ⟨⟨va,z,q,vd⟩,[],hD,rfl,rfl⟩
   ·have hg:goesC g s=s:=by
     unfold goesC;rw [if_neg (by omega),if_neg (by omega)]
    rw[hg]
    have he: ¬((s.at_:Nat):Int)=(s.D.length:Nat):=by omega
    obtain⟨W,m,A,sa,at_,Ds,ph,st⟩:=s
    obtain⟨va,z,q,vd⟩:=d
    dsimp only at*;subst h2;refine zcZ ?_;refine yr2 ?_;refine zj ?_;intro b1 b2;refine yr56 ?_;exact zeO
  ·have hg:goesC g s=s:=by
    unfold goesC;rw [if_neg (by omega),if_neg (by omega)]
   rw[hg]
   have h1': ¬((s.ph:Nat):Int)=1:=by omega
   have h2': ¬((s.ph:Nat):Int)=2:=by omega
   obtain⟨va,z,q,vd⟩:=d
   dsimp only at*;refine zcZ ?_;refine yr2 ?_;refine zj ?_;intro b1 b2;refine yr48 ?_;exact zeO
end
open Go.RowKit
set_option maxRecDepth 10000
section
variable {R0 : List (List Int)} {gn : Int} {w0 : World} {D F : jb} {v : PlV} {g : PlG} {long : Nat} {d d0 : CyV} {s s0 : CyP}
theorem jej (h:CyD R0 gn w0 D v g d s) (o0:CyO v d0) (ok:je g) (hlg:long≤64) (hi:CyPre g long s) (hst:s.st≤100000000):
  Call Tryz.prog w0 170 [.agg (cyL v g long d0 s0).toArray, .agg (cyL v g long d s).toArray, .bool true] (D++F) (CyG R0 gn w0 D F v g long (madeC g s) (fun a=> .tuple [a, .bool true].toArray)):=by
 obtain⟨q1,q2,q3,q4,q5,q6,q7,q8,q9,r1,r2,r3,r4,r5⟩:=h.c
 obtain⟨_,_,_,_,t5,t6,t7,t8,t9,u1,u2,u3,u4,u5⟩:=o0
 have h':CyD R0 gn w0 D v g d {s with st:=s.st+1}:=⟨h.A,h.W,h.K,h.o,h.S,h.N,h.m,h.ge⟩
 have hi':CyPre g long {s with st:=s.st+1}:=⟨hi.w,hi.rf,hi.m,hi.i,hi.A,hi.D,hi.p0,hi.p1,hi.p2,hi.p3,hi.ph,hi.dn⟩
 have hgo:=fun A=>rcgoes_K (F:=A) h' ok hlg hi'
 have e2:((s.st:Nat):Int)+1=((s.st+1:Nat):Int):=by omega
 obtain⟨q,hq⟩: ∃ q,madeC g s=q:=⟨_,rfl⟩
 have hq':goesC g {s with st:=s.st+1}=q:=hq
 rw[hq'] at hgo;rw[hq];unfold CyG id at hgo;unfold CyG;unfold cyL at*;refine Call.enter3 (n:=17) (by kernel_rfl) Tryz.func170 rfl rfl rfl ?_;refine yr2 ?_;refine zn ?_;intro b3 b4 b6;refine yq25 fun T hT=>?_;rw[e2];refine(CallV.part (CallV.fn (hgo _)) ja).mono ?_;rintro _ _ ⟨d',N,hd',rfl,rfl⟩
 obtain⟨_,_,_,_,v5,v6,v7,v8,v9,x1,x2,x3,x4,x5⟩:=hd'.c
 refine za ?_;clear hT T;refine yr5 ?_;exact KE.fin (H':=N++(D++F)) jd rfl jc ja ⟨d',N,hd',rfl,rfl⟩
theorem rcmade_E {H:jb} (o0:CyO v d0) (o1:CyO v d):
  Call Tryz.prog w0 170 [.agg (cyL v g long d0 s0).toArray, .agg (cyL v g long d s).toArray, .bool false] H (fun r H'=>r= .tuple [.agg (cyL v g long d0 s0).toArray, .bool false].toArray∧H'=H):=by
 obtain⟨q1,q2,q3,q4,t5,t6,t7,t8,t9,u1,u2,u3,u4,u5⟩:=o0
 obtain⟨_,_,_,_,v5,v6,v7,v8,v9,x1,x2,x3,x4,x5⟩:=o1
 unfold cyL;refine Call.enter3 (n:=17) (by kernel_rfl) Tryz.func170 rfl rfl rfl ?_;refine yr2 ?_;refine zn ?_;intro b3 b4 b6;refine yr20 ?_;exact zd
set_option maxHeartbeats 1000000 in
theorem jgB (h:CyD R0 gn w0 D v g d s) (ok:je g) (hi:jp g long s) (h2:s.ph=2):
  ∃ s',sweepC g s=some s'∧ ∀ F,Call Tryz.prog w0 171 [.agg (cyL v g long d s).toArray] (D++F) (CyG R0 gn w0 D F v g long s' (fun a=> .tuple [a, .bool true].toArray)):=by
 obtain⟨q1,q2,q3,q4,q5,q6,q7,q8,q9,r1,r2,r3,r4,r5⟩:=h.c
 obtain⟨p1,p2,p3⟩:=hi.p2 h2
 have hlt:=hi.lt h2
 obtain⟨y,hy⟩:=Jg hlt
 have hyA:=JF hy
 obtain⟨a,ha⟩:=jn (l:=s.A) (k:=s.at_) (by rw[hi.A];exact hlt)
 obtain⟨c,hc⟩:=jn (l:=s.m.C) (k:=s.at_) (by rw[hi.m.C];exact hlt)
 have hstep:=fun F=>rsStep_K (F:=F) h.W.B h.W.f hy h.A h.K.C (h.S p2) q8 r5 ha hc hi.D
 obtain⟨w1,w2,w3⟩:=hi.toCyPre.wipe ok h2 hlt
 rw[hyA] at w1 w2
 have hfin: ∃ s',sweepC g s=some s'∧s'.W.T=s.W.T∧s'={s with W:={s.W with x:=s'.W.x},D:=s'.D,at_:=s.at_+1}∧(if (a&&decide (c=0))=true then(rwX d.z.R).set 0 (Jo s.W.x y) else rwX d.z.R)=(rwX d.z.R).set 0 s'.W.x∧(if (a&&decide (c=0))=true then s.D.set s.at_ true else s.D)=s'.D∧Jb g {s.W with x:=s'.W.x}∧jap g s'.W.x:=by
  unfold sweepC;rw[if_pos ⟨p2,hlt⟩,ha,hc,hyA]
  by_cases hg:a=true∧c=0
  ·obtain⟨rfl,rfl⟩:=hg
   rw[if_pos ⟨rfl,rfl⟩];exact⟨_,rfl,rfl,rfl,rfl,rfl,w1,w2⟩
  ·rw[if_neg (by rintro⟨e1,e2⟩;cases e1;cases e2;exact hg ⟨rfl,rfl⟩),if_neg (by intro e;simp only[Bool.and_eq_true,decide_eq_true_eq] at e;exact hg e),if_neg (by intro e;simp only[Bool.and_eq_true,decide_eq_true_eq] at e;exact hg e)];refine⟨_,rfl,rfl,rfl,?_,rfl,hi.w,hi.rf⟩
   have hs:=h.W.f.self
   dsimp only;exact hs
 obtain⟨s',hs',eT,e0,eX,eD,eW,eR⟩:=hfin
 simp only[eX,eD] at hstep;refine⟨s',hs',fun F=>?_⟩
 have hD: ∀ (vd' vr':Value) (R':List RwD) (N:jb),BoD w0 (N++D) v vr' g R'→rwX R'=(rwX d.z.R).set 0 s'.W.x→Sli w0 (N++D) boE vd' s'.D→vd'.oneCell'=true→CyD R0 gn w0 (N++D) v g ⟨d.va,⟨vr',d.z.vt,d.z.vn,R',d.z.gens⟩,d.q,vd'⟩ s':=fun vd' vr' R' N hB hX hS ho=>by
  rw[e0];exact⟨h.A.part ja,h.W.put hB hX eW eR ja,h.K.part ja,ho,fun _=>hS,fun e=>(by rw[show s.sa=false from e] at p2;cases p2),by rw[hX,h.m,List.set_set],h.ge⟩
 unfold CyG;unfold ksL arL boL at hstep;unfold cyL;rw[p2];refine Call.enter1 (n:=29) (by kernel_rfl) Tryz.func171 rfl rfl rfl ?_;refine yr2 ?_;refine zj ?_;intro b1 b2;refine yq15 fun T hT=>?_;refine zc0 ?_;rintro _ _ ⟨vd',vr',R',N,hB,hX,hS,ho,rfl,rfl⟩
 have hD':=hD vd' vr' R' N hB hX hS ho
 have ho':=hB.m.o
 refine za ?_;clear hT T;refine yr4 ?_;refine zf ?_;intro b4;refine zf ?_;intro b5;refine yr29 ?_;exact KE.fin (H':=N++(D++F)) jd rfl jc ja ⟨⟨d.va,⟨vr',d.z.vt,d.z.vn,R',d.z.gens⟩,d.q,vd'⟩,N,hD',by rw[e0];dsimp only;rw [p2];rfl,rfl⟩
def CyS (R0:List (List Int)) (gn:Int) (w0:World) (D F:jb) (v:PlV) (g:PlG) (long:Nat) (s:CyP) (o:Option CyP) (r:Value) (H':jb):Prop:=CyG R0 gn w0 D F v g long (o.getD s) (fun a=> .tuple [a, .bool o.isSome].toArray) r H'
theorem CyD.mark {q':KmV} {N:jb} {m':MaP} (h:CyD R0 gn w0 D v g d s) (hK:KmD w0 (N++D) q' m'):CyD R0 gn w0 (N++D) v g ⟨d.va,d.z,q',d.vd⟩ {s with m:=m'}:=⟨h.A.part ja,h.W.part ja,hK,h.o,fun e=>(h.S e).part ja,h.N,h.m,h.ge⟩
set_option maxHeartbeats 4000000 in
theorem rcHelp_K (h:CyD R0 gn w0 D v g d s) (ok:je g) (hlg:long≤64) (hi:jp g long s) (hle:Jz g s):
  Call Tryz.prog w0 92 [.agg (cyL v g long d s).toArray] (D++F) (CyS R0 gn w0 D F v g long s (helpC g long s)):=by
 have hoo:=h.c
 obtain⟨q1,q2,q3,q4,q5,q6,q7,q8,q9,r1,r2,r3,r4,r5⟩:=h.c
 have hls:=hle.s
 have hlm:=hle.m
 have hst:s.st≤100000000:=by omega
 unfold CyS
 by_cases h1:s.ph=1
 ·have hss:helpC g long s=(Jq g long s.W s.m).map fun m'=>madeC g {s with m:=m'}:=by unfold helpC;rw [if_pos h1]
  have hstep:=fun A=>rkHelp_K (F:=A) ok h.K hi.m hlg h.W (by omega)
  unfold KmO kmL kwL at hstep
  cases hm:Jq g long s.W s.m with
  |some m'=>
   obtain⟨hk,hu,hm'⟩:=jbv hm
   rw[hss];simp only[hm,Option.map_some,Option.isSome_some,Option.getD_some] at hstep⊢
   have hmk:=fun A q' N hK'=>jej (F:=A) (s0:=s) (CyD.mark (q':=q') (N:=N) (m':=m') h hK') hoo ok hlg (jbC ok hi h1 hm') hst
   unfold CyG at*
   obtain⟨s',hs'⟩: ∃ s',madeC g {s with m:=m'}=s':=⟨_,rfl⟩
   simp only[hs'] at hmk⊢;unfold cyL at*;refine zdT ?_;refine yr2 ?_;refine zj ?_;intro b1 b2;refine yr15 ?_;refine zf ?_;intro b4;refine yq9 fun T hT=>?_;refine zc0 ?_;rintro _ _ ⟨q',N,hK',rfl,rfl⟩
   have p1:=hK'.oc
   have p2:=hK'.G.o1
   have p3:=hK'.G.o2
   have p4:=hK'.G.o3
   have p5:=hK'.oh
   refine za ?_;clear hT T;refine yr3 ?_;refine zf ?_;intro b5;refine yq16 fun T hT=>?_;refine(CallV.part (CallV.fn (hmk _ q' N hK')) (by simp only[List.append_assoc];exact ja)).mono ?_;rintro _ _ ⟨d',N',hd',rfl,rfl⟩
   obtain⟨_,_,_,_,v5,v6,v7,v8,v9,x1,x2,x3,x4,x5⟩:=hd'.c
   refine za ?_;clear hT T;refine yr8 ?_;exact zdU
  |none=>
   rw[hss];simp only[hm,Option.map_none,Option.isSome_none,Option.getD_none] at hstep⊢
   have hmk:=fun A q' N (hK':KmD w0 (N++D) q' s.m)=>rcmade_E (w0:=w0) (H:=A) (s0:=s) (s:=s) (g:=g) (long:=long) hoo (CyD.mark (m':=s.m) h hK').c
   unfold CyG;unfold cyL at*;refine zdT ?_;refine yr2 ?_;refine zj ?_;intro b1 b2;refine yr15 ?_;refine zf ?_;intro b4;refine yq9 fun T hT=>?_;refine zc0 ?_;rintro _ _ ⟨q',N,hK',rfl,rfl⟩
   have p1:=hK'.oc
   have p2:=hK'.G.o1
   have p3:=hK'.G.o2
   have p4:=hK'.G.o3
   have p5:=hK'.oh
   refine za ?_;clear hT T;refine yr3 ?_;refine zf ?_;intro b5;refine yq16 fun T hT=>?_;refine(CallV.fn (hmk _ q' N hK')).mono ?_;rintro _ _ ⟨rfl,rfl⟩;refine za ?_;clear hT T;refine yr8 ?_;exact zbq
 ·by_cases h2:s.ph=2
  ·have h1': ¬((s.ph:Nat):Int)=1:=by omega
   have h2':((s.ph:Nat):Int)=2:=by omega
   obtain⟨s',hs',hcall⟩:=jgB (w0:=w0) h ok hi h2
   have hss:helpC g long s=some (madeC g s'):=by unfold helpC;rw [if_neg h1,if_pos h2,hs'];rfl
   have hcy:=jba ok hi h2 hs'
   rw[hss];simp only[Option.isSome_some,Option.getD_some]
   have hmk:=fun A d' N (hd:CyD R0 gn w0 (N++D) v g d' s')=>jej (F:=A) (s0:=s) hd hoo ok hlg hcy.1 (by rw[hcy.2.2.2.2.2.2.2];exact hst)
   unfold CyG at*
   obtain⟨s2,hs2⟩: ∃ s2,madeC g s'=s2:=⟨_,rfl⟩
   simp only[hs2] at hmk⊢;unfold cyL at*;refine zdT ?_;refine yr2 ?_;refine zj ?_;intro b1 b2;refine yq26 fun T hT=>?_;refine(CallV.part (CallV.fn (hcall _)) ja).mono ?_;rintro _ _ ⟨d1,N,hd1,rfl,rfl⟩
   obtain⟨_,_,_,_,p5,p6,p7,p8,p9,o1,o2,o3,o4,o5⟩:=hd1.c
   refine za ?_;clear hT T;refine yr3 ?_;refine zf ?_;intro b7;refine yq9 fun T hT=>?_;refine(CallV.part (CallV.fn (hmk _ d1 N hd1)) (by simp only[List.append_assoc];exact ja)).mono ?_;rintro _ _ ⟨d',N',hd',rfl,rfl⟩
   obtain⟨_,_,_,_,v5,v6,v7,v8,v9,x1,x2,x3,x4,x5⟩:=hd'.c
   refine za ?_;clear hT T;refine yr8 ?_;exact zdU
  ·have hss:helpC g long s=none:=by unfold helpC;rw [if_neg h1,if_neg h2]
   rw[hss];simp only[Option.isSome_none,Option.getD_none]
   have h1': ¬((s.ph:Nat):Int)=1:=by omega
   have h2': ¬((s.ph:Nat):Int)=2:=by omega
   unfold CyG;unfold cyL;refine zdT ?_;refine yr2 ?_;refine zj ?_;intro b1 b2;refine yr33 ?_;exact zbq
set_option maxHeartbeats 4000000 in
theorem rcStep_K {hd u:Int} {nw:Nat} (h:CyD R0 gn w0 D v g d s) (ok:je g) (hlg:long≤64) (hi:jp g long s) (hle:Jz g s) (hv:0≤u∧u<256) (hnw:s.m.hs.length=nw+1):
  Call Tryz.prog w0 164 [.agg (cyL v g long d s).toArray, .int .i64 hd, .int .u8 u] (D++F) (CyS R0 gn w0 D F v g long s (stepC g long nw s hd u)):=by
 have hoo:=h.c
 obtain⟨q1,q2,q3,q4,q5,q6,q7,q8,q9,r1,r2,r3,r4,r5⟩:=h.c
 have hls:=hle.s
 have hlm:=hle.m
 have hst:s.st≤100000000:=by omega
 unfold CyS
 by_cases h1:s.ph=1
 ·have hss:stepC g long nw s hd u=(stepM g long s.W s.m hd u).map fun m'=>madeC g {s with m:=m'}:=by unfold stepC;rw [if_pos h1]
  have hstep:=fun A=>rkStep_K (F:=A) (hd:=hd) (v0:=u) ok h.K hi.m hlg h.W (by omega) hv
  unfold KmO kmL kwL at hstep
  cases hm:stepM g long s.W s.m hd u with
  |some m'=>
   have hm':=hm
   rw[hss];simp only[hm,Option.map_some,Option.isSome_some,Option.getD_some] at hstep⊢
   have hmk:=fun A q' N hK'=>jej (F:=A) (s0:=s) (CyD.mark (q':=q') (N:=N) (m':=m') h hK') hoo ok hlg (jbC ok hi h1 hm') hst
   unfold CyG at*
   obtain⟨s',hs'⟩: ∃ s',madeC g {s with m:=m'}=s':=⟨_,rfl⟩
   simp only[hs'] at hmk⊢;unfold cyL at*;refine zbP ?_;refine yr2 ?_;refine zj ?_;intro b3 b6;refine yr15 ?_;refine zf ?_;intro b8;refine yq11 fun T hT=>?_;refine zc0 ?_;rintro _ _ ⟨q',N,hK',rfl,rfl⟩
   have p1:=hK'.oc
   have p2:=hK'.G.o1
   have p3:=hK'.G.o2
   have p4:=hK'.G.o3
   have p5:=hK'.oh
   refine za ?_;clear hT T;refine yr3 ?_;refine zf ?_;intro b9;refine yq16 fun T hT=>?_;refine(CallV.part (CallV.fn (hmk _ q' N hK')) (by simp only[List.append_assoc];exact ja)).mono ?_;rintro _ _ ⟨d',N',hd',rfl,rfl⟩
   obtain⟨_,_,_,_,v5,v6,v7,v8,v9,x1,x2,x3,x4,x5⟩:=hd'.c
   refine za ?_;clear hT T;refine yr8 ?_;exact zdU
  |none=>
   rw[hss];simp only[hm,Option.map_none,Option.isSome_none,Option.getD_none] at hstep⊢
   have hmk:=fun A q' N (hK':KmD w0 (N++D) q' s.m)=>rcmade_E (w0:=w0) (H:=A) (s0:=s) (s:=s) (g:=g) (long:=long) hoo (CyD.mark (m':=s.m) h hK').c
   unfold CyG;unfold cyL at*;refine zbP ?_;refine yr2 ?_;refine zj ?_;intro b3 b6;refine yr15 ?_;refine zf ?_;intro b8;refine yq11 fun T hT=>?_;refine zc0 ?_;rintro _ _ ⟨q',N,hK',rfl,rfl⟩
   have p1:=hK'.oc
   have p2:=hK'.G.o1
   have p3:=hK'.G.o2
   have p4:=hK'.G.o3
   have p5:=hK'.oh
   refine za ?_;clear hT T;refine yr3 ?_;refine zf ?_;intro b9;refine yq16 fun T hT=>?_;refine(CallV.fn (hmk _ q' N hK')).mono ?_;rintro _ _ ⟨rfl,rfl⟩;refine za ?_;clear hT T;refine yr8 ?_;exact zbq
 ·by_cases h2:s.ph=2
  ·have h1': ¬((s.ph:Nat):Int)=1:=by omega
   have h2':((s.ph:Nat):Int)=2:=by omega
   have hH:=h.K.H
   by_cases h5:u=5
   ·subst h5
    by_cases h0:hd≥0
    ·by_cases h9:hd<((s.m.hs.length:Nat):Int)
     ·obtain⟨s',hs',hcall⟩:=jgB (w0:=w0) h ok hi h2
      have hss:stepC g long nw s hd 5=some (madeC g s'):=by unfold stepC;rw [if_neg h1,if_pos ⟨h2,rfl,h0,by omega⟩,hs'];rfl
      have hcy:=jba ok hi h2 hs'
      rw[hss];simp only[Option.isSome_some,Option.getD_some]
      have hmk:=fun A d' N (hd:CyD R0 gn w0 (N++D) v g d' s')=>jej (F:=A) (s0:=s) hd hoo ok hlg hcy.1 (by rw[hcy.2.2.2.2.2.2.2];exact hst)
      unfold CyG at*
      obtain⟨s2,hs2⟩: ∃ s2,madeC g s'=s2:=⟨_,rfl⟩
      simp only[hs2] at hmk⊢;unfold cyL at*;refine zbP ?_;refine yr2 ?_;refine zj ?_;intro b3 b6;refine yq52 fun T hT=>?_;refine(CallV.part (CallV.fn (hcall _)) ja).mono ?_;rintro _ _ ⟨d1,N,hd1,rfl,rfl⟩
      obtain⟨_,_,_,_,p5,p6,p7,p8,p9,o1,o2,o3,o4,o5⟩:=hd1.c
      refine za ?_;clear hT T;refine yr3 ?_;refine zf ?_;intro b11;refine yq9 fun T hT=>?_;refine(CallV.part (CallV.fn (hmk _ d1 N hd1)) (by simp only[List.append_assoc];exact ja)).mono ?_;rintro _ _ ⟨d',N',hd',rfl,rfl⟩
      obtain⟨_,_,_,_,v5,v6,v7,v8,v9,x1,x2,x3,x4,x5⟩:=hd'.c
      refine za ?_;clear hT T;refine yr8 ?_;exact zdU
     ·have hss:stepC g long nw s hd 5=none:=by unfold stepC;rw [if_neg h1,if_neg (fun e=>by omega)]
      rw[hss];simp only[Option.isSome_none,Option.getD_none];unfold CyG;unfold cyL;refine zbP ?_;refine yr2 ?_;refine zj ?_;intro b3 b6;refine yr59 ?_;exact zbq
    ·have hss:stepC g long nw s hd 5=none:=by unfold stepC;rw [if_neg h1,if_neg (fun e=>h0 e.2.2.1)]
     rw[hss];simp only[Option.isSome_none,Option.getD_none];unfold CyG;unfold cyL;refine zbP ?_;refine yr2 ?_;refine zj ?_;intro b3 b6;refine yr53 ?_;exact zbq
   ·have hss:stepC g long nw s hd u=none:=by unfold stepC;rw [if_neg h1,if_neg (fun e=>h5 e.2.1)]
    rw[hss];simp only[Option.isSome_none,Option.getD_none];unfold CyG;unfold cyL;refine zbP ?_;refine yr2 ?_;refine zj ?_;intro b3 b6;refine yr51 ?_;exact zbq
  ·have hss:stepC g long nw s hd u=none:=by unfold stepC;rw [if_neg h1,if_neg (fun e=>h2 e.1)]
   rw[hss];simp only[Option.isSome_none,Option.getD_none]
   have h1': ¬((s.ph:Nat):Int)=1:=by omega
   have h2': ¬((s.ph:Nat):Int)=2:=by omega
   unfold CyG;unfold cyL;refine zbP ?_;refine yr2 ?_;refine zj ?_;intro b3 b6;refine yr49 ?_;exact zbq
end
end Go.Proofs.YtldomapkmopomaaGreatDoor.Sw
