/-The walker and contracts, part 39.-/
import Derived.Test.YtciaccbemnpipaaGreatDoorJ36
import Derived.Test.YtciaccbemnpipaaGreatDoorJ38
set_option linter.all false
namespace Go.Proofs.YtciaccbemnpipaaGreatDoor.Sw
set_option maxHeartbeats 8000000
open Go.Proofs.YtciaccbemnpipaaGreatDoor renaming lo -> qL, hi -> qH
open Go.RowKit
set_option maxRecDepth 10000
structure RnT where
 b:Nat
 o:Own
theorem doc_new (n:Nat):(List.replicate n (⟨0,0,1⟩:jk)).map j5=List.replicate n jal:=by rw[List.map_replicate];rfl
theorem rcNew_K {w0:World} {Dc Dm F:jb} {c:Cfg} {vc vt vr:Value} {Rm:List RwD} {tn:Tn} {j:Nat} (hR:Jl w0 (Dm++(Dc++F)) c vc vt) (hc:cfgP c=true) (ht0:c.tn[j]?=some tn) (hC:Sli w0 Dc iE vc c.cl) (hvc:vc.oneCell'=true)
  (hM:jaE w0 Dm vr Rm) (hm0:(rwX Rm)[j]?=some (List.replicate (gOf c (j:Nat)).words 0)) (hml:Rm.length<=1000):
  Call Tryz.prog w0 22 [jA c vc vt, .int .i64 (j:Nat), .agg [vr].toArray] (Dm++(Dc++F))
   (fun r H'=> ∃ (v:PlV) (d:CyV) (N:jb),v.t=j/\CyD (rwX Rm) c.gens w0 (N++(Dm++Dc)) v (gOf c (j:Nat)) d (jbY (gOf c (j:Nat)) tn.caps.toNat c.workers.toNat)/\r= .agg (cyL v (gOf c (j:Nat)) c.grey.toNat d (jbY (gOf c (j:Nat)) tn.caps.toNat c.workers.toNat)).toArray/\H'=N++(Dm++(Dc++F))):=by
 have hcfg:=jaz hc
 have hten:=hcfg.ten tn (List.mem_of_getElem? ht0)
 have htl:=jl ht0
 have ht:Jh c (j:Nat) 0=true:=jbl (i:=j) (j:=0) hc htl Bh
 have ga:=g_at ht
 have okg:=ga.ok
 have hwk:=hcfg.workers
 have hgy:=hcfg.grey
 have hgn:=hcfg.gens
 have hrp:=fun A (hp:Part A (Dm++(Dc++F)))=>rpNewT_K j (t:=(j:Nat)) (hR.part hp) ht hvc
 obtain⟨g,hg⟩: ∃ g,g=gOf c (j:Nat):=⟨_,rfl⟩
 simp only[<-hg] at hrp okg hm0|-;clear hg ga ht
 obtain⟨hS,hT,o1,o2,l1,l2⟩:=hR
 obtain⟨cl,page,tns,workers,grey,gens⟩:=c
 obtain⟨x1,x2,x3,x4⟩:=tn
 dsimp only at hS hT l1 l2 ht0 hten hwk hgy hgn htl hC|-
 obtain⟨caps,rfl⟩: ∃ caps:Nat,x3=caps:=⟨x3.toNat,by omega⟩
 obtain⟨nw,rfl⟩: ∃ nw:Nat,workers=nw:=⟨workers.toNat,by omega⟩
 obtain⟨long,rfl⟩: ∃ long:Nat,grey=long:=⟨grey.toNat,by omega⟩
 simp only[Int.toNat_natCast];simp only[jA,jV,prV] at hrp|-
 have hslots:=okg.slots
 have hLl:=jak (g:=g)
 have q5:=hM.o
 refine en3 50 Tryz.func22 ?_;refine yr3 ?_;intro b3;refine yr1 ?_;intro b5;refine yr1 ?_;intro b6;refine yq6 fun T hT=>?_;refine(CallV.fn (hrp _ ja)).mono ?_;rintro _ _ ⟨v,Dp,hvt,hPD0,rfl,rfl⟩
 have hPD:=hPD0 Dc hC
 subst hvt;clear hPD0
 have q1:=hPD.oL
 have q2:=hPD.oF
 have q3:=hPD.oM
 have q4:=hPD.oC
 have hPL:=hPD.L
 unfold plL;refine ze ?_;clear hT T;refine yr4 ?_;intro b7;refine yr4 ?_;refine K.cutT (σ:=RnT) [(1,_),(3,_),(5,_),(6,_),(7,_)] jg (fun s kp_=>(9,pt s.b)::kp_) (fun s=>oH wE 202 (List.replicate caps jal) s.o++((s.b,cells [oV s.o (List.replicate caps jal).length, .int .i64 gens] 45)::(b7,cells [v.L,v.F,v.M, .int .i64 (g.words:Nat),v.C] 34)::(b3,cells [vc, .int .i64 page,vt, .int .i64 (nw:Nat), .int .i64 (long:Nat), .int .i64 gens] 25)::(b5,cells [vr] 40)::(b6,cells cy0 57)::(Dp++(Dm++(Dc++F))))) (fun s=>oOk wE (List.replicate caps jal) s.o) ?_ ?_
 ·skip
  refine zi ?_;refine K.dr ((b3,cells [vc, .int .i64 page,vt, .int .i64 (nw:Nat), .int .i64 (long:Nat), .int .i64 gens] 25)::(Dm++(Dc++F))) (od 0 [1,1,1,1,1,1,1,1,3,1,1,1,2,2,0]) ja ?_;refine yr8 ?_;refine KD.fork2 (x:=8) (y:=12) (o1:=[(9,1),(10,1),(11,1),(12,2),(13,2),(14,0)]) (o2:=[(8,2),(9,0),(10,0),(11,1),(13,2),(14,0)]) bu rfl rfl bu bu ?_ ?_
  ·refine zk fun T hT=>?_;refine(CallV.fn (jky (n:=caps) (gens:=gens) bc hgn)).mono ?_;rintro _ _ ⟨ot,okot,rfl,rfl⟩;refine zf ?_;clear hT T;refine yr4 ?_;intro b9;refine yr5 ?_;exact KE.meet ⟨b9,ot⟩ jg ja okot
  ·(refine jR.e rfl (Eff.alloc rfl) ?_;rintro _ _ ⟨b9,rfl,rfl⟩;refine⟨ja,?_⟩)
   refine yr1 ?_;refine Jx (jky (n:=caps) (gens:=gens) bc hgn) ?_;rintro _ _ ⟨ot,okot,rfl,rfl⟩;refine yr8 ?_;exact KE.meet ⟨b9,ot⟩ jg ja okot
 ·rintro⟨b9,ot⟩ okot;dsimp only at okot|-;refine K.cutT (σ:=RnT) [(3,_),(6,_),(7,_)] jg (fun s kp_=>(11,pt s.b)::kp_) (fun s=>oH iE 3 (List.replicate g.L.length 0) s.o++((s.b,cells [vr, .int .i64 (v.t:Nat),v.L,v.F,v.M, .int .i64 (g.words:Nat),v.C,oV ot (List.replicate caps jal).length, .int .i64 gens,oV s.o (List.replicate g.L.length (0:Int)).length] 47)::(oH wE 202 (List.replicate caps jal) ot++((b9,cells [oV ot (List.replicate caps jal).length, .int .i64 gens] 45)::(b7,cells [v.L,v.F,v.M, .int .i64 (g.words:Nat),v.C] 34)::(b3,cells [vc, .int .i64 page,vt, .int .i64 (nw:Nat), .int .i64 (long:Nat), .int .i64 gens] 25)::(b5,cells [vr] 40)::(b6,cells cy0 57)::(Dp++(Dm++(Dc++F))))))) (fun s=>oOk iE (List.replicate g.L.length 0) s.o) ?_ ?_
  ·skip
   refine zi ?_;refine K.dr ((b3,cells [vc, .int .i64 page,vt, .int .i64 (nw:Nat), .int .i64 (long:Nat), .int .i64 gens] 25)::(b5,cells [vr] 40)::(b7,cells [v.L,v.F,v.M, .int .i64 (g.words:Nat),v.C] 34)::(b9,cells [oV ot (List.replicate caps jal).length, .int .i64 gens] 45)::(Dp++(Dm++(Dc++F)))) (od 0 [1,1,1,1,1,1,1,1,3,1,2,2]) ja ?_;refine yr8 ?_;refine KD.fork2 (x:=8) (y:=10) (o1:=[(9,1),(10,2),(11,2)]) (o2:=[(8,2),(9,0),(11,2)]) bu rfl rfl bu bu ?_ ?_
   ·(refine jR.e rfl (Eff.makeR (E:=iE) (x0:=0) rfl rfl rfl rfl rfl rfl be) ?_;rintro _ _ ⟨o38,ok38,rfl,rfl⟩;refine⟨ja,?_⟩)
    refine yr2 ?_;intro b11;refine yr4 ?_;exact KE.meet ⟨b11,o38⟩ jg ja ok38
   ·(refine jR.e rfl (Eff.alloc rfl) ?_;rintro _ _ ⟨b11,rfl,rfl⟩;refine⟨ja,?_⟩)
    refine KD.e rfl rfl (Eff.makeR (E:=iE) (x0:=0) rfl rfl rfl rfl rfl rfl be) ?_;rintro _ _ ⟨o38,ok38,rfl,rfl⟩;refine⟨ja,?_⟩;refine yr4 ?_;exact KE.meet ⟨b11,o38⟩ jg ja ok38
  ·rintro⟨b11,on⟩ okn;dsimp only at okn|-
   have hra:=fun A=>raNew_K (w0:=w0) (F:=A) hPD okg
   obtain⟨DD,hDD⟩: ∃ DD:jb,DD=oH iE 3 (List.replicate g.L.length 0) on++(oH wE 202 (List.replicate caps jal) ot++(Dp++(Dm++Dc))):=⟨_,rfl⟩
   have hKD:KwD w0 DD v g ⟨vr,oV ot (List.replicate caps jal).length,oV on (List.replicate g.L.length (0:Int)).length,Rm,gens⟩ ⟨List.replicate g.words 0,List.replicate caps ⟨0,0,1⟩,List.replicate g.slots 0⟩:=by
    subst hDD;refine⟨⟨hPD.part ja,hM.part ja⟩,⟨okg,hml,hm0,List.length_replicate ..,JF.rep _⟩,?_,?_,jJ _ _,jJ _ _,jhA (nw:=nw),(jg9 (g:=g) (long:=1) (caps:=caps) (nw:=nw) bc bc).rf,?_⟩
    ·dsimp only;rw[doc_new];exact Sli.own jt okot rfl
    ·dsimp only;rw[<-hLl];exact Sli.own jt okn rfl
    ·exact⟨by rw[List.length_replicate];omega,fun e he=>by rw[(List.mem_replicate.1 he).2];decide⟩
   have hnew:=fun A=>jkA (w0:=w0) (F:=A) (long:=long) (nw:=nw) okg hKD bc
   have hfin: ∀ va' q' N1 N2,ArD w0 (N1++(Dp++Dc)) v va' g (List.replicate g.slots false)->KmD w0 (N2++DD) q' (JW g nw false)->CyD (rwX Rm) gens w0 ((N2++(N1++(oH iE 3 (List.replicate g.L.length 0) on++(oH wE 202 (List.replicate caps jal) ot++Dp))))++(Dm++Dc)) v g ⟨va',⟨vr,oV ot (List.replicate caps jal).length,oV on (List.replicate g.L.length (0:Int)).length,Rm,gens⟩,q', .slice none 0 0⟩ (jbY g caps nw):=fun va' q' N1 N2 hA hK=>by
    subst hDD;refine⟨hA.part bf,hKD.part bf,hK.part bf,rfl,fun e=>bO,fun _=>rfl,?_,rfl⟩
    show rwX Rm=(rwX Rm).set v.t (List.replicate g.words 0)
    obtain⟨hl,he⟩:=List.getElem?_eq_some_iff.1 hm0
    rw[<-he,List.set_getElem_self]
   unfold plL at hra;unfold KmG id kwL at hnew;dsimp only at hnew;refine yr1 ?_;refine K.dr _ [(0,0),(2,1),(3,1),(4,1),(5,1),(6,1),(7,1),(1,2),(8,2),(9,0),(10,2)] (Part.takeA jE.head (Part.take jx.head (Part.takeA jE.head (Part.take jx.head (Part.take jx.head (Part.take jx.head (Part.take jx.head (Part.drop Part.all)))))))) ?_;refine yr7 ?_;refine zj fun T hT=>?_;refine(CallV.part (CallV.fn (hra _)) ja).mono ?_;rintro _ _ ⟨va',N1,hA',rfl,rfl⟩
   have t1:=hA'.o
   unfold arL;simp only[List.append_assoc];refine zf ?_;clear hT T;refine zj fun T hT=>?_;refine(CallV.part (CallV.fn (hnew _)) (by rw[hDD];simp only[List.append_assoc];exact ja)).mono ?_;rintro _ _ ⟨q',N2,hK',rfl,rfl⟩
   have p1:=hK'.oc
   have p2:=hK'.G.o1
   have p3:=hK'.G.o2
   have p4:=hK'.G.o3
   have p5:=hK'.oh
   have hD':=hfin va' q' N1 N2 hA' hK'
   unfold kmL;rw[hDD];simp only[List.append_assoc];refine zf ?_;clear hT T;refine yr6 ?_;exact KE.fin (H':=(N2++(N1++(oH iE 3 (List.replicate g.L.length 0) on++(oH wE 202 (List.replicate caps jal) ot++Dp))))++(Dm++(Dc++F))) jd rfl jc bf ⟨v,_,_,rfl,hD',rfl,by simp only[List.append_assoc]⟩
section
variable {w0 : World} {D : HpD} {nf nk n : Nat} {y y' : CyM} {h : HpP} {s s' : CyP} {F G : jb} {op : OpP} {z : jn}
theorem jli (hG:ju w0) (hD:HpDok D) (hI:HeI D.C h) (h1:HpR D nf 0 y h) (hf:nf<=900000) (ho:jat op) (hc:op.c=1):Call Tryz.prog w0 28 [pt D.b,opV op] (hpH D y h++F) (fun r H'=>r=snV (hpDoes D.C h op).1/\HpQ D (nf+2) 400000000 (hpDoes D.C h op).2 F H'):=by
 have htold:=fun A (e:Int)=>ja0 (w0:=w0) (H:=A) (e:=e)
 have hopers:=fun A=>jcH (w0:=w0) (H:=A)
 unfold opsL at hopers
 have hsl:=fun A=>jcD (w0:=w0) (F:=A) ho.h h1
 unfold hpDoes;rw[if_neg bD,if_pos hc]
 have hO:=fun A (sl:Int)=>jdf (nf':=nf+2) (nk':=400000000) bc bc (hpalloc_K (w0:=w0) (F:=A) (op:=op) (sl:=sl) hG hD hI h1 hf)
 have hc2:((op.c:Nat):Int)=1:=by omega
 obtain⟨⟨e,hh,w,addr,us,si,cy,ac⟩,h9,hv⟩: ∃ (q:SnP) (h9:HpP),hpAlloc D.C h op.a op.b=(q,h9):=⟨_,_,rfl⟩
 rw[hv] at hO|-;dsimp only at hO|-;unfold HpQ;unfold opV snV at hO;unfold opV;simp only[hc2] at hO;rw[hc2]
 obtain⟨sl,hsl1⟩: ∃ sl,(hpSlot D.C.tn h.s.W.T op.h).getD 0=sl:=⟨_,rfl⟩
 obtain⟨bb,hsl2⟩: ∃ bb,(hpSlot D.C.tn h.s.W.T op.h).isSome=bb:=⟨_,rfl⟩
 simp only[hsl1,hsl2] at hsl;refine zbI ?_;refine yr3 ?_;intro b3;refine yr1 ?_;intro b4;refine yr5 ?_;refine zx ?_;refine yr1 ?_;intro b5;refine yr28 ?_;refine zm ?_;refine yr7 ?_;refine K.cutT (σ:=Unit) [(0,_),(3,_),(4,_),(5,_)] jg (fun s kp_=>(6, .int .i64 sl)::kp_) (fun s=>hpH D y h++((b3,cells [.int .u8 1, .int .u64 (op.h:Nat), .int .i64 op.a, .int .i64 op.b, .int .u64 (op.v:Nat)] 69)::(b5,cells [.nilFunc, .func (.func 114) #[] #[], .func (.func 115) #[] #[], .func (.func 116) #[] #[], .func (.func 117) #[] #[], .func (.func 118) #[] #[], .func (.func 119) #[] #[], .func (.func 120) #[] #[]] 140)::(b4,cells [.int .i64 0, .int .u64 0, .int .u64 0, .int .i64 0, .int .i64 0, .int .i64 0, .int .i64 0, .bool false] 78)::F)) (fun s=>True) ?_ ?_
 ·cases bb with
  |false=>
   refine yr13 ?_;exact zak
  |true=>
   refine yr13 ?_;exact zak
 ·rintro⟨⟩-
  skip
  refine K.cutT (σ:=DsS) [(0,_),(3,_),(4,_)] jg (fun s kp_=>(6, .int .i64 sl)::(8,pt s.b)::kp_) (fun s=>hpH D s.y h9++((s.b,cells [.int .i64 e, .int .u64 (hh:Nat), .int .u64 w, .int .i64 addr, .int .i64 us, .int .i64 si, .int .i64 cy, .bool ac] 78)::(b3,cells [.int .u8 1, .int .u64 (op.h:Nat), .int .i64 op.a, .int .i64 op.b, .int .u64 (op.v:Nat)] 69)::(b4,cells [.int .i64 0, .int .u64 0, .int .u64 0, .int .i64 0, .int .i64 0, .int .i64 0, .int .i64 0, .bool false] 78)::F)) (fun s=>HpR D (nf+2) 400000000 s.y h9) ?_ ?_
  ·refine zi ?_
   (repeat refine K.seq ?_)
   refine K.dr ((b3,cells [.int .u8 1, .int .u64 (op.h:Nat), .int .i64 op.a, .int .i64 op.b, .int .u64 (op.v:Nat)] 69)::(b5,cells [.nilFunc, .func (.func 114) #[] #[], .func (.func 115) #[] #[], .func (.func 116) #[] #[], .func (.func 117) #[] #[], .func (.func 118) #[] #[], .func (.func 119) #[] #[], .func (.func 120) #[] #[]] 140)::F) (od 0 [1,1,1,1,1,1,1,3,2,2]) ja ?_;refine yr7 ?_
   --FORK at region 7:[(7,3),(8,2),(9,2)]
   refine KD.fork2 (x:=7) (y:=8) (o1:=[(8,2),(9,2)]) (o2:=[(7,2),(9,2)]) bu rfl rfl bu bu ?_ ?_
   ·refine zk fun T hT=>?_;refine(CallV.part (CallV.fn (hO _ _)) ja).mono ?_;rintro _ _ ⟨rfl,y1,h2,rfl⟩;refine zf ?_;clear hT T;refine yr1 ?_;intro b8;refine yr4 ?_;exact zz
   ·(refine jR.e rfl (Eff.alloc rfl) ?_;rintro _ _ ⟨b8,rfl,rfl⟩;refine⟨ja,?_⟩)
    refine yr1 ?_;refine je (hO _ _) ja ?_;rintro _ _ ⟨rfl,y1,h2,rfl⟩;refine yr4 ?_;exact zz
  ·rintro⟨y1,b8⟩ h2;dsimp only at h2|-;refine yr18 ?_;exact KE.fin jd rfl jc ja ⟨rfl,y1,h2,rfl⟩
theorem doesBad_K (h1:HpR D nf 0 y h) (ho:jat op) (hc:op.c<1\/7<op.c):Call Tryz.prog w0 28 [pt D.b,opV op] (hpH D y h++F) (fun r H'=>r=snV (hpDoes D.C h op).1/\HpQ D (nf+2) 400000000 (hpDoes D.C h op).2 F H'):=by
 have htold:=fun A (e:Int)=>ja0 (w0:=w0) (H:=A) (e:=e)
 have hopers:=fun A=>jcH (w0:=w0) (H:=A)
 unfold opsL at hopers
 have hoc:=ho.c
 unfold hpDoes;rw[if_pos hc];unfold HpQ;unfold opV
 rcases hc with hc|hc
 ·have hc2:((op.c:Nat):Int)=0:=by omega
  refine zD ?_
  (iterate 11 first|refine yS ?_|intro _)
  refine zx ?_;refine yr1 ?_;intro b5;refine yr23 ?_;refine zl ?_;refine yr5 ?_;exact zW
 ·have hc2:((op.c:Nat):Int)>=8:=by omega
  have hc3:0<=((op.c:Nat):Int)/\((op.c:Nat):Int)<256:=by omega
  refine zbI ?_
  (iterate 11 first|refine yS ?_|intro _)
  refine zx ?_;refine yr1 ?_;intro b5;refine yr23 ?_;refine zl ?_;refine yr5 ?_;exact zW
theorem does_K (hG:ju w0) (hD:HpDok D) (hI:HeI D.C h) (h1:HpR D nf 0 y h) (hf:nf<=900000) (ho:jat op):Call Tryz.prog w0 28 [pt D.b,opV op] (hpH D y h++F) (fun r H'=>r=snV (hpDoes D.C h op).1/\HpQ D (nf+2) 400000000 (hpDoes D.C h op).2 F H'):=by
 have hoc:op.c=1\/op.c=2\/op.c=3\/op.c=4\/op.c=5\/op.c=6\/op.c=7\/(op.c<1\/7<op.c):=by omega
 rcases hoc with hc|hc|hc|hc|hc|hc|hc|hc
 ·exact jli hG hD hI h1 hf ho hc
 ·exact jlU hG hD hI h1 hf ho hc
 ·exact jlh hG hD hI h1 hf ho hc
 ·exact jlT hG hD hI h1 hf ho hc
 ·exact jkY hG hD hI h1 hf ho hc
 ·exact jlW hG hD hI h1 hf ho hc
 ·exact jlV hG hD hI h1 hf ho hc
 ·exact doesBad_K h1 ho hc
theorem min_is (n:Nat):(if (2147483647:Int)<((n:Nat):Int) then 2147483647 else((n:Nat):Int))=((min n 2147483647:Nat):Int):=by
 by_cases c:(2147483647:Int)<((n:Nat):Int)
 ·rw[if_pos c];omega
 ·rw[if_neg c];omega
theorem hpDo_K (hG:ju w0) (hD:HpDok D) (hI:HeI D.C h) (h1:HpR D nf nk y h) (hf:nf<=900000) (ho:jat op):Call Tryz.prog w0 11 [pt D.b,opV op] (hpH D y h++F) (fun r H'=>r=snV (Js D.C h op).1/\HpQ D (nf+2) 400000000 (Js D.C h op).2 F H'):=by
 have hC:=hD.C
 have hI0:HeI D.C {h with wk:=0}:=hI.mvs hC (HpMv.one (wr:=true) (.free rfl fun h=>h))
 have h10:HpR D nf 0 y {h with wk:=0}:=h1.wk (n:=0) (Nat.le_refl 0)
 have hnone:=fun A=>jgI (w0:=w0) (D:=D) (y:=y) (h:=h) (F:=A)
 have htold:=fun A (e:Int)=>ja0 (w0:=w0) (H:=A) (e:=e)
 have hdo:=fun A=>does_K (w0:=w0) (F:=A) hG hD hI0 h10 hf ho
 unfold Js
 obtain⟨h0,hh0⟩: ∃ h0:HpP,{h with wk:=0}=h0:=⟨_,rfl⟩
 have hw0:hpH D y h0=(D.b,cells [oV D.oc D.c.cl.length, .int .i64 D.c.page,oV D.ot D.c.tn.length, .int .i64 D.c.workers, .int .i64 D.c.grey, .int .i64 D.c.gens, .int .i64 (D.C.tn:Nat),pt D.yb,pt D.qb, .int .i64 0] 101)::(paceH ⟨D.qb,D.C.tr,D.C.ast,h.p⟩++(oH iE 3 D.c.cl D.oc++(oH tnE 59 D.c.tn D.ot++cycH y))):=by rw[<-hh0];rfl
 simp only[hh0] at hdo|-
 obtain⟨⟨e,hh,w,addr,us,si,cy,ac⟩,h9,hv⟩: ∃ (q:SnP) (h9:HpP),hpDoes D.C h0 op=(q,h9):=⟨_,_,rfl⟩
 rw[hv] at hdo|-;dsimp only at hdo|-;unfold snV at hdo
 have hAr:=fun A (y1:CyM) (h2:HpR D (nf+2) 400000000 y1 h9)=>jgj (w0:=w0) (F:=A) h2
 have hUs:=fun A (y1:CyM) (h2:HpR D (nf+2) 400000000 y1 h9)=>jjG (w0:=w0) (F:=A) h2
 have hSi:=fun A (y1:CyM) (h2:HpR D (nf+2) 400000000 y1 h9)=>h2.pace0 (F:=A) (fun A=>jmH (w0:=w0) (F:=A) (h2.pc hD))
 have hCy:=fun A (y1:CyM) (h2:HpR D (nf+2) 400000000 y1 h9)=>h2.pace0 (F:=A) (fun A=>jlD (w0:=w0) (F:=A) (h2.pc hD))
 have hAc:=fun A (y1:CyM) (h2:HpR D (nf+2) 400000000 y1 h9)=>h2.pace0 (F:=A) (fun A=>jlE (w0:=w0) (F:=A) (h2.pc hD))
 unfold HpQ at hdo|-;unfold jen;rw[<-min_is,<-min_is];unfold opV at hdo|-
 by_cases he:e=0
 ·rw[if_pos he];refine en2 49 Tryz.func11 ?_
  (iterate 13 first|refine yS ?_|intro _)
  refine zav ?_;simp only[hpH_app];refine yr18 ?_;refine je (hdo _) Bv ?_;rintro _ _ ⟨rfl,y1,h2,rfl⟩;simp only[hpH_app];refine yr1 ?_;intro b5;refine yr21 ?_;refine ji (hAr _ y1 h2) bd ?_;refine yr1 ?_;refine ji (hUs _ y1 h2) bd ?_;simp only[hpH_app];refine yr4 ?_;refine zi ?_
  (repeat refine K.seq ?_)
  refine zcq ?_;refine yr13 ?_;refine je (hSi _ y1 h2) bd ?_;rintro _ _ ⟨rfl,rfl⟩;simp only[hpH_app];refine yr4 ?_;refine je (hCy _ y1 h2) bd ?_;rintro _ _ ⟨rfl,rfl⟩;simp only[hpH_app];refine yr3 ?_;refine je (hAc _ y1 h2) bd ?_;rintro _ _ ⟨rfl,rfl⟩;simp only[hpH_app];refine yr18 ?_;exact zB
 ·rw[if_neg he];refine en2 49 Tryz.func11 ?_
  (iterate 13 first|refine yS ?_|intro _)
  refine zav ?_;simp only[hpH_app];refine yr18 ?_;refine je (hdo _) Bv ?_;rintro _ _ ⟨rfl,y1,h2,rfl⟩;refine yr1 ?_;intro b5;refine yr16 ?_;refine zl ?_;simp only[hpH_app];refine yr10 ?_;refine ji (hAr _ y1 h2) bd ?_;refine yr1 ?_;refine ji (hUs _ y1 h2) bd ?_;simp only[hpH_app];refine yr4 ?_;refine zi ?_
  (repeat refine K.seq ?_)
  refine zcq ?_;refine yr13 ?_;refine je (hSi _ y1 h2) bd ?_;rintro _ _ ⟨rfl,rfl⟩;simp only[hpH_app];refine yr4 ?_;refine je (hCy _ y1 h2) bd ?_;rintro _ _ ⟨rfl,rfl⟩;simp only[hpH_app];refine yr3 ?_;refine je (hAc _ y1 h2) bd ?_;rintro _ _ ⟨rfl,rfl⟩;simp only[hpH_app];refine yr18 ?_;exact zB
theorem jkp {C:HpC} {k u:Int} (h0:0<=k) (hk:k<(C.nw:Nat)):jaQ C h k u=((stepC C.g C.long C.nw h.s k u).isSome,{h with s:=(stepC C.g C.long C.nw h.s k u).getD h.s}):=by
 unfold jaQ;rw[if_pos ⟨h0,hk⟩]
 cases stepC C.g C.long C.nw h.s k u<;>rfl
theorem hpStep_K {k u:Int} (hG:ju w0) (hD:HpDok D) (h1:HpR D nf nk y h) (hu:0<=u/\u<256):Call Tryz.prog w0 8 [pt D.b, .int .i64 k, .int .u8 u] (hpH D y h++F) (fun r H'=>r= .bool (jaQ D.C h k u).1/\HpQ D nf nk (jaQ D.C h k u).2 F H'):=by
 have hnone:=fun A=>jgI (w0:=w0) (D:=D) (y:=y) (h:=h) (F:=A)
 have hS:=fun A=>h1.lift (F:=A) (fun A=>by have:=cyStep_K (w0:=w0) (F:=A) (hd:=k) hG h1.p hu;rw [h1.b,h1.nw] at this;exact this)
 have hnw:=hD.nw
 by_cases h0:0<=k
 ·have h0':k>=0:=h0
  by_cases hk:k<(D.C.nw:Nat)
  ·have hk':k<D.c.workers:=by rw[hnw];exact hk
   rw[jkp h0 hk];unfold HpQ at hS|-;refine en3 32 Tryz.func8 ?_;refine yr9 ?_;refine zav ?_;simp only[hpH_app];refine yr22 ?_;refine zaK ?_;rintro _ _ ⟨rfl,y1,h2,rfl⟩;refine yr5 ?_;exact zB
  ·have hk': ¬k<D.c.workers:=by rw[hnw];exact hk
   have e9:jaQ D.C h k u=(false,h):=by unfold jaQ;rw [if_neg (fun q=>hk q.2)]
   rw[e9];unfold HpQ;refine en3 32 Tryz.func8 ?_;refine yr9 ?_;refine zav ?_;simp only[hpH_app];refine yr27 ?_;exact zar
 ·have h0': ¬k>=0:=h0
  have e9:jaQ D.C h k u=(false,h):=by unfold jaQ;rw [if_neg (fun q=>h0 q.1)]
  rw[e9];unfold HpQ;refine en3 32 Tryz.func8 ?_;refine yr9 ?_;refine zav ?_;refine yr27 ?_;exact zar
theorem hpWork_K:Cs w0 13 [pt D.b] (hpH D y h++F) (.int .i64 (h.wk:Nat)):=by
 have hnone:=fun A=>jgI (w0:=w0) (D:=D) (y:=y) (h:=h) (F:=A)
 refine en1 9 Tryz.func13 ?_;refine yr10 ?_;refine zav ?_;simp only[hpH_app];refine yr15 ?_;exact zQ
end
structure jcv where
 o:OpP
 H:Int
 V:Int
 work:Bool
 k:Int
 u:Nat
def acL (x:jcv):List Value:=[.int .u8 (x.o.c:Nat), .int .u64 (x.o.h:Nat), .int .i64 x.o.a, .int .i64 x.o.b, .int .u64 (x.o.v:Nat), .int .i64 x.H, .int .i64 x.V, .bool x.work, .int .i64 x.k, .int .u8 (x.u:Nat)]
structure jdP (x:jcv):Prop where
 o:jat x.o
 u:x.u<256
def u64s (T:List Int):Prop:= ∀ x∈T,0<=x/\x<18446744073709551616
def pickT (T:List Int) (i:Int) (d:Nat):Nat:=if 0<=i/\0<T.length then((T[(i%(T.length:Nat)).toNat]?).getD 0).toNat else d
def opA (x:jcv) (T:List Int):OpP:={x.o with h:=pickT T x.H x.o.h,v:=pickT T x.V x.o.v}
theorem jfi {T:List Int} {i:Int} (hT:u64s T) (h1:0<=i) (h2:0<T.length) (d:Nat): ∃ (k:Nat) (e:Nat),i%((T.length:Nat):Int)=((k:Nat):Int)/\k<T.length/\T[k]?=some ((e:Nat):Int)/\pickT T i d=e:=by
 have h3:=Int.emod_nonneg i (b:=((T.length:Nat):Int)) bc
 have h4:=Int.emod_lt_of_pos i (b:=((T.length:Nat):Int)) bc
 obtain⟨k,hk⟩: ∃ k:Nat,i%((T.length:Nat):Int)=k:=⟨(i%((T.length:Nat):Int)).toNat,by omega⟩
 have hkl:k<T.length:=by omega
 obtain⟨e,he⟩:=jq hkl
 have heb:=hT e (List.mem_of_getElem? he)
 obtain⟨n,rfl⟩: ∃ n:Nat,e=n:=⟨e.toNat,by omega⟩
 refine⟨k,n,hk,hkl,he,?_⟩;unfold pickT;rw[if_pos ⟨h1,h2⟩,hk,Int.toNat_natCast,he]
 rfl
theorem jkK {T:List Int} {i:Int} {d:Nat} (hT:u64s T) (hd:d<18446744073709551616):pickT T i d<18446744073709551616:=by
 by_cases h:0<=i/\0<T.length
 ·obtain⟨k,e,_,_,h3,h4⟩:=jfi hT h.1 h.2 d
  have:=hT _ (List.mem_of_getElem? h3)
  rw[h4];omega
 ·unfold pickT;rw [if_neg h];exact hd
theorem jec {T:List Int} {i:Int} {d:Nat} (h: ¬(0<=i/\0<T.length)):pickT T i d=d:=if_neg h
theorem opA_ok {x:jcv} {T:List Int} (hx:jdP x) (hT:u64s T):jat (opA x T):=⟨hx.o.c,jkK hT hx.o.h,jkK hT hx.o.v⟩
section
variable {w0 : World} {F : jb} {x : jcv} {T : List Int} {v : Value}
theorem op_K (hx:jdP x) (hS:Sli w0 F uE v T) (hT:u64s T):Cs w0 10 [.agg (acL x).toArray,v] F (opV (opA x T)):=by
 obtain⟨⟨c,h,a,b,vv⟩,H,V,wk,k,u⟩:=x
 unfold acL opV opA;dsimp only
 by_cases hl:0<T.length
 ·have hl0:((T.length:Nat):Int)>0:=by omega
  have hl1: ¬((T.length:Nat):Int)=0:=by omega
  by_cases hH:0<=H
  ·have hH':H>=0:=hH
   obtain⟨i,e,i1,i2,i3,i4⟩:=jfi hT hH hl h
   have i3':T[((i:Nat):Int).toNat]?=some ((e:Nat):Int):=i3
   rw[i4]
   by_cases hV:0<=V
   ·have hV':V>=0:=hV
    obtain⟨j,f,j1,j2,j3,j4⟩:=jfi hT hV hl vv
    have j3':T[((j:Nat):Int).toNat]?=some ((f:Nat):Int):=j3
    rw[j4];refine z9 ?_
    (iterate 31 first|refine yS ?_|intro _)
    refine zg ?_;refine yr6 ?_;rw[i1];refine yr20 ?_;refine zg ?_;refine yr6 ?_;rw[j1];refine yr13 ?_;exact zd
   ·have hV': ¬V>=0:=hV
    rw[jec (i:=V) (fun q=>hV q.1)];refine z9 ?_
    (iterate 31 first|refine yS ?_|intro _)
    refine zg ?_;refine yr6 ?_;rw[i1];refine yr29 ?_;exact zd
  ·have hH': ¬H>=0:=hH
   rw[jec (i:=H) (fun q=>hH q.1)]
   by_cases hV:0<=V
   ·have hV':V>=0:=hV
    obtain⟨j,f,j1,j2,j3,j4⟩:=jfi hT hV hl vv
    have j3':T[((j:Nat):Int).toNat]?=some ((f:Nat):Int):=j3
    rw[j4];refine z9 ?_
    (iterate 47 first|refine yS ?_|intro _)
    refine zg ?_;refine yr6 ?_;rw[j1];refine yr13 ?_;exact zd
   ·have hV': ¬V>=0:=hV
    rw[jec (i:=V) (fun q=>hV q.1)];refine z9 ?_
    (iterate 56 first|refine yS ?_|intro _)
    exact zd
 ·have hl0: ¬((T.length:Nat):Int)>0:=by omega
  rw[jec (i:=H) (fun q=>hl q.2),jec (i:=V) (fun q=>hl q.2)]
  by_cases hH:0<=H
  ·have hH':H>=0:=hH
   by_cases hV:0<=V
   ·have hV':V>=0:=hV
    refine z9 ?_
    (iterate 56 first|refine yS ?_|intro _)
    exact zd
   ·have hV': ¬V>=0:=hV
    refine z9 ?_
    (iterate 56 first|refine yS ?_|intro _)
    exact zd
  ·have hH': ¬H>=0:=hH
   by_cases hV:0<=V
   ·have hV':V>=0:=hV
    refine z9 ?_
    (iterate 56 first|refine yS ?_|intro _)
    exact zd
   ·have hV': ¬V>=0:=hV
    refine z9 ?_
    (iterate 56 first|refine yS ?_|intro _)
    exact zd
theorem example_K {H:jb}:Call Tryz.prog w0 20 [] H (fun r H'=> ∃ b1 b2,r=jA hxC (.slice (some ⟨b1,0,none⟩) 2 2) (.slice (some ⟨b2,0,none⟩) 2 2)/\H'=(b1,cells [.int .i64 2, .int .i64 4] 3)::(b2,cells [.int .i64 20, .int .i64 8, .int .i64 4, .int .i64 1, .int .i64 4, .int .i64 1, .int .i64 1, .int .i64 0] 59)::H):=by
 refine en0 6 Tryz.func20 ?_;refine yr3 ?_;intro b0;refine yr5 ?_;intro b1;refine yr3 ?_;intro b4;refine yr5 ?_;exact KE.fin jd rfl jc ja ⟨b1,b4,rfl,rfl⟩
theorem do_at {D:HpD} {nf nk:Nat} {y:CyM} {h:HpP} {op:OpP} {q:SnP} {h':HpP} (hG:ju w0) (hD:HpDok D) (hI:HeI D.C h) (h1:HpR D nf nk y h) (hf:nf<=900000) (ho:jat op) (e1:(Js D.C h op).1=q) (e2:(Js D.C h op).2=h'):Call Tryz.prog w0 11 [pt D.b,opV op] (hpH D y h++F) (fun r H'=>r=snV q/\ ∃ y',HpR D (nf+2) 400000000 y' h'/\H'=hpH D y' h'++F):=by
 subst e1 e2;exact hpDo_K hG hD hI h1 hf ho
theorem do_I {C:HpC} {h:HpP} {op:OpP} (hC:j6 C) (hI:HeI C h) (ho:jat op):HeI C (Js C h op).2:=hI.mvs hC (do_mvs (wr:=true) hC hI ho.v fun _=>rfl)
theorem awake_K (hG:ju w0):Cs w0 5 [] F (.bool true):=by
 have hex:=fun A=>example_K (w0:=w0) (H:=A)
 have hmd: ∀ A b1 b2,Call Tryz.prog w0 4 [jA hxC (.slice (some ⟨b1,0,none⟩) 2 2) (.slice (some ⟨b2,0,none⟩) 2 2), .int .i64 0] ((b1,cells [.int .i64 2, .int .i64 4] 3)::(b2,cells [.int .i64 20, .int .i64 8, .int .i64 4, .int .i64 1, .int .i64 4, .int .i64 1, .int .i64 1, .int .i64 0] 59)::A) (fun r H'=> ∃ D y,HMade hxC 0 D y/\r= .tuple [pt D.b,pt D.mb].toArray/\H'=hpH D y (jaM D.C)++((b1,cells [.int .i64 2, .int .i64 4] 3)::(b2,cells [.int .i64 20, .int .i64 8, .int .i64 4, .int .i64 1, .int .i64 4, .int .i64 1, .int .i64 1, .int .i64 0] 59)::A)):=fun A b1 b2=>by
  have hC:Sli w0 [(b1,cells [.int .i64 2, .int .i64 4] 3)] iE (.slice (some ⟨b1,0,none⟩) 2 2) hxC.cl:=Sli.blk jx.head rfl bn bn rfl
  have hT:Sli w0 [(b2,cells (jC tnE hxC.tn) 59)] tnE (.slice (some ⟨b2,0,none⟩) 2 2) hxC.tn:=Sli.blk jx.head rfl bn bn rfl
  have hR:Jl w0 ((b1,cells [.int .i64 2, .int .i64 4] 3)::(b2,cells (jC tnE hxC.tn) 59)::A) hxC (.slice (some ⟨b1,0,none⟩) 2 2) (.slice (some ⟨b2,0,none⟩) 2 2):=⟨hC.part ja,hT.part ja,rfl,rfl,by decide,by decide⟩
  exact made_K (t:=0) hG hR hx_ok
 unfold jA jV at hex hmd;refine en0 71 Tryz.func5 ?_;refine yr8 ?_;refine Jx (hex _) ?_;rintro _ _ ⟨b1,b2,rfl,rfl⟩;refine zbo fun T hT=>?_;refine(CallV.fn (hmd _ b1 b2)).mono ?_;rintro _ _ ⟨D,y0,hM,rfl,rfl⟩
 obtain⟨x,hx,hDC⟩:=hM.eC
 have hxe:x=hxT:=by injection hx.symm
 subst hxe
 have hD:=hM.ok
 have hC:=hD.C
 have hC0:D.C=hxH:=hDC
 have hI0:HeI D.C hx0:=by have:=HeI.new hC;rw [hC0] at this|-;exact this
 have hR0:HpR D 1 0 y0 hx0:=by have:=hM.R;rw [hC0] at this;exact this
 have ho: ∀ (c h:Nat) (a b:Int) (v:Nat),c<256->h<18446744073709551616->v<18446744073709551616->jat ⟨c,h,a,b,v⟩:=fun c h a b v h1 h2 h3=>⟨h1,h2,h3⟩
 have st: ∀ {h:HpP} {op:OpP} {q:SnP} {h':HpP},HeI D.C h->jat op->(Js hxH h op).1=q->(Js hxH h op).2=h'->HeI D.C h'/\ ∀ A nf nk (y:CyM),HpR D nf nk y h->nf<=900000->Call Tryz.prog w0 11 [pt D.b,opV op] (hpH D y h++A) (fun r H'=>r=snV q/\ ∃ y',HpR D (nf+2) 400000000 y' h'/\H'=hpH D y' h'++A):=fun hI ho e1 e2=>by
  rw[<-hC0] at e1 e2;exact⟨e2▸do_I hC hI ho,fun A nf nk y h1 hf=>do_at hG hD hI h1 hf ho e1 e2⟩
 obtain⟨hI1,d0⟩:=st hI0 (ho 1 0 1 1 0 bn bn bn) hx_a (h':=hx1) rfl
 obtain⟨hI2,d1⟩:=st hI1 (ho 1 0 0 1 0 bn bn bn) hx_b (h':=hx2) rfl
 obtain⟨hI3,d2⟩:=st hI2 (ho 3 1 0 0 4294967297 bn bn bn) hx_c (h':=hx3) rfl
 obtain⟨hI4,d3⟩:=st hI3 (ho 6 4294967297 0 0 0 bn bn bn) hx_d (h':=hx4) rfl
 obtain⟨hI5,d4⟩:=st hI4 (ho 2 1 0 0 0 bn bn bn) hx_e (h':=hx5) rfl
 obtain⟨hI6,d5⟩:=st hI5 (ho 1 0 0 1 0 bn bn bn) hx_f (h':=hx6) rfl
 obtain⟨_,d6⟩:=st hI6 (ho 2 1 0 0 0 bn bn bn) hx_g rfl
 clear hI0 hI1 hI2 hI3 hI4 hI5 hI6 st
 have e0:jaM D.C=hx0:=by rw[hC0];rfl
 rw[e0];refine ze ?_;clear hT T;refine yr22 ?_;refine je (d0 _ _ _ y0 hR0 bn) ja ?_;rintro _ _ ⟨rfl,y1,hR1,rfl⟩;refine yr1 ?_;intro b3;refine yr8 ?_;refine je (d1 _ _ _ y1 hR1 bn) ja ?_;rintro _ _ ⟨rfl,y2,hR2,rfl⟩;refine yr1 ?_;intro b4;refine yr8 ?_;refine je (d2 _ _ _ y2 hR2 bn) ja ?_;rintro _ _ ⟨rfl,y3,hR3,rfl⟩;refine yr1 ?_;intro b5;refine yr8 ?_;refine je (d3 _ _ _ y3 hR3 bn) ja ?_;rintro _ _ ⟨rfl,y4,hR4,rfl⟩;refine yr1 ?_;intro b6;refine yr8 ?_;refine je (d4 _ _ _ y4 hR4 bn) ja ?_;rintro _ _ ⟨rfl,y5,hR5,rfl⟩;refine yr1 ?_;intro b7;refine yr8 ?_;refine je (d5 _ _ _ y5 hR5 bn) ja ?_;rintro _ _ ⟨rfl,y6,hR6,rfl⟩;refine yr1 ?_;intro b8;refine yr8 ?_;refine je (d6 _ _ _ y6 hR6 bn) ja ?_;rintro _ _ ⟨rfl,y7,hR7,rfl⟩;refine yr1 ?_;intro b9;refine yr7 ?_;refine zaM ?_;refine yr3 ?_;refine zax ?_;refine zaM ?_;refine yr14 ?_;refine zax ?_;refine zaM ?_;refine yr4 ?_;refine zax ?_;refine zaM ?_;refine yr4 ?_;refine zax ?_;refine zaM ?_;refine yr5 ?_;exact zd
end
def haE:Enc jcv:=⟨acL,10,fun _=>rfl,by intro x v hv;simp[acL] at hv;rcases hv with rfl|rfl|rfl|rfl|rfl|rfl|rfl|rfl|rfl|rfl<;>rfl⟩
section
variable {C : HpC} {h h' : HpP} {T G : List Int} {op : OpP}
theorem mintW_lt {tn:Nat} {T:List jk} (htn:tn<8) (hT:T.length<=1024) (he: ∀ e∈T,1<=e.gen/\e.gen<=2147483648) (hf:(JN T).isSome=true):jaU tn T<18446744073709551616:=by
 obtain⟨i,hi⟩:=Option.isSome_iff_exists.1 hf
 obtain⟨⟨e,g1,g2⟩,_⟩:=jbK hi
 have hil:=jl g1
 have hge:=he e (List.mem_of_getElem? g1)
 unfold jaU JT;rw[hi];dsimp only;rw[jcp g1];unfold capW
 omega
theorem NewW.lt (hC:j6 C) {w:Nat} (hN:NewW C h h' w):w<18446744073709551616:=by
 obtain⟨T1,t,a,b,_,d,rfl,_⟩:=hN
 exact mintW_lt hC.tn a b d
structure StI (C:HpC) (h:HpP) (T G:List Int):Prop where
 I:HeI C h
 t: ∀ x∈T,∃ w:Nat,x=(w:Nat)/\w<18446744073709551616/\OldH h.s.W.T w
 g: ∀ x∈G,∃ w:Nat,x=(w:Nat)/\w<18446744073709551616/\jdR h.s.W.T w
theorem StI.u (hS:StI C h T G):u64s T:=fun x hx=>by obtain⟨w,rfl,h1,_⟩:=hS.t x hx;omega
theorem StI.mvs (hC:j6 C) (hS:StI C h T G) (m:JC C true h h'):StI C h' T G:=
 ⟨hS.I.mvs hC m,fun x hx=>by obtain⟨w,e,h1,h2⟩:=hS.t x hx;exact⟨w,e,h1,h2.le (jel hC hS.I m)⟩,fun x hx=>by obtain⟨w,e,h1,h2⟩:=hS.g x hx;exact⟨w,e,h1,h2.le (jel hC hS.I m)⟩⟩
theorem StI.do_ (hC:j6 C) (hS:StI C h T G) (ho:jat op):StI C (Js C h op).2 T G:=hS.mvs hC (do_mvs hC hS.I ho.v fun _=>rfl)
theorem StI.old (hC:j6 C) (hS:StI C h T G) (ho:jat op) (h0:(Js C h op).1.h≠0):StI C (Js C h op).2 (T++ [(((Js C h op).1.h:Nat):Int)]) G:=by
 have hS':=hS.do_ hC ho
 refine⟨hS'.I,fun x hx=>?_,hS'.g⟩
 rcases List.mem_append.1 hx with hx|hx
 ·exact hS'.t x hx
 ·obtain rfl:=List.mem_singleton.1 hx
  have hN:=do_new hC hS.I h0
  refine⟨_,rfl,hN.lt hC,?_⟩
  obtain⟨T1,t,a,b,cc,d,e',f⟩:=hN
  rw[e'];exact(mintW_old a b d).1.le f
end
open Go.ChangeShapes Go.WideShapes Go.ChangeAt Go.RowKit
set_option maxRecDepth 100000
def laidL : List (String × DataW Unit) := [("math/bits.deBruijn64tab", Rows.laid_math_bits_deBruijn64tab), ("commonage/head.widths", Rows.laid_commonage_head_widths)]
def tabZ:List Int:=Lib.deBruijn64tab.map fun n=>((n:Nat):Int)
def wdZ:List Int:=wdL.map fun n=>((n:Nat):Int)
theorem jjX {W:World} {n t e f:Nat} {k:IntKind} {zs:List Int} {cs:Array Value} {p:List MemPlace} (ht:Tryz.prog.underlying t=some (.array n e)) (he:Tryz.prog.underlying e=some (.int k)) (hc:Tryz.prog.cellsOf e=1) (hz:zs.length=n)
  (hd:DataW.trod (fun x:TypeId × Value=>()) Tryz.prog W 0 (fun _=>true) false f t cs.toList=some (.agg (zs.map fun n=> .lit (.int k n)),p)) (r:Nat) (hr:r<n):cs.toList[r]?=some (.int k (zs.getD r 0)):=by
 obtain⟨xs,m,_,ex,_,hl,hel⟩:=DataW.trod_array ht hd
 have hE:=hel r hr
 rw[hc,Nat.mul_one,List.getElem?_eq_getElem bc] at hE
 obtain⟨z,e1,e2,_⟩:=DataW.trod_int he hE
 have e3:(xs.map (·.1))=zs.map fun n=> .lit (.int k n):=(DataW.agg.inj (Prod.mk.inj ex).1).symm
 have e4:(xs.map (·.1))[r]?=(zs.map fun n=>(DataW.lit (.int k n):DataW Unit))[r]? :=by rw[e3]
 rw[List.getElem?_map,List.getElem?_map,List.getElem?_eq_getElem (by omega:r<xs.length),List.getElem?_eq_getElem (by omega:r<zs.length),e2] at e4
 have hz:z=zs.getD r 0:=by
  simp only[Option.map_some,Option.some.injEq,DataW.lit.injEq,Lit.int.injEq,true_and] at e4;rw[e4,List.getD,List.getElem?_eq_getElem (by omega:r<zs.length)];rfl
 rw[<-hz]
 have h0:((cs.toList.drop r).take 1)[0]?=some (.int k z):=by rw[e1];rfl
 simpa using h0
theorem glob_of_laid {W:World} (h:laidMetH Tryz.prog laidL W):ju W:=by
 rw[MakeChecks.laidMetH_plain _ _ _ bu] at h
 obtain⟨ps,⟨g0,t0,cs0,f0,p0,q0,hg0,ht0,hv0,hd0,⟨g1,t1,cs1,f1,p1,q1,hg1,ht1,hv1,hd1,_,_⟩,_⟩,_,_⟩:=h
 obtain rfl := Option.some.inj ((show Tryz.prog.globalNamed "math/bits.deBruijn64tab" = some 2 by kernel_rfl).symm.trans hg0)
 obtain rfl := Option.some.inj ((show Tryz.prog.globalNamed "commonage/head.widths" = some 1 by kernel_rfl).symm.trans hg1)
 obtain rfl:=Option.some.inj ((show(Tryz.prog.globals[2]?).map (·.type)=some 453 by kernel_rfl).symm.trans ht0)
 obtain rfl:=Option.some.inj ((show(Tryz.prog.globals[1]?).map (·.type)=some 430 by kernel_rfl).symm.trans ht1)
 refine⟨fun j hj=>?_,fun j n hn=>?_⟩
 ·have hj64:j<64:=hj
  have h1:=jjX (zs:=tabZ) Tryz.underlying453 Tryz.underlying5 bu bu hd0 j hj64
  have h2:=World.var?_cell hg0 hv0 j
  have h3:tabZ.getD j 0=((Lib.deBruijn64tab.getD j 0:Nat):Int):=by
   unfold tabZ;simp only[List.getD_eq_getElem?_getD,List.getElem?_map]
   cases Lib.deBruijn64tab[j]?<;>rfl
  rw[h2,<-h3]
  simpa using h1
 ·have hj5:j<5:=(List.getElem?_eq_some_iff.1 hn).1
  have h1:=jjX (zs:=wdZ) Tryz.underlying430 Tryz.underlying3 bu bu hd1 j hj5
  have h2:=World.var?_cell hg1 hv1 j
  have h3:wdZ.getD j 0=((n:Nat):Int):=by
   unfold wdZ;simp only[List.getD_eq_getElem?_getD,List.getElem?_map,hn];rfl
  rw[h2,<-h3]
  simpa using h1
theorem door_met (os:Os) (args:Array Value):laidMetH Tryz.prog laidL ((World.doorLaid Tryz.prog 400 os).forCall (fun _ _=>0) ⟨#[],args,[]⟩).memory:=
 laidMetH_of_parts3 (fuel:=8) (laidMet_of_run' 8 bu bu) bu bu
open Go.RowKit Go.ChangeShapes Go.WideShapes Go.ChangeAt Go.Deep Go.Joins
section
variable {H : Type} {enc : TypeId × Value -> H} {W : World}
theorem hop_in {fuel:Nat} {cs:List Value} {x:DataW H × List MemPlace} (hx:DataW.trod enc Tryz.prog W 0 (fun _=>true) true fuel 69 cs=some x) (hlen:cs.length=5): ∃ y:OpP,cs=[.int .u8 (y.c:Nat), .int .u64 (y.h:Nat), .int .i64 y.a, .int .i64 y.b, .int .u64 (y.v:Nat)]/\jat y:=by
 obtain⟨c0,c1,c2,c3,c4,rfl⟩: ∃ c0 c1 c2 c3 c4,cs=[c0,c1,c2,c3,c4]:=by
  match cs,hlen with
  | [c0,c1,c2,c3,c4],_=>exact⟨c0,c1,c2,c3,c4,rfl⟩
 obtain⟨xs,n,_,rfl,hl,hxl,hf⟩:=DataW.trod_struct Tryz.underlying69 hx
 have k8:(Tryz.prog).cellsOf 5=1:=by kernel_rfl
 have ku:(Tryz.prog).cellsOf 67=1:=by kernel_rfl
 have ki:(Tryz.prog).cellsOf 3=1:=by kernel_rfl
 match xs,hxl with
 | [y0,y1,y2,y3,y4],_=>
  have h0:=hf 0 _ rfl
  have h1:=hf 1 _ rfl
  have h2:=hf 2 _ rfl
  have h3:=hf 3 _ rfl
  have h4:=hf 4 _ rfl
  obtain⟨a0,e0,-,w0⟩:=DataW.trod_int Tryz.underlying5 (by simpa [k8,ku,ki] using h0)
  obtain⟨a1,e1,-,w1⟩:=DataW.trod_int Tryz.underlying67 (by simpa [k8,ku,ki] using h1)
  obtain⟨a2,e2,-,w2⟩:=DataW.trod_int Tryz.underlying3 (by simpa [k8,ku,ki] using h2)
  obtain⟨a3,e3,-,w3⟩:=DataW.trod_int Tryz.underlying3 (by simpa [k8,ku,ki] using h3)
  obtain⟨a4,e4,-,w4⟩:=DataW.trod_int Tryz.underlying67 (by simpa [k8,ku,ki] using h4)
  simp at e0 e1 e2 e3 e4
  have hu0:=wf_u8 w0
  have hu1:=wf_u64 w1
  have hu4:=wf_u64 w4
  unfold u8ok at hu0;unfold u64ok at hu1 hu4
  obtain⟨n0,rfl⟩: ∃ n0:Nat,a0=n0:=⟨a0.toNat,by omega⟩
  obtain⟨n1,rfl⟩: ∃ n1:Nat,a1=n1:=⟨a1.toNat,by omega⟩
  obtain⟨n4,rfl⟩: ∃ n4:Nat,a4=n4:=⟨a4.toNat,by omega⟩
  subst e0 e1 e2 e3 e4;exact⟨⟨n0,n1,a2,a3,n4⟩,rfl,(by show n0<256;omega),(by show n1<18446744073709551616;omega),(by show n4<18446744073709551616;omega)⟩
theorem hact_in {fuel:Nat} {cs:List Value} {x:DataW H × List MemPlace} (hx:DataW.trod enc Tryz.prog W 0 (fun _=>true) true fuel 71 cs=some x) (hlen:cs.length=10): ∃ y:jcv,cs=haE.enc y/\jdP y:=by
 obtain⟨c0,c1,c2,c3,c4,c5,c6,c7,c8,c9,rfl⟩: ∃ c0 c1 c2 c3 c4 c5 c6 c7 c8 c9,cs=[c0,c1,c2,c3,c4,c5,c6,c7,c8,c9]:=by
  match cs,hlen with
  | [c0,c1,c2,c3,c4,c5,c6,c7,c8,c9],_=>exact⟨c0,c1,c2,c3,c4,c5,c6,c7,c8,c9,rfl⟩
 obtain⟨xs,n,hn,rfl,hl,hxl,hf⟩:=DataW.trod_struct Tryz.underlying71 hx
 have k8:(Tryz.prog).cellsOf 5=1:=by kernel_rfl
 have kb:(Tryz.prog).cellsOf 4=1:=by kernel_rfl
 have ki:(Tryz.prog).cellsOf 3=1:=by kernel_rfl
 have ko:(Tryz.prog).cellsOf 69=5:=by kernel_rfl
 match xs,hxl with
 | [y0,y1,y2,y3,y4,y5],_=>
  have h0:=hf 0 _ rfl
  have h1:=hf 1 _ rfl
  have h2:=hf 2 _ rfl
  have h3:=hf 3 _ rfl
  have h4:=hf 4 _ rfl
  have h5:=hf 5 _ rfl
  obtain⟨o,eo,ho⟩:=hop_in (cs:=[c0,c1,c2,c3,c4]) (by simpa [k8,kb,ki,ko] using h0) rfl
  obtain⟨a1,e1,-,w1⟩:=DataW.trod_int Tryz.underlying3 (by simpa [k8,kb,ki,ko] using h1)
  obtain⟨a2,e2,-,w2⟩:=DataW.trod_int Tryz.underlying3 (by simpa [k8,kb,ki,ko] using h2)
  obtain⟨a3,e3,-⟩:=DataW.trod_bool Tryz.underlying4 (by simpa [k8,kb,ki,ko] using h3)
  obtain⟨a4,e4,-,w4⟩:=DataW.trod_int Tryz.underlying3 (by simpa [k8,kb,ki,ko] using h4)
  obtain⟨a5,e5,-,w5⟩:=DataW.trod_int Tryz.underlying5 (by simpa [k8,kb,ki,ko] using h5)
  simp at eo e1 e2 e3 e4 e5
  have hu:=wf_u8 w5
  unfold u8ok at hu
  obtain⟨n5,rfl⟩: ∃ n5:Nat,a5=n5:=⟨a5.toNat,by omega⟩
  obtain⟨q0,q1,q2,q3,q4⟩:=eo
  subst q0 q1 q2 q3 q4 e1 e2 e3 e4 e5;exact⟨⟨o,a1,a2,a3,a4,n5⟩,rfl,ho,(by show n5<256;omega)⟩
