/-The walker and contracts, part 41.-/
import Derived.Test.YtciaccbemnpipaaGreatDoorD2
import Derived.Test.YtciaccbemnpipaaGreatDoorJ39
import Derived.Test.YtciaccbemnpipaaGreatDoorJ40
set_option linter.all false
namespace Go.Proofs.YtciaccbemnpipaaGreatDoor.Sw
set_option maxHeartbeats 8000000
open Go.Proofs.YtciaccbemnpipaaGreatDoor renaming lo -> qL, hi -> qH
open Go.RowKit
set_option maxRecDepth 10000
section
variable {R0 : List (List Int)} {w0 : World} {D F : jb} {C : HpC} {c : Cfg} {vc vt : Value} {v : PlV} {d : CyV} {h : HpP}
variable {op : OpP} {n : Nat} {z : jn}
theorem jma {x:List Int} {z:jn} (hx:JF x): ∀ w∈jai x z,0<=w/\w<18446744073709551616:=fun w hw=>by
 unfold jai at hw
 cases hh:headP x z with
 |none=>rw [hh] at hw;cases hw
 |some q=>
  rw[hh] at hw
  obtain⟨i,_,rfl⟩:=List.mem_map.1 hw
  unfold wordP
  split
  ·exact hx.at_ _
  ·exact⟨by show(0:Int)<=0;decide,by show(0:Int)<18446744073709551616;decide⟩
theorem hqdoes_K (hG:ju w0) (hK:HqK C c v) (hJ:HeJ C h) (hR:HqR R0 w0 D C c vc vt v d h) (hw:h.wk=0) (ho:jat op):
  Call Tryz.prog w0 34 [.agg (hqL C c vc vt v d h).toArray,opV op] (D++F) (DoG R0 w0 D F C c vc vt v (hpDoes C h op)):=by
 have hC:=hK.k
 have okg:=hC.g
 have hsl:=fun A=>jjK (F:=A) hK hR ho.h
 unfold hpDoes
 have hoc:=ho.c
 have htold:=fun A (e:Int)=>je8 (F:=A) (e:=e) hR
 by_cases hb:op.c<1\/7<op.c
 ·rw[if_pos hb]
  have ht0:=fun A=>htold A 250
  unfold DoG HqG;unfold hqL at ht0|-;unfold opV
  obtain⟨q1,q2,q3,q4,q5,q6,q7,q8,q9,r1,r2,r3,r4,r5⟩:=hR.y.c
  have o1:=hR.e1
  have o2:=hR.e2
  rcases hb with hb|hb
  ·have hb1:((op.c:Nat):Int)<1:=by omega
   refine zM ?_
   (iterate 30 first|refine ZS ?_|intro _)
   refine zai ?_;refine xr8 ?_;exact KE.fin jd rfl jc ja ⟨told 250,rfl,fun _=>rfl,d,[],hR,rfl,rfl⟩
  ·have hb0: ¬((op.c:Nat):Int)<1:=by omega
   have hb1:((op.c:Nat):Int)>7:=by omega
   refine zM ?_
   (iterate 30 first|refine ZS ?_|intro _)
   refine zai ?_;refine xr8 ?_;exact KE.fin jd rfl jc ja ⟨told 250,rfl,fun _=>rfl,d,[],hR,rfl,rfl⟩
 ·rw[if_neg hb]
  by_cases hc1:op.c=1
  ·rw[if_pos hc1]
   have hal:=fun A=>hqalloc_K (F:=A) (op:=op) hK hJ hR bc
   obtain⟨x,hx⟩: ∃ x,hpAlloc C h op.a op.b=x:=⟨_,rfl⟩
   rw[hx] at hal|-
   have hcv:((op.c:Nat):Int)=1:=by omega
   unfold DoG;unfold HqG at hal|-;unfold hqL at hal|-;unfold opV at hal|-;rw[hcv] at hal|-
   obtain⟨q1,q2,q3,q4,q5,q6,q7,q8,q9,r1,r2,r3,r4,r5⟩:=hR.y.c
   have o1:=hR.e1
   have o2:=hR.e2
   refine zM ?_
   (iterate 42 first|refine ZS ?_|intro _)
   refine je (hal _) ja ?_;rintro _ _ ⟨d1,N1,hR1,rfl,rfl⟩
   obtain⟨_,_,_,_,t5,t6,t7,t8,t9,ta,tb,tc,td,te⟩:=hR1.y.c
   refine xr8 ?_;exact KE.fin (H':=N1++(D++F)) jd rfl jc bg ⟨x.1,rfl,fun _=>rfl,d1,N1,hR1,rfl,rfl⟩
  ·rw[if_neg hc1]
   have hb0: ¬((op.c:Nat):Int)<1:=by omega
   have hb1: ¬((op.c:Nat):Int)>7:=by omega
   have hc1': ¬((op.c:Nat):Int)=1:=by omega
   cases hs:hpSlot C.tn h.s.W.T op.h with
   |none=>
    simp only[hs,Option.getD_none,Option.isSome_none] at hsl;dsimp only
    have ht0:=fun A=>htold A 130
    unfold DoG HqG;unfold hqL at hsl ht0|-;unfold opV
    obtain⟨q1,q2,q3,q4,q5,q6,q7,q8,q9,r1,r2,r3,r4,r5⟩:=hR.y.c
    have o1:=hR.e1
    have o2:=hR.e2
    refine zM ?_
    (iterate 45 first|refine ZS ?_|intro _)
    refine zm ?_;refine xr19 ?_;refine zai ?_;refine xr8 ?_;exact KE.fin jd rfl jc ja ⟨told 130,rfl,fun _=>rfl,d,[],hR,rfl,rfl⟩
   |some sl=>
    obtain⟨n,rfl,hn⟩:=jbP (jaT hJ.i.ok.w (jbh hs))
    obtain⟨z,hz⟩:=Je hn
    simp only[hs,Option.getD_some,Option.isSome_some] at hsl;dsimp only;rw[jY hz]
    have had:=fun A=>je9 (F:=A) hR hz hn okg
    have hsn:=jbh hs
    by_cases hc2:op.c=2
    ·have hrd:=fun A=>hqread_K (F:=A) (op:=op) (k:=(capI op.h:Nat)) hK hJ hR bc hz hn
     have hop:hpOp C h op (n:Nat)=jaK C h (n:Nat) op.a:=by unfold hpOp;rw [if_pos hc2]
     rw[hop]
     have hcv:((op.c:Nat):Int)=2:=by omega
     obtain⟨x,hx⟩: ∃ x:SnP × HpP,({(jaK C h (n:Nat) op.a).1 with addr:=(z.addr:Nat)},(jaK C h (n:Nat) op.a).2)=x:=⟨_,rfl⟩
     rw[hx] at hrd|-;unfold DoG HqG at hrd|-;unfold hqL at hsl had hrd|-;unfold opV at hrd|-;rw[hcv] at hrd|-
     obtain⟨q1,q2,q3,q4,q5,q6,q7,q8,q9,r1,r2,r3,r4,r5⟩:=hR.y.c
     have o1:=hR.e1
     have o2:=hR.e2
     refine zM ?_
     (iterate 45 first|refine ZS ?_|intro _)
     refine zm ?_;refine xr22 ?_;refine zw ?_
     (iterate 27 first|refine ZS ?_|intro _)
     refine je (hrd _) ja ?_;rintro _ _ ⟨q1',k1,k2,d1,N1,hR1,rfl,rfl⟩
     obtain⟨_,_,_,_,t5,t6,t7,t8,t9,ta,tb,tc,td,te⟩:=hR1.y.c
     refine xr9 ?_;exact zcw
    ·by_cases hc3:op.c=3
     ·have hrd:=fun A=>hqwrite_K (F:=A) (op:=op) hK hJ hR hz hn hsn ho.v
      have hop:hpOp C h op (n:Nat)=jaZ C h (n:Nat) op.a op.v:=by unfold hpOp;rw [if_neg hc2,if_pos hc3]
      rw[hop]
      have hcv:((op.c:Nat):Int)=3:=by omega
      obtain⟨x,hx⟩: ∃ x:SnP × HpP,({(jaZ C h (n:Nat) op.a op.v).1 with addr:=(z.addr:Nat)},(jaZ C h (n:Nat) op.a op.v).2)=x:=⟨_,rfl⟩
      rw[hx] at hrd|-;unfold DoG HqG at hrd|-;unfold hqL at hsl had hrd|-;unfold opV at hrd|-;rw[hcv] at hrd|-
      obtain⟨q1,q2,q3,q4,q5,q6,q7,q8,q9,r1,r2,r3,r4,r5⟩:=hR.y.c
      have o1:=hR.e1
      have o2:=hR.e2
      refine zM ?_
      (iterate 45 first|refine ZS ?_|intro _)
      refine zm ?_;refine xr22 ?_;refine zw ?_
      (iterate 34 first|refine ZS ?_|intro _)
      refine je (hrd _) ja ?_;rintro _ _ ⟨q1',k1,k2,d1,N1,hR1,rfl,rfl⟩
      obtain⟨_,_,_,_,t5,t6,t7,t8,t9,ta,tb,tc,td,te⟩:=hR1.y.c
      refine xr9 ?_;exact zcw
     ·by_cases hc4:op.c=4
      ·have hop:hpOp C h op (n:Nat)=jcN h (n:Nat):=by unfold hpOp;rw [if_neg hc2,if_neg hc3,if_pos hc4]
       rw[hop];unfold jcN;rw[Int.toNat_natCast]
       have hcv:((op.c:Nat):Int)=4:=by omega
       have hpn:=fun A=>rPin2_K (F:=A) (s:=n) hR.y.W.N hR.y.W.oN (by rw[hJ.i.ok.w.N];exact hn) (by rw[hJ.i.ok.w.N];have:=okg.slots;omega) hJ.i.ok.w.n
       have hok2:jp C.g C.long {h.s with W:={h.s.W with N:=JQ h.s.W.N n}}:=by
        have:=hJ.i.ok.world okg (a:=⟨6,(n:Nat),0,0,0,0⟩)
        rwa[jgR ⟨by omega,by omega⟩] at this
       have f1:=fun(N:jb) (vn':Value) (hN:Sli w0 (N++D) iE vn' (JQ h.s.W.N n)) (ho:vn'.oneCell'=true)=>(⟨hR.y.pin hN ho hok2.w,hR.c.part ja,hR.e1,hR.e2⟩:HqR R0 w0 (N++D) C c vc vt v ⟨d.va,⟨d.z.vr,d.z.vt,vn',d.z.R,d.z.gens⟩,d.q,d.vd⟩ {h with s:={h.s with W:={h.s.W with N:=JQ h.s.W.N n}}})
       obtain⟨e9,he9⟩: ∃ e9:Int,(if (h.s.W.N[n]?).getD 0<255 then 0 else 140)=e9:=⟨_,rfl⟩
       rw[he9] at hpn|-;unfold DoG HqG;unfold hqL at hsl had|-;unfold opV;rw[hcv]
       obtain⟨q1,q2,q3,q4,q5,q6,q7,q8,q9,r1,r2,r3,r4,r5⟩:=hR.y.c
       have o1:=hR.e1
       have o2:=hR.e2
       refine zM ?_
       (iterate 45 first|refine ZS ?_|intro _)
       refine zm ?_;refine xr22 ?_;refine zw ?_
       (iterate 43 first|refine ZS ?_|intro _)
       refine je (hpn _) ja ?_;rintro _ _ ⟨vn2,N2,hN2,p1,rfl,rfl⟩
       have hR2:=f1 N2 vn2 hN2 p1
       refine xr24 ?_;refine zct ?_;refine xr11 ?_;exact KE.fin (H':=N2++(D++F)) jd rfl jc bg ⟨{told e9 with addr:=(z.addr:Nat)},rfl,(fun _=>rfl),_,N2,hR2,rfl,rfl⟩
      ·by_cases hc5:op.c=5
       ·have hop:hpOp C h op (n:Nat)=jb0 C h (n:Nat):=by unfold hpOp;rw [if_neg hc2,if_neg hc3,if_neg hc4,if_pos hc5]
        rw[hop];unfold jb0;rw[Int.toNat_natCast]
        have hcv:((op.c:Nat):Int)=5:=by omega
        have hNl:n<h.s.W.N.length:=by rw[hJ.i.ok.w.N];exact hn
        obtain⟨m,hm⟩:=jq hNl
        have hmb:=hJ.i.ok.w.n m (List.mem_of_getElem? hm)
        have hm2:(h.s.W.N[n]?).getD 0=m:=by rw[hm];rfl
        have hm':h.s.W.N[((n:Nat):Int).toNat]?=some m:=hm
        have hNS:=hR.y.W.N
        rw[hm2]
        by_cases hm0:m=0
        ·rw[if_pos hm0]
         have ht0:=fun A=>htold A 140
         unfold DoG HqG;unfold hqL at hsl had ht0|-;unfold opV;rw[hcv]
         obtain⟨q1,q2,q3,q4,q5,q6,q7,q8,q9,r1,r2,r3,r4,r5⟩:=hR.y.c
         have o1:=hR.e1
         have o2:=hR.e2
         refine zM ?_
         (iterate 45 first|refine ZS ?_|intro _)
         refine zm ?_;refine xr22 ?_;refine zw ?_
         (iterate 60 first|refine ZS ?_|intro _)
         refine zai ?_;refine xr10 ?_;exact KE.fin jd rfl jc ja ⟨told 140,rfl,(fun e=>by cases e),d,[],hR,rfl,rfl⟩
        ·rw[if_neg hm0]
         have hSh:=fun A=>jeG (F:=A) hR.y okg hK.lg hJ.i.ok hn
         have hok1:=hJ.i.ok.shd okg ((n:Nat):Int)
         have hok2:jp C.g C.long {shdC C.g C.long h.s (n:Nat) with W:={(shdC C.g C.long h.s (n:Nat)).W with N:=JX (shdC C.g C.long h.s (n:Nat)).W.N n}}:=by
          have:=hok1.world okg (a:=⟨7,(n:Nat),0,0,0,0⟩)
          rwa[jdq ⟨by omega,by omega⟩] at this
         have f1:=fun(N:jb) (d2:CyV) (hy:CyD R0 C.gn w0 (N++D) v C.g d2 (shdC C.g C.long h.s (n:Nat)))=>(⟨hy,hR.c.part ja,hR.e1,hR.e2⟩:HqR R0 w0 (N++D) C c vc vt v d2 {h with s:=shdC C.g C.long h.s (n:Nat)})
         obtain⟨s1,hs1⟩: ∃ s1,shdC C.g C.long h.s (n:Nat)=s1:=⟨_,rfl⟩
         simp only[hs1] at hSh hok1 hok2 f1|-
         have hUn:=fun A (D':jb) d' (hR':HqR R0 w0 D' C c vc vt v d' {h with s:=s1})=>rUnpin_K (F:=A) (s:=n) hR'.y.W.N hR'.y.W.oN (by rw[hok1.w.N];exact hn) (by rw[hok1.w.N];have:=okg.slots;omega) hok1.w.n
         have f2:=fun(D' N:jb) d' (hR':HqR R0 w0 D' C c vc vt v d' {h with s:=s1}) (vn':Value) (hN:Sli w0 (N++D') iE vn' (JX s1.W.N n)) (ho:vn'.oneCell'=true)=>(⟨hR'.y.pin hN ho hok2.w,hR'.c.part ja,hR'.e1,hR'.e2⟩:HqR R0 w0 (N++D') C c vc vt v ⟨d'.va,⟨d'.z.vr,d'.z.vt,vn',d'.z.R,d'.z.gens⟩,d'.q,d'.vd⟩ {h with s:={s1 with W:={s1.W with N:=JX s1.W.N n}}})
         unfold CyG id at hSh;unfold cyL at hSh;unfold DoG HqG;unfold hqL at hsl had|-;unfold opV;rw[hcv]
         obtain⟨q1,q2,q3,q4,q5,q6,q7,q8,q9,r1,r2,r3,r4,r5⟩:=hR.y.c
         have o1:=hR.e1
         have o2:=hR.e2
         refine zM ?_
         (iterate 45 first|refine ZS ?_|intro _)
         refine zm ?_;refine xr22 ?_;refine zw ?_
         (iterate 64 first|refine ZS ?_|intro _)
         refine je (hSh _) ja ?_;rintro _ _ ⟨d1,N1,hy1,rfl,rfl⟩
         have hR1:=f1 N1 d1 hy1
         obtain⟨_,_,_,_,t5,t6,t7,t8,t9,ta,tb,tc,td,te⟩:=hy1.c
         refine xr12 ?_;refine je (hUn _ _ _ hR1) bg ?_;rintro _ _ ⟨vn2,N2,e2,hN2,p1,rfl,rfl⟩
         have hR2:=f2 _ N2 _ hR1 vn2 hN2 p1
         refine xr10 ?_;refine K.dr _ (od 0 [0,1,2,2]) (Part.take jx.head (Part.takeA jE.head (Part.takeA jE.head (Part.take jx.head (Part.drop (Part.drop Part.all)))))) ?_;refine xr11 ?_;exact zcx
       ·by_cases hc6:op.c=6
        ·have hop:hpOp C h op (n:Nat)=jcP C h (n:Nat) op.h:=by unfold hpOp;rw [if_neg hc2,if_neg hc3,if_neg hc4,if_neg hc5,if_pos hc6]
         rw[hop];unfold jcP
         have hcv:((op.c:Nat):Int)=6:=by omega
         obtain⟨e,he,e1,eg,es,hg⟩:=ji8 hs
         have hget:=fun A=>jiw (w0:=w0) (H:=A) ho.h
         unfold capV at hget;simp only[if_neg hg] at hget
         have hSh:=fun A=>jeG (F:=A) hR.y okg hK.lg hJ.i.ok hn
         have hok1:=hJ.i.ok.shd okg ((n:Nat):Int)
         have hT':(shdC C.g C.long h.s (n:Nat)).W.T=h.s.W.T:=by rw[jbo]
         have he2:(shdC C.g C.long h.s (n:Nat)).W.T[capI op.h]?=some e:=by rw[hT'];exact he
         have f1:=fun(N:jb) (d2:CyV) (hy:CyD R0 C.gn w0 (N++D) v C.g d2 (shdC C.g C.long h.s (n:Nat)))=>(⟨hy,hR.c.part ja,hR.e1,hR.e2⟩:HqR R0 w0 (N++D) C c vc vt v d2 {h with s:=shdC C.g C.long h.s (n:Nat)})
         have hok2:=hJ.mvs hC (jgO (wr:=true) hC hJ.i (op:=op) ho.v (fun _=>rfl))
         have hok3:jp C.g C.long {shdC C.g C.long h.s (n:Nat) with W:={(shdC C.g C.long h.s (n:Nat)).W with T:=Jr (shdC C.g C.long h.s (n:Nat)).W.T (capI op.h:Nat)}}:=by
          have:=hok2.i.ok
          unfold hpDoes at this;rw[if_neg hb,if_neg hc1,hs] at this;dsimp only at this;rw[hop] at this;exact this
         obtain⟨s1,hs1⟩: ∃ s1,shdC C.g C.long h.s (n:Nat)=s1:=⟨_,rfl⟩
         simp only[hs1] at hSh hok1 he2 f1 hok3|-
         have hDr:=fun A (D':jb) d' (hR':HqR R0 w0 D' C c vc vt v d' {h with s:=s1})=>rDrop_K (w0:=w0) (F:=A) (gens:=d'.z.gens) (i:=capI op.h) (e:=j5 e) hR'.y.W.T hR'.y.W.oT (jfE hR'.y.W.st).1 (by rw[List.getElem?_map,he2];rfl) (by rw[(jbn e).1];exact e1)
         rw[(jbn e).2,eg] at hDr
         have hdd:=drop_doc he2 e1
         rw[eg] at hdd;simp only[hdd] at hDr
         have hst3: ∀ {D':jb} {d':CyV},HqR R0 w0 D' C c vc vt v d' {h with s:=s1}->StOk (Jr s1.W.T (capI op.h:Nat)):=fun hR'=>by
          have hst:=hR'.y.W.st
          refine⟨by rw[jc3];exact hst.1,fun q hq=>?_⟩;unfold Jr at hq
          split at hq
          ·cases hT:s1.W.T[((capI op.h:Nat):Int).toNat]? with
           |none=>rw [hT] at hq;exact hst.2 q hq
           |some y=>
            rw[hT] at hq;dsimp only at hq
            split at hq
            ·rcases List.mem_or_eq_of_mem_set hq with h1|rfl
             ·exact hst.2 q h1
             ·exact⟨show(0:Int)<=2 by decide,show(2:Int)<4 by decide⟩
            ·exact hst.2 q hq
          ·exact hst.2 q hq
         have f2:=fun(D' N:jb) d' (hR':HqR R0 w0 D' C c vc vt v d' {h with s:=s1}) (vt':Value) (hT:Sli w0 (N++D') wE vt' ((Jr s1.W.T (capI op.h:Nat)).map j5)) (ho:vt'.oneCell'=true)=>(⟨hR'.y.tab hT ho hok3.w (hst3 hR'),hR'.c.part ja,hR'.e1,hR'.e2⟩:HqR R0 w0 (N++D') C c vc vt v ⟨d'.va,⟨d'.z.vr,vt',d'.z.vn,d'.z.R,d'.z.gens⟩,d'.q,d'.vd⟩ {h with s:={s1 with W:={s1.W with T:=Jr s1.W.T (capI op.h:Nat)}}})
         clear hok2 hok3 hdd;unfold CyG id at hSh;unfold cyL at hSh;unfold DoG HqG;unfold hqL at hsl had|-;unfold opV;rw[hcv]
         obtain⟨q1,q2,q3,q4,q5,q6,q7,q8,q9,r1,r2,r3,r4,r5⟩:=hR.y.c
         have o1:=hR.e1
         have o2:=hR.e2
         refine zM ?_
         (iterate 45 first|refine ZS ?_|intro _)
         refine zm ?_;refine xr22 ?_;refine zw ?_
         (iterate 54 first|refine ZS ?_|intro _)
         refine zR ?_
         (iterate 15 first|refine ZS ?_|intro _)
         refine je (hSh _) ja ?_;rintro _ _ ⟨d1,N1,hy1,rfl,rfl⟩
         have hR1:=f1 N1 d1 hy1
         obtain⟨_,_,_,_,t5,t6,t7,t8,t9,ta,tb,tc,td,te⟩:=hy1.c
         refine xr15 ?_;refine je (hDr _ _ _ hR1) bg ?_;rintro _ _ ⟨vt2,N2,hT2,p1,rfl,rfl⟩
         have hR2:=f2 _ N2 _ hR1 vt2 hT2 p1
         refine xr11 ?_;refine zcv ?_;refine xr11 ?_;exact zcx
        ·have hc7:op.c=7:=by omega
         have hop:hpOp C h op (n:Nat)=jcO C h (n:Nat):=by unfold hpOp;rw [if_neg hc2,if_neg hc3,if_neg hc4,if_neg hc5,if_neg hc6]
         rw[hop];unfold jcO;rw[jY hz]
         have hcv:((op.c:Nat):Int)=7:=by omega
         have hWs:=fun A=>jmE (F:=A) hR.y.W.B hR.y.W.f hz
         have hSum:=fun A v (hS:Sli w0 A uE v (jai h.s.W.x z))=>RSum_K (w0:=w0) hS jic (jma hJ.i.ok.w.w)
         unfold boL at hWs;unfold DoG HqG;unfold hqL at hsl had|-;unfold opV;rw[hcv]
         obtain⟨q1,q2,q3,q4,q5,q6,q7,q8,q9,r1,r2,r3,r4,r5⟩:=hR.y.c
         have o1:=hR.e1
         have o2:=hR.e2
         refine zM ?_
         (iterate 45 first|refine ZS ?_|intro _)
         refine zm ?_;refine xr22 ?_;refine zw ?_
         (iterate 60 first|refine ZS ?_|intro _)
         refine je (hWs _) ja ?_;rintro _ _ ⟨o,e,ko,rfl,rfl⟩;refine xr11 ?_;refine jj (hSum _ _ (Sli.own jt ko rfl)) ?_;refine xr5 ?_;refine K.dr _ (od 0 [0,1,2,2]) (Part.take jx.head (Part.takeA jE.head (Part.takeA jE.head (Part.drop (Part.drop Part.all))))) ?_;refine xr9 ?_;exact KE.fin jd rfl jc ja ⟨_,(by rfl),(fun _=>rfl),d,[],hR,rfl,rfl⟩
end
section
variable {R0 : List (List Int)} {w0 : World} {D F : jb} {C : HpC} {c : Cfg} {vc vt : Value} {v : PlV} {d : CyV} {h : HpP}
variable {op : OpP} {n : Nat} {z : jn}
theorem hqDo_K (hG:ju w0) (hK:HqK C c v) (hJ:HeJ C h) (hR:HqR R0 w0 D C c vc vt v d h) (ho:jat op):
  Call Tryz.prog w0 12 [.agg (hqL C c vc vt v d h).toArray,opV op] (D++F) (HqG R0 w0 D F C c vc vt v (Js C h op).2 (fun a=> .tuple [a,snV (Js C h op).1].toArray)):=by
 have hC:=hK.k
 have hJ0:HeJ C {h with wk:=0}:=hJ.mv hC (.free (wr:=true) rfl fun h=>h)
 have hR0:HqR R0 w0 D C c vc vt v d {h with wk:=0}:=hR.p rfl
 have hdo:=fun A=>hqdoes_K (F:=A) hG hK hJ0 hR0 rfl ho
 have hJ9:=hJ0.mvs hC (jgO (wr:=true) hC hJ0.i (op:=op) ho.v (fun _=>rfl))
 unfold Js
 obtain⟨x,hx⟩: ∃ x,hpDoes C {h with wk:=0} op=x:=⟨_,rfl⟩
 rw[hx] at hdo hJ9|-
 have hse:=fun A (D':jb) d' (q:SnP) (hR':HqR R0 w0 D' C c vc vt v d' x.2)=>hqseen_K (F:=A) (q:=q) hK hJ9 hR'
 have heq: ∀ q:SnP,q.e=x.1.e->(x.1.e=0->q=x.1)->(if q.e=0 then q else told q.e)=(if x.1.e=0 then x.1 else told x.1.e):=fun q h1 h2=>by
  by_cases e:x.1.e=0
  ·rw[h2 e]
  ·rw[h1,if_neg e,if_neg e]
 unfold DoG at hdo;unfold HqG at hdo|-;unfold hqL at hdo hse|-;unfold opV at hdo|-
 obtain⟨q1,q2,q3,q4,q5,q6,q7,q8,q9,r1,r2,r3,r4,r5⟩:=hR.y.c
 have o1:=hR.e1
 have o2:=hR.e2
 refine en2 19 Tryz.func12 ?_
 (iterate 23 first|refine ZS ?_|intro _)
 refine je (hdo _) ja ?_;rintro _ _ ⟨q',k1,k2,d1,N1,hR1,rfl,rfl⟩
 obtain⟨_,_,_,_,t5,t6,t7,t8,t9,ta,tb,tc,td,te⟩:=hR1.y.c
 (iterate 12 first|refine ZS ?_|intro _)
 refine K.dr _ (od 0 [1,0,0,2,2,2]) (Part.take jx.head (Part.take jx.head (Part.takeA jE.head (Part.takeA jE.head (Part.take jx.head (Part.drop (Part.drop Part.all))))))) ?_;refine xr3 ?_;refine zj fun T hT=>?_;refine(CallV.part (CallV.fn (hse _ _ d1 q' hR1)) bg).mono ?_;rintro _ _ ⟨rfl,rfl⟩;rw[heq q' k1 k2];simp only[List.append_assoc];refine zf ?_;clear hT T;refine xr7 ?_;exact zbi
theorem hqStep_K {k u:Int} (hK:HqK C c v) (hJ:HeJ C h) (hR:HqR R0 w0 D C c vc vt v d h) (hu:0<=u/\u<256) (hnw:h.s.m.hs.length=C.nw+1):
  Call Tryz.prog w0 9 [.agg (hqL C c vc vt v d h).toArray, .int .i64 k, .int .u8 u] (D++F) (HqG R0 w0 D F C c vc vt v (jaQ C h k u).2 (fun a=> .tuple [a, .bool (jaQ C h k u).1].toArray)):=by
 have hC:=hK.k
 have hS:=fun A=>rcStep_K (F:=A) (hd:=k) (u:=u) hR.y hC.g hK.lg hJ.i.ok hJ.l hu hnw
 have hnw2:=hK.nw
 unfold CyS at hS;unfold HqG
 by_cases h0:0<=k
 ·have h0': ¬k<0:=by omega
  by_cases hk:k<(C.nw:Nat)
  ·have hk': ¬k>=c.workers:=by rw[hnw2];omega
   rw[jkp h0 hk]
   have f1:=fun(N:jb) (d2:CyV) (s2:CyP) (hy:CyD R0 C.gn w0 (N++D) v C.g d2 s2)=>(⟨hy,hR.c.part ja,hR.e1,hR.e2⟩:HqR R0 w0 (N++D) C c vc vt v d2 {h with s:=s2})
   obtain⟨o,ho⟩: ∃ o,stepC C.g C.long C.nw h.s k u=o:=⟨_,rfl⟩
   rw[ho] at hS|-;unfold CyG at hS;unfold cyL at hS;unfold hqL
   obtain⟨q1,q2,q3,q4,q5,q6,q7,q8,q9,r1,r2,r3,r4,r5⟩:=hR.y.c
   have o1:=hR.e1
   have o2:=hR.e2
   refine en3 32 Tryz.func9 ?_
   (iterate 33 first|refine ZS ?_|intro _)
   refine je (hS _) ja ?_;rintro _ _ ⟨d1,N1,hy1,rfl,rfl⟩
   have hR1:=f1 N1 d1 _ hy1
   obtain⟨_,_,_,_,t5,t6,t7,t8,t9,ta,tb,tc,td,te⟩:=hy1.c
   (iterate 25 first|refine ZS ?_|intro _)
   exact zbi
  ·have hk':k>=c.workers:=by rw[hnw2];omega
   have e9:jaQ C h k u=(false,h):=by unfold jaQ;rw [if_neg (fun q=>hk q.2)]
   rw[e9];unfold hqL
   obtain⟨q1,q2,q3,q4,q5,q6,q7,q8,q9,r1,r2,r3,r4,r5⟩:=hR.y.c
   have o1:=hR.e1
   have o2:=hR.e2
   refine en3 32 Tryz.func9 ?_
   (iterate 33 first|refine ZS ?_|intro _)
   exact zbh
 ·have h0':k<0:=by omega
  have e9:jaQ C h k u=(false,h):=by unfold jaQ;rw [if_neg (fun q=>h0 q.1)]
  rw[e9];unfold hqL
  obtain⟨q1,q2,q3,q4,q5,q6,q7,q8,q9,r1,r2,r3,r4,r5⟩:=hR.y.c
  have o1:=hR.e1
  have o2:=hR.e2
  refine en3 32 Tryz.func9 ?_
  (iterate 33 first|refine ZS ?_|intro _)
  exact zbh
end
theorem hC0_t {c:Cfg} {t:Nat} {x:Tn} (hc:cfgP c=true) (hx:c.tn[t]?=some x):c.tn[(hC0 c t x).tn]?=some ⟨((hC0 c t x).g.q:Nat),((hC0 c t x).tr:Nat),((hC0 c t x).caps:Nat),((hC0 c t x).ast:Nat)⟩:=by
 have hcfg:=jaz hc
 obtain⟨t1,t2,t3,t4⟩:=hcfg.ten x (List.mem_of_getElem? hx)
 have hq:=gOf_q hc hx
 show c.tn[t]?=_
 rw[hx]
 obtain⟨a,b,e,f⟩:=x
 dsimp only at hq t1 t2 t3 t4
 have e1:((hC0 c t ⟨a,b,e,f⟩).g.q:Int)=a:=hq.symm
 have e2:((hC0 c t ⟨a,b,e,f⟩).tr:Int)=b:=by show((b.toNat:Nat):Int)=b;omega
 have e3:((hC0 c t ⟨a,b,e,f⟩).caps:Int)=e:=by show((e.toNat:Nat):Int)=e;omega
 have e4:((hC0 c t ⟨a,b,e,f⟩).ast:Int)=f:=by show((f.toNat:Nat):Int)=f;omega
 rw[e1,e2,e3,e4]
theorem hqNew_K {w0:World} {Dc Dm F:jb} {c:Cfg} {vc vt vr:Value} {Rm:List RwD} {x:Tn} {t:Nat} (hR:Jl w0 Dc c vc vt) (o1:vc.oneCell'=true) (o2:vt.oneCell'=true) (hc:cfgP c=true) (hx:c.tn[t]?=some x)
  (hM:jaE w0 Dm vr Rm) (hm0:(rwX Rm)[t]?=some (List.replicate (gOf c (t:Nat)).words 0)) (hml:Rm.length<=1000):
  Call Tryz.prog w0 6 [jA c vc vt, .int .i64 (t:Nat), .agg [vr].toArray] (Dm++(Dc++F))
   (fun r H'=> ∃ (v:PlV) (d:CyV) (N:jb),HqK (hC0 c t x) c v/\HqR (rwX Rm) w0 (N++(Dm++Dc)) (hC0 c t x) c vc vt v d (jaM (hC0 c t x))/\r= .agg (hqL (hC0 c t x) c vc vt v d (jaM (hC0 c t x))).toArray/\H'=N++(Dm++(Dc++F))):=by
 have hcfg:=jaz hc
 have hCk:=hC0_ok hc hx
 have htn:=hC0_t hc hx
 have hwk:=hcfg.workers
 have hgy:=hcfg.grey
 have hvc:=o1
 have hnew:=fun A (Dc':jb) (hR':Jl w0 Dc' c vc vt)=>rcNew_K (Dm:=Dm) (Dc:=Dc') (F:=A) (j:=t) (hR'.part ja) hc hx hR'.cl hvc hM hm0 hml
 have hpc:=fun A=>rpcNew_K (w0:=w0) (H:=A) hCk
 have hK: ∀ v:PlV,v.t=t->HqK (hC0 c t x) c v:=fun v hv=>⟨hCk,hc,rfl,htn,hv,by show c.workers=((c.workers.toNat:Nat):Int);omega,by show c.grey.toNat<=64;omega⟩
 have hF: ∀ (v:PlV) (d:CyV) (N:jb),CyD (rwX Rm) c.gens w0 (N++(Dm++Dc)) v (gOf c (t:Nat)) d (jbY (gOf c (t:Nat)) x.caps.toNat c.workers.toNat)->HqR (rwX Rm) w0 (N++(Dm++Dc)) (hC0 c t x) c vc vt v d (jaM (hC0 c t x)):=fun v d N hy=>⟨hy,hR.part ja,o1,o2⟩
 have htn2:c.tn[((t:Nat):Int).toNat]?=some ⟨((hC0 c t x).g.q:Nat),((hC0 c t x).tr:Nat),((hC0 c t x).caps:Nat),((hC0 c t x).ast:Nat)⟩:=htn
 have hlt:=jl hx
 have hcT:=hR.tn
 have hcl8:=hcfg.tn
 have q5:=hM.o
 unfold cyL at hnew;unfold paL at hpc;unfold jA jV at hnew|-;unfold hqL;refine en3 26 Tryz.func6 ?_
 (iterate 18 first|refine ZS ?_|intro _)
 refine jj (hpc _) ?_
 (iterate 10 first|refine ZS ?_|intro _)
 refine K.dr _ [(0,1),(1,1),(2,0),(3,0),(4,0),(6,1),(5,2),(7,0),(8,2)] (Part.take jx.head (Part.drop Part.all)) ?_;refine xr7 ?_;refine je (hnew _ Dc hR) ja ?_;rintro _ _ ⟨v,d,N,hvt,hy,rfl,rfl⟩
 obtain⟨q1,q2,q3,q4,t5,t6,t7,t8,t9,ta,tb,tc,td,te⟩:=hy.c
 refine xr7 ?_;exact KE.fin (H':=N++(Dm++(Dc++F))) jd rfl jc bf ⟨v,d,N,hK v hvt,hF v d N hy,rfl,rfl⟩
set_option maxRecDepth 100000
structure HqN where
 b:Nat
 v:PlV
 d:CyV
 N:jb
structure HqT where
 b:Nat
 d:CyV
 N:jb
structure HqS where
 i:Nat
 f:Nat
 y:CyM
 h:HpP
 T:List Int
 oT:Own
 d:CyV
 N:jb
theorem UsI.new {C:HpC}:UsI C (jaM C):=by
 have e: ∀ (l:List jn) (n:Nat),usedL l (List.replicate n false)=0:=fun l=>by
  induction l with
  |nil=>intro n;rfl
  |cons p l ih=>intro n;cases n with
   |zero=>rfl
   |succ n=>show(if false=true then p.size else 0)+usedL l (List.replicate n false)=0;rw [ih];rfl
 show usedL C.g.L (List.replicate C.g.slots false)<=C.g.q
 rw[e];exact Nat.zero_le _
theorem do_hlt' {C:HpC} {h:HpP} {op:OpP} (hC:j6 C) (hI:HeI C h):(Js C h op).1.h<18446744073709551616:=by
 by_cases h0:(Js C h op).1.h=0
 ·omega
 ·exact(do_new hC hI h0).lt hC
theorem u64s.app {T:List Int} (hT:u64s T) {n:Nat} (hn:n<18446744073709551616):u64s (T++ [((n:Nat):Int)]):=fun x hx=>by
 rcases List.mem_append.1 hx with hx|hx
 ·exact hT x hx
 ·obtain rfl:=List.mem_singleton.1 hx;omega
def allW (D:HpD) (h:HpP):List Int:=(D.R0.set D.C.tn h.s.W.x).flatten
theorem hyAll_K {w0:World} {F:jb} {D:HpD} {y:CyM} {h:HpP} {nf nk:Nat} (h1:HpR D nf nk y h):Call Tryz.prog w0 15 [pt D.mb] (hpH D y h++F) (fun r H'=> ∃ o,oOk uE (allW D h) o/\r=oV o (allW D h).length/\H'=oH uE 67 (allW D h) o++(hpH D y h++F)):=by
 have hc:=fun A=>cAll_K (w0:=w0) (F:=A) h1.p
 rw[h1.m,h1.R] at hc;refine Call.at_ (hc _) (by simp only[hpH_app];exact ja) ?_;rintro _ _ ⟨o,ko,rfl,rfl⟩;exact⟨_,⟨o,ko,rfl,rfl⟩,by simp only[hpH_app];exact ja⟩
theorem HeJ.of {D:HpD} {nf nk:Nat} {y:CyM} {h:HpP} (hI:HeI D.C h) (hu:UsI D.C h) (hR:HpR D nf nk y h):HeJ D.C h:=⟨hI,hR.p.le,hu⟩
section
variable {w0 : World} {F : jb} {c : Cfg} {vc vt w : Value} {l : List jcv} {tn : Nat}
theorem jle (hG:ju w0) (hR:Jl w0 F c vc vt) (he1:vc.oneCell'=true) (he2:vt.oneCell'=true) (hl:Sli w0 F haE w l) (hlo: ∀ x∈l,jdP x) (htn:tn<256):Cs w0 3 [jA c vc vt, .int .u8 (tn:Nat),w] F (.bool true):=by
 have haw:=fun A=>awake_K (w0:=w0) (F:=A) hG
 have e8:((tn:Nat):Int)%8=((tn%8:Nat):Int):=by omega
 have hmn:=fun A (hp:Part A F) (hno:okS c (tn%8)=false)=>made_no (t:=tn%8) (hR.part hp) hno
 have hmd:=fun A (hp:Part A F) (hok:okS c (tn%8)=true)=>made_K (t:=tn%8) hG (hR.part hp) hok
 have hrm:=fun A (hp:Part A F) (hc:cfgP c=true)=>rmNew_K (hR.part hp) hc
 have hqn:=fun A (Dm:jb) vr Rm x (hc:cfgP c=true) (hx:c.tn[tn%8]?=some x) (hM:jaE w0 Dm vr Rm) hm0 hml=>hqNew_K (F:=A) (Dm:=Dm) (Dc:=F) (vr:=vr) (Rm:=Rm) (t:=tn%8) hR he1 he2 hc hx hM hm0 hml
 have hfa:okS c (tn%8)=true->cfgP c=true/\ ∃ x,c.tn[tn%8]?=some x:=fun h=>by
  obtain⟨hc,_,x,hx,_⟩:=jkM h
  exact⟨hc,x,hx⟩
 have hw0: ∀ x,cfgP c=true->c.tn[tn%8]?=some x->(mR (fun t=>wordsP c (t:Nat)) c.tn.length)[tn%8]?=some (List.replicate (gOf c ((tn%8:Nat):Int)).words 0):=fun x hc hx=>by
  have ht0:Jh c ((tn%8:Nat):Int) 0=true:=jbl (i:=tn%8) (j:=0) hc (jl hx) (by have:=(jaz hc).cl;omega)
  have h1:=(g_at ht0).region
  have h3:jav c ((tn%8:Nat):Int)=(wordsP c ((tn%8:Nat):Int),0):=by unfold jav;rw [if_pos ht0]
  rw[h3] at h1
  have h4:=(Prod.mk.inj h1).1
  rw[mR_get (jl hx)]
  show some (List.replicate (wordsP c ((tn%8:Nat):Int)).toNat (0:Int))=_
  rw[h4]
  rfl
 obtain⟨ok,hok⟩: ∃ ok,okS c (tn%8)=ok:=⟨_,rfl⟩
 simp only[hok] at hmn hmd hfa
 have hRc:=hR
 obtain⟨hS,hT',o1,o2,l1,l2⟩:=hR
 cases ok with
 |false=>
  --<
  obtain⟨cl,page,tns,workers,grey,gens⟩:=c
  dsimp only at hS hT' l1 l2;simp only[jA,jV] at hmn hmd|-;refine en3 129 Tryz.func3 ?_;refine xr3 ?_;intro b3;refine xr3 ?_;refine zg ?_;refine xr2 ?_;rw[e8];refine xr9 ?_;refine jj (hmn _ ja trivial) ?_;refine xr18 ?_;refine jj (haw _) ?_;refine xr5 ?_;exact zd
  -->
 |true=>
  obtain⟨hcf,x,hx⟩:=hfa (by first|rfl|trivial)
  have hmd1:=fun A hp=>hmd A hp (by first|rfl|trivial)
  have hrm1:=fun A hp=>hrm A hp hcf
  have hqn1:=fun A Dm vr Rm hM hm0 hml=>hqn A Dm vr Rm x hcf hx hM hm0 hml
  have hw1:=hw0 x hcf hx
  have htl:=(jaz hcf).tn
  have hDc: ∀ D y,HMade c (tn%8) D y->D.C=hC0 c (tn%8) x:=fun D y hM=>by
   obtain⟨x1,g1,g2⟩:=hM.eC
   rw[hx] at g1
   cases g1
   exact g2
  clear hmd hrm hqn hw0 hfa hmn hok
  have hRl: ∀ {Rm:List RwD},rwX Rm=mR (fun t=>wordsP c (t:Nat)) c.tn.length->Rm.length<=1000:=fun{Rm} e=>by
   have:=congrArg List.length e
   rw[jem] at this
   have h2:(rwX Rm).length=Rm.length:=by simp[rwX]
   omega
  obtain⟨cl,page,tns,workers,grey,gens⟩:=c
  dsimp only at hS hT' l1 l2;simp only[jA,jV] at hmd1 hrm1 hqn1|-;refine en3 129 Tryz.func3 ?_;refine xr3 ?_;intro b3;refine xr3 ?_;refine zg ?_;refine xr2 ?_;rw[e8];refine xq8 fun T hT=>?_;refine(CallV.fn (hmd1 _ ja)).mono ?_;rintro _ _ ⟨D,y0,hM,rfl,rfl⟩
  have hD:=hM.ok
  have hC:=hD.C
  have hR0:=hM.R
  have hCe:=hDc D y0 hM
  have hDR:=hM.R0
  rw[<-hCe] at hqn1;refine ze ?_;clear hT T;refine xr17 ?_;refine K.cutT (σ:=HqN) [] jg (fun s kp_=>(2,w)::(7, .int .i64 (tn%8:Nat))::(8,pt D.b)::(9,pt D.mb)::(10,pt s.b)::kp_) (fun s=>hpH D y0 (jaM D.C)++((s.b,cells (hqL D.C ⟨cl,page,tns,workers,grey,gens⟩ vc vt s.v s.d (jaM D.C)) 63)::(s.N++((b3,cells [vc, .int .i64 page,vt, .int .i64 workers, .int .i64 grey, .int .i64 gens] 25)::F)))) (fun s=>HqK D.C ⟨cl,page,tns,workers,grey,gens⟩ s.v/\HqR D.R0 w0 (s.N++F) D.C ⟨cl,page,tns,workers,grey,gens⟩ vc vt s.v s.d (jaM D.C)) ?_ ?_
  ·skip
   --<
   refine zi ?_;refine K.dr ((b3,cells [vc, .int .i64 page,vt, .int .i64 workers, .int .i64 grey, .int .i64 gens] 25)::F) (od 0 [1,1,1,3,3,2,2]) ja ?_;refine xr3 ?_;refine KD.fork2 (x:=3) (y:=5) (o1:=[(4,3),(5,2),(6,2)]) (o2:=[(3,2),(4,2),(6,2)]) bu rfl rfl bu bu ?_ ?_
   ·refine zk fun T hT=>?_;refine(CallV.fn (hrm1 _ ja)).mono ?_;rintro _ _ ⟨vr,Rm,Nm,hMD,hRX,rfl,rfl⟩
    have hw2:=hw1
    rw[<-hRX] at hw2;refine zf ?_;clear hT T;refine KD.fork2 (x:=4) (y:=5) (o1:=[(5,2),(6,2)]) (o2:=[(4,2),(6,2)]) bu rfl rfl bu bu ?_ ?_
    ·refine zk fun T hT=>?_;refine zbO ?_;rintro _ _ ⟨v,d0,N0,hK,hQ,rfl,rfl⟩
     have hRe:rwX Rm=D.R0:=hRX.trans hDR.symm
     rw[hRe] at hQ
     obtain⟨q1,q2,q3,q4,q5,q6,q7,q8,q9,r1,r2,r3,r4,r5⟩:=hQ.y.c
     unfold hqL;refine zf ?_;clear hT T;refine xr1 ?_;intro b10;refine xr4 ?_;exact zbP
    ·(refine jR.e rfl (Eff.alloc rfl) ?_;rintro _ _ ⟨b10,rfl,rfl⟩;refine⟨ja,?_⟩)
     refine zj fun T hT=>?_;refine zbO ?_;rintro _ _ ⟨v,d0,N0,hK,hQ,rfl,rfl⟩
     have hRe:rwX Rm=D.R0:=hRX.trans hDR.symm
     rw[hRe] at hQ
     obtain⟨q1,q2,q3,q4,q5,q6,q7,q8,q9,r1,r2,r3,r4,r5⟩:=hQ.y.c
     unfold hqL;refine zf ?_;clear hT T;refine xr3 ?_;exact zbP
   ·(refine jR.e rfl (Eff.alloc rfl) ?_;rintro _ _ ⟨b10,rfl,rfl⟩;refine⟨ja,?_⟩)
    refine zj fun T hT=>?_;refine(CallV.fn (hrm1 _ ja)).mono ?_;rintro _ _ ⟨vr,Rm,Nm,hMD,hRX,rfl,rfl⟩
    have hw2:=hw1
    rw[<-hRX] at hw2;refine zf ?_;clear hT T;refine zj fun T hT=>?_;refine zbO ?_;rintro _ _ ⟨v,d0,N0,hK,hQ,rfl,rfl⟩
    have hRe:rwX Rm=D.R0:=hRX.trans hDR.symm
    rw[hRe] at hQ
    obtain⟨q1,q2,q3,q4,q5,q6,q7,q8,q9,r1,r2,r3,r4,r5⟩:=hQ.y.c
    unfold hqL;refine zf ?_;clear hT T;refine xr3 ?_;exact zbP
   -->
  rintro⟨bq,v,d0,N0⟩ ⟨hK,hQ⟩;dsimp only at hK hQ|-;unfold hqL
  obtain⟨q1,q2,q3,q4,q5,q6,q7,q8,q9,r1,r2,r3,r4,r5⟩:=hQ.y.c
  refine xr12 ?_;refine K.loopT (σ:=HqS) [(2,_)] (fun s kp_=>(10,pt bq)::(8,pt D.b)::(9,pt D.mb)::(12, .int .i64 (s.i:Nat))::(11,oV s.oT s.T.length)::kp_) (fun s=>hpH D s.y (s.h)++(oH uE 67 s.T s.oT++((bq,cells (hqL D.C ⟨cl,page,tns,workers,grey,gens⟩ vc vt v s.d (s.h)) 63)::(s.N++((b3,cells [vc, .int .i64 page,vt, .int .i64 workers, .int .i64 grey, .int .i64 gens] 25)::F))))) (fun s=>s.i<=l.length/\s.i<=60/\HpR D s.f 400000000 s.y s.h/\s.f<=1+s.i*2/\HeI D.C s.h/\UsI D.C s.h/\HqR D.R0 w0 (s.N++F) D.C ⟨cl,page,tns,workers,grey,gens⟩ vc vt v s.d s.h/\u64s s.T/\s.T.length<=s.i/\oOk uE s.T s.oT) (fun s=>l.length-s.i) (⟨0,1,y0,jaM D.C,[],none,d0,N0⟩) jg bf (⟨Nat.zero_le _,Nat.zero_le _,hR0.mono (Nat.le_refl _) bn,(by show 1<=1+0*2;decide),HeI.new hC,UsI.new,hQ,(fun x hx=>(by cases hx)),Nat.le_refl _,rfl⟩) ?_;rintro⟨i,f,y,h,tl,otl,d,N⟩ ⟨hi,hi8,hR1,hf,hHI,hUs,hQ1,hu,hTl,kT⟩;dsimp only at hi hi8 hR1 hf hHI hUs hQ1 hu hTl kT|-
  have hJ1:=HeJ.of hHI hUs hR1
  by_cases hc1:i<l.length
  ·have hc1':((i:Nat):Int)<((l.length:Nat):Int):=by omega
   by_cases hc2:i<60
   ·have hc2':((i:Nat):Int)<60:=by omega
    obtain⟨x,hx⟩:=jq hc1
    have hxo:=hlo x (List.mem_of_getElem? hx)
    obtain⟨xo,xH,xV,wk,xk,xu⟩:=x
    have hxu:xu<256:=hxo.u
    cases wk with
    |true=>
     have hnw:h.s.m.hs.length=D.C.nw+1:=by rw[<-hR1.p.R.hs,hR1.p.nw,hR1.nw]
     have hstp:=fun A=>hpStep_K (w0:=w0) (F:=A) (k:=xk) (u:=((xu:Nat):Int)) hG hD hR1 bc
     have hqst:=fun A=>hqStep_K (F:=A) (k:=xk) (u:=((xu:Nat):Int)) hK hJ1 hQ1 bc hnw
     have hI9:=hHI.mvs hC (jkn (wr:=true) (k:=xk) (u:=((xu:Nat):Int)))
     have hU9:=hUs.mvs hC hHI (jkn (wr:=true) (k:=xk) (u:=((xu:Nat):Int)))
     obtain⟨bb,h9,hv⟩: ∃ (bb:Bool) (h9:HpP),jaQ D.C h xk ((xu:Nat):Int)=(bb,h9):=⟨_,_,rfl⟩
     rw[hv] at hI9 hU9;simp only[hv] at hstp hqst;unfold HpQ at hstp;unfold HqG at hqst;dsimp only at hI9 hU9;clear hv;unfold hqL at hqst|-
     cases bb with
     |true=>
      refine xr30 ?_;refine K.dr [] (od 0 [0,0,0,0,0,0,0,0,0,0,0,2,0]) Part.nil ?_;refine xr12 ?_;refine je (hstp _) ja ?_;rintro _ _ ⟨rfl,y1,h2,rfl⟩;refine xr4 ?_;refine K.cutT (σ:=HqT) [(2,_),(8,_),(9,_),(10,_),(11,_),(12,_)] jg (fun s kp_=>(13, .bool true)::(15, .bool true)::(14,pt s.b)::kp_) (fun s=>hpH D y1 h9++(oH uE 67 tl otl++((s.b,cells (hqL D.C ⟨cl,page,tns,workers,grey,gens⟩ vc vt v s.d h9) 63)::(bq,cells (hqL D.C ⟨cl,page,tns,workers,grey,gens⟩ vc vt v d h) 63)::(s.N++((b3,cells [vc, .int .i64 page,vt, .int .i64 workers, .int .i64 grey, .int .i64 gens] 25)::F))))) (fun s=>HqR D.R0 w0 (s.N++F) D.C ⟨cl,page,tns,workers,grey,gens⟩ vc vt v s.d h9) ?_ ?_
      ·skip
       refine zi ?_;refine zcy ?_;refine xr11 ?_;refine KD.fork2 (x:=11) (y:=15) (o1:=[(12,1),(13,1),(14,1),(15,2),(16,2),(17,0)]) (o2:=[(11,2),(12,0),(13,0),(14,1),(16,2),(17,0)]) bu rfl rfl bu bu ?_ ?_
       ·refine zk fun T hT=>?_;refine zbk ?_;rintro _ _ ⟨d1,N1,hR1',rfl,rfl⟩
        obtain⟨_,_,_,_,t5,t6,t7,t8,t9,ta,tb,tc,td,te⟩:=hR1'.y.c
        try simp only[List.append_assoc]
        refine zf ?_;clear hT T;refine xr4 ?_;intro b14;refine xr5 ?_;exact zbl
       ·(refine jR.e rfl (Eff.alloc rfl) ?_;rintro _ _ ⟨b14,rfl,rfl⟩;refine⟨ja,?_⟩)
        refine zj fun T hT=>?_;refine zbk ?_;rintro _ _ ⟨d1,N1,hR1',rfl,rfl⟩
        obtain⟨_,_,_,_,t5,t6,t7,t8,t9,ta,tb,tc,td,te⟩:=hR1'.y.c
        try simp only[List.append_assoc]
        refine zf ?_;clear hT T;refine xr7 ?_;exact zbl
      rintro⟨b14,d1,N9⟩ hR1';dsimp only at hR1'|-;unfold hqL
      obtain⟨_,_,_,_,t5,t6,t7,t8,t9,ta,tb,tc,td,te⟩:=hR1'.y.c
      refine xr26 ?_;exact zcz
     |false=>
      --<
      refine xr30 ?_;refine K.dr [] (od 0 [0,0,0,0,0,0,0,0,0,0,0,2,0]) Part.nil ?_;refine xr12 ?_;refine je (hstp _) ja ?_;rintro _ _ ⟨rfl,y1,h2,rfl⟩;refine xr4 ?_;refine K.cutT (σ:=HqT) [(2,_),(8,_),(9,_),(10,_),(11,_),(12,_)] jg (fun s kp_=>(13, .bool false)::(15, .bool false)::(14,pt s.b)::kp_) (fun s=>hpH D y1 h9++(oH uE 67 tl otl++((s.b,cells (hqL D.C ⟨cl,page,tns,workers,grey,gens⟩ vc vt v s.d h9) 63)::(bq,cells (hqL D.C ⟨cl,page,tns,workers,grey,gens⟩ vc vt v d h) 63)::(s.N++((b3,cells [vc, .int .i64 page,vt, .int .i64 workers, .int .i64 grey, .int .i64 gens] 25)::F))))) (fun s=>HqR D.R0 w0 (s.N++F) D.C ⟨cl,page,tns,workers,grey,gens⟩ vc vt v s.d h9) ?_ ?_
      ·skip
       refine zi ?_;refine zcy ?_;refine xr11 ?_;refine KD.fork2 (x:=11) (y:=15) (o1:=[(12,1),(13,1),(14,1),(15,2),(16,2),(17,0)]) (o2:=[(11,2),(12,0),(13,0),(14,1),(16,2),(17,0)]) bu rfl rfl bu bu ?_ ?_
       ·refine zk fun T hT=>?_;refine zbk ?_;rintro _ _ ⟨d1,N1,hR1',rfl,rfl⟩
        obtain⟨_,_,_,_,t5,t6,t7,t8,t9,ta,tb,tc,td,te⟩:=hR1'.y.c
        try simp only[List.append_assoc]
        refine zf ?_;clear hT T;refine xr4 ?_;intro b14;refine xr5 ?_;exact zbl
       ·(refine jR.e rfl (Eff.alloc rfl) ?_;rintro _ _ ⟨b14,rfl,rfl⟩;refine⟨ja,?_⟩)
        refine zj fun T hT=>?_;refine zbk ?_;rintro _ _ ⟨d1,N1,hR1',rfl,rfl⟩
        obtain⟨_,_,_,_,t5,t6,t7,t8,t9,ta,tb,tc,td,te⟩:=hR1'.y.c
        try simp only[List.append_assoc]
        refine zf ?_;clear hT T;refine xr7 ?_;exact zbl
      rintro⟨b14,d1,N9⟩ hR1';dsimp only at hR1'|-;unfold hqL
      obtain⟨_,_,_,_,t5,t6,t7,t8,t9,ta,tb,tc,td,te⟩:=hR1'.y.c
      refine xr26 ?_;exact zcz
      -->
    |false=>
     have hop:=fun A w (hS:Sli w0 A uE w tl)=>op_K (w0:=w0) (F:=A) hxo hS hu
     have hzo:=opA_ok hxo hu
     obtain⟨z,hz⟩: ∃ z,opA ⟨xo,xH,xV,false,xk,xu⟩ tl=z:=⟨_,rfl⟩
     rw[hz] at hop hzo
     have hdo:=fun A=>hpDo_K (w0:=w0) (F:=A) hG hD hHI hR1 bc hzo
     have hqdo:=fun A=>hqDo_K (F:=A) hG hK hJ1 hQ1 hzo
     have hm9:=do_mvs (wr:=true) hC hHI (op:=z) hzo.v (fun _=>rfl)
     have hI9:=hHI.mvs hC hm9
     have hU9:=hUs.mvs hC hHI hm9
     have hhl:=do_hlt' (op:=z) hC hHI
     obtain⟨⟨e,hh,ww,addr,us,si,cy,ac⟩,h9,hv⟩: ∃ (q:SnP) (h9:HpP),Js D.C h z=(q,h9):=⟨_,_,rfl⟩
     rw[hv] at hI9 hU9 hhl;simp only[hv] at hdo hqdo
     obtain⟨zc,zh,za,zb,zv⟩:=z
     unfold opV snV HpQ at hdo;unfold HqG at hqdo;unfold opV snV at hqdo;unfold opV at hop;dsimp only at hI9 hU9 hhl hdo hop hqdo
     have hcmp:(decide (e=e)&&(decide (((hh:Nat):Int)=((hh:Nat):Int))&&(decide (ww=ww)&&(decide (addr=addr)&&(decide (us=us)&&(decide (si=si)&&(decide (cy=cy)&&(ac==ac&&true))))))))=true:=by simp
     have hwk:=fun A (y1:CyM)=>hpWork_K (w0:=w0) (D:=D) (y:=y1) (h:=h9) (F:=A)
     clear hv hz hm9;unfold hqL at hqdo|-
     by_cases hh0:hh=0
     ·have hh0':((hh:Nat):Int)=0:=by omega
      --<
      refine xr39 ?_;refine jj (hop _ _ (Sli.own jt kT rfl)) ?_;refine xr1 ?_;intro b16;refine xr8 ?_;refine je (hdo _) ja ?_;rintro _ _ ⟨rfl,y1,h2,rfl⟩;refine xr1 ?_;intro b17;refine xr8 ?_;refine je (hqdo _) bg ?_;rintro _ _ ⟨d1,N1,hR1',rfl,rfl⟩
      obtain⟨_,_,_,_,t5,t6,t7,t8,t9,ta,tb,tc,td,te⟩:=hR1'.y.c
      refine xr4 ?_;intro b18;refine xr1 ?_;intro b19;refine xr4 ?_;refine zi ?_
      (repeat refine K.seq ?_)
      refine zcA ?_;refine xr2 ?_;refine zcB ?_;refine xr4 ?_;refine zo fun T hT=>?_;refine(CallV.part (CallV.fn (hwk _ y1)) ja).mono ?_;rintro _ _ ⟨rfl,rfl⟩;refine zf ?_;clear hT T;refine xr29 ?_;exact KE.again ⟨i+1,f+2,y1,h9,tl,otl,d1,N1++N⟩ jg bg ⟨hc1,hc2,h2,(by show f+2<=1+(i+1)*2;omega),hI9,hU9,(by rw[List.append_assoc];exact hR1'),hu,(by show(tl).length<=i+1;(try simp);omega),kT⟩ (by show l.length-(i+1)<l.length-i;omega)
      -->
     ·have hh0': ¬((hh:Nat):Int)=0:=by omega
      have hbd:(tl++ [((hh:Nat):Int)]).length<=4294967296:=by simp;omega
      refine xr39 ?_;refine jj (hop _ _ (Sli.own jt kT rfl)) ?_;refine xr1 ?_;intro b16;refine xr8 ?_;refine je (hdo _) ja ?_;rintro _ _ ⟨rfl,y1,h2,rfl⟩;refine xr1 ?_;intro b17;refine xr8 ?_;refine je (hqdo _) bg ?_;rintro _ _ ⟨d1,N1,hR1',rfl,rfl⟩
      obtain⟨_,_,_,_,t5,t6,t7,t8,t9,ta,tb,tc,td,te⟩:=hR1'.y.c
      refine xr4 ?_;intro b18;refine xr1 ?_;intro b19;refine xr4 ?_;refine zi ?_
      (repeat refine K.seq ?_)
      refine zcA ?_;refine xr2 ?_;refine zcB ?_;refine xr4 ?_;refine zo fun T hT=>?_;refine(CallV.part (CallV.fn (hwk _ y1)) ja).mono ?_;rintro _ _ ⟨rfl,rfl⟩;refine zf ?_;clear hT T
      (iterate 27 first|refine ZS ?_|intro _)
      refine KL.e rfl (Eff.appZ (ys:=[_]) rfl rfl rfl rfl rfl rfl jt bh ba rfl be rfl) ?_;rintro _ _ ⟨o116,ok116,rfl,rfl⟩;refine xr9 ?_;exact KE.again ⟨i+1,f+2,y1,h9,tl++ [((hh:Nat):Int)],o116,d1,N1++N⟩ jg bg ⟨hc1,hc2,h2,(by show f+2<=1+(i+1)*2;omega),hI9,hU9,(by rw[List.append_assoc];exact hR1'),hu.app hhl,(by show(tl++ [((hh:Nat):Int)]).length<=i+1;(try simp);omega),ok116⟩ (by show l.length-(i+1)<l.length-i;omega)
   ·have hc2': ¬((i:Nat):Int)<60:=by omega
    --<
    have hall:=fun A=>hyAll_K (w0:=w0) (F:=A) hR1
    have hfl:(allW D h).length<=1000000000:=by have:=hR1.p.p.bo.m.n;rw [hR1.R] at this;unfold allW;omega
    have hRm:rwX d.z.R=D.R0.set D.C.tn h.s.W.x:=by rw[hQ1.y.m,hK.tv]
    have hqall:=fun A=>rAll_K (F:=A) hQ1.y.W.B.m hQ1.y.W.f.n (by rw[hRm];exact hfl)
    rw[hRm] at hqall
    change ∀ A,Call _ _ _ _ _ (fun r H'=> ∃ o,oOk uE (allW D h) o/\r=oV o (allW D h).length/\H'=oH uE 67 (allW D h) o++((N++F)++A)) at hqall
    obtain⟨q1,q2,q3,q4,q5,q6,q7,q8,q9,r1,r2,r3,r4,r5⟩:=hQ1.y.c
    unfold hqL;refine xr20 ?_;refine zcC ?_;refine xr7 ?_;refine je (hall _) ja ?_;rintro _ _ ⟨oa,koa,rfl,rfl⟩;refine xr2 ?_;refine je (hqall _) bg ?_;rintro _ _ ⟨ob,kob,rfl,rfl⟩;simp only[List.append_assoc];refine xr1 ?_;refine zj fun T hT=>?_;refine zcD ?_;rw[decide_eq_true (rfl:allW D h=allW D h)];rintro _ _ ⟨rfl,rfl⟩;refine zf ?_;clear hT T;refine xr1 ?_;refine zo fun T hT=>?_;refine(CallV.fn (haw _)).mono ?_;rintro _ _ ⟨rfl,rfl⟩;refine zf ?_;clear hT T;refine xr5 ?_;exact zd
    -->
  ·have hc1': ¬((i:Nat):Int)<((l.length:Nat):Int):=by omega
   have hall:=fun A=>hyAll_K (w0:=w0) (F:=A) hR1
   have hfl:(allW D h).length<=1000000000:=by have:=hR1.p.p.bo.m.n;rw [hR1.R] at this;unfold allW;omega
   have hRm:rwX d.z.R=D.R0.set D.C.tn h.s.W.x:=by rw[hQ1.y.m,hK.tv]
   have hqall:=fun A=>rAll_K (F:=A) hQ1.y.W.B.m hQ1.y.W.f.n (by rw[hRm];exact hfl)
   rw[hRm] at hqall
   change ∀ A,Call _ _ _ _ _ (fun r H'=> ∃ o,oOk uE (allW D h) o/\r=oV o (allW D h).length/\H'=oH uE 67 (allW D h) o++((N++F)++A)) at hqall
   obtain⟨q1,q2,q3,q4,q5,q6,q7,q8,q9,r1,r2,r3,r4,r5⟩:=hQ1.y.c
   unfold hqL;refine xr20 ?_;refine zcC ?_;refine xr7 ?_;refine je (hall _) ja ?_;rintro _ _ ⟨oa,koa,rfl,rfl⟩;refine xr2 ?_;refine je (hqall _) bg ?_;rintro _ _ ⟨ob,kob,rfl,rfl⟩;simp only[List.append_assoc];refine xr1 ?_;refine zj fun T hT=>?_;refine zcD ?_;rw[decide_eq_true (rfl:allW D h=allW D h)];rintro _ _ ⟨rfl,rfl⟩;refine zf ?_;clear hT T;refine xr1 ?_;refine zo fun T hT=>?_;refine(CallV.fn (haw _)).mono ?_;rintro _ _ ⟨rfl,rfl⟩;refine zf ?_;clear hT T;refine xr5 ?_;exact zd
