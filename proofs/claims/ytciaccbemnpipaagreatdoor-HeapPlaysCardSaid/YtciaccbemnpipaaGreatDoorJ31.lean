/-The walker and contracts, part 31.-/
import Derived.Test.YtciaccbemnpipaaGreatDoorJ24
import Derived.Test.YtciaccbemnpipaaGreatDoorJ26
import Derived.Test.YtciaccbemnpipaaGreatDoorJ29
set_option linter.all false
namespace Go.Proofs.YtciaccbemnpipaaGreatDoor.Sw
set_option maxHeartbeats 8000000
open Go.Proofs.YtciaccbemnpipaaGreatDoor renaming lo -> qL, hi -> qH
open Go.RowKit
set_option maxRecDepth 10000
structure RcK where
 q:KmV
 N:jb
section
variable {w0 : World} {D F : jb} {v : PlV} {g : PlG} {long : Nat} {q : KmV} {m : MaP} {W : MwP} {z : KwV}
theorem rkscan_K {i:Nat} (ok:jh g) (hK:KmD w0 D q m) (hm:jw g long W m) (hlg:long<=64) (hW:KwD w0 D v g z W) (hi:i<m.hs.length):
  Call Tryz.prog w0 110 [.agg (kmL v g long q m).toArray, .agg (kwL v g z).toArray, .int .i64 (i:Nat)] (D++F) (KmO w0 D F v g long m (scanM g long W m i)):=by
 have hP:=hW.B.p
 have q1:=hP.oL
 have q2:=hP.oF
 have q3:=hP.oM
 have q4:=hP.oC
 have q5:=hK.G.o1
 have q6:=hK.G.o2
 have q7:=hK.G.o3
 have q8:=hK.oc
 have q9:=hK.oh
 have r5:=hW.B.m.o
 have r6:=hW.oT
 have r7:=hW.oN
 have hH:=hK.H
 obtain⟨h,hh⟩:=jq hi
 have hha:=jaG hh
 unfold KmO
 obtain⟨hsl,hfi,his⟩:=h
 cases his with
 |false=>
  have hmn:scanM g long W m i=none:=by unfold scanM;rw [hha];rfl
  rw[hmn];simp only[Option.isSome,Option.getD];unfold kmL kwL;refine en3 88 Tryz.func110 ?_;refine yr3 ?_;intro b3;refine yr1 ?_;intro b4;refine yr1 ?_;intro b6;refine yr11 ?_;intro b8;refine yr21 ?_;exact zU
 |true=>
  obtain⟨sl0,rfl,hsb,hf0,hfb⟩: ∃ s:Nat,hsl=s/\s<g.slots/\0<=hfi/\(hfi=0\/hfi<refsN W.x (jv g hsl)):=by
   rcases hm.h i _ hh with⟨a1,a2,a3,a4,a5⟩|e
   ·exact⟨hsl.toNat,by dsimp only at a2;omega,by dsimp only at a2 a3;omega,a4,a5⟩
   ·cases e
  obtain⟨y,hy⟩:=Je (g:=g) hsb
  have hya:=jY hy
  rw[hya] at hfb
  have href:=jkD (x:=W.x) (i:=hfi) hy
  have hrn:refsN W.x y=match headP W.x y with|some h=>h.r|none=>0:=rfl
  have hhead:=fun A=>je1 (w0:=w0) (D:=D) (F:=A) hW.B hW.f hy
  have hrf:=fun A=>jg4 (w0:=w0) (D:=D) (F:=A) (i:=hfi) hW.B hW.f hy
  obtain⟨o,hod⟩: ∃ o,o=refO g W.x (sl0:Nat) hfi:=⟨_,rfl⟩
  have hoin: ∀ q:Int,o=some q->0<=q/\q<(g.slots:Nat)/\hfi<refsN W.x y:=fun q hq=>by
   have:=jcG (hod.symm.trans hq) hW.w.w
   rw[hya] at this;exact⟨this.1,this.2.1,this.2.2.2⟩
  have hsc:scanM g long W m i=if hfi+1<refsN W.x y then some {Jf g long m o with hs:=m.hs.set i ⟨(sl0:Nat),hfi+1,true⟩}
   else some {Jf g long m o with hs:=m.hs.set i jO,C:=(Jf g long m o).C.set sl0 2}:=by
   unfold scanM;rw[hha,if_pos rfl];dsimp only;rw[hya,<-hod]
   rfl
  rw[<-hod] at href
  obtain⟨rt,hrt⟩: ∃ rt,refP W.x g.slots y hfi=rt:=⟨_,rfl⟩
  simp only[hrt] at hrf href
  obtain⟨rn,hrnd⟩: ∃ rn,refsN W.x y=rn:=⟨_,rfl⟩
  have hrs:=jga ok hsb W.x
  have hzb:=jff ok hsb
  rw[hya] at hrs;rw[hrnd] at hrn hsc hfb hrs;simp only[hrnd] at hoin
  have hfb2:hfi<=64:=by rcases hfb with e|e<;>omega
  obtain⟨hc,hr,hw,he,hhv,hcond⟩: ∃ hc hr hw he,headV (headP W.x y)= .tuple [.agg [.int .i64 hc, .int .i64 hr, .int .i64 hw].toArray, .int .i64 he].toArray/\((he=0/\hr=rn)\/(he≠0/\rn=0)):=by
   unfold headV hdV
   cases hq:headP W.x y with
   |none=>rw [hq] at hrn;exact⟨0,0,0,5,rfl, .inr ⟨by decide,hrn⟩⟩
   |some q=>rw [hq] at hrn;exact⟨q.c,q.r,q.w,0,rfl, .inl ⟨rfl,hrn.symm⟩⟩
  simp only[hhv] at hhead
  have hshm:=fun A (t:Nat) (ht:t<g.slots)=>jf7 (w0:=w0) (D:=D) (F:=A) hP ok hK hm hlg ht
  unfold KmG id at hshm
  obtain⟨to,f⟩:=rt
  dsimp only at href hrf
  obtain⟨h1s,h1r,h1a,h1t⟩:=jdu (g:=g) (long:=long) (m:=m) o
  have hmo:=jey ok hm o
  unfold boL at hhead hrf;unfold kmL kwL;refine en3 88 Tryz.func110 ?_;refine yr3 ?_;intro b3;refine yr1 ?_;intro b4;refine yr1 ?_;intro b6;refine yr11 ?_;intro b8;refine yr21 ?_;refine zJ ?_;refine yr4 ?_;intro b9;refine yr4 ?_
  (try dsimp only)
  refine K.cutT (σ:=RcK) [(2,_),(3,_),(6,_),(8,_),(9,_),(10,_)] jg (fun s kp_=>kp_) (fun s=>s.N++(D++((b6,cells [.slice none 0 0, .slice none 0 0, .slice none 0 0, .slice none 0 0, .int .i64 0, .slice none 0 0, .int .i64 0, .slice none 0 0, .slice none 0 0, .slice none 0 0, .int .i64 0, .int .i64 0, .slice none 0 0, .int .i64 0, .bool false, .int .i64 0] 53)::(b9,cells [.int .i64 hc, .int .i64 hr, .int .i64 hw] 225)::(b8,cells [.int .i64 ((sl0:Nat):Int), .int .i64 hfi, .bool true] 306)::(b3,cells (kmL v g long s.q (Jf g long m o)) 53)::F))) (fun s=>KmD w0 (s.N++D) s.q (Jf g long m o)) ?_ ?_
  ·by_cases hgo:he=0/\hfi<hr
   ·obtain⟨g1,g2⟩:=hgo
    by_cases h2:f=0
    ·by_cases h1:0<=to
     ·rw[if_pos ⟨h2,h1⟩] at href
      have hin:=hoin to href
      obtain⟨tq,rfl⟩: ∃ tq:Nat,to=tq:=⟨to.toNat,by omega⟩
      have hge:((tq:Nat):Int)>=0:=by omega
      have hsh:=fun A=>hshm A tq bc
      have hso:Jf g long m o=Jt g long m ((tq:Nat):Int):=by rw[href];rfl
      rw[<-hso] at hsh;unfold kmL at hsh;refine yr23 ?_;refine ji (hrf _) ja ?_;refine yr22 ?_;refine je (hsh _) ja ?_;rintro _ _ ⟨q',N,hK',rfl,rfl⟩
      have p5:=hK'.G.o1
      have p6:=hK'.G.o2
      have p7:=hK'.G.o3
      have p8:=hK'.oc
      have p9:=hK'.oh
      refine yr2 ?_;exact KE.meet ⟨q',N⟩ jg (by unfold kmL;exact ja) hK'
     ·rw[if_neg (by rintro⟨_,h⟩;exact h1 h)] at href
      have hge: ¬to>=0:=h1
      have hso:Jf g long m o=m:=by rw[href];rfl
      refine yr23 ?_;refine ji (hrf _) ja ?_;refine yr19 ?_;exact za3
    ·rw[if_neg (by rintro⟨h,_⟩;exact h2 h)] at href
     have hso:Jf g long m o=m:=by rw[href];rfl
     refine yr23 ?_;refine ji (hrf _) ja ?_;refine yr19 ?_;exact za3
   ·have hso:Jf g long m o=m:=by
     cases ho:o with
     |none=>rfl
     |some t=>
      have:=hoin t ho
      rcases hcond with⟨c1,c2⟩|⟨c1,c2⟩
      ·exact absurd ⟨c1,by omega⟩ hgo
      ·omega
    by_cases g1:he=0
    ·have g2: ¬hfi<hr:=fun h=>hgo ⟨g1,h⟩
     refine yr15 ?_;exact za3
    ·refine yr15 ?_;exact za3
  ·rintro⟨k1,N1⟩ hK1;dsimp only at hK1|-
   obtain⟨m1,hm1d⟩: ∃ m1,m1=Jf g long m o:=⟨_,rfl⟩
   rw[<-hm1d] at hK1 hmo h1s hsc|-
   have p5:=hK1.G.o1
   have p6:=hK1.G.o2
   have p7:=hK1.G.o3
   have p8:=hK1.oc
   have p9:=hK1.oh
   have hcl:=hmo.C
   have hsl0:sl0<m1.C.length:=by omega
   have hsl:=ok.slots
   have hm3:jw g long W {m1 with C:=m1.C.set sl0 2}:=⟨by show(m1.C.set sl0 2).length=_;rw [List.length_set];exact hcl,fun u hu=>by
    rcases List.mem_or_eq_of_mem_set hu with h|h
    ·exact hmo.c u h
    ·exact .inr (.inr h),hmo.G,hmo.hs,hmo.h,hmo.root⟩
   have hhe1:=fun A=>jd1 (w0:=w0) (D:=N1++D) (F:=A) (h:=⟨(sl0:Nat),hfi+1,true⟩) (hP.part ja) hK1 hmo (i:=i) (by rw[h1s];exact hi)
   have hbk:=fun A=>jiq (w0:=w0) (D:=N1++D) (F:=A) hK1.C hsl0 bc
   unfold KmG id kmL at hhe1;unfold kmL;dsimp only at hhe1
   rcases hcond with⟨hc1,hc2⟩|⟨hc1,hc2⟩
   ·by_cases hlt:hfi+1<rn
    ·have hge:hfi+1<hr:=by omega
     rw[if_pos hlt] at hsc;rw[hsc];simp only[Option.isSome,Option.getD];refine yq29 fun T hT=>?_;refine(CallV.part (CallV.fn (hhe1 _)) bz).mono ?_;rintro _ _ ⟨q2,N2,hK2,rfl,rfl⟩;rw[h1s] at hK2
     have s5:=hK2.G.o1
     have s6:=hK2.G.o2
     have s7:=hK2.G.o3
     have s8:=hK2.oc
     have s9:=hK2.oh
     refine ze ?_;clear hT T;refine yr6 ?_;exact KE.fin (H':=(N2++N1)++(D++F)) jd rfl jc bf ⟨q2,N2++N1,by simp only[List.append_assoc];exact hK2,rfl,by simp only[List.append_assoc]⟩
    ·have hge: ¬hfi+1<hr:=by omega
     rw[if_neg hlt] at hsc;rw[hsc];simp only[Option.isSome,Option.getD];refine yq32 fun T hT=>?_;refine(CallV.part (CallV.fn (hbk _)) bz).mono ?_;rintro _ _ ⟨vc',N2,hC2,ov2,rfl,rfl⟩
     have hK3:KmD w0 (N2++(N1++D)) ⟨vc',k1.u,k1.h⟩ {m1 with C:=m1.C.set sl0 2}:=⟨hC2,hK1.G.part ja,hK1.H.part ja,ov2,hK1.oh⟩
     have hhe:=fun A=>jd1 (w0:=w0) (D:=N2++(N1++D)) (F:=A) (h:=jO) (hP.part ja) hK3 hm3 (i:=i) (by show i<m1.hs.length;rw [h1s];exact hi)
     unfold KmG id kmL jO at hhe;dsimp only at hhe;refine ze ?_;clear hT T;refine yq12 fun T hT=>?_;refine(CallV.part (CallV.fn (hhe _)) bf).mono ?_;rintro _ _ ⟨q2,N3,hK2,rfl,rfl⟩;rw[h1s] at hK2
     have s5:=hK2.G.o1
     have s6:=hK2.G.o2
     have s7:=hK2.G.o3
     have s8:=hK2.oc
     have s9:=hK2.oh
     refine ze ?_;clear hT T;refine yr5 ?_;exact zce
   ·have hlt: ¬hfi+1<rn:=by omega
    rw[if_neg hlt] at hsc;rw[hsc];simp only[Option.isSome,Option.getD];refine yq32 fun T hT=>?_;refine(CallV.part (CallV.fn (hbk _)) bz).mono ?_;rintro _ _ ⟨vc',N2,hC2,ov2,rfl,rfl⟩
    have hK3:KmD w0 (N2++(N1++D)) ⟨vc',k1.u,k1.h⟩ {m1 with C:=m1.C.set sl0 2}:=⟨hC2,hK1.G.part ja,hK1.H.part ja,ov2,hK1.oh⟩
    have hhe:=fun A=>jd1 (w0:=w0) (D:=N2++(N1++D)) (F:=A) (h:=jO) (hP.part ja) hK3 hm3 (i:=i) (by show i<m1.hs.length;rw [h1s];exact hi)
    unfold KmG id kmL jO at hhe;dsimp only at hhe;refine ze ?_;clear hT T;refine yq12 fun T hT=>?_;refine(CallV.part (CallV.fn (hhe _)) bf).mono ?_;rintro _ _ ⟨q2,N3,hK2,rfl,rfl⟩;rw[h1s] at hK2
    have s5:=hK2.G.o1
    have s6:=hK2.G.o2
    have s7:=hK2.G.o3
    have s8:=hK2.oc
    have s9:=hK2.oh
    refine ze ?_;clear hT T;refine yr5 ?_;exact zce
end
structure HpI where
 i:Nat
structure HpB where
 q:KmV
 N:jb
 b:Nat
section
variable {w0 : World} {D F : jb} {v : PlV} {g : PlG} {long : Nat} {q : KmV} {m : MaP} {W : MwP} {z : KwV}
theorem KmD.up (h:KmD w0 D q m):KmD w0 D q (upM m):=⟨h.C,h.G,h.H,h.oc,h.oh⟩
theorem jmx {i:Nat} (ok:jh g) (hK:KmD w0 D q m) (hm:jw g long W m) (hlg:long<=64) (hW:KwD w0 D v g z W) (hst:m.steps<=1000000000) (hact:m.act=true) (hi:i<m.hs.length):
  Call Tryz.prog w0 54 [.agg (kmL v g long q m).toArray, .agg (kwL v g z).toArray, .int .i64 (i:Nat), .int .u8 1] (D++F) (KmO w0 D F v g long m ((Jo g long W m i 1).map upM)):=by
 have hP:=hW.B.p
 have q1:=hP.oL
 have q2:=hP.oF
 have q3:=hP.oM
 have q4:=hP.oC
 have q5:=hK.G.o1
 have q6:=hK.G.o2
 have q7:=hK.G.o3
 have q8:=hK.oc
 have q9:=hK.oh
 have r5:=hW.B.m.o
 have r6:=hW.oT
 have r7:=hW.oN
 have hH:=hK.H
 have h9:=hm.hs
 have hmc:Jo g long W m i 1=rootM g long W m:=rfl
 have hstp: ∀ m1:MaP,Jo g long W m i 1=some m1->m1.steps<=1000000000:=fun m1 h=>by
  have:=(jcl ok hm hi h).2.2.1
  omega
 rw[hmc] at hstp|-
 have hcl:=fun A=>rkroot_K (w0:=w0) (D:=D) (F:=A) ok hK hm hlg hW
 have hlt: ¬((i:Nat):Int)<0:=by omega
 have hge: ¬((i:Nat):Int)>=(m.hs.length:Nat):=by omega
 obtain⟨o,ho⟩: ∃ o,rootM g long W m=o:=⟨_,rfl⟩
 rw[ho] at hstp;simp only[ho] at hcl|-;unfold KmO at hcl|-;unfold kmL kwL at hcl;unfold kmL kwL;rw[hact];simp only[hact] at hcl
 cases o with
 |none=>
  simp only[Option.isSome,Option.getD,Option.map] at hcl|-;refine zG ?_
  (iterate 60 first|refine yS ?_|intro _)
  refine zY ?_;rintro _ _ ⟨q',N,hK',rfl,rfl⟩
  have p5:=hK'.G.o1
  have p6:=hK'.G.o2
  have p7:=hK'.G.o3
  have p8:=hK'.oc
  have p9:=hK'.oh
  refine yr25 ?_;exact za4
 |some m1=>
  have hs1:=hstp m1 rfl
  have e5:((m1.steps:Nat):Int)+1=(((upM m1).steps:Nat):Int):=by show _=((m1.steps+1:Nat):Int);omega
  simp only[Option.isSome,Option.getD,Option.map] at hcl|-;refine zG ?_
  (iterate 60 first|refine yS ?_|intro _)
  refine zY ?_;rintro _ _ ⟨q',N,hK',rfl,rfl⟩
  have p5:=hK'.G.o1
  have p6:=hK'.G.o2
  have p7:=hK'.G.o3
  have p8:=hK'.oc
  have p9:=hK'.oh
  refine jbf ?_;rw[e5];exact za5
theorem jmw {i:Nat} (ok:jh g) (hK:KmD w0 D q m) (hm:jw g long W m) (hlg:long<=64) (hW:KwD w0 D v g z W) (hst:m.steps<=1000000000) (hact:m.act=true) (hi:i<m.hs.length):
  Call Tryz.prog w0 54 [.agg (kmL v g long q m).toArray, .agg (kwL v g z).toArray, .int .i64 (i:Nat), .int .u8 2] (D++F) (KmO w0 D F v g long m ((Jo g long W m i 2).map upM)):=by
 have hP:=hW.B.p
 have q1:=hP.oL
 have q2:=hP.oF
 have q3:=hP.oM
 have q4:=hP.oC
 have q5:=hK.G.o1
 have q6:=hK.G.o2
 have q7:=hK.G.o3
 have q8:=hK.oc
 have q9:=hK.oh
 have r5:=hW.B.m.o
 have r6:=hW.oT
 have r7:=hW.oN
 have hH:=hK.H
 have h9:=hm.hs
 have hmc:Jo g long W m i 2=takeM m i:=rfl
 have hstp: ∀ m1:MaP,Jo g long W m i 2=some m1->m1.steps<=1000000000:=fun m1 h=>by
  have:=(jcl ok hm hi h).2.2.1
  omega
 rw[hmc] at hstp|-
 have hcl:=fun A=>rktake_K (w0:=w0) (D:=D) (F:=A) hP ok hK hm hlg hi
 have hlt: ¬((i:Nat):Int)<0:=by omega
 have hge: ¬((i:Nat):Int)>=(m.hs.length:Nat):=by omega
 obtain⟨o,ho⟩: ∃ o,takeM m i=o:=⟨_,rfl⟩
 rw[ho] at hstp;simp only[ho] at hcl|-;unfold KmO at hcl|-;unfold kmL at hcl;unfold kmL kwL;rw[hact];simp only[hact] at hcl
 cases o with
 |none=>
  simp only[Option.isSome,Option.getD,Option.map] at hcl|-;refine zG ?_
  (iterate 67 first|refine yS ?_|intro _)
  refine zY ?_;rintro _ _ ⟨q',N,hK',rfl,rfl⟩
  have p5:=hK'.G.o1
  have p6:=hK'.G.o2
  have p7:=hK'.G.o3
  have p8:=hK'.oc
  have p9:=hK'.oh
  refine yr25 ?_;exact za4
 |some m1=>
  have hs1:=hstp m1 rfl
  have e5:((m1.steps:Nat):Int)+1=(((upM m1).steps:Nat):Int):=by show _=((m1.steps+1:Nat):Int);omega
  simp only[Option.isSome,Option.getD,Option.map] at hcl|-;refine zG ?_
  (iterate 67 first|refine yS ?_|intro _)
  refine zY ?_;rintro _ _ ⟨q',N,hK',rfl,rfl⟩
  have p5:=hK'.G.o1
  have p6:=hK'.G.o2
  have p7:=hK'.G.o3
  have p8:=hK'.oc
  have p9:=hK'.oh
  refine jbf ?_;rw[e5];exact za5
theorem jmv {i:Nat} (ok:jh g) (hK:KmD w0 D q m) (hm:jw g long W m) (hlg:long<=64) (hW:KwD w0 D v g z W) (hst:m.steps<=1000000000) (hact:m.act=true) (hi:i<m.hs.length):
  Call Tryz.prog w0 54 [.agg (kmL v g long q m).toArray, .agg (kwL v g z).toArray, .int .i64 (i:Nat), .int .u8 3] (D++F) (KmO w0 D F v g long m ((Jo g long W m i 3).map upM)):=by
 have hP:=hW.B.p
 have q1:=hP.oL
 have q2:=hP.oF
 have q3:=hP.oM
 have q4:=hP.oC
 have q5:=hK.G.o1
 have q6:=hK.G.o2
 have q7:=hK.G.o3
 have q8:=hK.oc
 have q9:=hK.oh
 have r5:=hW.B.m.o
 have r6:=hW.oT
 have r7:=hW.oN
 have hH:=hK.H
 have h9:=hm.hs
 have hmc:Jo g long W m i 3=scanM g long W m i:=rfl
 have hstp: ∀ m1:MaP,Jo g long W m i 3=some m1->m1.steps<=1000000000:=fun m1 h=>by
  have:=(jcl ok hm hi h).2.2.1
  omega
 rw[hmc] at hstp|-
 have hcl:=fun A=>rkscan_K (w0:=w0) (D:=D) (F:=A) ok hK hm hlg hW hi
 have hlt: ¬((i:Nat):Int)<0:=by omega
 have hge: ¬((i:Nat):Int)>=(m.hs.length:Nat):=by omega
 obtain⟨o,ho⟩: ∃ o,scanM g long W m i=o:=⟨_,rfl⟩
 rw[ho] at hstp;simp only[ho] at hcl|-;unfold KmO at hcl|-;unfold kmL kwL at hcl;unfold kmL kwL;rw[hact];simp only[hact] at hcl
 cases o with
 |none=>
  simp only[Option.isSome,Option.getD,Option.map] at hcl|-;refine zG ?_
  (iterate 75 first|refine yS ?_|intro _)
  refine zY ?_;rintro _ _ ⟨q',N,hK',rfl,rfl⟩
  have p5:=hK'.G.o1
  have p6:=hK'.G.o2
  have p7:=hK'.G.o3
  have p8:=hK'.oc
  have p9:=hK'.oh
  refine yr25 ?_;exact za4
 |some m1=>
  have hs1:=hstp m1 rfl
  have e5:((m1.steps:Nat):Int)+1=(((upM m1).steps:Nat):Int):=by show _=((m1.steps+1:Nat):Int);omega
  simp only[Option.isSome,Option.getD,Option.map] at hcl|-;refine zG ?_
  (iterate 75 first|refine yS ?_|intro _)
  refine zY ?_;rintro _ _ ⟨q',N,hK',rfl,rfl⟩
  have p5:=hK'.G.o1
  have p6:=hK'.G.o2
  have p7:=hK'.G.o3
  have p8:=hK'.oc
  have p9:=hK'.oh
  refine jbf ?_;rw[e5];exact za5
theorem jmu {i:Nat} (ok:jh g) (hK:KmD w0 D q m) (hm:jw g long W m) (hlg:long<=64) (hW:KwD w0 D v g z W) (hst:m.steps<=1000000000) (hact:m.act=true) (hi:i<m.hs.length):
  Call Tryz.prog w0 54 [.agg (kmL v g long q m).toArray, .agg (kwL v g z).toArray, .int .i64 (i:Nat), .int .u8 4] (D++F) (KmO w0 D F v g long m ((Jo g long W m i 4).map upM)):=by
 have hP:=hW.B.p
 have q1:=hP.oL
 have q2:=hP.oF
 have q3:=hP.oM
 have q4:=hP.oC
 have q5:=hK.G.o1
 have q6:=hK.G.o2
 have q7:=hK.G.o3
 have q8:=hK.oc
 have q9:=hK.oh
 have r5:=hW.B.m.o
 have r6:=hW.oT
 have r7:=hW.oN
 have hH:=hK.H
 have h9:=hm.hs
 have hmc:Jo g long W m i 4=walkM g m i:=rfl
 have hstp: ∀ m1:MaP,Jo g long W m i 4=some m1->m1.steps<=1000000000:=fun m1 h=>by
  have:=(jcl ok hm hi h).2.2.1
  omega
 rw[hmc] at hstp|-
 have hcl:=fun A=>rkwalk_K (w0:=w0) (D:=D) (F:=A) hP ok hK hm hlg hi
 have hlt: ¬((i:Nat):Int)<0:=by omega
 have hge: ¬((i:Nat):Int)>=(m.hs.length:Nat):=by omega
 obtain⟨o,ho⟩: ∃ o,walkM g m i=o:=⟨_,rfl⟩
 rw[ho] at hstp;simp only[ho] at hcl|-;unfold KmO at hcl|-;unfold kmL at hcl;unfold kmL kwL;rw[hact];simp only[hact] at hcl
 cases o with
 |none=>
  simp only[Option.isSome,Option.getD,Option.map] at hcl|-;refine zG ?_
  (iterate 81 first|refine yS ?_|intro _)
  refine zY ?_;rintro _ _ ⟨q',N,hK',rfl,rfl⟩
  have p5:=hK'.G.o1
  have p6:=hK'.G.o2
  have p7:=hK'.G.o3
  have p8:=hK'.oc
  have p9:=hK'.oh
  refine yr25 ?_;exact za4
 |some m1=>
  have hs1:=hstp m1 rfl
  have e5:((m1.steps:Nat):Int)+1=(((upM m1).steps:Nat):Int):=by show _=((m1.steps+1:Nat):Int);omega
  simp only[Option.isSome,Option.getD,Option.map] at hcl|-;refine zG ?_
  (iterate 81 first|refine yS ?_|intro _)
  refine zY ?_;rintro _ _ ⟨q',N,hK',rfl,rfl⟩
  have p5:=hK'.G.o1
  have p6:=hK'.G.o2
  have p7:=hK'.G.o3
  have p8:=hK'.oc
  have p9:=hK'.oh
  refine jbf ?_;rw[e5];exact za5
theorem jmt {hd:Int} {u:Nat} (ok:jh g) (hK:KmD w0 D q m) (hm:jw g long W m) (hlg:long<=64) (hW:KwD w0 D v g z W) (hu:u<256) (hno: ¬(m.act=true/\0<=hd/\hd<(m.hs.length:Nat)/\1<=u/\u<=4)):
  Call Tryz.prog w0 54 [.agg (kmL v g long q m).toArray, .agg (kwL v g z).toArray, .int .i64 hd, .int .u8 (u:Nat)] (D++F) (KmO w0 D F v g long m none):=by
 have hP:=hW.B.p
 have q1:=hP.oL
 have q2:=hP.oF
 have q3:=hP.oM
 have q4:=hP.oC
 have q5:=hK.G.o1
 have q6:=hK.G.o2
 have q7:=hK.G.o3
 have q8:=hK.oc
 have q9:=hK.oh
 have r5:=hW.B.m.o
 have r6:=hW.oT
 have r7:=hW.oN
 have hH:=hK.H
 have h9:=hm.hs
 unfold KmO;simp only[Option.isSome,Option.getD];unfold kmL kwL
 cases ha:m.act with
 |false=>
  refine zG ?_
  (iterate 40 first|refine yS ?_|intro _)
  exact za6
 |true=>
  have hno':hd<0\/(¬hd<0/\hd>=(m.hs.length:Nat))\/(¬hd<0/\ ¬hd>=(m.hs.length:Nat)/\ ¬((u:Nat):Int)=1/\ ¬((u:Nat):Int)=2/\ ¬((u:Nat):Int)=3/\ ¬((u:Nat):Int)=4):=by
   by_cases c1:hd<0
   ·exact .inl c1
   ·by_cases c2:hd>=(m.hs.length:Nat)
    ·exact .inr (.inl ⟨c1,c2⟩)
    ·have: ¬(1<=u/\u<=4):=fun h=>hno ⟨ha,by omega,by omega,h.1,h.2⟩
     exact .inr (.inr ⟨c1,c2,by omega,by omega,by omega,by omega⟩)
  rcases hno' with c1|⟨c1,c2⟩|⟨c1,c2,c3,c4,c5,c6⟩
  ·refine zG ?_
   (iterate 40 first|refine yS ?_|intro _)
   exact za6
  ·refine zG ?_
   (iterate 40 first|refine yS ?_|intro _)
   exact za6
  ·refine zG ?_
   (iterate 97 first|refine yS ?_|intro _)
   exact za6
theorem jjf {hd v0:Int} (ok:jh g) (hK:KmD w0 D q m) (hm:jw g long W m) (hlg:long<=64) (hW:KwD w0 D v g z W) (hst:m.steps<=1000000000) (hv:0<=v0/\v0<256):
  Call Tryz.prog w0 54 [.agg (kmL v g long q m).toArray, .agg (kwL v g z).toArray, .int .i64 hd, .int .u8 v0] (D++F) (KmO w0 D F v g long m (stepM g long W m hd v0)):=by
 obtain⟨u,rfl⟩: ∃ u:Nat,v0=u:=⟨v0.toNat,by omega⟩
 have hP:=hW.B.p
 by_cases hy:m.act=true/\0<=hd/\hd<(m.hs.length:Nat)/\1<=u/\u<=4
 ·obtain⟨h1,h2,h3,h4,h5⟩:=hy
  obtain⟨i,rfl⟩: ∃ i:Nat,hd=i:=⟨hd.toNat,by omega⟩
  have hs: ∀ q:Int,stepM g long W m (i:Nat) q=(Jo g long W m i q).map upM:=fun q=>by
   unfold stepM;rw[if_pos ⟨h1,by omega,h3⟩,Int.toNat_natCast]
  rw[hs]
  rcases(show u=1\/u=2\/u=3\/u=4 by omega) with rfl|rfl|rfl|rfl
  ·exact jmx ok hK hm hlg hW hst h1 bc
  ·exact jmw ok hK hm hlg hW hst h1 bc
  ·exact jmv ok hK hm hlg hW hst h1 bc
  ·exact jmu ok hK hm hlg hW hst h1 bc
 ·have hs:stepM g long W m hd (u:Nat)=none:=by
   unfold stepM
   split
   ·rename_i hc
    have:Jo g long W m hd.toNat (u:Nat)=none:=by
     unfold Jo
     have: ¬(1<=u/\u<=4):=fun h=>hy ⟨hc.1,hc.2.1,hc.2.2,h.1,h.2⟩
     rw[if_neg bc,if_neg bc,if_neg bc,if_neg bc]
    rw[this];rfl
   ·rfl
  rw[hs];exact jmt ok hK hm hlg hW bc hy
theorem rkHelp_K (ok:jh g) (hK:KmD w0 D q m) (hm:jw g long W m) (hlg:long<=64) (hW:KwD w0 D v g z W) (hst:m.steps<=1000000000):
  Call Tryz.prog w0 321 [.agg (kmL v g long q m).toArray, .agg (kwL v g z).toArray] (D++F) (KmO w0 D F v g long m (JK g long W m)):=by
 have hP:=hW.B.p
 have q1:=hP.oL
 have q2:=hP.oF
 have q3:=hP.oM
 have q4:=hP.oC
 have q5:=hK.G.o1
 have q6:=hK.G.o2
 have q7:=hK.G.o3
 have q8:=hK.oc
 have q9:=hK.oh
 have r5:=hW.B.m.o
 have r6:=hW.oT
 have r7:=hW.oN
 have hH:=hK.H
 have h9:=hm.hs
 obtain⟨own,hod⟩: ∃ own:Nat,own=m.hs.length-1:=⟨_,rfl⟩
 have hown:((m.hs.length:Nat):Int)-1=((own:Nat):Int):=by omega
 have hstep:=fun A (i:Nat) (u:Int) (hu:0<=u/\u<256)=>jjf (w0:=w0) (D:=D) (F:=A) (hd:=((i:Nat):Int)) (v0:=u) ok hK hm hlg hW hst hu
 have hhm:JK g long W m=match fullM m with
   |some i=>stepM g long W m (i:Nat) 3
   |none=>match stepM g long W m (own:Nat) 2 with
    |some m'=>some m'
    |none=>match stepM g long W m (own:Nat) 1 with
     |some m'=>some m'
     |none=>stepM g long W m (own:Nat) 4:=by rw[hod];rfl
 unfold KmO at hstep|-;unfold kmL kwL at hstep|-;refine en2 52 Tryz.func321 ?_;refine yr3 ?_;intro b2;refine yr1 ?_;intro b3;refine yr1 ?_;intro b4;refine yr12 ?_;rw[hown];refine yr7 ?_;refine K.loopT (σ:=HpI) [(2,_),(3,_),(4,_),(6,_)] (fun s kp_=>(7, .int .i64 (s.i:Nat))::kp_) (fun s=>D++((b4,cells [.slice none 0 0, .slice none 0 0, .slice none 0 0, .slice none 0 0, .int .i64 0, .slice none 0 0, .int .i64 0, .slice none 0 0, .slice none 0 0, .slice none 0 0, .int .i64 0, .int .i64 0, .slice none 0 0, .int .i64 0, .bool false, .int .i64 0] 53)::(b3,cells [z.vr, .int .i64 (v.t:Nat),v.L,v.F,v.M, .int .i64 (g.words:Nat),v.C,z.vt, .int .i64 z.gens,z.vn] 47)::(b2,cells [q.c,v.L,v.F,v.M, .int .i64 (g.words:Nat),v.C, .int .i64 (long:Nat),q.u.Q,q.u.ow,q.u.di, .int .i64 (pgI m.G), .int .i64 (m.G.at_:Nat),q.h, .int .i64 (m.root:Nat), .bool m.act, .int .i64 (m.steps:Nat)] 53)::F)) (fun s=>s.i<=own+1/\ ∀ j,j<s.i->(JU m j).is=false) (fun s=>own+1-s.i) (⟨0⟩) jg ja (⟨Nat.zero_le _,fun j h=>absurd h (Nat.not_lt_zero _)⟩) ?_;rintro⟨i⟩ ⟨hi,hno⟩;dsimp only at hi hno|-
 by_cases hlt:i<own+1
 ·have hle:((i:Nat):Int)<=((own:Nat):Int):=by omega
  have hil:i<m.hs.length:=by omega
  obtain⟨h,hh⟩:=jq hil
  have hha:=jaG hh
  obtain⟨hsl,hfi,his⟩:=h
  cases his with
  |true=>
   have hf:=jgK hil (by rw[hha]) hno
   have he:JK g long W m=stepM g long W m (i:Nat) 3:=by rw[hhm,hf]
   have hs3:=fun A=>hstep A i 3 bn
   rw[he];refine yr30 ?_;refine je (hs3 _) ja ?_;rintro _ _ ⟨q',N,hK',rfl,rfl⟩
   have p5:=hK'.G.o1
   have p6:=hK'.G.o2
   have p7:=hK'.G.o3
   have p8:=hK'.oc
   have p9:=hK'.oh
   refine yr12 ?_;exact za1
  |false=>
   refine yr32 ?_
   exact KE.again ⟨i+1⟩ jg ja ⟨by show i+1<=own+1;omega,fun j (hj:j<i+1)=>by
    rcases Nat.lt_or_ge j i with h|h
    ·exact hno j h
    ·have:j=i:=by omega
     subst this;rw [hha]⟩ (by show own+1-(i+1)<own+1-i;omega)
 ·have hle: ¬((i:Nat):Int)<=((own:Nat):Int):=by omega
  have hf:fullM m=none:=jgJ fun j hj=>hno j bc
  rw[hf] at hhm;dsimp only at hhm;clear hno
  have hend:(∀ (j:Nat) (u:Int),j<3->([2,1,4]:List Int)[j]?=some u->stepM g long W m (own:Nat) u=none)->JK g long W m=none:=fun h=>by
   rw[hhm,h 0 2 bc rfl,h 1 1 bc rfl,h 2 4 bc rfl]
  have hhit: ∀ (i:Nat) (u:Int) (m':MaP),([2,1,4]:List Int)[i]?=some u->(∀ (j:Nat) (u:Int),j<i->([2,1,4]:List Int)[j]?=some u->stepM g long W m (own:Nat) u=none)->stepM g long W m (own:Nat) u=some m'->JK g long W m=some m':=fun i u m' hu h hs=>by
   rw[hhm]
   match i,hu with
   |0,hu=>cases hu;rw [hs]
   |1,hu=>cases hu;rw [h 0 2 bc rfl,hs]
   |2,hu=>cases hu;rw [h 0 2 bc rfl,h 1 1 bc rfl,hs]
   |k+3,hu=>simp at hu
  clear hhm;refine yr17 ?_;intro b33;refine yr10 ?_
  have hord:Sli w0 [(b33,cells [.int .u8 2, .int .u8 1, .int .u8 4] 5)] bE (.slice (some ⟨b33,0,none⟩) 3 3) [2,1,4]:=Sli.blk jx.head rfl bn bn rfl
  refine K.loopT (σ:=HpI) [(2,_),(3,_),(4,_),(6,_),(8,_)] (fun s kp_=>(9, .int .i64 (s.i:Nat))::kp_) (fun s=>D++((b33,cells [.int .u8 2, .int .u8 1, .int .u8 4] 5)::(b4,cells [.slice none 0 0, .slice none 0 0, .slice none 0 0, .slice none 0 0, .int .i64 0, .slice none 0 0, .int .i64 0, .slice none 0 0, .slice none 0 0, .slice none 0 0, .int .i64 0, .int .i64 0, .slice none 0 0, .int .i64 0, .bool false, .int .i64 0] 53)::(b3,cells [z.vr, .int .i64 (v.t:Nat),v.L,v.F,v.M, .int .i64 (g.words:Nat),v.C,z.vt, .int .i64 z.gens,z.vn] 47)::(b2,cells [q.c,v.L,v.F,v.M, .int .i64 (g.words:Nat),v.C, .int .i64 (long:Nat),q.u.Q,q.u.ow,q.u.di, .int .i64 (pgI m.G), .int .i64 (m.G.at_:Nat),q.h, .int .i64 (m.root:Nat), .bool m.act, .int .i64 (m.steps:Nat)] 53)::F)) (fun s=>s.i<=3/\ ∀ (j:Nat) (u:Int),j<s.i->([2,1,4]:List Int)[j]?=some u->stepM g long W m (own:Nat) u=none) (fun s=>3-s.i) (⟨0⟩) jg ja (⟨Nat.zero_le _,fun j _ h=>absurd h (Nat.not_lt_zero _)⟩) ?_;rintro⟨i'⟩ ⟨hi',hno⟩;dsimp only at hi' hno|-
  by_cases hlt3:i'<3
  ·have hlt3':((i':Nat):Int)<3:=by omega
   obtain⟨u,hu⟩:=jq (l:=([2,1,4]:List Int)) (k:=i') hlt3
   have hub:0<=u/\u<256:=by
    have:=List.mem_of_getElem? hu
    simp only[List.mem_cons,List.not_mem_nil,or_false] at this
    omega
   have hs:=fun A=>hstep A own u hub
   obtain⟨so,hso⟩: ∃ so,stepM g long W m ((own:Nat):Int) u=so:=⟨_,rfl⟩
   simp only[hso] at hs;refine yr12 ?_;refine K.cutT (σ:=HpB) [(2,_),(3,_),(4,_),(6,_),(8,_),(9,_)] jg (fun s kp_=>(10,pt s.b)::(11, .bool so.isSome)::kp_) (fun s=>(s.N++D)++((s.b,cells (kmL v g long s.q (so.getD m)) 53)::(b33,cells [.int .u8 2, .int .u8 1, .int .u8 4] 5)::(b4,cells [.slice none 0 0, .slice none 0 0, .slice none 0 0, .slice none 0 0, .int .i64 0, .slice none 0 0, .int .i64 0, .slice none 0 0, .slice none 0 0, .slice none 0 0, .int .i64 0, .int .i64 0, .slice none 0 0, .int .i64 0, .bool false, .int .i64 0] 53)::(b3,cells [z.vr, .int .i64 (v.t:Nat),v.L,v.F,v.M, .int .i64 (g.words:Nat),v.C,z.vt, .int .i64 z.gens,z.vn] 47)::(b2,cells [q.c,v.L,v.F,v.M, .int .i64 (g.words:Nat),v.C, .int .i64 (long:Nat),q.u.Q,q.u.ow,q.u.di, .int .i64 (pgI m.G), .int .i64 (m.G.at_:Nat),q.h, .int .i64 (m.root:Nat), .bool m.act, .int .i64 (m.steps:Nat)] 53)::F)) (fun s=>KmD w0 (s.N++D) s.q (so.getD m)) ?_ ?_
   ·skip
    refine zi ?_;refine K.dr (_) (od 0 [1,1,1,1,1,1,1,3,1,1,1,2,2,0]) ja ?_;refine yr7 ?_;refine KD.fork2 (x:=7) (y:=11) (o1:=[(8,1),(9,1),(10,1),(11,2),(12,2),(13,0)]) (o2:=[(7,2),(8,0),(9,0),(10,1),(12,2),(13,0)]) bu rfl rfl bu bu ?_ ?_
    ·refine zk fun T hT=>?_;refine(CallV.part (CallV.fn (hs _)) ja).mono ?_;rintro _ _ ⟨q',N,hK',rfl,rfl⟩
     have p5:=hK'.G.o1
     have p6:=hK'.G.o2
     have p7:=hK'.G.o3
     have p8:=hK'.oc
     have p9:=hK'.oh
     refine zf ?_;clear hT T;refine yr4 ?_;intro b10;refine yr5 ?_;exact KE.meet ⟨q',N,b10⟩ jg (by unfold kmL;simp only[List.append_assoc];exact ja) hK'
    ·(refine jR.e rfl (Eff.alloc rfl) ?_;rintro _ _ ⟨b10,rfl,rfl⟩;refine⟨ja,?_⟩)
     refine yr1 ?_;refine je (hs _) ja ?_;rintro _ _ ⟨q',N,hK',rfl,rfl⟩
     have p5:=hK'.G.o1
     have p6:=hK'.G.o2
     have p7:=hK'.G.o3
     have p8:=hK'.oc
     have p9:=hK'.oh
     refine yr8 ?_;exact KE.meet ⟨q',N,b10⟩ jg (by unfold kmL;simp only[List.append_assoc];exact ja) hK'
   ·rintro⟨q',N,bb⟩ hK';dsimp only at hK'|-
    have p5:=hK'.G.o1
    have p6:=hK'.G.o2
    have p7:=hK'.G.o3
    have p8:=hK'.oc
    have p9:=hK'.oh
    unfold kmL
    cases so with
    |some m2=>
     have he:=hhit i' u m2 hu hno hso
     rw[he];simp only[Option.isSome,Option.getD];refine yr19 ?_;exact KE.fin (H':=N++(D++F)) jd rfl jc bf ⟨q',N,hK',rfl,rfl⟩
    |none=>
     simp only[Option.isSome,Option.getD];refine yr14 ?_
     exact KE.again ⟨i'+1⟩ jg bf ⟨hlt3,fun j u' (hj:j<i'+1) hu'=>by
      rcases Nat.lt_or_ge j i' with h|h
      ·exact hno j u' h hu'
      ·have:j=i':=by omega
       subst this
       rw[hu] at hu';cases hu';exact hso⟩ (by show 3-(i'+1)<3-i';omega)
  ·have hlt3': ¬((i':Nat):Int)<3:=by omega
   have he:JK g long W m=none:=hend fun j u hj hu=>hno j u bc hu
   rw[he];simp only[Option.isSome,Option.getD];refine yr21 ?_;exact zU
