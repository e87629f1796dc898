/-The walker and contracts, part 21.-/
import Derived.Test.YtciaccbemnpipaaGreatDoorJ18
import Derived.Test.YtciaccbemnpipaaGreatDoorJ19
set_option linter.all false
namespace Go.Proofs.YtciaccbemnpipaaGreatDoor.Sw
set_option maxHeartbeats 8000000
open Go.Proofs.YtciaccbemnpipaaGreatDoor renaming lo -> qL, hi -> qH
open Go.RowKit
set_option maxRecDepth 10000
structure RkS where
 k:Nat
theorem jhF {w0:World} {H:jb} {c:Cfg} {vc vt:Value} (hR:Jl w0 H c vc vt):
  Cs w0 40 [jA c vc vt] H (.int .i64 (jaX (cfgP c) 2)):=by
 obtain⟨hS,hT',o1,o2,l1,l2⟩:=hR
 obtain⟨cl,page,tn,workers,grey,gens⟩:=c
 dsimp only at hS hT' l1 l2;simp only[jA,jV]
 cases hc:Jk cl with
 |false=>
  have hf:cfgP ⟨cl,page,tn,workers,grey,gens⟩=false:=by simp[cfgP,hc]
  refine en1 83 Tryz.func40 ?_;refine yr3 ?_;intro b1;refine yq8 fun T hT=>?_;refine(CallV.fn (je2 (l:=cl) (hS.part ja) l1)).mono ?_;rintro _ _ ⟨rfl,rfl⟩;rw[hc];refine zaO ?_;clear hT T;refine yr11 ?_;exact zn
 |true=>
  have hcc:=hc
  simp only[Jk,Bool.and_eq_true,decide_eq_true_eq] at hcc
  obtain⟨z,hz⟩:=jq (l:=cl) (k:=cl.length-1) bc
  have hzl:cl.getLast?=some z:=by rw[List.getLast?_eq_getElem?];exact hz
  have htop:jbV cl=z:=by simp[jbV,hzl]
  have hz':cl[(((cl.length:Nat):Int)-1).toNat]?=some z:=by rw[show(((cl.length:Nat):Int)-1).toNat=cl.length-1 by omega];exact hz
  have hcl1:1<=cl.length:=hcc.1.1.1
  have hpl:jcT ⟨cl,page,tn,workers,grey,gens⟩=(rnP page z 64&&(rnP (tn.length:Nat) 1 8&&(rnP workers 0 8&&(rnP grey 1 64&&rnP gens 1 2147483648)))):=by
   simp only[jcT,htop,jan,rnP,Bool.and_true,Bool.and_assoc]
  have hcp:cfgP ⟨cl,page,tn,workers,grey,gens⟩=(jcT ⟨cl,page,tn,workers,grey,gens⟩&&tn.all (jbs z)):=by simp[cfgP,hc,htop]
  have hout:jcT ⟨cl,page,tn,workers,grey,gens⟩=false->cfgP ⟨cl,page,tn,workers,grey,gens⟩=false:=fun h=>by rw[hcp,h];rfl
  refine en1 83 Tryz.func40 ?_;refine yr3 ?_;intro b1;refine yq8 fun T hT=>?_;refine(CallV.fn (je2 (l:=cl) (hS.part ja) l1)).mono ?_;rintro _ _ ⟨rfl,rfl⟩;rw[hc];simp only[jaX,if_true];refine ze ?_;clear hT T;refine yq25 fun T hT=>?_;refine zP ?_;rintro _ _ ⟨rfl,rfl⟩
  cases g1:rnP page z 64 with
  |false=>
   have hf:=hout (by rw[hpl,g1];rfl)
   refine ze ?_;clear hT T;refine yr36 ?_;exact zn
  |true=>
   refine ze ?_;clear hT T;refine yr5 ?_;refine zC fun T hT=>?_;refine zP ?_;rintro _ _ ⟨rfl,rfl⟩
   cases g2:rnP (tn.length:Nat) 1 8 with
   |false=>
    have hf:=hout (by rw[hpl,g1,g2];rfl)
    refine ze ?_;clear hT T;refine yr30 ?_;exact zn
   |true=>
    refine ze ?_;clear hT T;refine yr5 ?_;refine zC fun T hT=>?_;refine zP ?_;rintro _ _ ⟨rfl,rfl⟩
    cases g3:rnP workers 0 8 with
    |false=>
     have hf:=hout (by rw[hpl,g1,g2,g3];rfl)
     refine ze ?_;clear hT T;refine yr24 ?_;exact zn
    |true=>
     refine ze ?_;clear hT T;refine yr5 ?_;refine zC fun T hT=>?_;refine zP ?_;rintro _ _ ⟨rfl,rfl⟩
     cases g4:rnP grey 1 64 with
     |false=>
      have hf:=hout (by rw[hpl,g1,g2,g3,g4];rfl)
      refine ze ?_;clear hT T;refine yr18 ?_;exact zn
     |true=>
      refine ze ?_;clear hT T;refine yr5 ?_;refine zC fun T hT=>?_;refine zP ?_;rintro _ _ ⟨rfl,rfl⟩
      cases g5:rnP gens 1 2147483648 with
      |false=>
       have hf:=hout (by rw[hpl,g1,g2,g3,g4,g5];rfl)
       refine ze ?_;clear hT T;refine yr12 ?_;exact zn
      |true=>
       have hcr:cfgP ⟨cl,page,tn,workers,grey,gens⟩=tn.all (jbs z):=by rw[hcp,hpl,g1,g2,g3,g4,g5];rfl
       refine ze ?_;clear hT T;refine yr14 ?_;refine K.loopT (σ:=RkS) [(1,_),(3,_)] (fun s kp_=>(4, .int .i64 (s.k:Nat))::kp_) (fun s=>(b1,cells [vc, .int .i64 page,vt, .int .i64 workers, .int .i64 grey, .int .i64 gens] 25)::H) (fun s=>s.k<=tn.length/\tn.all (jbs z)=(tn.drop s.k).all (jbs z)) (fun s=>tn.length-s.k) (⟨0⟩) jg ja (⟨by simp,by simp⟩) ?_;rintro⟨k⟩ ⟨hk,hr⟩;dsimp only at hk hr|-
       by_cases hlt:k<tn.length
       ·obtain⟨t,ht⟩:=jq hlt
        have hd:tn.drop k=t::tn.drop (k+1):=by
         obtain⟨h1,e⟩:=List.getElem?_eq_some_iff.1 ht
         rw[List.drop_eq_getElem_cons h1,e]
        rw[hd,List.all_cons] at hr
        obtain⟨q,tr,cp,ax⟩:=t
        have hte:jbs z ⟨q,tr,cp,ax⟩=(rnP q z 4096&&(rnP tr 1 1048576&&(rnP cp 1 1024&&rnP ax 0 1024))):=by
         simp only[jbs,jan,rnP,Bool.and_true,Bool.and_assoc]
        have hno:jbs z ⟨q,tr,cp,ax⟩=false->cfgP ⟨cl,page,tn,workers,grey,gens⟩=false:=fun h=>by rw[hcr,hr,h];rfl
        rw[hte] at hr hno
        (iterate 24 first|refine yS ?_|intro _);refine yq8 fun T hT=>?_
        refine zP ?_;rintro _ _ ⟨rfl,rfl⟩
        cases m1:rnP q z 4096 with
        |false=>
         have hf:=hno (by rw[m1];rfl)
         refine ze ?_;clear hT T;refine jbf ?_;exact zn
        |true=>
         refine ze ?_;clear hT T;refine yr4 ?_;refine zC fun T hT=>?_;refine zP ?_;rintro _ _ ⟨rfl,rfl⟩
         cases m2:rnP tr 1 1048576 with
         |false=>
          have hf:=hno (by rw[m1,m2];rfl)
          refine ze ?_;clear hT T;refine yr28 ?_;exact zn
         |true=>
          refine ze ?_;clear hT T;refine yr5 ?_;refine zC fun T hT=>?_;refine zP ?_;rintro _ _ ⟨rfl,rfl⟩
          cases m3:rnP cp 1 1024 with
          |false=>
           have hf:=hno (by rw[m1,m2,m3];rfl)
           refine ze ?_;clear hT T;refine yr22 ?_;exact zn
          |true=>
           refine ze ?_;clear hT T;refine yr5 ?_;refine zC fun T hT=>?_;refine zP ?_;rintro _ _ ⟨rfl,rfl⟩
           cases m4:rnP ax 0 1024 with
           |false=>
            have hf:=hno (by rw[m1,m2,m3,m4];rfl)
            refine ze ?_;clear hT T;refine yr16 ?_;exact zn
           |true=>
            rw[m1,m2,m3,m4,Bool.true_and,Bool.true_and,Bool.true_and,Bool.true_and] at hr;refine ze ?_;clear hT T;refine yr13 ?_;exact zbT
       ·have hf:cfgP ⟨cl,page,tn,workers,grey,gens⟩=true:=by rw[hcr,hr,List.drop_of_length_le bc];rfl
        refine yr22 ?_;exact zn
theorem jgz {w0:World} {H:jb} {c:Cfg} {vc vt:Value} {t k:Int} (hR:Jl w0 H c vc vt):
  Cs w0 50 [jA c vc vt, .int .i64 t, .int .i64 k] H (.bool (Jh c t k)):=by
 have hc0:=fun A (hp:Part A H)=>jhF (hR.part hp)
 obtain⟨hS,hT',o1,o2,l1,l2⟩:=hR
 have he:Jh c t k=(cfgP c&&(rnP t 0 ((c.tn.length:Nat)-1)&&rnP k 0 ((c.cl.length:Nat)-1))):=by
  simp only[Jh,jan,rnP,Bool.and_true,Bool.and_assoc]
 obtain⟨cl,page,tn,workers,grey,gens⟩:=c
 dsimp only at hS hT' l1 l2 he;simp only[jA,jV] at hc0|-;refine en3 26 Tryz.func50 ?_
 (iterate 4 first|refine yS ?_|intro _);refine yq6 fun T hT=>?_
 refine(CallV.fn (hc0 _ ja)).mono ?_;rintro _ _ ⟨rfl,rfl⟩
 cases hc:cfgP ⟨cl,page,tn,workers,grey,gens⟩ with
 |false=>
  rw[hc,Bool.false_and] at he;refine zaO ?_;clear hT T;refine yr21 ?_;exact zN
 |true=>
  rw[hc,Bool.true_and] at he;simp only[jaX,if_true];refine ze ?_;clear hT T;refine yr7 ?_;refine zC fun T hT=>?_;refine zP ?_;rintro _ _ ⟨rfl,rfl⟩
  cases g1:rnP t 0 ((tn.length:Nat)-1) with
  |false=>
   rw[g1,Bool.false_and] at he;refine ze ?_;clear hT T;refine yr13 ?_;exact zN
  |true=>
   rw[g1,Bool.true_and] at he;refine ze ?_;clear hT T;refine yr8 ?_;refine jj jkB ?_;refine yr5 ?_;exact zN
theorem jjp {w0:World} {H:jb} {c:Cfg} {vc vt:Value} {t k:Int} (hR:Jl w0 H c vc vt):
  Cs w0 98 [jA c vc vt, .int .i64 t, .int .i64 k] H (prV (jap c t k)):=by
 have hc0:=fun A (hp:Part A H)=>jgz (t:=t) (k:=k) (hR.part hp)
 obtain⟨hS,hT',o1,o2,l1,l2⟩:=hR
 cases ht:Jh c t k with
 |false=>
  have he:jap c t k=(0,2):=by simp[jap,ht]
  rw[ht] at hc0;rw[he]
  obtain⟨cl,page,tn,workers,grey,gens⟩:=c
  dsimp only at hS hT' l1 l2 he;simp only[jA,jV] at hc0|-;refine en3 25 Tryz.func98 ?_
  (iterate 15 first|refine yS ?_|intro _)
  refine zu ?_;refine yr12 ?_;exact zd
 |true=>
  obtain⟨i,j,x,y,rfl,rfl,hx,hy,ok⟩:=jbN ht
  have he:jap c (i:Nat) (j:Nat)=(x.quota/y,0):=by simp[jap,ht,jbc,ja5,cfgC,hx,hy]
  have hb:=(ok.ten x (List.mem_of_getElem? hx)).1
  have hb2:=ok.el y (List.mem_of_getElem? hy)
  have hil:=jl hx
  have hjl:=jl hy
  rw[ht] at hc0;rw[he]
  obtain⟨q,tr,cp,ax⟩:=x
  obtain⟨cl,page,tn,workers,grey,gens⟩:=c
  dsimp only at hS hT' l1 l2 he hx hy hb hb2 hil hjl;simp only[jA,jV] at hc0|-;refine en3 25 Tryz.func98 ?_
  (iterate 15 first|refine yS ?_|intro _)
  refine zu ?_;refine yr7 ?_;refine zac ?_;refine yr17 ?_;exact zd
theorem ceil_of {n p k:Int} (hp:1<=p) (h1:n<=k*p) (h2:k=0\/(k-1)*p<n) (hn:1<=n):(n+p-1)/p=k:=by
 have hk:k≠0:=by
  rintro rfl;rw[Int.zero_mul] at h1
  omega
 have h2':(k-1)*p<n:=by rcases h2 with h|h;exact absurd h hk;exact h
 rw[Int.sub_mul,Int.one_mul] at h2'
 obtain⟨q,hq⟩: ∃ q,q=k*p:=⟨_,rfl⟩
 rw[<-hq] at h1 h2'
 have e:n+p-1=(n+p-1-q)+k*p:=by rw[<-hq];omega
 rw[e,Int.add_mul_ediv_right _ _ bc,Int.ediv_eq_zero_of_lt bc bc]
 omega
structure RpS where
 k:Nat
theorem rPages_K {w0:World} {H:jb} {c:Cfg} {vc vt:Value} {t k:Int} (hR:Jl w0 H c vc vt):
  Cs w0 51 [jA c vc vt, .int .i64 t, .int .i64 k] H (prV (pagesP c t k)):=by
 have hc0:=fun A (hp:Part A H)=>jjp (t:=t) (k:=k) (hR.part hp)
 obtain⟨hS,hT',o1,o2,l1,l2⟩:=hR
 cases ht:Jh c t k with
 |false=>
  have he:pagesP c t k=(0,2):=by simp[pagesP,ht]
  have he2:jap c t k=(0,2):=by simp[jap,ht]
  rw[he2] at hc0;rw[he]
  obtain⟨cl,page,tn,workers,grey,gens⟩:=c
  dsimp only at hS hT' l1 l2 he;simp only[jA,jV] at hc0|-;refine en3 36 Tryz.func51 ?_;refine yr3 ?_;intro b3;refine yr10 ?_;refine Jx (hc0 _ ja) ?_;rintro _ _ ⟨rfl,rfl⟩;simp only[prV];refine yr24 ?_;exact zd
 |true=>
  obtain⟨i,j,x,y,rfl,rfl,hx,hy,ok⟩:=jbN ht
  have he:pagesP c (i:Nat) (j:Nat)=(jcV c.page x.quota y,0):=by simp[pagesP,ht,ja5,cfgC,hx,hy]
  have hb:=(ok.ten x (List.mem_of_getElem? hx)).1
  have hb2:=ok.el y (List.mem_of_getElem? hy)
  have hpg:=ok.page
  have hn:jap c (i:Nat) (j:Nat)=(jbc x.quota y,0):=by simp[jap,ht,ja5,cfgC,hx,hy]
  have hsl:=jgw (q:=x.quota) (y:=y) bc bc hb.2
  have hper:1<=c.page/y/\c.page/y<=64:=⟨(Int.le_ediv_iff_mul_le bc).2 bc,Int.le_trans (Int.ediv_le_self _ bc) hpg.2⟩
  have hil:=jl hx
  have hjl:=jl hy
  rw[hn] at hc0;rw[he]
  have hpn:jcV c.page x.quota y=(jbc x.quota y+c.page/y-1)/(c.page/y):=rfl
  rw[hpn]
  obtain⟨n,hn'⟩: ∃ n,n=jbc x.quota y:=⟨_,rfl⟩
  rw[<-hn'] at hc0 hsl|-
  obtain⟨q,tr,cp,ax⟩:=x
  obtain⟨cl,page,tn,workers,grey,gens⟩:=c
  dsimp only at hS hT' l1 l2 he hx hy hb hb2 hil hjl hpg hper;simp only[jA,jV] at hc0|-
  obtain⟨pr,hpr⟩: ∃ p,p=page/y:=⟨_,rfl⟩
  rw[<-hpr] at hper|-;refine en3 36 Tryz.func51 ?_;refine yr3 ?_;intro b3;refine yr10 ?_;refine Jx (hc0 _ ja) ?_;rintro _ _ ⟨rfl,rfl⟩;simp only[prV];refine yr24 ?_;refine K.loopT (σ:=RpS) [(2,_),(3,_),(8,_)] (fun s kp_=>(10, .int .i64 (s.k:Nat))::kp_) (fun s=>(b3,cells [vc, .int .i64 page,vt, .int .i64 workers, .int .i64 grey, .int .i64 gens] 25)::H) (fun s=>s.k<=4096/\(s.k=0\/((s.k:Int)-1)*pr<n)) (fun s=>4096-s.k) (⟨0⟩) jg ja (⟨by simp,by simp⟩) ?_;rintro⟨u⟩ ⟨hu,hr⟩;dsimp only at hu hr|-
  have hum:0<=(u:Int)*(page/y):=Int.mul_nonneg bc (by rw[<-hpr];omega)
  have hum1:(u:Int)<=(u:Int)*(page/y):=by
   have:(u:Int)*1<=(u:Int)*(page/y):=Int.mul_le_mul_of_nonneg_left (by rw[<-hpr];exact hper.1) bc
   omega
  have hum2:(u:Int)*(page/y)<=262144:=by
   have:(u:Int)*(page/y)<=(u:Int)*64:=Int.mul_le_mul_of_nonneg_left (by rw[<-hpr];exact hper.2) bc
   omega
  by_cases hlt:(u:Int)*(page/y)<n
  ·have hu4:u+1<=4096:=by omega
   have hnx:(((u+1:Nat):Int)-1)*pr<n:=by rw[show(((u+1:Nat):Int)-1)=(u:Int) by omega,hpr];exact hlt
   refine yr2 ?_;refine K.dr [] (od 0 [0,0,0,0,0,0,0,0,0,0,0,0]) Part.nil ?_;refine yr24 ?_;exact KE.again ⟨u+1⟩ jg ja ⟨hu4, .inr hnx⟩ (by show 4096-(u+1)<4096-u;omega)
  ·have hcl:(n+pr-1)/pr=(u:Int):=ceil_of hper.1 (by rw[hpr];omega) (by rcases hr with h|h;exact .inl bc;exact .inr h) bc
   rw[hcl];refine yr2 ?_;refine K.dr [] (od 0 [0,0,0,0,0,0,0,0,0,0,0,0]) Part.nil ?_;refine yr28 ?_;exact zd
section
variable {w0 : World} {F : jb} {B : BoM} {x : List Int} {s : Nat} {y : jn}
theorem bat_K {ref:Bool} {i:Int} {g:FuncId} {cap:List Value} {B1:jb} (hG:ju w0) (ok:jaf B x) (hy:B.p.g.L[s]?=some y)
  (hdo:fldP x y ref i=0-> ∀ A,CallV Tryz.prog w0 (.func (.func g) #[] cap.toArray) [.int .i64 (fAt y i:Nat)] (A++(jT B++(jy B.m++(planH B.p++F)))) (fun r H'=>r= .tuple #[]/\H'=A++B1)):
  Call Tryz.prog w0 367 [pt B.b, .bool ref, .int .i64 (s:Nat), .int .i64 i, .func (.func g) #[] cap.toArray] (jT B++(jy B.m++(planH B.p++F)))
   (fun r H'=>r= .int .i64 (fldP x y ref i)/\H'=if fldP x y ref i=0 then B1 else jT B++(jy B.m++(planH B.p++F))):=by
 obtain⟨f1,f2,f3,_⟩:=ok.p.g.fits hy
 have hfl:fldP x y ref i=match headP x y with|none=>5|some h=>if 0<=i/\i<h.r+h.w/\decide (i<h.r)=ref then 0 else 110:=rfl
 have hwords:=ok.p.g.words
 have hhm: ∀ h,headP x y=some h->Jb h=true:=fun h e=>(jbm (jb1 e).2).1
 have hin:=fun(e:fldP x y ref i=0)=>J7 e
 refine en5 53 Tryz.func367 ?_;refine yq9 fun T hT=>?_;refine(CallV.part (CallV.fn (jdg hG ok hy)) ja).mono ?_;rintro _ _ ⟨rfl,rfl⟩;unfold headV
 cases hh:headP x y with
 |none=>
  rw[hh] at hfl;dsimp only at hfl;unfold hdV;dsimp only;refine ze ?_;clear hT T;rw[hfl,if_neg bn];refine yr4 ?_;intro b11;refine yr20 ?_;exact zd
 |some h=>
  rw[hh] at hfl;dsimp only at hfl
  have hm:=hhm h hh
  have hF:=fun A=>jjN (w0:=w0) (H:=A) (h:=h) (i:=i)
  have hfd:JJ h i=if i<0\/i>=h.r+h.w then(false,110) else(decide (i<h.r),0):=by unfold JJ;rw [if_pos hm]
  obtain⟨c,r,w⟩:=h
  unfold hdV at*;dsimp only at*;clear hhm
  by_cases h1:i<0\/i>=r+w
  ·rw[if_pos h1] at hfd;rw[if_neg bc] at hfl;simp only[hfd] at hF;refine ze ?_;clear hT T;rw[hfl,if_neg bn];refine yr4 ?_;intro b11;refine yr20 ?_;refine jj (hF _) ?_;refine yr26 ?_;exact zd
  ·rw[if_neg h1] at hfd;simp only[hfd] at hF
   by_cases h2:decide (i<r)=ref
   ·rw[if_pos ⟨by omega,by omega,h2⟩] at hfl
    obtain⟨q1,q2,q3⟩:=hin hfl
    have had:((y.addr:Nat):Int)+1+i=(fAt y i:Nat):=by unfold fAt;omega
    subst h2;refine ze ?_;clear hT T;rw[hfl,if_pos rfl];refine yr4 ?_;intro b11;refine yr20 ?_;refine Jx (hF _) ?_;rintro _ _ ⟨rfl,rfl⟩
    have hdo1:=hdo hfl [(b11,cells [.int .i64 c, .int .i64 r, .int .i64 w] 225)]
    have hbn:(decide (i<r) !=decide (i<r))=false:=by simp
    refine yr18 ?_;rw[hbn];refine yr8 ?_;refine zad ?_;refine yq16 fun T hT=>?_;rw[had];refine(CallV.part hdo1 ja).mono ?_;rintro _ _ ⟨rfl,rfl⟩;refine ze ?_;clear hT T;refine yr8 ?_;exact zd
   ·rw[if_neg (by intro h;exact h2 h.2.2)] at hfl
    have hbn:(decide (i<r) !=ref)=true:=by
     cases hd:decide (i<r)<;>cases ref<;>simp_all
    refine ze ?_;clear hT T;rw[hfl,if_neg bn];refine yr4 ?_;intro b11;refine yr20 ?_;refine jj (hF _) ?_;refine yr18 ?_;rw[hbn];refine yr8 ?_;exact zd
theorem jj0 {ref:Bool} {i w:Int} (hG:ju w0) (ok:jaf B x) (hy:B.p.g.L[s]?=some y):
  Call Tryz.prog w0 304 [pt B.b, .bool ref, .int .i64 (s:Nat), .int .i64 i, .int .u64 w] (jT B++(jy B.m++(planH B.p++F)))
   (fun r H'=>r= .int .i64 (fldP x y ref i)/\H'=jT B++(jy (jae B.m B.t (if fldP x y ref i=0 then x.set (fAt y i) w else x))++(planH B.p++F))):=by
 have okm:=ok.m
 have hr:=ok.r
 obtain⟨f1,f2,f3,_⟩:=ok.p.g.fits hy
 have hin:=fun(e:fldP x y ref i=0)=>J7 e
 have hn:=ok.n
 have hself:=jeJ hr
 refine en5 17 Tryz.func304 ?_;refine yr3 ?_;intro b5;refine yr1 ?_;intro b9;refine yq10 fun T hT=>?_
 refine(CallV.part (CallV.fn (bat_K (F:=(b5,cells [pt B.b] 147)::(b9,cells [.int .u64 w] 67)::F) (ref:=ref) (i:=i) (g:=369) (cap:=[pt b5,pt b9])
  (B1:=jT B++(jy (jae B.m B.t (x.set (fAt y i) w))++(planH B.p++((b5,cells [pt B.b] 147)::(b9,cells [.int .u64 w] 67)::F)))) hG ok hy ?_)) ja).mono ?_
 ·intro e A
  obtain⟨q1,q2,q3⟩:=hin e
  refine CallV.clo (cap:=[pt b5,pt b9]) ?_;refine en3 15 Tryz.func369 ?_;rw[J5];refine zae ?_;refine yr10 ?_;refine zj fun T hT=>?_;refine(CallV.part (CallV.fn (Store_K (t:=B.t) (a:=fAt y i) (x:=x) (w:=w) okm hr bc)) ja).mono ?_;rintro _ _ ⟨rfl,rfl⟩;rw[jjd hr];refine zf ?_;clear hT T;refine yr1 ?_;exact KE.finN jd rfl jc (by rw[J5];exact ja) ⟨rfl,rfl⟩
 ·rintro _ _ ⟨rfl,rfl⟩
  by_cases e:fldP x y ref i=0
  ·rw[if_pos e];refine ze ?_;clear hT T;rw[if_pos e];refine yr4 ?_;exact zd
  ·rw[if_neg e];refine ze ?_;clear hT T;rw[if_neg e,hself];refine yr4 ?_;exact zd
theorem jhL {i w:Int}:J6 x y i w=(fldP x y false i,if fldP x y false i=0 then x.set (fAt y i) w else x):=by
 unfold J6;split
 ·rename_i h;rw [h]
 ·rfl
theorem jl6 {i w:Int} (hG:ju w0) (ok:jaf B x) (hy:B.p.g.L[s]?=some y):
  Call Tryz.prog w0 206 [pt B.b, .int .i64 (s:Nat), .int .i64 i, .int .u64 w] (jT B++(jy B.m++(planH B.p++F)))
   (fun r H'=>r= .int .i64 (J6 x y i w).1/\H'=jT B++(jy (jae B.m B.t (J6 x y i w).2)++(planH B.p++F))):=by
 rw[jhL];dsimp only;refine en4 14 Tryz.func206 ?_;refine yr12 ?_;refine ji (jj0 hG ok hy) ja ?_;refine yr4 ?_;exact zd
end
structure WpA where
 b6:Nat
 vr:Value
 R:List RwD
 N:jb
section
variable {w0 : World} {D F : jb} {v : PlV} {vr : Value} {g : PlG} {R : List RwD} {t s : Nat} {x : List Int} {y : jn}
theorem jd5 {g:PlG} {s:Nat} {y:jn} (hy:g.L[s]?=some y):decide (0<=((s:Nat):Int)/\((s:Nat):Int)<(g.slots:Nat))=true:=by
 have:=jl hy
 rw[jak] at this;exact decide_eq_true bc
theorem je1 (hB:BoD w0 D v vr g R) (hf:BoF g R t x) (hy:g.L[s]?=some y):
  Cs w0 144 [.agg (boL v g vr t).toArray, .int .i64 (s:Nat)] (D++F) (headV (headP x y)):=by
 have ho:=hB.m.o
 have q1:=hB.p.oL
 have q2:=hB.p.oF
 have q3:=hB.p.oM
 have q4:=hB.p.oC
 have hHas:=fun A=>jek (w0:=w0) (D:=D) (F:=A) (n:=(s:Nat)) hB.p hf.ok
 simp only[jd5 hy] at hHas
 obtain⟨f1,f2,_⟩:=hf.ok.fits hy
 have hlx:=hf.l
 have hal:y.addr+0<x.length:=by omega
 have hload:=fun A=>je0 (w0:=w0) (D:=D) (F:=A) (i:=0) hB hf hy hal
 obtain⟨w1,w2⟩:=hf.w.at_ y.addr
 obtain⟨w,hw⟩: ∃ w:Nat,wAt x y.addr=w:=⟨(wAt x y.addr).toNat,by omega⟩
 have hhead:headP x y=match jbH w with|some h=>if JA y h then some h else none|none=>none:=by unfold headP;rw [hw];rfl
 have hwl:w<18446744073709551616:=by omega
 have hlies:=fun A h=>jjm (w0:=w0) (D:=D) (F:=A) (t:=t) (h:=h) hB hy
 simp only[Nat.add_zero,hw] at hload;clear hw w1 w2;unfold boL at*;unfold plL at hHas;refine en2 32 Tryz.func144 ?_
 (iterate 16 first|refine yS ?_|intro _)
 refine zK ?_;refine yr11 ?_;refine ji (hload _) ja ?_;refine zbo fun T hT=>?_;refine(CallV.fn (rGet_K hwl)).mono ?_;rintro _ _ ⟨rfl,rfl⟩;unfold jbD
 cases hg:jbH w with
 |none=>
  rw[hg] at hhead;dsimp only at hhead|-;unfold hdV;dsimp only;refine ze ?_;clear hT T;rw[hhead];unfold headV hdV
  (iterate 33 first|refine yS ?_|intro _)
  exact zd
 |some h=>
  rw[hg] at hhead;dsimp only at hhead|-
  have hl1:=fun A=>hlies A h
  obtain⟨c,r,w⟩:=h
  unfold hdV at*;dsimp only at*;refine ze ?_;clear hT T
  (iterate 18 first|refine yS ?_|intro _)
  refine zC fun T hT=>?_;refine(CallV.part (CallV.fn (hl1 _)) ja).mono ?_;rintro _ _ ⟨rfl,rfl⟩
  cases hl:JA y ⟨c,r,w⟩ with
  |true=>
   rw[hl] at hhead;simp only[if_true] at hhead;refine ze ?_;clear hT T;rw[hhead];unfold headV hdV;refine yr15 ?_;exact zd
  |false=>
   rw[hl] at hhead;simp only[Bool.false_eq_true,if_false] at hhead;refine ze ?_;clear hT T;rw[hhead];unfold headV hdV;refine yr14 ?_;exact zd
theorem jjn (hB:BoD w0 D v vr g R) (hf:BoF g R t x) (hy:g.L[s]?=some y):
  Call Tryz.prog w0 189 [.agg (boL v g vr t).toArray, .int .i64 (s:Nat)] (D++F) (fun r H'=> ∃ (vr':Value) (R':List RwD) (N:jb),BoD w0 (N++D) v vr' g R'/\rwX R'=(rwX R).set t (JH x y)/\r= .tuple [.agg (boL v g vr' t).toArray, .int .i64 0].toArray/\H'=N++(D++F)):=by
 obtain⟨q,hq,hqx⟩:=hf.q
 subst hqx
 have hL:=hB.p.L
 have ho:=hB.m.o
 have q1:=hB.p.oL
 have q2:=hB.p.oF
 have q3:=hB.p.oM
 have q4:=hB.p.oC
 have hsl:=jl hy
 have hfit:=hf.ok.fits hy
 have hww:=hf.ok.words
 have hlx:=hf.l
 have hHas:=fun A=>jek (w0:=w0) (D:=D) (F:=A) (n:=(s:Nat)) hB.p hf.ok
 simp only[jd5 hy] at hHas;unfold boL;unfold plL at hHas;refine en2 42 Tryz.func189 ?_;refine yr3 ?_;intro b2;refine yr1 ?_;intro b4;refine yr10 ?_;refine zK ?_;refine yr6 ?_;refine K.cutT (σ:=WpA) [(2,_),(4,_)] jg (fun s kp_=>(6,pt s.b6)::kp_) (fun s=>s.N++((s.b6,cells [s.vr] 40)::(b2,cells [vr, .int .i64 (t:Nat),v.L,v.F,v.M, .int .i64 (g.words:Nat),v.C] 42)::(b4,cells [.slice none 0 0, .int .i64 0, .slice none 0 0, .slice none 0 0, .slice none 0 0, .int .i64 0, .slice none 0 0] 42)::(D++F))) (fun s=>jaE w0 (s.N++D) s.vr s.R/\rwX s.R=(rwX R).set t (JH q.x y)) ?_ ?_
 ·skip
  refine zi ?_;refine K.dr ((b2,cells [vr, .int .i64 (t:Nat),v.L,v.F,v.M, .int .i64 (g.words:Nat),v.C] 42)::D) (od 0 [1,1,1,1,1,1,1,1,1,1,1,1,1,1,1,1,1,1,3,1,1,1,2,2,0]) ja ?_;refine yr18 ?_;refine KD.fork2 (x:=18) (y:=22) (o1:=[(19,1),(20,1),(21,1),(22,2),(23,2),(24,0)]) (o2:=[(18,2),(19,0),(20,0),(21,1),(23,2),(24,0)]) bu rfl rfl bu bu ?_ ?_
  ·refine zk fun T hT=>?_;refine(CallV.part (CallV.fn (jkE (a:=y.addr) (n:=y.size) hB.m hf.n hq bc bc)) ja).mono ?_;rintro _ _ ⟨vr',R',N,hM',hX,rfl,rfl⟩
   have ho':=hM'.o
   refine zf ?_;clear hT T;refine yr4 ?_;intro b6;refine yr5 ?_;exact KE.meet ⟨b6,vr',R',N⟩ jg ja ⟨hM',hX⟩
  ·(refine jR.e rfl (Eff.alloc rfl) ?_;rintro _ _ ⟨b6,rfl,rfl⟩;refine⟨ja,?_⟩)
   refine yr1 ?_;refine je (jkE (a:=y.addr) (n:=y.size) hB.m hf.n hq bc bc) ja ?_;rintro _ _ ⟨vr',R',N,hM',hX,rfl,rfl⟩
   have ho':=hM'.o
   refine yr8 ?_;exact KE.meet ⟨b6,vr',R',N⟩ jg ja ⟨hM',hX⟩
 ·rintro⟨b6,vr',R',N⟩ ⟨hM',hX⟩;dsimp only at hM' hX|-
  have ho':=hM'.o
  refine yr13 ?_;exact zbV
end
section
variable {w0 : World} {F : jb} {B : BoM} {x : List Int} {s : Nat} {y : jn}
theorem bload_K {ref:Bool} {i:Int} (hG:ju w0) (ok:jaf B x) (hy:B.p.g.L[s]?=some y):
  Call Tryz.prog w0 302 [pt B.b, .bool ref, .int .i64 (s:Nat), .int .i64 i] (jT B++(jy B.m++(planH B.p++F)))
   (fun r H'=>r= .tuple [.int .u64 (if fldP x y ref i=0 then wAt x (fAt y i) else 0), .int .i64 (fldP x y ref i)].toArray/\H'=jT B++(jy B.m++(planH B.p++F))):=by
 have okm:=ok.m
 have hr:=ok.r
 obtain⟨f1,f2,f3,_⟩:=ok.p.g.fits hy
 have hin:=fun(e:fldP x y ref i=0)=>J7 e
 have hn:=ok.n
 refine en4 18 Tryz.func302 ?_;refine yr3 ?_;intro b4;refine yr1 ?_;intro b8;refine yq10 fun T hT=>?_
 refine(CallV.part (CallV.fn (bat_K (F:=(b4,cells [pt B.b] 147)::(b8,cells [.int .u64 0] 67)::F) (ref:=ref) (i:=i) (g:=368) (cap:=[pt b4,pt b8])
  (B1:=jT B++(jy B.m++(planH B.p++((b4,cells [pt B.b] 147)::(b8,cells [.int .u64 (wAt x (fAt y i))] 67)::F)))) hG ok hy ?_)) ja).mono ?_
 ·intro e A
  obtain⟨q1,q2,q3⟩:=hin e
  have hwx:=jgW (x:=x) (a:=fAt y i) (by rw[hn];omega)
  refine CallV.clo (cap:=[pt b4,pt b8]) ?_;refine en3 17 Tryz.func368 ?_;rw[J5];refine K.dr _ (od 0 [0,0,0,0,0,0,0,0,0,2,0,0,1,2]) (Part.takeA jE.head (Part.takeA jE.head (Part.takeA jE.head (Part.takeA jE.head (Part.take jx.head (Part.drop Part.all)))))) ?_;refine yr10 ?_;refine ji (Load_K okm hr hwx) ja ⟨ja,?_⟩;refine yr6 ?_;exact KE.finN jd rfl jc (by rw[J5];exact ja) ⟨rfl,rfl⟩
 ·rintro _ _ ⟨rfl,rfl⟩
  by_cases e:fldP x y ref i=0
  ·rw[if_pos e];refine ze ?_;clear hT T;simp only[if_pos e];refine yr12 ?_;exact zd
  ·rw[if_neg e];refine ze ?_;clear hT T;simp only[if_neg e];refine yr12 ?_;exact zd
theorem bRef_K {i:Int} (hG:ju w0) (ok:jaf B x) (hy:B.p.g.L[s]?=some y):
  Call Tryz.prog w0 204 [pt B.b, .int .i64 (s:Nat), .int .i64 i] (jT B++(jy B.m++(planH B.p++F)))
   (fun r H'=>r= .tuple [.int .i64 (refP x B.p.g.slots y i).1, .int .i64 (refP x B.p.g.slots y i).2].toArray/\H'=jT B++(jy B.m++(planH B.p++F))):=by
 have okp:=ok.p
 have hs:=okp.g.slots
 have hw:=ok.w.at_ (fAt y i)
 obtain⟨e,he⟩: ∃ e,fldP x y true i=e:=⟨_,rfl⟩
 obtain⟨v,hv⟩: ∃ v,wAt x (fAt y i)=v:=⟨_,rfl⟩
 have hl:=fun A=>bload_K (w0:=w0) (F:=A) (ref:=true) (i:=i) hG ok hy
 unfold refP;rw[he] at hl|-;rw[hv] at hw hl|-
 by_cases h0:e=0
 ·subst h0;simp only[if_true] at hl|-
  by_cases hgt:v>(B.p.g.slots:Nat)
  ·rw[if_pos hgt]
   have hgt':((B.p.g.slots:Nat):Int)<v:=hgt
   refine en3 33 Tryz.func204 ?_;refine yr12 ?_;refine ji (hl _) ja ?_;refine yr25 ?_;refine zO ?_;refine yr15 ?_;exact zd
  ·rw[if_neg hgt]
   have hgt': ¬v>((B.p.g.slots:Nat):Int):=hgt
   refine en3 33 Tryz.func204 ?_;refine yr12 ?_;refine ji (hl _) ja ?_;refine yr25 ?_;refine zO ?_;refine yr19 ?_;exact zd
 ·simp only[if_neg h0] at hl|-;refine en3 33 Tryz.func204 ?_;refine yr12 ?_;refine ji (hl _) ja ?_;refine yr27 ?_;exact zd
theorem bSetRef_K {i to:Int} (hG:ju w0) (ok:jaf B x) (hy:B.p.g.L[s]?=some y):
  Call Tryz.prog w0 207 [pt B.b, .int .i64 (s:Nat), .int .i64 i, .int .i64 to] (jT B++(jy B.m++(planH B.p++F)))
   (fun r H'=>r= .int .i64 (Jp x B.p.g.slots y i to).1/\H'=jT B++(jy (jae B.m B.t (Jp x B.p.g.slots y i to).2)++(planH B.p++F))):=by
 have okp:=ok.p
 have hs:=okp.g.slots
 have hself:=jeJ ok.r
 have hst:=fun A=>jj0 (w0:=w0) (F:=A) (ref:=true) (i:=i) (w:=to+1) hG ok hy
 unfold Jp
 by_cases h1:to< -1
 ·rw[if_pos (.inl h1)];dsimp only;rw[hself];refine en4 40 Tryz.func207 ?_;refine yr11 ?_;refine zad ?_;refine yr42 ?_;exact zd
 ·by_cases h2:to>=(B.p.g.slots:Nat)
  ·rw[if_pos (.inr h2)];dsimp only;rw[hself]
   have h2':to>=((B.p.g.slots:Nat):Int):=h2
   refine en4 40 Tryz.func207 ?_;refine yr11 ?_;refine zad ?_;refine yr30 ?_;refine zO ?_;refine yr12 ?_;exact zd
  ·rw[if_neg bc]
   have h2': ¬to>=((B.p.g.slots:Nat):Int):=h2
   refine en4 40 Tryz.func207 ?_;refine yr11 ?_;refine zad ?_;refine yr30 ?_;refine zO ?_;refine yr16 ?_;refine ji (hst _) ja ?_
   by_cases e:fldP x y true i=0
   ·simp only[e,if_true];refine yr4 ?_;exact zd
   ·simp only[if_neg e];refine yr4 ?_;exact zd
