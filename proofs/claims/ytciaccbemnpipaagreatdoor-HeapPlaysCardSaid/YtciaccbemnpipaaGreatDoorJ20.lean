/-The walker and contracts, part 20.-/
import Derived.Test.YtciaccbemnpipaaGreatDoorJ18
import Derived.Test.YtciaccbemnpipaaGreatDoorJ19
set_option linter.all false
namespace Go.Proofs.YtciaccbemnpipaaGreatDoor.Sw
set_option maxHeartbeats 8000000
open Go.Proofs.YtciaccbemnpipaaGreatDoor renaming lo -> qL, hi -> qH
open Go.RowKit
set_option maxRecDepth 10000
def Jj (f:Nat->Int):Nat->Int
 |0=>0
 |k+1=>Jj f k+f k
theorem jcF {f:Nat->Int} {B:Int}: ∀ {n:Nat},(∀ i,i<n->0<=f i/\f i<=B)->0<=Jj f n/\Jj f n<=(n:Int)*B
 |0,_=>by simp[Jj]
 |n+1,h=>by
  obtain⟨h1,h2⟩:=jcF (n:=n) (fun i hi=>h i bc)
  obtain⟨h3,h4⟩:=h n bc
  have e:((n+1:Nat):Int)*B=(n:Int)*B+B:=by rw[Int.natCast_add,Int.add_mul];simp
  rw[e];simp only[Jj]
  omega
structure SmS where
 k:Nat
theorem sumI_K {w0:World} {H:jb} {v fv:Value} {l:List Int} {f:Nat->Int} (hS:Sli w0 H iE v l) (hl:l.length<=8) (hB: ∀ i,i<l.length->0<=f i/\f i<=1048576)
  (hf: ∀ i,i<l.length->CallV Tryz.prog w0 fv [.int .i64 (i:Nat)] H (fun r H'=>r= .int .i64 (f i)/\H'=H)):
  Cs w0 152 [v,fv] H (.int .i64 (Jj f l.length)):=by
 refine en2 19 Tryz.func152 ?_;refine yr19 ?_;refine zbX ?_;rintro⟨k⟩ hk;dsimp only at hk|-
 by_cases hlt:k<l.length
 ·have b1:=jcF (f:=f) (n:=k) (fun i hi=>hB i bc)
  have b2:=hB k hlt
  obtain⟨a,ha⟩: ∃ a,a=Jj f k:=⟨_,rfl⟩
  obtain⟨b,hb⟩: ∃ b,b=f k:=⟨_,rfl⟩
  have hs:Jj f (k+1)=a+b:=by rw[ha,hb];rfl
  rw[<-ha] at b1|-;rw[<-hb] at b2
  have hfk:=hf k hlt
  rw[<-hb] at hfk;refine yq21 fun T hT=>?_;refine hfk.mono ?_;rintro _ _ ⟨rfl,rfl⟩;refine ze ?_;clear hT T;refine yr9 ?_;rw[<-hs];exact zbY
 ·have hke:k=l.length:=by omega
  subst hke;refine yr19 ?_;exact zd
theorem sumT_K {w0:World} {H:jb} {v fv:Value} {l:List Tn} {f:Nat->Int} (hS:Sli w0 H tnE v l) (hl:l.length<=8) (hB: ∀ i,i<l.length->0<=f i/\f i<=1048576)
  (hf: ∀ i,i<l.length->CallV Tryz.prog w0 fv [.int .i64 (i:Nat)] H (fun r H'=>r= .int .i64 (f i)/\H'=H)):
  Cs w0 82 [v,fv] H (.int .i64 (Jj f l.length)):=by
 refine en2 19 Tryz.func82 ?_;refine yr19 ?_;refine zbX ?_;rintro⟨k⟩ hk;dsimp only at hk|-
 by_cases hlt:k<l.length
 ·have b1:=jcF (f:=f) (n:=k) (fun i hi=>hB i bc)
  have b2:=hB k hlt
  obtain⟨a,ha⟩: ∃ a,a=Jj f k:=⟨_,rfl⟩
  obtain⟨b,hb⟩: ∃ b,b=f k:=⟨_,rfl⟩
  have hs:Jj f (k+1)=a+b:=by rw[ha,hb];rfl
  rw[<-ha] at b1|-;rw[<-hb] at b2
  have hfk:=hf k hlt
  rw[<-hb] at hfk;refine yq21 fun T hT=>?_;refine hfk.mono ?_;rintro _ _ ⟨rfl,rfl⟩;refine ze ?_;clear hT T;refine yr9 ?_;rw[<-hs];exact zbY
 ·have hke:k=l.length:=by omega
  subst hke;refine yr19 ?_;exact zd
def pwP (c:Cfg) (t:Int) (k:Nat):Int:=(pagesP c t (k:Nat)).1*c.page
def wordsP (c:Cfg) (t:Int):Int:=Jj (pwP c t) c.cl.length
def jav (c:Cfg) (t:Int):Int × Int:=if Jh c t 0 then(wordsP c t,0) else(0,2)
def jbp (c:Cfg) (t:Int):Int × Int:=if Jh c t 0 then(Jj (fun i=>wordsP c (i:Nat)) t.toNat,0) else(0,2)
def totalP (c:Cfg):Int × Int:=if cfgP c then(Jj (fun i=>wordsP c (i:Nat)) c.tn.length,0) else(0,2)
theorem jbl {c:Cfg} {i j:Nat} (hc:cfgP c=true) (hi:i<c.tn.length) (hj:j<c.cl.length):Jh c (i:Nat) (j:Nat)=true:=by
 simp only[Jh,hc,jan,Bool.and_eq_true,decide_eq_true_eq]
 refine⟨trivial,?_,?_,?_,?_,trivial⟩<;>omega
theorem jgC {c:Cfg} {t k:Int} (h:Jh c t k=true):1<=(pagesP c t k).1/\(pagesP c t k).1<=2048/\(pagesP c t k).2=0:=by
 have h':=h
 obtain⟨i,j,x,y,rfl,rfl,hx,hy,ok⟩:=jbN h
 have hb:=(ok.ten x (List.mem_of_getElem? hx)).1
 have hb2:=ok.el y (List.mem_of_getElem? hy)
 have hpg:=ok.page
 have he:pagesP c (i:Nat) (j:Nat)=(jcV c.page x.quota y,0):=by simp[pagesP,h',ja5,cfgC,hx,hy]
 have hsl:=jgw (q:=x.quota) (y:=y) bc bc hb.2
 have hper:1<=c.page/y/\c.page/y<=64:=⟨(Int.le_ediv_iff_mul_le bc).2 bc,Int.le_trans (Int.ediv_le_self _ bc) hpg.2⟩
 rw[he];unfold jcV;unfold jbc at hsl
 obtain⟨n,hn⟩: ∃ n,n=x.quota/y:=⟨_,rfl⟩
 obtain⟨p,hp⟩: ∃ p,p=c.page/y:=⟨_,rfl⟩
 rw[<-hn] at hsl|-;rw[<-hp] at hper|-;refine⟨(Int.le_ediv_iff_mul_le bc).2 bc,?_,rfl⟩
 have h1:(n+p-1)/p<n+1:=(Int.ediv_lt_iff_lt_mul bc).2 (by
  have e:(n+1)*p=n*p+p:=by rw[Int.add_mul,Int.one_mul]
  have:n*1<=n*p:=Int.mul_le_mul_of_nonneg_left hper.1 bc
  omega)
 show(n+p-1)/p<=2048
 omega
theorem pw_le {c:Cfg} {t:Int} {k:Nat} (h:Jh c t (k:Nat)=true):0<=pwP c t k/\pwP c t k<=131072:=by
 obtain⟨h1,h2,_⟩:=jgC h
 obtain⟨i,j,x,y,_,_,hx,hy,ok⟩:=jbN h
 have hb2:=ok.el y (List.mem_of_getElem? hy)
 have hpg:=ok.page
 unfold pwP;refine⟨Int.mul_nonneg bc bc,?_⟩
 have h3:(pagesP c t (k:Nat)).1*c.page<=2048*c.page:=Int.mul_le_mul_of_nonneg_right h2 bc
 omega
theorem jdy {c:Cfg} {i:Nat} (hc:cfgP c=true) (hi:i<c.tn.length):0<=wordsP c (i:Nat)/\wordsP c (i:Nat)<=1048576:=by
 have ok:=jaz hc
 have h:=jcF (f:=pwP c (i:Nat)) (B:=131072) (n:=c.cl.length) (fun k hk=>pw_le (jbl hc hi hk))
 have:=ok.cl.2
 unfold wordsP
 omega
theorem words1_K {w0:World} {F:jb} {c:Cfg} {vc vt:Value} {b1 b2 i k:Nat} (hR:Jl w0 F c vc vt) (hc:cfgP c=true) (hi:i<c.tn.length) (hk:k<c.cl.length):
  Call Tryz.prog w0 153 [.int .i64 (k:Nat),pt b1,pt b2] ((b1,cells (jV c vc vt) 25)::(b2,cells [.int .i64 (i:Nat)] 3)::F)
   (fun r H'=>r= .int .i64 (pwP c (i:Nat) k)/\H'=(b1,cells (jV c vc vt) 25)::(b2,cells [.int .i64 (i:Nat)] 3)::F):=by
 have hth:=jbl hc hi hk
 have hc0:=fun A (hp:Part A F)=>Pages_K (t:=(i:Nat)) (k:=(k:Nat)) (hR.part hp)
 have hpl:=jgC hth
 have hpw:=pw_le hth
 have hok:=jaz hc
 have e1:pwP c (i:Nat) k=(pagesP c (i:Nat) (k:Nat)).1*c.page:=rfl
 rw[e1] at hpw|-
 obtain⟨p,hp⟩: ∃ p,p=(pagesP c (i:Nat) (k:Nat)):=⟨_,rfl⟩
 rw[<-hp] at hc0 hpl hpw|-
 obtain⟨p1,p2⟩:=p
 obtain⟨hS,hT',o1,o2,l1,l2⟩:=hR
 obtain⟨cl,page,tn,workers,grey,gens⟩:=c
 dsimp only at hS hT' l1 l2 hpl hpw hc0|-
 obtain⟨_,_,rfl⟩:=hpl
 simp only[jA,jV,prV] at hc0|-;refine en3 18 Tryz.func153 ?_;refine yr11 ?_;refine zu ?_;refine yr17 ?_;exact zd
theorem jgV {w0:World} {H:jb} {c:Cfg} {vc vt:Value} {i:Nat} (hR:Jl w0 H c vc vt) (hc:cfgP c=true) (hi:i<c.tn.length):
  Cs w0 84 [jA c vc vt, .int .i64 (i:Nat)] H (.int .i64 (wordsP c (i:Nat))):=by
 have hc1:=fun k b1 b2 (hk:k<c.cl.length)=>words1_K (b1:=b1) (b2:=b2) hR hc hi hk
 have hok:=jaz hc
 have hB:=fun k (hk:k<c.cl.length)=>pw_le (jbl hc hi hk)
 obtain⟨hS,hT',o1,o2,l1,l2⟩:=hR
 have e1:wordsP c (i:Nat)=Jj (pwP c (i:Nat)) c.cl.length:=rfl
 rw[e1]
 obtain⟨f,hf⟩: ∃ f,f=pwP c (i:Nat):=⟨_,rfl⟩
 rw[<-hf] at hB hc1|-
 obtain⟨cl,page,tn,workers,grey,gens⟩:=c
 have hcl:=hok.cl
 dsimp only at hS hT' l1 l2 hcl hc1 hB|-;simp only[jA,jV] at hc1|-;refine en2 9 Tryz.func84 ?_;refine yr3 ?_;intro b2;refine yr1 ?_;intro b3;refine yq8 fun T hT=>?_;refine(CallV.part (CallV.fn (sumI_K (H:=(b2,cells [vc, .int .i64 page,vt, .int .i64 workers, .int .i64 grey, .int .i64 gens] 25)::(b3,cells [.int .i64 (i:Nat)] 3)::H) (l:=cl) (f:=f) (hS.part ja) hcl.2 ?_ ?_)) ja).mono ?_
 ·intro k hk
  have:=hB k hk
  omega
 ·intro k hk;exact CallV.clo (cap:=[_,_]) (hc1 k _ _ hk)
 ·rintro _ _ ⟨rfl,rfl⟩;refine ze ?_;clear hT T;refine yr4 ?_;exact zd
section
variable {w0 : World} {F : jb} {k : MkM} {p : jQ}
theorem jmO {s:Nat} {c:Int} {g:FuncId} {cap:List Value} {R:jb->Prop} (ok:MkOk k p) (hc:(tiC k.c)[s]?=some c)
  (hdo:k.act=true->CallV Tryz.prog w0 (.func (.func g) #[] cap.toArray) [.int .i64 (s:Nat)] (jr k p++F) (fun r H'=>r= .tuple #[]/\R H')):
  Call Tryz.prog w0 359 [pt k.b, .int .i64 (s:Nat), .func (.func g) #[] cap.toArray] (jr k p++F) (fun r H'=>r= .int .i64 0/\(k.act=true->R H')/\(k.act=false->H'=jr k p++F)):=by
 cases ha:k.act with
 |true=>
  have h1:=hdo ha
  refine en3 27 Tryz.func359 ?_;refine yr10 ?_;refine jj (jcM ok hc) ?_;rw[js,ha];refine yr25 ?_;refine(CallV.part h1 Bf).mono ?_;rintro _ H' ⟨rfl,hR⟩;refine yr9 ?_;exact KE.fin jd rfl jc ja ⟨rfl,fun _=>hR,fun h=>by cases h⟩
 |false=>
  refine en3 27 Tryz.func359 ?_;refine yr10 ?_;refine jj (jcM ok hc) ?_;rw[js,ha];refine yr30 ?_;exact KE.fin (H':=jr k p++F) jd rfl jc Bf ⟨rfl,fun h=>(by cases h),fun _=>by rw[js,ha]⟩
theorem mkBlack_K {s:Nat} (ok:MkOk k p) (hs:s<p.g.slots):Call Tryz.prog w0 294 [pt k.b, .int .i64 (s:Nat)] (jr k p++F)
  (fun r H'=>r= .int .i64 0/\ ∃ c',MkOk {k with c:=c'} p/\c'.f=k.c.f/\tiC c'=(if k.act=true then(tiC k.c).set s 2 else tiC k.c)/\H'=jr {k with c:=c'} p++F):=by
 have okc:=ok.c
 obtain⟨c,hc⟩:=jdD ok hs
 have hsl:s<k.c.l.length:=by rw[ok.n];exact hs
 refine en2 9 Tryz.func294 ?_;refine yr3 ?_;intro b2;refine yq8 fun T hT=>?_
 refine(CallV.part (CallV.fn (jmO (F:=(b2,cells [pt k.b] 150)::F) (g:=360) (cap:=[pt b2])
  (R:=fun H'=> ∃ c',MkOk {k with c:=c'} p/\c'.f=k.c.f/\tiC c'=(tiC k.c).set s 2/\H'=jr {k with c:=c'} p++((b2,cells [pt k.b] 150)::F)) ok hc ?_)) ja).mono ?_
 ·intro ha;refine CallV.clo (cap:=[pt b2]) ?_;refine en2 9 Tryz.func360 ?_;rw[js];refine yr7 ?_;refine je (jf2 okc hsl) ja ?_;rintro _ _ ⟨rfl,c',kc,cb,cf,cc,rfl⟩;refine yr1 ?_;rw[<-cb]
  have hcn:c'.l.length=p.g.slots:=by have:=congrArg List.length cc;rw [jaY,List.length_set,jaY,ok.n] at this;exact this
  exact KE.finN (H':=jr {k with c:=c'} p++((b2,cells [pt k.b] 150)::F)) jd rfl jc (by rw[js];exact ja) ⟨rfl,c',⟨kc,ok.g,hcn,ok.o,ok.hs⟩,cf,cc,rfl⟩
 ·rintro _ H' ⟨rfl,h1,h2⟩
  cases ha:k.act with
  |true=>
   obtain⟨c',kc,cf,cc,rfl⟩:=h1 ha
   refine ze ?_;clear hT T;refine yr4 ?_;exact KE.fin jd rfl jc ja ⟨rfl,c',kc,cf,by rw[if_pos ha];exact cc,rfl⟩
  |false=>
   obtain rfl:=h2 ha
   refine ze ?_;clear hT T;refine yr4 ?_;exact KE.fin jd rfl jc ja ⟨rfl,k.c,ok,rfl,by rw[if_neg Bp],rfl⟩
end
theorem mkNew_K {w0:World} {F:jb} {B:BoM} {x:List Int} {T:TbM} {N:PiM} {nw long:Nat} (hG:ju w0) (ok:jaf B x) (okT:TbOk T) (okN:PiOk N) (hN:N.l.length=B.p.g.slots) (hw:nw<=8) (hl:1<=long/\long<=64):
  Call Tryz.prog w0 94 [pt B.b,pt B.p.b,pt T.b,pt N.b, .int .i64 (nw:Nat), .int .i64 (long:Nat)] (jT B++(jy B.m++(planH B.p++(jF T++(J0 N++F)))))
   (fun r H'=> ∃ k,MkOk k B.p/\MkNil k B.p/\k.act=false/\k.c.f=1/\k.bb=B.b/\k.tb=T.b/\k.nb=N.b/\k.hs.length=nw+1/\k.g.ring.length=long/\r= .tuple [pt k.b, .int .i64 0].toArray/\H'=jr k B.p++(jT B++(jy B.m++(planH B.p++(jF T++(J0 N++F)))))):=by
 have okp:=ok.p
 have hs:=okp.g.slots
 obtain⟨y,hy⟩:=Je (g:=B.p.g) (i:=0) bc
 have hne: ¬((B.p.g.slots:Nat):Int)=0:=by omega
 have hT:=okT.n
 have hne2: ¬((T.l.length:Nat):Int)=0:=by omega
 have hne3: ¬((N.l.length:Nat):Int)≠(B.p.g.slots:Nat):=by omega
 have hgt: ¬((nw:Nat):Int)>8:=by omega
 have he:((nw:Nat):Int)+1=((nw+1:Nat):Int):=by omega
 have hhead:=fun A=>jdg (w0:=w0) (F:=A) (s:=0) hG ok hy
 have hhv: ∃ c r w e,headV (headP x y)= .tuple [.agg [.int .i64 c, .int .i64 r, .int .i64 w].toArray, .int .i64 e].toArray/\e≠1:=by
  unfold headV
  cases headP x y with
  |none=>exact⟨0,0,0,5,rfl,by decide⟩
  |some h=>exact⟨h.c,h.r,h.w,0,rfl,by decide⟩
 obtain⟨c,r,w,e,hev,hen⟩:=hhv
 simp only[hev] at hhead
 have hen': ¬e=1:=hen
 refine en6 83 Tryz.func94 ?_;refine yr10 ?_;refine zJ ?_
 (iterate 18 first|refine yS ?_|intro _)
 refine zO ?_;refine yr5 ?_;refine ji (jgZ okT) ja ?_;refine yr5 ?_;refine je (piCopy_K okN) ja ?_;rintro _ _ ⟨N',_,_,rfl,rfl⟩;refine yr17 ?_;refine ji (piLen_K okN) ja ?_;refine yr2 ?_;refine zO ?_;refine yr14 ?_;refine je (grNew_K okp hl) ja ?_;rintro _ _ ⟨g,kg,gn,gl,rfl,rfl⟩;refine yr21 ?_;refine zO ?_;refine yr1 ?_;refine Jx (tiNew_K (n:=B.p.g.slots) bc) ?_;rintro _ _ ⟨t,kt,tf,tc,rfl,rfl⟩;refine yr7 ?_;refine zg ?_;refine yr8 ?_;rw[he];refine KL.e rfl (Eff.makeR (E:=Jn) (x0:=⟨0,0,false⟩) rfl rfl rfl rfl rfl rfl bc) ?_;rintro _ _ ⟨o79,ok79,rfl,rfl⟩;refine yr2 ?_;intro b81;refine yr6 ?_
 have hcn:t.l.length=B.p.g.slots:=by have:=congrArg List.length tc;rw [jaY,List.length_replicate] at this;exact this
 exact KE.fin (H':=jr ⟨b81,t,g,List.replicate (nw+1) ⟨0,0,false⟩,o79,0,false,0,B.b,T.b,N.b⟩ B.p++(jT B++(jy B.m++(planH B.p++(jF T++(J0 N++F)))))) jd rfl jc (by simp only[js,List.length_replicate];exact ja)
  ⟨⟨b81,t,g,List.replicate (nw+1) ⟨0,0,false⟩,o79,0,false,0,B.b,T.b,N.b⟩,⟨kt,kg,hcn,ok79,by simp;omega⟩,⟨tc,gn,by simp,rfl,rfl⟩,rfl,tf,rfl,rfl,rfl,by simp,gl,rfl,rfl⟩
structure SpM where
 b:Nat
 d:jam
 at_:Nat
 act:Bool
 ab:Nat
 bb:Nat
 mb:Nat
def jao (s:SpM):jb:=(s.b,cells [pt s.ab,pt s.bb,pt s.mb,pt s.d.b, .int .i64 (s.at_:Nat), .bool s.act] 287)::jD s.d
theorem jbv {s:SpM} {F:jb}:jao s++F=(s.b,cells [pt s.ab,pt s.bb,pt s.mb,pt s.d.b, .int .i64 (s.at_:Nat), .bool s.act] 287)::(jD s.d++F):=rfl
structure SpOk (s:SpM) (n:Nat):Prop where
 d:RowOk s.d
 dn:s.d.bs.length=n
 at_:s.at_<=n
section
variable {w0 : World} {F : jb} {s : SpM}
theorem jgu:Cs w0 260 [pt s.b] (jao s++F) (.bool false):=by
 refine en1 12 Tryz.func260 ?_;simp only[jbv];refine yr20 ?_;exact zaC
theorem jfO:Cs w0 175 [pt s.b] (jao s++F) (.bool s.act):=by
 refine en1 12 Tryz.func175 ?_;refine yr9 ?_;refine jj (jgu (s:=s)) ?_;simp only[jbv];refine yr11 ?_;exact zaC
def jbE (s:SpM):Bool:=s.act&&decide (s.at_=s.d.bs.length)
theorem jgv:Cs w0 171 [pt s.b] (jao s++F) (.bool (jbE s)):=by
 have hd:jbE s=(s.act&&decide (((s.at_:Nat):Int)=(s.d.bs.length:Nat))):=by
  unfold jbE;congr 1;exact decide_eq_decide.2 bc
 rw[hd]
 cases ha:s.act with
 |true=>
  refine en1 17 Tryz.func171 ?_;refine yr6 ?_;refine K.dr _ (od 0 [0,2,0,1,1,1,1,0,0,0,0,2,0,0,0]) Part.all ?_;refine yr1 ?_;refine zj fun T hT=>?_;refine(CallV.fn (jfO (s:=s))).mono ?_;rintro _ _ ⟨rfl,rfl⟩;rw[ha];refine zf ?_;clear hT T;simp only[jbv];refine yr9 ?_;refine zo fun T hT=>?_;refine(CallV.part (CallV.fn (jfx (r:=s.d))) ja).mono ?_;rintro _ _ ⟨rfl,rfl⟩;refine zf ?_;clear hT T;refine yr6 ?_;exact zaC
 |false=>
  refine en1 17 Tryz.func171 ?_;refine yr6 ?_;refine K.dr _ (od 0 [0,2,0,1,1,1,1,0,0,0,0,2,0,0,0]) Part.all ?_;refine yr1 ?_;refine zj fun T hT=>?_;refine(CallV.fn (jfO (s:=s))).mono ?_;rintro _ _ ⟨rfl,rfl⟩;rw[ha];refine zf ?_;clear hT T;refine yr16 ?_;exact zaC
theorem jmj (ha:s.act=false):Call Tryz.prog w0 170 [pt s.b] (jao s++F) (fun r H'=>r= .int .i64 0/\H'=jao {s with act:=true}++F):=by
 refine en1 14 Tryz.func170 ?_;refine yr11 ?_;refine jj (jgu (s:=s)) ?_;simp only[jbv,ha];refine yr31 ?_;exact zaC
end
inductive RchM (g:PlG) (W:MwP):Nat->Prop
 |root {r s:Nat}:r<W.T.length+g.slots->jL g W r=some (s:Nat)->RchM g W s
 |edge {s t:Nat} {i:Int}:RchM g W s->refO g W.x (s:Nat) i=some (t:Nat)->RchM g W t
def NW (m:MaP) (s:Nat):Prop:= ∃ c,m.C[s]?=some c/\c≠0
def Lst (m:MaP) (s:Nat):Prop:=s∈m.G.q\/m.G.ow[s]?=some true\/ ∃ (k:Nat) (h:J3),m.hs[k]?=some h/\h.is=true/\h.slot=(s:Nat)
def Uns (m:MaP) (s:Nat) (i:Int):Prop:=s∈m.G.q\/m.G.ow[s]?=some true\/ ∃ (k:Nat) (h:J3),m.hs[k]?=some h/\h.is=true/\h.slot=(s:Nat)/\h.field<=i
structure jau (m:MaP):Prop where
 grey: ∀ s,m.C[s]?=some 1->Lst m s
 lst: ∀ s,Lst m s->NW m s
inductive Prot (g:PlG) (W:MwP) (m:MaP):Nat->Prop
 |col {s:Nat}:NW m s->Prot g W m s
 |root {r s:Nat}:m.root<=r->r<W.T.length+g.slots->jL g W r=some (s:Nat)->Prot g W m s
 |wht {t s:Nat} {i:Int}:Prot g W m t->m.C[t]?=some 0->refO g W.x (t:Nat) i=some (s:Nat)->Prot g W m s
 |fld {t s:Nat} {i:Int}:Uns m t i->refO g W.x (t:Nat) i=some (s:Nat)->Prot g W m s
structure JM (g:PlG) (W W':MwP) (m m':MaP):Prop where
 nw: ∀ s,NW m s->NW m' s
 rt: ∀ r s:Nat,m.root<=r->r<W.T.length+g.slots->jL g W r=some (s:Nat)->NW m' s\/(m'.root<=r/\r<W'.T.length+g.slots/\jL g W' r=some (s:Nat))
 wt: ∀ (t s:Nat) (i:Int),m.C[t]?=some 0->refO g W.x (t:Nat) i=some (s:Nat)->NW m' s\/((m'.C[t]?=some 0\/Uns m' t i)/\refO g W'.x (t:Nat) i=some (s:Nat))
 fd: ∀ (t s:Nat) (i:Int),Uns m t i->refO g W.x (t:Nat) i=some (s:Nat)->NW m' s\/(Uns m' t i/\refO g W'.x (t:Nat) i=some (s:Nat))
def jbe (P:Nat->Prop) (m:MaP):Prop:= ∀ s,NW m s->P s
structure Cls (g:PlG) (W:MwP) (P:Nat->Prop):Prop where
 root: ∀ {r s:Nat},r<W.T.length+g.slots->jL g W r=some (s:Nat)->P s
 edge: ∀ {s t:Nat} {i:Int},P s->refO g W.x (s:Nat) i=some (t:Nat)->P t
theorem rch_cls {g:PlG} {W:MwP}:Cls g W (RchM g W):=⟨.root, .edge⟩
theorem Cls.rch {g:PlG} {W:MwP} {P:Nat->Prop} (h:Cls g W P) {s:Nat} (hs:RchM g W s):P s:=by
 induction hs with
 |root a b=>exact h.root a b
 |edge a b ih=>exact h.edge ih b
section
variable {g : PlG} {long : Nat} {W W' W'' : MwP} {m m' m'' : MaP}
theorem JM.refl:JM g W W m m:=⟨fun _ h=>h,fun r s h1 h2 h3=> .inr ⟨h1,h2,h3⟩,fun t s i h1 h2=> .inr ⟨.inl h1,h2⟩,fun t s i h1 h2=> .inr ⟨h1,h2⟩⟩
theorem JM.trans (h:JM g W W' m m') (h':JM g W' W'' m' m''):JM g W W'' m m'':=by
 refine⟨fun s hs=>h'.nw s (h.nw s hs),fun r s h1 h2 h3=>?_,fun t s i h1 h2=>?_,fun t s i h1 h2=>?_⟩
 ·rcases h.rt r s h1 h2 h3 with a|⟨a,b,c⟩
  ·exact .inl (h'.nw s a)
  ·exact h'.rt r s a b c
 ·rcases h.wt t s i h1 h2 with a|⟨a|a,b⟩
  ·exact .inl (h'.nw s a)
  ·exact h'.wt t s i a b
  ·rcases h'.fd t s i a b with c|⟨c,d⟩
   ·exact .inl c
   ·exact .inr ⟨.inr c,d⟩
 ·rcases h.fd t s i h1 h2 with a|⟨a,b⟩
  ·exact .inl (h'.nw s a)
  ·exact h'.fd t s i a b
theorem Prot.keep (k:JM g W W' m m') {s:Nat} (h:Prot g W m s):Prot g W' m' s:=by
 induction h with
 |col h=>exact .col (k.nw _ h)
 |root h1 h2 h3=>
  rcases k.rt _ _ h1 h2 h3 with a|⟨a,b,c⟩
  ·exact .col a
  ·exact .root a b c
 |wht h1 h2 h3 ih=>
  rcases k.wt _ _ _ h2 h3 with a|⟨a|a,b⟩
  ·exact .col a
  ·exact .wht ih a b
  ·exact .fld a b
 |fld h1 h2=>
  rcases k.fd _ _ _ h1 h2 with a|⟨a,b⟩
  ·exact .col a
  ·exact .fld a b
theorem Uns.lst {s:Nat} {i:Int} (h:Uns m s i):Lst m s:=by
 rcases h with h|h|⟨k,x,h1,h2,h3,h4⟩
 ·exact .inl h
 ·exact .inr (.inl h)
 ·exact .inr (.inr ⟨k,x,h1,h2,h3⟩)
theorem NW.not {s:Nat} (h:NW m s):m.C[s]?≠some 0:=by
 obtain⟨c,h1,h2⟩:=h
 rw[h1];intro e;cases e;exact h2 rfl
theorem nw_or (hC:m.C.length=g.slots) {s:Nat} (hs:s<g.slots):m.C[s]?=some 0\/NW m s:=by
 obtain⟨c,hc⟩:=jq (l:=m.C) (k:=s) bc
 by_cases h:c=0
 ·left;rw [hc,h]
 ·exact .inr ⟨c,hc,h⟩
theorem put_lst {G:GyP} (ok:jh g) (hG:J4 g long G) {n:Nat} (hn:n<g.slots):(n∈(JP g long G n).q\/(JP g long G n).ow[n]?=some true)/\(∀ s,s∈G.q->s∈(JP g long G n).q)/\(∀ s:Nat,G.ow[s]?=some true->(JP g long G n).ow[s]?=some true)/\
  (∀ s,s∈(JP g long G n).q->s∈G.q\/s=n)/\(∀ s:Nat,(JP g long G n).ow[s]?=some true->G.ow[s]?=some true\/s=n):=by
 unfold JP
 split
 ·exact⟨.inl (List.mem_append_right _ (.head _)),fun s h=>List.mem_append_left _ h,fun s h=>h,fun s h=>by
   rcases List.mem_append.1 h with h|h
   ·exact .inl h
   ·exact .inr (List.mem_singleton.1 h),fun s h=> .inl h⟩
 ·have hl:n<G.ow.length:=by rw[hG.ow];exact hn
  refine⟨.inr (List.getElem?_set_self hl),fun s h=>h,fun s h=>?_,fun s h=> .inl h,fun s h=>?_⟩
  ·by_cases e:s=n
   ·subst e;exact List.getElem?_set_self hl
   ·show(G.ow.set n true)[s]?=_
    rw[List.getElem?_set_ne bc];exact h
  ·by_cases e:s=n
   ·exact .inr e
   ·change (G.ow.set n true)[s]?=_ at h
    rw[List.getElem?_set_ne bc] at h;exact .inl h
theorem shade_keep (ok:jh g) (hm:jw g long W m) (hi:jau m) (s:Int):
  jau (Jt g long m s)/\JM g W' W' m (Jt g long m s)/\(∀ n:Nat,s=n->n<g.slots->NW (Jt g long m s) n)/\(∀ n:Nat,NW (Jt g long m s) n->NW m n\/s=n):=by
 unfold Jt
 split
 ·rename_i h
  obtain⟨n,rfl⟩: ∃ n:Nat,s=n:=⟨s.toNat,by omega⟩
  simp only[Int.toNat_natCast] at h|-
  have hn:n<m.C.length:=jl h.2
  have hns:n<g.slots:=by rw[<-hm.C];exact hn
  obtain⟨p1,p2,p3,p4,p5⟩:=put_lst ok hm.G hns
  obtain⟨m1,hm1⟩: ∃ m1,m1={m with C:=m.C.set n 1,G:=JP g long m.G n}:=⟨_,rfl⟩
  have eC:m1.C=m.C.set n 1:=by rw[hm1]
  have eG:m1.G=JP g long m.G n:=by rw[hm1]
  have eh:m1.hs=m.hs:=by rw[hm1]
  have er:m1.root=m.root:=by rw[hm1]
  rw[<-hm1]
  have hself:m1.C[n]?=some 1:=by rw[eC];exact List.getElem?_set_self hn
  have hne: ∀ t,t≠n->m1.C[t]?=m.C[t]? :=fun t ht=>by rw[eC,List.getElem?_set_ne bc]
  have hnw: ∀ t,NW m t->NW m1 t:=fun t ⟨c,h1,h2⟩=>by
   by_cases e:t=n
   ·rw[e];exact⟨1,hself,by decide⟩
   ·exact⟨c,by rw[hne t e];exact h1,h2⟩
  have hul: ∀ t i,Uns m t i->Uns m1 t i:=fun t i hu=>by
   rcases hu with h|h|⟨k,x,h1,h2,h3,h4⟩
   ·exact .inl (by rw[eG];exact p2 t h)
   ·exact .inr (.inl (by rw[eG];exact p3 t h))
   ·exact .inr (.inr ⟨k,x,by rw[eh];exact h1,h2,h3,h4⟩)
  have hun: ∀ i,Uns m1 n i:=fun i=>by
   rcases p1 with h|h
   ·exact .inl (by rw[eG];exact h)
   ·exact .inr (.inl (by rw[eG];exact h))
  have hll: ∀ t,Lst m t->Lst m1 t:=fun t hu=>by
   rcases hu with h|h|⟨k,x,h1,h2,h3⟩
   ·exact .inl (by rw[eG];exact p2 t h)
   ·exact .inr (.inl (by rw[eG];exact p3 t h))
   ·exact .inr (.inr ⟨k,x,by rw[eh];exact h1,h2,h3⟩)
  refine⟨⟨fun t ht=>?_,fun t ht=>?_⟩,⟨hnw,fun r t h1 h2 h3=> .inr ⟨by rw[er];exact h1,h2,h3⟩,fun t u i h1 h2=>?_,fun t u i h1 h2=> .inr ⟨hul t i h1,h2⟩⟩,fun k hk hks=>?_,fun t ht=>?_⟩
  ·by_cases e:t=n
   ·rw[e];exact(hun 0).lst
   ·rw[hne t e] at ht;exact hll t (hi.grey t ht)
  ·by_cases e:t=n
   ·rw[e];exact⟨1,hself,by decide⟩
   ·have:Lst m t:=by
     rcases ht with h|h|⟨k,x,h1,h2,h3⟩
     ·rw[eG] at h
      rcases p4 t h with h|h
      ·exact .inl h
      ·exact absurd h e
     ·rw[eG] at h
      rcases p5 t h with h|h
      ·exact .inr (.inl h)
      ·exact absurd h e
     ·exact .inr (.inr ⟨k,x,by rw[<-eh];exact h1,h2,h3⟩)
    exact hnw t (hi.lst t this)
  ·refine .inr ⟨?_,h2⟩
   by_cases e:t=n
   ·rw[e];exact .inr (hun i)
   ·left;rw [hne t e];exact h1
  ·obtain rfl:n=k:=by omega
   exact⟨1,hself,by decide⟩
  ·by_cases e:t=n
   ·right;rw [e]
   ·left
    obtain⟨c,h1,h2⟩:=ht
    exact⟨c,by rw[<-hne t e];exact h1,h2⟩
 ·rename_i h
  refine⟨hi,JM.refl,fun n hn hs=>?_,fun n hn=> .inl hn⟩;subst hn;simp only[Int.toNat_natCast] at h
  rcases nw_or hm.C hs with h0|h0
  ·exact absurd ⟨by omega,h0⟩ h
  ·exact h0
theorem jhK (ok:jh g) (hm:jw g long W m) (hi:jau m) (o:Option Int):
  jau (Jf g long m o)/\JM g W' W' m (Jf g long m o)/\(∀ n:Nat,o=some ((n:Nat):Int)->n<g.slots->NW (Jf g long m o) n)/\(∀ n:Nat,NW (Jf g long m o) n->NW m n\/o=some ((n:Nat):Int)):=by
 cases o with
 |none=>exact⟨hi,JM.refl,fun n hn=>(by cases hn),fun n hn=> .inl hn⟩
 |some s=>
  obtain⟨h1,h2,h3,h4⟩:=shade_keep (W':=W') ok hm hi s
  exact⟨h1,h2,fun n hn=>h3 n (by simpa using hn),fun n hn=>by
   rcases h4 n hn with h|h
   ·exact .inl h
   ·right;rw [h]⟩
theorem jcG {x:List Int} {s:Nat} {i to:Int} (h:refO g x (s:Nat) i=some to) (hx:JF x):0<=to/\to<(g.slots:Nat)/\0<=i/\i<refsN x (jv g (s:Nat)):=by
 unfold refO at h
 split at h
 ·rename_i hc
  cases h
  unfold refP at hc|-
  split at hc
  ·rename_i hf
   rw[if_pos hf]
   obtain⟨f1,_,_⟩:=J7 hf
   have hr:i<refsN x (jv g (s:Nat)):=by
    unfold fldP at hf;unfold refsN
    cases hh:headP x (jv g (s:Nat)) with
    |none=>rw [hh] at hf;simp at hf
    |some h=>
     rw[hh] at hf;dsimp only at hf|-
     split at hf
     ·rename_i h3;simpa using h3.2.2
     ·simp at hf
   split at hc
   ·simp at hc
   ·rename_i hw
    rw[if_neg hw];dsimp only at hc|-;refine⟨hc.2,?_,f1,hr⟩
    omega
  ·rename_i hf
   exact absurd hc.1 hf
 ·cases h
theorem jeD (hW:Jv g W) {r:Nat} {to:Int} (hr:r<W.T.length+g.slots) (h:jL g W r=some to):0<=to/\to<(g.slots:Nat):=by
 unfold jL at h
 cases hT:W.T[r]? with
 |some e=>
  rw[hT] at h;dsimp only at h
  split at h
  ·rename_i he
   cases h
   exact hW.t e (List.mem_of_getElem? hT) he
  ·cases h
 |none=>
  rw[hT] at h;dsimp only at h
  split at h
  ·cases h
   have:=List.getElem?_eq_none_iff.1 hT
   omega
  ·cases h
theorem jhI (o:Option Int) (r:Nat):Jf g long {m with root:=r} o={Jf g long m o with root:=r}:=by
 cases o with
 |none=>rfl
 |some s=>show Jt g long _ s=_;unfold Jf Jt;dsimp only;split<;>rfl
structure Mic (g:PlG) (W:MwP) (m m':MaP):Prop where
 i:jau m'
 k:JM g W W m m'
 o: ∀ P:Nat->Prop,Cls g W P->jbe P m->jbe P m'
theorem root_mic (ok:jh g) (hm:jw g long W m) (hW:Jv g W) (hi:jau m) (h:rootM g long W m=some m'):Mic g W m m':=by
 unfold rootM at h
 split at h
 ·rename_i hr
  cases h
  rw[jhI]
  obtain⟨h1,h2,h3,h4⟩:=jhK (W':=W) ok hm hi (jL g W m.root)
  obtain⟨q1,q2,q3,q4⟩:=jdu (g:=g) (long:=long) (m:=m) (jL g W m.root)
  obtain⟨m1,hm1⟩: ∃ m1,m1=Jf g long m (jL g W m.root):=⟨_,rfl⟩
  rw[<-hm1] at h1 h2 h3 h4 q2|-;refine⟨⟨h1.grey,h1.lst⟩,h2.trans ⟨fun s h=>h,fun r s a b c=>?_,fun t s i a b=> .inr ⟨.inl a,b⟩,fun t s i a b=> .inr ⟨a,b⟩⟩,fun P hc ho s hs=>?_⟩
  ·by_cases e:r=m.root
   ·subst e
    have:=jeD hW b c
    exact .inl (h3 s c bc)
   ·right
    exact⟨by show m.root+1<=r;omega,b,c⟩
  ·rcases h4 s hs with a|a
   ·exact ho s a
   ·exact hc.root hr a
 ·cases h
theorem take_mic (hm:jw g long W m) (hW:Jv g W) (hi:jau m) {k:Nat} (hk:k<m.hs.length) (h:takeM m k=some m'):Mic g W m m':=by
 unfold takeM at h
 split at h
 ·cases h
 ·rename_i hn
  cases hq:m.G.q with
  |nil=>rw [hq] at h;cases h
  |cons s q=>
   rw[hq] at h
   cases h
   have hne: ∀ (j:Nat) (x:J3),m.hs[j]?=some x->x.is=true->(m.hs.set k ⟨(s:Nat),0,true⟩)[j]?=some x:=fun j x h1 h2=>by
    by_cases e:j=k
    ·subst e;rw [jaG h1] at hn;exact absurd h2 hn
    ·rw[List.getElem?_set_ne bc];exact h1
   refine⟨⟨fun t ht=>?_,fun t ht=>?_⟩,⟨fun t h=>h,fun r t a b c=> .inr ⟨a,b,c⟩,fun t u i a b=> .inr ⟨.inl a,b⟩,fun t u i a b=> .inr ⟨?_,b⟩⟩,fun P hc ho t ht=>ho t ht⟩
   ·rcases hi.grey t ht with h|h|⟨j,x,h1,h2,h3⟩
    ·rw[hq] at h
     rcases List.mem_cons.1 h with h|h
     ·exact .inr (.inr ⟨k,_,List.getElem?_set_self hk,rfl,by rw[h]⟩)
     ·exact .inl h
    ·exact .inr (.inl h)
    ·exact .inr (.inr ⟨j,x,hne j x h1 h2,h2,h3⟩)
   ·have:Lst m t:=by
     rcases ht with h|h|⟨j,x,h1,h2,h3⟩
     ·exact .inl (by rw[hq];exact .tail _ h)
     ·exact .inr (.inl h)
     ·by_cases e:j=k
      ·subst e
       change (m.hs.set j ⟨(s:Nat),0,true⟩)[j]?=some x at h1
       rw[List.getElem?_set_self hk] at h1;cases h1
       left;rw [hq]
       have:s=t:=by dsimp only at h3;omega
       rw[this];exact .head _
      ·change (m.hs.set k ⟨(s:Nat),0,true⟩)[j]?=some x at h1
       rw[List.getElem?_set_ne bc] at h1;exact .inr (.inr ⟨j,x,h1,h2,h3⟩)
    exact hi.lst t this
   ·have hi0:=(jcG b hW.w).2.2.1
    rcases a with h|h|⟨j,x,h1,h2,h3,h4⟩
    ·rw[hq] at h
     rcases List.mem_cons.1 h with h|h
     ·exact .inr (.inr ⟨k,_,List.getElem?_set_self hk,rfl,by rw[h],hi0⟩)
     ·exact .inl h
    ·exact .inr (.inl h)
    ·exact .inr (.inr ⟨j,x,hne j x h1 h2,h2,h3,h4⟩)
theorem jmL {G G1:GyP} {j:Nat} (h:openG G=some (j,G1)):G1.q=G.q/\G1.ow=G.ow:=by
 unfold openG at h
 cases hp:G.pg with
 |some k'=>rw [hp] at h;simp only[Option.some.injEq,Prod.mk.injEq] at h;obtain⟨_,rfl⟩:=h;exact⟨rfl,rfl⟩
 |none=>
  rw[hp] at h
  cases hq:G.q with
  |cons a l=>rw [hq] at h;cases h
  |nil=>
   rw[hq] at h;dsimp only at h
   cases hn:nextB G.di 0 true with
   |none=>rw [hn] at h;cases h
   |some k'=>rw [hn] at h;simp only[Option.some.injEq,Prod.mk.injEq] at h;obtain⟨_,rfl⟩:=h;exact⟨hq.symm▸rfl,rfl⟩
theorem walk_mic (ok:jh g) (hm:jw g long W m) (hW:Jv g W) (hi:jau m) {k:Nat} (hk:k<m.hs.length) (h:walkM g m k=some m'):Mic g W m m':=by
 unfold walkM at h
 split at h
 ·cases h
 ·rename_i hn
  unfold walkG at h
  cases hop:openG m.G with
  |none=>rw [hop] at h;cases h
  |some x=>
   obtain⟨j,G1⟩:=x
   rw[hop] at h
   obtain⟨k1,k2,k3⟩:=jdU ok hm.G hop
   obtain⟨s1,s2⟩:=jmL hop
   obtain⟨h1,h2⟩:=k1.pg j k2
   obtain⟨b1,b2,b3⟩:=jcL ok h1
   simp only[Option.map_some] at h
   have hsl:g.fp j+G1.at_<g.slots:=by omega
   obtain⟨n,hnn⟩: ∃ n,n=g.fp j+G1.at_:=⟨_,rfl⟩
   have hol:n<m.G.ow.length:=by rw[hm.G.ow];omega
   have eq2:(walk1 g j G1).2.q=m.G.q:=by rw[<-s1];rfl
   have eo2:(walk1 g j G1).2.ow=m.G.ow.set n false:=by rw[<-s2,hnn];rfl
   have e1:(walk1 g j G1).1=if (m.G.ow[n]?).getD false then some n else none:=by rw[<-s2,hnn];rfl
   obtain⟨r,hr⟩: ∃ r,r=walk1 g j G1:=⟨_,rfl⟩
   rw[<-hr] at h eq2 eo2 e1
   obtain⟨o,G2⟩:=r
   dsimp only at eq2 eo2 e1
   have how: ∀ t:Nat,t≠n->G2.ow[t]?=m.G.ow[t]? :=fun t ht=>by rw[eo2,List.getElem?_set_ne bc]
   have hon:G2.ow[n]?=some false:=by rw[eo2];exact List.getElem?_set_self hol
   cases ho:(m.G.ow[n]?).getD false with
   |false=>
    rw[ho] at e1;simp only[Bool.false_eq_true,if_false] at e1;subst e1
    cases h
    have hnt: ∀ t:Nat,m.G.ow[t]?=some true->G2.ow[t]?=some true:=fun t ht=>by
     by_cases e:t=n
     ·subst e;rw [ht] at ho;cases ho
     ·rw[how t e];exact ht
    have hnf: ∀ t:Nat,G2.ow[t]?=some true->m.G.ow[t]?=some true:=fun t ht=>by
     by_cases e:t=n
     ·subst e;rw [hon] at ht;cases ht
     ·rw[<-how t e];exact ht
    refine⟨⟨fun t ht=>?_,fun t ht=>?_⟩,⟨fun t h=>h,fun r t a b c=> .inr ⟨a,b,c⟩,fun t u i a b=> .inr ⟨.inl a,b⟩,fun t u i a b=> .inr ⟨?_,b⟩⟩,fun P hc ho t ht=>ho t ht⟩
    ·rcases hi.grey t ht with h|h|h
     ·exact zaV
     ·exact .inr (.inl (hnt t h))
     ·exact .inr (.inr h)
    ·refine hi.lst t ?_
     rcases ht with h|h|h
     ·exact .inl (by change t∈G2.q at h;rw [eq2] at h;exact h)
     ·exact .inr (.inl (hnf t h))
     ·exact .inr (.inr h)
    ·rcases a with h|h|h
     ·exact zaV
     ·exact .inr (.inl (hnt t h))
     ·exact .inr (.inr h)
   |true=>
    rw[ho] at e1;simp only[if_true] at e1;subst e1
    cases h
    have hon2:m.G.ow[n]?=some true:=by rw[List.getElem?_eq_getElem hol] at ho|-;simpa using ho
    have hne: ∀ (j:Nat) (x:J3),m.hs[j]?=some x->x.is=true->(m.hs.set k ⟨(n:Nat),0,true⟩)[j]?=some x:=fun j x h1 h2=>by
     by_cases e:j=k
     ·subst e;rw [jaG h1] at hn;exact absurd h2 hn
     ·rw[List.getElem?_set_ne bc];exact h1
    refine⟨⟨fun t ht=>?_,fun t ht=>?_⟩,⟨fun t h=>h,fun r t a b c=> .inr ⟨a,b,c⟩,fun t u i a b=> .inr ⟨.inl a,b⟩,fun t u i a b=> .inr ⟨?_,b⟩⟩,fun P hc ho t ht=>ho t ht⟩
    ·rcases hi.grey t ht with h|h|⟨j,x,h1,h2,h3⟩
     ·exact zaV
     ·by_cases e:t=n
      ·exact .inr (.inr ⟨k,_,List.getElem?_set_self hk,rfl,by rw[e]⟩)
      ·exact .inr (.inl (by show G2.ow[t]?=_;rw [how t e];exact h))
     ·exact .inr (.inr ⟨j,x,hne j x h1 h2,h2,h3⟩)
    ·refine hi.lst t ?_
     rcases ht with h|h|⟨j,x,h1,h2,h3⟩
     ·exact .inl (by change t∈G2.q at h;rw [eq2] at h;exact h)
     ·by_cases e:t=n
      ·change G2.ow[t]?=_ at h
       rw[e,hon] at h;cases h
      ·change G2.ow[t]?=_ at h
       rw[how t e] at h;exact .inr (.inl h)
     ·by_cases e:j=k
      ·subst e
       change (m.hs.set j ⟨(n:Nat),0,true⟩)[j]?=some x at h1
       rw[List.getElem?_set_self hk] at h1;cases h1
       have:n=t:=by dsimp only at h3;omega
       rw[<-this];exact .inr (.inl hon2)
      ·change (m.hs.set k ⟨(n:Nat),0,true⟩)[j]?=some x at h1
       rw[List.getElem?_set_ne bc] at h1;exact .inr (.inr ⟨j,x,h1,h2,h3⟩)
    ·have hi0:=(jcG b hW.w).2.2.1
     rcases a with h|h|⟨j,x,h1,h2,h3,h4⟩
     ·exact zaV
     ·by_cases e:t=n
      ·exact .inr (.inr ⟨k,_,List.getElem?_set_self hk,rfl,by rw[e],hi0⟩)
      ·exact .inr (.inl (by show G2.ow[t]?=_;rw [how t e];exact h))
     ·exact .inr (.inr ⟨j,x,hne j x h1 h2,h2,h3,h4⟩)
theorem scan_mic (ok:jh g) (hm:jw g long W m) (hW:Jv g W) (hi:jau m) {k:Nat} (hk:k<m.hs.length) (h:scanM g long W m k=some m'):Mic g W m m':=by
 unfold scanM at h
 split at h
 ·rename_i hn
  obtain⟨hd,hhd⟩:=jq hk
  rw[jaG hhd] at h hn
  rcases hm.h k hd hhd with⟨e1,e2,e3,e4,e5⟩|e
  ·obtain⟨s,hs⟩: ∃ s:Nat,hd.slot=s:=⟨hd.slot.toNat,by omega⟩
   rw[hs] at e3 e5 h
   have hsl:s<g.slots:=by omega
   have hls:Lst m s:= .inr (.inr ⟨k,hd,hhd,hn,hs⟩)
   obtain⟨o,ho⟩: ∃ o,o=refO g W.x (s:Nat) hd.field:=⟨_,rfl⟩
   rw[<-ho] at h
   obtain⟨h1,h2,h3,h4⟩:=jhK (W':=W) ok hm hi o
   obtain⟨q1,q2,q3,q4⟩:=jdu (g:=g) (long:=long) (m:=m) o
   have hlen:=(jey ok hm o).C
   obtain⟨m1,hm1⟩: ∃ m1,m1=Jf g long m o:=⟨_,rfl⟩
   rw[<-hm1] at h h1 h2 h3 h4 q1 q2 q3 q4 hlen
   have hk1:k<m1.hs.length:=by rw[q1];exact hk
   have hhd1:m1.hs[k]?=some hd:=by rw[q1];exact hhd
   have hls1:Lst m1 s:= .inr (.inr ⟨k,hd,hhd1,hn,hs⟩)
   have hnw1:=h1.lst s hls1
   have hon: ∀ P:Nat->Prop,Cls g W P-> ∀ n:Nat,NW m1 n->jbe P m->P n:=fun P hc n hnn hr=>by
    rcases h4 n hnn with a|a
    ·exact hr n a
    ·rw[ho] at a;exact hc.edge (hr s (hi.lst s hls)) a
   have hto: ∀ u:Nat,refO g W.x (s:Nat) hd.field=some (u:Nat)->NW m1 u:=fun u hu=>by
    have:=jcG hu hW.w
    exact h3 u (ho.trans hu) bc
   have hne: ∀ (x:J3) (j:Nat) (y:J3),j≠k->m1.hs[j]?=some y->(m1.hs.set k x)[j]?=some y:=fun x j y h1 h2=>by
    rw[List.getElem?_set_ne bc];exact h2
   split at h
   ·rename_i hlt
    cases h
    rw[<-q1] at*;refine⟨⟨fun t ht=>?_,fun t ht=>?_⟩,h2.trans ⟨fun t h=>h,fun r t a b c=> .inr ⟨a,b,c⟩,fun t u i a b=> .inr ⟨.inl a,b⟩,fun t u i a b=>?_⟩,fun P hc hr t ht=>hon P hc t ht hr⟩
    ·rcases h1.grey t ht with h|h|⟨j,x,p1,p2,p3⟩
     ·exact .inl h
     ·exact .inr (.inl h)
     ·by_cases e:j=k
      ·subst e;rw[hhd1] at p1;cases p1;exact .inr (.inr ⟨j,_,List.getElem?_set_self hk1,rfl,hs.symm.trans p3⟩)
      ·exact .inr (.inr ⟨j,x,hne _ j x e p1,p2,p3⟩)
    ·refine h1.lst t ?_
     rcases ht with h|h|⟨j,x,p1,p2,p3⟩
     ·exact .inl h
     ·exact .inr (.inl h)
     ·by_cases e:j=k
      ·subst e
       change (m1.hs.set j _)[j]?=some x at p1
       rw[List.getElem?_set_self hk1] at p1;cases p1;exact .inr (.inr ⟨j,hd,hhd1,hn,hs.trans p3⟩)
      ·change (m1.hs.set k _)[j]?=some x at p1
       rw[List.getElem?_set_ne bc] at p1;exact .inr (.inr ⟨j,x,p1,p2,p3⟩)
    ·rcases a with h|h|⟨j,x,p1,p2,p3,p4⟩
     ·exact .inr ⟨.inl h,b⟩
     ·exact .inr ⟨.inr (.inl h),b⟩
     ·by_cases e:j=k
      ·subst e;rw[hhd1] at p1;cases p1
       have hst:s=t:=by omega
       subst hst
       by_cases hf:i=hd.field
       ·left;subst hf;exact hto u b
       ·right
        exact⟨.inr (.inr ⟨j,_,List.getElem?_set_self hk1,rfl,rfl,by show hd.field+1<=i;omega⟩),b⟩
      ·exact .inr ⟨.inr (.inr ⟨j,x,hne _ j x e p1,p2,p3,p4⟩),b⟩
   ·rename_i hge
    cases h
    rw[<-q1] at*;simp only[Int.toNat_natCast] at*
    have hcs:s<m1.C.length:=by rw[hlen];exact hsl
    have hset: ∀ t,NW m1 t->NW {m1 with hs:=m1.hs.set k jO,C:=m1.C.set s 2} t:=fun t ⟨c,a,b⟩=>by
     by_cases e:t=s
     ·subst e;exact⟨2,List.getElem?_set_self hcs,by decide⟩
     ·exact⟨c,by show(m1.C.set s 2)[t]?=_;rw [List.getElem?_set_ne bc];exact a,b⟩
    have hback: ∀ t,NW {m1 with hs:=m1.hs.set k jO,C:=m1.C.set s 2} t->NW m1 t:=fun t ⟨c,a,b⟩=>by
     by_cases e:t=s
     ·subst e;exact hnw1
     ·change (m1.C.set s 2)[t]?=_ at a
      rw[List.getElem?_set_ne bc] at a;exact⟨c,a,b⟩
    refine⟨⟨fun t ht=>?_,fun t ht=>?_⟩,h2.trans ⟨hset,fun r t a b c=> .inr ⟨a,b,c⟩,fun t u i a b=>?_,fun t u i a b=>?_⟩,fun P hc hr t ht=>hon P hc t (hback t ht) hr⟩
    ·by_cases e:t=s
     ·subst e
      change (m1.C.set t 2)[t]?=_ at ht
      rw[List.getElem?_set_self hcs] at ht;cases ht
     ·change (m1.C.set s 2)[t]?=_ at ht
      rw[List.getElem?_set_ne bc] at ht
      rcases h1.grey t ht with h|h|⟨j,x,p1,p2,p3⟩
      ·exact .inl h
      ·exact .inr (.inl h)
      ·by_cases e2:j=k
       ·subst e2;rw[hhd1] at p1;cases p1
        exfalso;omega
       ·exact .inr (.inr ⟨j,x,hne _ j x e2 p1,p2,p3⟩)
    ·refine hset t (h1.lst t ?_)
     rcases ht with h|h|⟨j,x,p1,p2,p3⟩
     ·exact .inl h
     ·exact .inr (.inl h)
     ·by_cases e:j=k
      ·subst e
       change (m1.hs.set j _)[j]?=some x at p1
       rw[List.getElem?_set_self hk1] at p1;cases p1
       cases p2
      ·change (m1.hs.set k _)[j]?=some x at p1
       rw[List.getElem?_set_ne bc] at p1;exact .inr (.inr ⟨j,x,p1,p2,p3⟩)
    ·right
     refine⟨.inl ?_,b⟩
     have hts:t≠s:=by rintro rfl;exact hnw1.not a
     show(m1.C.set s 2)[t]?=_
     rw[List.getElem?_set_ne bc];exact a
    ·rcases a with h|h|⟨j,x,p1,p2,p3,p4⟩
     ·exact .inr ⟨.inl h,b⟩
     ·exact .inr ⟨.inr (.inl h),b⟩
     ·by_cases e:j=k
      ·subst e;rw[hhd1] at p1;cases p1
       have hst:s=t:=by omega
       subst hst
       left
       have hrf:=jcG b hW.w
       have hf:i=hd.field:=by omega
       subst hf;exact hset u (hto u b)
      ·exact .inr ⟨.inr (.inr ⟨j,x,hne _ j x e p1,p2,p3,p4⟩),b⟩
  ·rw[e] at hn;cases hn
 ·cases h
theorem up_mic (h:Mic g W m m'):Mic g W m (upM m'):=⟨⟨h.i.grey,h.i.lst⟩,⟨h.k.nw,h.k.rt,h.k.wt,h.k.fd⟩,h.o⟩
theorem jeU (ok:jh g) (hm:jw g long W m) (hW:Jv g W) (hi:jau m) {k u:Int} (h:stepM g long W m k u=some m'):Mic g W m m':=by
 unfold stepM at h
 split at h
 ·rename_i hc
  cases hu:Jo g long W m k.toNat u with
  |none=>rw [hu] at h;cases h
  |some m1=>
   rw[hu] at h;simp only[Option.map_some,Option.some.injEq] at h;subst h;refine up_mic ?_
   have hk:k.toNat<m.hs.length:=by omega
   unfold Jo at hu
   split at hu
   ·exact root_mic ok hm hW hi hu
   ·split at hu
    ·exact take_mic hm hW hi hk hu
    ·split at hu
     ·exact scan_mic ok hm hW hi hk hu
     ·split at hu
      ·exact walk_mic ok hm hW hi hk hu
      ·cases hu
 ·cases h
theorem jiI (h:fullM m=none) {k:Nat} {x:J3} (hx:m.hs[k]?=some x):x.is=false:=by
 unfold fullM at h;rw[List.find?_eq_none] at h
 have:=h k (List.mem_range.2 (jl hx))
 rw[jaG hx] at this
 simpa using this
theorem jh7 {l:List Bool}:l.count true=0↔ ∀ k:Nat,l[k]?≠some true:=by
 rw[List.count_eq_zero]
 constructor
 ·intro h k hk;exact h (List.mem_of_getElem? hk)
 ·intro h hm
  obtain⟨k,hk⟩:=List.getElem?_of_mem hm
  exact h k hk
theorem jjT (h:JB g W m=true) (s:Nat): ¬Lst m s:=by
 unfold JB J8 at h;simp only[Bool.and_eq_true,Option.isNone_iff_eq_none,decide_eq_true_eq,List.isEmpty_iff] at h
 obtain⟨_,h1,h2,h3,h4,h5⟩:=h
 rintro(a|a|⟨k,x,a,b,c⟩)
 ·rw[h3] at a;cases a
 ·exact jh7.1 h4 s a
 ·rw[jiI h1 a] at b;cases b
theorem done_prot (h:JB g W m=true) {s:Nat} (hp:Prot g W m s):NW m s:=by
 have hr:W.T.length+g.slots<=m.root:=by
  unfold JB at h;simp only[Bool.and_eq_true,decide_eq_true_eq] at h;exact h.2.2.1
 induction hp with
 |col h=>exact h
 |root a b c=>omega
 |wht a b c ih=>exact absurd b ih.not
 |fld a b=>exact absurd a.lst (jjT h _)
theorem help_done (ok:jh g) (hm:jw g long W m) (ha:m.act=true) (h:JK g long W m=none):JB g W m=true:=by
 have hlen:=hm.hs
 unfold JK at h
 cases hf:fullM m with
 |some k=>
  rw[hf] at h;dsimp only at h
  have hk:k<m.hs.length/\(JU m k).is=true:=by
   unfold fullM at hf
   have h1:=List.mem_of_find?_eq_some hf
   have h2:=List.find?_some hf
   exact⟨List.mem_range.1 h1,h2⟩
  unfold stepM at h;rw[if_pos ⟨ha,by omega,by omega⟩] at h;simp only[Int.toNat_natCast,Option.map_eq_none_iff] at h;unfold Jo at h;rw[if_neg bn,if_neg bn,if_pos rfl] at h;unfold scanM at h;rw[if_pos hk.2] at h
  split at h<;>cases h
 |none=>
  rw[hf] at h;dsimp only at h
  have hlast:(JU m (m.hs.length-1)).is=false:=by
   obtain⟨x,hx⟩:=jq (l:=m.hs) (k:=m.hs.length-1) bc
   rw[jaG hx];exact jiI hf hx
  split at h
  ·cases h
  ·rename_i h2
   split at h
   ·cases h
   ·rename_i h1
    unfold stepM at h h1 h2;rw[if_pos ⟨ha,by omega,by omega⟩] at h h1 h2;simp only[Int.toNat_natCast,Option.map_eq_none_iff] at h h1 h2;unfold Jo at h h1 h2;rw[if_neg bn,if_pos rfl] at h2;rw[if_pos rfl] at h1;rw[if_neg bn,if_neg bn,if_neg bn,if_pos rfl] at h
    have hq:m.G.q=[]:=by
     unfold takeM at h2;rw[if_neg (by rw[hlast];decide)] at h2
     cases hq:m.G.q with
     |nil=>rfl
     |cons a l=>rw [hq] at h2;cases h2
    have hr:W.T.length+g.slots<=m.root:=by
     unfold rootM at h1
     split at h1
     ·cases h1
     ·omega
    have hw:openG m.G=none:=by
     unfold walkM at h;rw[if_neg (by rw[hlast];decide)] at h;unfold walkG at h
     cases ho:openG m.G with
     |none=>rfl
     |some x=>
      obtain⟨j,G1⟩:=x
      rw[ho] at h;simp only[Option.map_some] at h
      split at h<;>rename_i e<;>cases h<;>cases e
    have hpg:m.G.pg=none:=by
     unfold openG at hw
     cases hp:m.G.pg with
     |none=>rfl
     |some k=>rw [hp] at hw;cases hw
    have hdi:nextB m.G.di 0 true=none:=by
     unfold openG at hw;rw[hpg,hq] at hw;dsimp only at hw
     cases hn:nextB m.G.di 0 true with
     |none=>rfl
     |some k=>rw [hn] at hw;cases hw
    have how:m.G.ow.count true=0:=jh7.2 fun s hs=>by
     rcases hm.G.od s hs with hd|⟨k,hk,_⟩
     ·unfold nextB at hdi;rw[List.find?_eq_none] at hdi
      have:=hdi (g.pgOf s) (List.mem_range.2 (jl hd))
      rw[hd] at this
      simp at this
     ·rw[hpg] at hk;cases hk
    unfold JB J8;rw[ha,hf,hq,how,hpg,decide_eq_true hr]
    rfl
theorem new_in {nw:Nat} {act:Bool}:jau (JW g nw act):=by
 refine⟨fun s hs=>?_,fun s hs=>?_⟩
 ·simp only[JW,List.getElem?_replicate] at hs
  split at hs<;>simp at hs
 ·rcases hs with h|h|⟨k,x,h1,h2,h3⟩
  ·cases h
  ·simp only[JW,nilG,List.getElem?_replicate] at h
   split at h<;>simp at h
  ·simp only[JW,List.getElem?_replicate] at h1
   split at h1
   ·cases h1;cases h2
   ·cases h1
theorem new_only {nw:Nat} {act:Bool} {P:Nat->Prop}:jbe P (JW g nw act):=fun s ⟨c,h1,h2⟩=>by
 simp only[JW,List.getElem?_replicate] at h1
 split at h1
 ·simp at h1;exact absurd h1.symm h2
 ·cases h1
theorem rch_in (hW:Jv g W) {s:Nat} (h:RchM g W s):s<g.slots:=by
 induction h with
 |root h1 h2=>have:=jeD hW h1 h2;omega
 |edge h1 h2 ih=>have:=jcG h2 hW.w;omega
theorem new_prot {nw:Nat} {act:Bool} (hW:Jv g W) {s:Nat} (h:RchM g W s):Prot g W (JW g nw act) s:=by
 induction h with
 |root h1 h2=>exact .root (Nat.zero_le _) h1 h2
 |edge h1 h2 ih=>exact .wht ih (by simp only[JW,List.getElem?_replicate];rw [if_pos (rch_in hW h1)]) h2
theorem jcY (h1:W'.T.length=W.T.length) (h2: ∀ r s:Nat,jL g W r=some (s:Nat)->NW m s\/jL g W' r=some (s:Nat)) (h3: ∀ (t s:Nat) (i:Int),refO g W.x (t:Nat) i=some (s:Nat)->NW m s\/refO g W'.x (t:Nat) i=some (s:Nat)):JM g W W' m m:=by
 refine⟨fun s h=>h,fun r s a b c=>?_,fun t s i a b=>?_,fun t s i a b=>?_⟩
 ·rcases h2 r s c with h|h
  ·exact .inl h
  ·exact .inr ⟨a,by rw[h1];exact b,h⟩
 ·rcases h3 t s i b with h|h
  ·exact .inl h
  ·exact .inr ⟨.inl a,h⟩
 ·rcases h3 t s i b with h|h
  ·exact .inl h
  ·exact .inr ⟨a,h⟩
end
inductive Goes (g:PlG) (long:Nat) (W:MwP) (m:MaP):MaP->Prop
 |refl:Goes g long W m m
 |step {m1 m2:MaP} {k u:Int}:Goes g long W m m1->stepM g long W m1 k u=some m2->Goes g long W m m2
section
variable {g : PlG} {long : Nat} {W W' : MwP} {m m' m'' : MaP}
theorem Goes.trans (h:Goes g long W m m') (h':Goes g long W m' m''):Goes g long W m m'':=by
 induction h' with
 |refl=>exact h
 |step _ h2 ih=>exact .step ih h2
end
def JQ (l:List Int) (s:Nat):List Int:=if (l[s]?).getD 0<255 then l.set s ((l[s]?).getD 0+1) else l
def JX (l:List Int) (s:Nat):List Int:=if 0<(l[s]?).getD 0 then l.set s ((l[s]?).getD 0-1) else l
theorem jjw {l:List Int} {s:Nat}:(JQ l s).length=l.length:=by unfold JQ;split<;>simp
theorem jhT {l:List Int} {s:Nat}:(JX l s).length=l.length:=by unfold JX;split<;>simp
theorem pinP_in {l:List Int} {s:Nat} (h: ∀ v∈l,0<=v/\v<=255): ∀ v∈JQ l s,0<=v/\v<=255:=by
 unfold JQ
 split
 ·rename_i hc
  intro v hv
  rcases List.mem_or_eq_of_mem_set hv with h1|rfl
  ·exact h v h1
  ·cases hx:l[s]? with
   |none=>simp
   |some w=>have:=h w (List.mem_of_getElem? hx);rw [hx] at hc;simp at hc|-;omega
 ·exact h
theorem jmd {l:List Int} {s:Nat} (h: ∀ v∈l,0<=v/\v<=255): ∀ v∈JX l s,0<=v/\v<=255:=by
 unfold JX
 split
 ·rename_i hc
  intro v hv
  rcases List.mem_or_eq_of_mem_set hv with h1|rfl
  ·exact h v h1
  ·cases hx:l[s]? with
   |none=>rw [hx] at hc;simp at hc
   |some w=>have:=h w (List.mem_of_getElem? hx);rw [hx] at hc;simp at hc|-;omega
 ·exact h
theorem jjv {l:List Int} {s k:Nat} (h:0<(l[k]?).getD 0):0<((JQ l s)[k]?).getD 0:=by
 unfold JQ
 split
 ·by_cases e:k=s
  ·subst e
   have hl:k<l.length:=by
    rcases Nat.lt_or_ge k l.length with h1|h1
    ·exact h1
    ·rw[List.getElem?_eq_none h1] at h;simp at h
   rw[List.getElem?_set_self hl];simp;omega
  ·rw[List.getElem?_set_ne bc];exact h
 ·exact h
theorem jii {l:List Int} {s k:Nat} (e:k≠s):(JX l s)[k]?=l[k]? :=by
 unfold JX
 split
 ·rw[List.getElem?_set_ne bc]
 ·rfl
def JN (T:List jk):Option Nat:=T.findIdx? fun e=>decide (e.st=0)
def genA (T:List jk) (i:Nat):Int:=((T[i]?).map (·.gen)).getD 0
def jS (T:List jk) (s:Int):List jk:=match JN T with
 |some i=>T.set i ⟨1,s,genA T i⟩
 |none=>T
def JT (T:List jk):Int × Int × Int:=match JN T with
 |some i=>((i:Nat),genA T i,0)
 |none=>(0,0,131)
def J2 (T:List jk) (i g:Int):Option jk:=if 0<=i then(match T[i.toNat]? with
 |some e=>if e.st=1/\e.gen=g then some e else none
 |none=>none) else none
def Ji (T:List jk) (i:Int):Option Int:=if 0<=i then(match T[i.toNat]? with
 |some e=>if e.st=1 then some e.slot else none
 |none=>none) else none
theorem jaH {T:List jk} {i:Nat} {e:jk} (h:T[i]?=some e) (e':jk) (s:Int):cntP s (T.set i e')+(if e.st=s then 1 else 0)=cntP s T+(if e'.st=s then 1 else 0):=by
 unfold cntP
 induction T generalizing i with
 |nil=>simp at h
 |cons x T ih=>
  cases i with
  |zero=>simp at h;subst h;simp[List.countP_cons];split<;>split<;>omega
  |succ i=>
   simp at h
   have:=ih h
   simp only[List.set_cons_succ,List.countP_cons]
   omega
theorem jcQ (s:Int) (T:List jk):cntP s T<=T.length:=List.countP_le_length
theorem jfs {T:List jk} {i:Nat} {e:jk} (h:T[i]?=some e):1<=cntP e.st T:=by
 unfold cntP;rw[Nat.one_le_iff_ne_zero,<-Nat.pos_iff_ne_zero,List.countP_pos_iff];exact⟨e,List.mem_of_getElem? h,by simp⟩
theorem jbK {T:List jk} {i:Nat} (h:JN T=some i):(∃ e,T[i]?=some e/\e.st=0)/\ ∀ (j:Nat) (e:jk),j<i->T[j]?=some e->e.st≠0:=by
 unfold JN at h;rw[List.findIdx?_eq_some_iff_getElem] at h
 obtain⟨hl,h1,h2⟩:=h
 refine⟨⟨T[i],List.getElem?_eq_getElem hl,by simpa using h1⟩,fun j e hj he=>?_⟩
 have:=h2 j hj
 rw[List.getElem?_eq_getElem bc] at he
 cases he
 simpa using this
theorem jlS {T:List jk} (h:JN T=none): ∀ (j:Nat) (e:jk),T[j]?=some e->e.st≠0:=by
 unfold JN at h;rw[List.findIdx?_eq_none_iff] at h;intro j e he
 have:=h e (List.mem_of_getElem? he)
 simpa using this
theorem jjR {T:List jk} {i:Nat} {e:jk} (h1:T[i]?=some e) (h2:e.st=0) (h3: ∀ (j:Nat) (e:jk),j<i->T[j]?=some e->e.st≠0):JN T=some i:=by
 cases hf:JN T with
 |none=>exact absurd h2 (jlS hf i e h1)
 |some j=>
  obtain⟨⟨e',g1,g2⟩,g3⟩:=jbK hf
  rcases Nat.lt_trichotomy i j with h|h|h
  ·exact absurd h2 (g3 i e h h1)
  ·rw[h]
  ·exact absurd g2 (h3 j e' h g1)
theorem jjQ {T:List jk} (h3: ∀ (j:Nat) (e:jk),T[j]?=some e->e.st≠0):JN T=none:=by
 cases hf:JN T with
 |none=>rfl
 |some j=>
  obtain⟨⟨e',g1,g2⟩,g3⟩:=jbK hf
  exact absurd g2 (h3 j e' g1)
theorem jcp {T:List jk} {i:Nat} {e:jk} (h:T[i]?=some e):genA T i=e.gen:=by unfold genA;rw [h];rfl
theorem jbk {T:List jk} {s:Int}:(jS T s).length=T.length:=by unfold jS;split<;>simp
def Jr (T:List jk) (i:Int):List jk:=if 0<=i then(match T[i.toNat]? with
 |some e=>if e.st=1 then T.set i.toNat {e with st:=2} else T
 |none=>T) else T
theorem jc3 {T:List jk} {i:Int}:(Jr T i).length=T.length:=by
 unfold Jr
 split
 ·split
  ·split<;>simp
  ·rfl
 ·rfl
structure jcu where
 w:Nat
 s:Int
 i:Int
 t:Int
 r:Int
 u:Nat
def hdM (y:jn) (r:Int):HdP:=⟨((y.cls:Nat):Int),min (max r 0) (((y.size:Nat):Int)-1),0⟩
def inS (g:PlG) (s:Int):Prop:=0<=s/\s<((g.slots:Nat):Int)
instance {g:PlG} {s:Int}:Decidable (inS g s):=by unfold inS;exact inferInstance
def jZ (g:PlG) (long:Nat) (m:MaP) (s:Int):MaP:=if inS g s then ja3 g long m s else m
def oldS (g:PlG) (W:MwP) (a:jcu):Int × Int:=refP W.x g.slots (jv g a.s) a.i
def JR (g:PlG) (W:MwP) (a:jcu):MwP:=
 if a.w%10<2 then(if inS g a.s then{W with x:=(makeP W.x (jv g a.s) (hdM (jv g a.s) a.r)).2} else W)
 else if a.w%10<4 then(if inS g a.s/\(oldS g W a).2=0 then{W with x:=(Jp W.x g.slots (jv g a.s) a.i a.t).2} else W)
 else if a.w%10=4 then(if inS g a.s then{W with T:=jS W.T a.s} else W)
 else if a.w%10=5 then{W with T:=Jr W.T a.i}
 else if a.w%10=6 then(if inS g a.s then{W with N:=JQ W.N a.s.toNat} else W)
 else if a.w%10=7 then(if inS g a.s then{W with N:=JX W.N a.s.toNat} else W)
 else W
def jas (g:PlG) (long:Nat) (W:MwP) (m:MaP) (a:jcu):MaP:=
 if a.w%10<2 then m
 else if a.w%10<4 then(if inS g a.s/\(oldS g W a).2=0 then jZ g long (jZ g long m (oldS g W a).1) a.t else m)
 else if a.w%10=5 then(match Ji W.T a.i with
  |some s=>jZ g long m s
  |none=>m)
 else if a.w%10<8 then jZ g long m a.s
 else if a.w%10=8 then(stepM g long W m a.i (a.u:Nat)).getD m
 else(JK g long W m).getD m
def jaD (g:PlG) (x:List Int):Prop:= ∀ (s:Nat) (y:jn),g.L[s]?=some y-> ∀ i,fldP x y true i=0->wAt x (fAt y i)<=((g.slots:Nat):Int)
section
variable {g : PlG} {long : Nat} {W W' : MwP} {m m' : MaP} {a : jcu} {x x' : List Int}
theorem jaP {a b:Nat} {v:Int} (h:a≠b):wAt (x.set a v) b=wAt x b:=by unfold wAt;rw [List.getElem?_set_ne h]
theorem jiZ {a:Nat} {v:Int} (h:a<x.length):wAt (x.set a v) a=v:=by unfold wAt;rw [List.getElem?_set_self h];rfl
theorem jbM {p:jn} {a:Nat} (hl:p.addr+p.size<=x.length):wAt (JH x p) a=if p.addr<=a/\a<p.addr+p.size then 0 else wAt x a:=by
 unfold wAt JH cleared
 by_cases h1:a<p.addr
 ·rw[if_neg bc,List.append_assoc,List.getElem?_append_left (by simp;omega),List.getElem?_take_of_lt h1]
 ·by_cases h2:a<p.addr+p.size
  ·rw[if_pos bc,List.append_assoc,List.getElem?_append_right (by simp;omega),List.getElem?_append_left (by simp;omega),List.getElem?_replicate]
   split<;>rfl
  ·rw[if_neg bc,List.getElem?_append_right (by simp;omega),List.getElem?_drop]
   congr 2
   simp;omega
theorem jh3 {p:jn} (h:wAt x' p.addr=wAt x p.addr):headP x' p=headP x p:=by unfold headP;rw [h]
theorem jch {p:jn} {ref:Bool} {i:Int} (h:wAt x' p.addr=wAt x p.addr):fldP x' p ref i=fldP x p ref i:=by unfold fldP;rw [jh3 h]
theorem jfP {p:jn} (h:wAt x' p.addr=wAt x p.addr):refsN x' p=refsN x p:=by unfold refsN;rw [jh3 h]
theorem jdF (h:inS g a.s): ∃ (s:Nat) (y:jn),a.s=(s:Nat)/\g.L[s]?=some y/\jv g a.s=y:=by
 unfold inS at h
 obtain⟨y,hy⟩:=Je (g:=g) (i:=a.s.toNat) bc
 refine⟨a.s.toNat,y,by omega,hy,?_⟩
 have:=jY hy
 rwa[show((a.s.toNat:Nat):Int)=a.s by omega] at this
theorem jeK (ok:jh g) (hx:x.length=g.words) {s:Nat} {y:jn} (hy:g.L[s]?=some y) (h:HdP) {t:Nat} (ht:t<g.slots) (hp:0<refsN x (jv g (t:Nat))):
  refsN (makeP x y h).2 (jv g (t:Nat))=refsN x (jv g (t:Nat)):=by
 obtain⟨z,hz⟩:=Je ht
 rw[jY hz] at hp|-
 have f1:=ok.fits hy
 have f2:=ok.fits hz
 unfold makeP
 split
 ·split
  ·rfl
  ·rename_i hn
   by_cases e:s=t
   ·subst e;rw[hy] at hz;cases hz
    exfalso
    unfold refsN at hp
    cases hh:headP x y with
    |none=>rw [hh] at hp;simp at hp
    |some h=>rw [hh] at hn;simp at hn
   ·have:=ok.apart hy hz e
    refine jfP ?_;dsimp only;rw[jaP bc,jbM bc,if_neg bc]
 ·rfl
theorem jjc (ok:jh g) {s:Nat} {y:jn} (hy:g.L[s]?=some y) {i v:Int} {t:Nat} (ht:t<g.slots):refsN (Jp x g.slots y i v).2 (jv g (t:Nat))=refsN x (jv g (t:Nat)):=by
 obtain⟨z,hz⟩:=Je ht
 rw[jY hz]
 have f1:=ok.fits hy
 have f2:=ok.fits hz
 unfold Jp
 split
 ·rfl
 ·split
  ·rename_i e
   have:=J7 e
   refine jfP ?_
   by_cases e2:s=t
   ·subst e2;rw[hy] at hz;cases hz;exact jaP bc
   ·have:=ok.apart hy hz e2
    exact jaP bc
  ·rfl
theorem jw.world (hm:jw g long W m) (hT:W'.T.length=W.T.length) (hr: ∀ t:Nat,t<g.slots->0<refsN W.x (jv g (t:Nat))->refsN W'.x (jv g (t:Nat))=refsN W.x (jv g (t:Nat))):jw g long W' m:=by
 refine⟨hm.C,hm.c,hm.G,hm.hs,fun k h hk=>?_,by rw[hT];exact hm.root⟩
 rcases hm.h k h hk with⟨e1,e2,e3,e4,e5⟩|e
 ·left
  refine⟨e1,e2,e3,e4,?_⟩
  rcases e5 with e5|e5
  ·exact .inl e5
  ·right
   obtain⟨n,hn⟩: ∃ n:Nat,h.slot=n:=⟨h.slot.toNat,by omega⟩
   rw[hn] at e5 e3|-;rw[hr n bc bc];exact e5
 ·exact .inr e
theorem jfg (ok:jh g) (hm:jw g long W m) (s:Int):jw g long W (jZ g long m s):=by
 unfold jZ ja3
 split
 ·split
  ·exact jjb ok hm s
  ·exact hm
 ·exact hm
theorem jim (ok:jh g) (hm:jw g long W m) (s:Int):jH g W (jZ g long m s)<=jH g W m:=by
 unfold jZ ja3
 split
 ·split
  ·exact jhW ok hm s
  ·exact Nat.le_refl _
 ·exact Nat.le_refl _
theorem jeb (s:Int):(jZ g long m s).hs=m.hs/\(jZ g long m s).root=m.root/\(jZ g long m s).act=m.act/\(jZ g long m s).steps=m.steps:=by
 unfold jZ ja3
 split
 ·split
  ·exact jgx s
  ·exact⟨rfl,rfl,rfl,rfl⟩
 ·exact⟨rfl,rfl,rfl,rfl⟩
theorem jja (hm:jw g long W m) (ha:m.act=true) (s:Int):jZ g long m s=Jt g long m s:=by
 unfold jZ ja3;simp only[ha,if_true]
 split
 ·rfl
 ·rename_i h
  unfold Jt;rw[if_neg];rintro⟨h1,h2⟩
  have:=jl h2
  rw[hm.C] at this;exact h ⟨h1,by omega⟩
theorem jf4 (ha:m.act=false) (s:Int):jZ g long m s=m:=by
 unfold jZ ja3;rw[ha];simp
theorem mint_at {T:List jk} {s:Int} {j:Nat} {e:jk} (h:(jS T s)[j]?=some e):T[j]?=some e\/(e.st=1/\e.slot=s):=by
 unfold jS at h
 split at h
 ·rename_i i hi
  by_cases e2:j=i
  ·subst e2
   obtain⟨⟨e',g1,_⟩,_⟩:=jbK hi
   rw[List.getElem?_set_self (jl g1)] at h
   cases h;exact .inr ⟨rfl,rfl⟩
  ·rw[List.getElem?_set_ne bc] at h;exact .inl h
 ·exact .inl h
theorem drop_at {T:List jk} {i:Int} {j:Nat} {e:jk} (h:(Jr T i)[j]?=some e):T[j]?=some e\/e.st=2:=by
 unfold Jr at h
 split at h
 ·split at h
  ·split at h
   ·rename_i e' he _
    by_cases e2:j=i.toNat
    ·subst e2;rw[List.getElem?_set_self (jl he)] at h
     cases h;exact .inr rfl
    ·rw[List.getElem?_set_ne bc] at h;exact .inl h
   ·exact .inl h
  ·exact .inl h
 ·exact .inl h
theorem jgS:(JR g W a).T.length=W.T.length:=by
 unfold JR
 split
 ·split<;>rfl
 ·split
  ·split<;>rfl
  ·split
   ·split
    ·exact jbk
    ·rfl
   ·split
    ·exact jc3
    ·split
     ·split<;>rfl
     ·split
      ·split<;>rfl
      ·rfl
theorem actW_ok (ok:jh g) (hW:Jv g W):Jv g (JR g W a):=by
 have hsl:=ok.slots
 have hww:=ok.words
 unfold JR
 split
 ·split
  ·rename_i h
   obtain⟨s,y,_,hy,e⟩:=jdF h
   have:=ok.fits hy
   rw[e];exact⟨by show(makeP W.x y _).2.length=_;rw [je6 (by rw[hW.x];omega)];exact hW.x,jfk hW.w,hW.N,hW.n,hW.t⟩
  ·exact hW
 ·split
  ·split
   ·exact⟨by show(Jp W.x _ _ _ _).2.length=_;rw [jhX];exact hW.x,jio hW.w bc,hW.N,hW.n,hW.t⟩
   ·exact hW
  ·split
   ·split
    ·rename_i h
     refine⟨hW.x,hW.w,hW.N,hW.n,fun e he h1=>?_⟩
     obtain⟨j,hj⟩:=List.getElem?_of_mem he
     rcases mint_at hj with h2|⟨_,h2⟩
     ·exact hW.t e (List.mem_of_getElem? h2) h1
     ·rw[h2];exact h
    ·exact hW
   ·split
    ·refine⟨hW.x,hW.w,hW.N,hW.n,fun e he h1=>?_⟩
     obtain⟨j,hj⟩:=List.getElem?_of_mem he
     rcases drop_at hj with h2|h2
     ·exact hW.t e (List.mem_of_getElem? h2) h1
     ·omega
    ·split
     ·split
      ·exact⟨hW.x,hW.w,by show(JQ W.N _).length=_;rw [jjw];exact hW.N,pinP_in hW.n,hW.t⟩
      ·exact hW
     ·split
      ·split
       ·exact⟨hW.x,hW.w,by show(JX W.N _).length=_;rw [jhT];exact hW.N,jmd hW.n,hW.t⟩
       ·exact hW
      ·exact hW
theorem jfj (ok:jh g) (hx:x.length=g.words) (h:jaD g x) {s:Nat} {y:jn} (hy:g.L[s]?=some y) (hd:HdP):jaD g (makeP x y hd).2:=by
 have f1:=ok.fits hy
 unfold makeP
 split
 ·split
  ·exact h
  ·intro t z hz j hf
   have f2:=ok.fits hz
   have h1:=J7 hf
   dsimp only at hf|-
   by_cases e:s=t
   ·subst e;rw[hy] at hz;cases hz;rw[jaP bc,jbM bc,if_pos bc];omega
   ·have:=ok.apart hy hz e
    rw[jch (x:=x) (by rw[jaP bc,jbM bc,if_neg bc])] at hf;rw[jaP bc,jbM bc,if_neg bc];exact h t z hz j hf
 ·exact h
theorem set_rf (ok:jh g) (hx:x.length=g.words) (h:jaD g x) {s:Nat} {y:jn} (hy:g.L[s]?=some y) {i v:Int}:jaD g (Jp x g.slots y i v).2:=by
 have f1:=ok.fits hy
 unfold Jp
 split
 ·exact h
 ·split
  ·rename_i hv e
   have hin:=J7 e
   intro t z hz j hf
   have f2:=ok.fits hz
   have h1:=J7 hf
   dsimp only at hf|-
   have hz0:fAt y i≠z.addr:=by
    by_cases e3:s=t
    ·subst e3;rw [hy] at hz;cases hz;omega
    ·have:=ok.apart hy hz e3;omega
   rw[jch (x:=x) (jaP hz0)] at hf
   by_cases e2:fAt y i=fAt z j
   ·rw[e2,jiZ bc];omega
   ·rw[jaP e2];exact h t z hz j hf
  ·exact h
theorem actW_rf (ok:jh g) (hW:Jv g W) (hR:jaD g W.x):jaD g (JR g W a).x:=by
 unfold JR
 split
 ·split
  ·rename_i h
   obtain⟨s,y,_,hy,e⟩:=jdF h
   rw[e];exact jfj ok hW.x hR hy _
  ·exact hR
 ·split
  ·split
   ·rename_i h
    obtain⟨s,y,_,hy,e⟩:=jdF h.1
    rw[e];exact set_rf ok hW.x hR hy
   ·exact hR
  ·split
   ·split<;>exact hR
   ·split
    ·exact hR
    ·split
     ·split<;>exact hR
     ·split
      ·split<;>exact hR
      ·exact hR
theorem jiS (ok:jh g) (hW:Jv g W) {t:Nat} (ht:t<g.slots) (hp:0<refsN W.x (jv g (t:Nat))):refsN (JR g W a).x (jv g (t:Nat))=refsN W.x (jv g (t:Nat)):=by
 unfold JR
 split
 ·split
  ·rename_i h
   obtain⟨s,y,_,hy,e⟩:=jdF h
   rw[e];exact jeK ok hW.x hy _ ht hp
  ·rfl
 ·split
  ·split
   ·rename_i h
    obtain⟨s,y,_,hy,e⟩:=jdF h.1
    rw[e];exact jjc ok hy ht
   ·rfl
  ·split
   ·split<;>rfl
   ·split
    ·rfl
    ·split
     ·split<;>rfl
     ·split
      ·split<;>rfl
      ·rfl
theorem actK_all (ok:jh g) (hm:jw g long W m):jw g long W (jas g long W m a)/\jH g W (jas g long W m a)<=jH g W m/\(jas g long W m a).act=m.act/\(jas g long W m a).hs.length=m.hs.length:=by
 have hs1: ∀ (m:MaP) (s:Int),jw g long W m->jw g long W (jZ g long m s)/\jH g W (jZ g long m s)<=jH g W m/\(jZ g long m s).act=m.act/\(jZ g long m s).hs.length=m.hs.length:=fun m s hm=>
  ⟨jfg ok hm s,jim ok hm s,(jeb s).2.2.1,by rw[(jeb s).1]⟩
 have hid:jw g long W m/\jH g W m<=jH g W m/\m.act=m.act/\m.hs.length=m.hs.length:=⟨hm,Nat.le_refl _,rfl,rfl⟩
 have hst: ∀ {k u:Int},jw g long W ((stepM g long W m k u).getD m)/\jH g W ((stepM g long W m k u).getD m)<=jH g W m/\((stepM g long W m k u).getD m).act=m.act/\((stepM g long W m k u).getD m).hs.length=m.hs.length:=fun{k u}=>by
  cases h:stepM g long W m k u with
  |none=>exact hid
  |some m'=>
   obtain⟨h1,h2,h3,h4,h5⟩:=jdE ok hm h
   exact⟨h1,by show jH g W m'<=_;omega,h4,h5⟩
 unfold jas
 split
 ·exact hid
 ·split
  ·split
   ·obtain⟨h1,h2,h3,h4⟩:=hs1 m (oldS g W a).1 hm
    obtain⟨k1,k2,k3,k4⟩:=hs1 _ a.t h1
    exact⟨k1,Nat.le_trans k2 h2,k3.trans h3,k4.trans h4⟩
   ·exact hid
  ·split
   ·split
    ·exact hs1 _ _ hm
    ·exact hid
   ·split
    ·exact hs1 _ _ hm
    ·split
     ·exact hst
     ·cases h:JK g long W m with
      |none=>exact hid
      |some m'=>
       obtain⟨k,u,hk⟩:=jcg h
       have:=hst (k:=k) (u:=u)
       rw[hk] at this;exact this
theorem actK_ok (ok:jh g) (hW:Jv g W) (hm:jw g long W m):jw g long (JR g W a) (jas g long W m a):=
 (actK_all ok hm).1.world jgS fun t ht hp=>jiS ok hW ht hp
theorem jfU (h:W'.T.length=W.T.length):jH g W' m=jH g W m:=by unfold jH;rw [h]
theorem jmi (ha:m.act=false) {k u:Int}:stepM g long W m k u=none:=by
 unfold stepM;rw [if_neg];rw [ha];rintro⟨h,_⟩;cases h
theorem help_idle (ha:m.act=false):JK g long W m=none:=by
 cases h:JK g long W m with
 |none=>rfl
 |some m'=>
  obtain⟨k,u,hk⟩:=jcg h
  rw[jmi ha] at hk;cases hk
end
section
variable {g : PlG} {long : Nat} {W W' : MwP} {m m' : MaP} {a : jcu} {x x' : List Int}
theorem jdT {t:Nat} {i s:Int} (h:refO g x (t:Nat) i=some s):t<g.slots/\fldP x (jv g (t:Nat)) true i=0:=by
 unfold refO at h
 split at h
 ·rename_i hc
  have hf:fldP x (jv g (t:Nat)) true i=0:=by
   have:=hc.1
   unfold refP at this
   split at this
   ·assumption
   ·exact this
  refine⟨?_,hf⟩
  rcases Nat.lt_or_ge t g.slots with h1|h1
  ·exact h1
  ·exfalso
   have e:jv g (t:Nat)=⟨0,0,0,0⟩:=by
    unfold jv;rw[Int.toNat_natCast,List.getElem?_eq_none (by rw[jak];omega)];rfl
   rw[e] at hf
   have:=J7 hf
   dsimp only at this;omega
 ·cases h
theorem jfQ {t:Nat} {i:Int} (h1:wAt x' (jv g (t:Nat)).addr=wAt x (jv g (t:Nat)).addr) (h2:wAt x' (fAt (jv g (t:Nat)) i)=wAt x (fAt (jv g (t:Nat)) i)):refO g x' (t:Nat) i=refO g x (t:Nat) i:=by
 have:refP x' g.slots (jv g (t:Nat)) i=refP x g.slots (jv g (t:Nat)) i:=by unfold refP;rw [jch h1,h2]
 unfold refO;rw [this]
theorem set_refO (ok:jh g) {s0:Nat} {y:jn} (hy:g.L[s0]?=some y) {i0 v:Int} {t:Nat} {i s:Int} (h:refO g x (t:Nat) i=some s):
  (t=s0/\i=i0)\/refO g (Jp x g.slots y i0 v).2 (t:Nat) i=some s:=by
 obtain⟨ht,hf⟩:=jdT h
 obtain⟨z,hz⟩:=Je ht
 have hin:=J7 hf
 have e:=jY hz
 have f1:=ok.fits hy
 have f2:=ok.fits hz
 by_cases hti:t=s0/\i=i0
 ·exact .inl hti
 ·right
  rw[<-h];unfold Jp
  split
  ·rfl
  ·split
   ·rename_i hv hf0
    have hin0:=J7 hf0
    rw[e] at hin
    have ha:fAt y i0≠z.addr/\fAt y i0≠fAt z i:=by
     by_cases et:s0=t
     ·subst et;rw[hy] at hz;cases hz
      have:i≠i0:=fun h=>hti ⟨rfl,h⟩
      unfold fAt at*
      omega
     ·have:=ok.apart hy hz et
      omega
    refine jfQ ?_ ?_
    ·rw[e];exact jaP ha.1
    ·rw[e];exact jaP ha.2
   ·rfl
theorem jcy (ok:jh g) (hm:jw g long W m) (hi:jau m) (ha:m.act=true) (s:Int):
  jau (jZ g long m s)/\JM g W' W' m (jZ g long m s)/\(∀ n:Nat,s=n->n<g.slots->NW (jZ g long m s) n):=by
 rw[jja hm ha]
 obtain⟨h1,h2,h3,_⟩:=shade_keep (W':=W') ok hm hi s
 exact⟨h1,h2,h3⟩
theorem jhv {W W':MwP} (hl:W'.T.length=W.T.length) (hN:W'.N=W.N) {r s:Nat} (h:jL g W r=some (s:Nat)) (hT:r<W.T.length->W'.T[r]?=W.T[r]?):jL g W' r=some (s:Nat):=by
 unfold jL at h|-
 rcases Nat.lt_or_ge r W.T.length with h1|h1
 ·rw[hT h1,hN,hl];exact h
 ·rw[List.getElem?_eq_none h1] at h;rw[List.getElem?_eq_none bc,hN,hl];exact h
theorem jj7 (ok:jh g) (hm:jw g long W m) (hW:Jv g W) (hi:jau m) (ha:m.act=true) (h2: ¬a.w%10<2):jau (jas g long W m a)/\JM g W (JR g W a) m (jas g long W m a):=by
 have hsame: ∀ {m':MaP},Mic g W m m'->jau m'/\JM g W W m m':=fun h=>⟨h.i,h.k⟩
 unfold jas JR;simp only[if_neg h2]
 by_cases h4:a.w%10<4
 ·simp only[if_pos h4]
  by_cases hc:inS g a.s/\(oldS g W a).2=0
  ·simp only[if_pos hc]
   obtain⟨s0,y,hs0,hy,hsl⟩:=jdF hc.1
   obtain⟨i1,k1,n1⟩:=jcy (W':=W) ok hm hi ha (oldS g W a).1
   have hm1:=jfg ok hm (oldS g W a).1
   have ha1:(jZ g long m (oldS g W a).1).act=true:=(jeb _).2.2.1.trans ha
   obtain⟨i2,k2,n2⟩:=jcy (W':=W) ok hm1 i1 ha1 a.t
   refine⟨i2,(k1.trans k2).trans (jcY rfl (fun r s h=> .inr h) fun t s i h=>?_)⟩;dsimp only;rw[hsl]
   rcases set_refO (i0:=a.i) (v:=a.t) ok hy h with⟨rfl,rfl⟩|h'
   ·left
    have hin:=jcG h hW.w
    refine k2.nw s (n1 s ?_ bc);unfold refO at h
    split at h
    ·have h':=Option.some.inj h
     unfold oldS;rw [hs0];exact h'
    ·cases h
   ·exact .inr h'
  ·simp only[if_neg hc];exact⟨hi,JM.refl⟩
 ·simp only[if_neg h4]
  by_cases e4:a.w%10=4
  ·have e5: ¬a.w%10=5:=by omega
   have e8:a.w%10<8:=by omega
   simp only[if_pos e4,if_neg e5,if_pos e8]
   by_cases hc:inS g a.s
   ·simp only[if_pos hc]
    obtain⟨i1,k1,n1⟩:=jcy (W':={W with T:=jS W.T a.s}) ok hm hi ha a.s
    refine⟨i1,(jcY (W':={W with T:=jS W.T a.s}) jbk (fun r s h=> .inr ?_) fun t s i h=> .inr h).trans k1⟩
    refine jhv (W:=W) (W':={W with T:=jS W.T a.s}) jbk rfl h fun hr=>?_
    dsimp only;unfold jS
    split
    ·rename_i j hj
     obtain⟨⟨e,g1,g2⟩,_⟩:=jbK hj
     by_cases hjr:j=r
     ·subst hjr
      exfalso
      unfold jL at h;rw[g1] at h;dsimp only at h;rw[if_neg bc] at h;cases h
     ·rw[List.getElem?_set_ne hjr]
    ·rfl
   ·simp only[if_neg hc]
    have:jZ g long m a.s=m:=by unfold jZ;rw [if_neg hc]
    rw[this];exact⟨hi,JM.refl⟩
  ·simp only[if_neg e4]
   by_cases e5:a.w%10=5
   ·simp only[if_pos e5]
    have hno:Ji W.T a.i=none->Jr W.T a.i=W.T->jau (match Ji W.T a.i with|some s=>jZ g long m s|none=>m)/\JM g W {W with T:=Jr W.T a.i} m (match Ji W.T a.i with|some s=>jZ g long m s|none=>m):=fun h1 h2=>by
     rw[h1,h2];exact⟨hi,JM.refl⟩
    by_cases h0:0<=a.i
    ·cases hT:W.T[a.i.toNat]? with
     |none=>exact hno (by unfold Ji;rw [if_pos h0,hT]) (by unfold Jr;rw [if_pos h0,hT])
     |some e=>
      by_cases h1:e.st=1
      ·have e1:Ji W.T a.i=some e.slot:=by unfold Ji;rw [if_pos h0,hT];dsimp only;rw [if_pos h1]
       have e2:Jr W.T a.i=W.T.set a.i.toNat {e with st:=2}:=by unfold Jr;rw [if_pos h0,hT];dsimp only;rw [if_pos h1]
       rw[e1,e2];dsimp only
       obtain⟨i1,k1,n1⟩:=jcy (W':=W) ok hm hi ha e.slot
       refine⟨i1,k1.trans (jcY (W':={W with T:=W.T.set a.i.toNat {e with st:=2}}) bF (fun r s h=>?_) fun t s i h=> .inr h)⟩
       by_cases hr:r=a.i.toNat
       ·left
        subst hr;unfold jL at h;rw[hT] at h;dsimp only at h;rw[if_pos h1] at h
        have h':=Option.some.inj h
        have hin:=hW.t e (List.mem_of_getElem? hT) h1
        exact n1 s h' bc
       ·right
        refine jhv (W:=W) (W':={W with T:=W.T.set a.i.toNat {e with st:=2}}) bF rfl h fun _=>?_
        dsimp only;rw[List.getElem?_set_ne bc]
      ·exact hno (by unfold Ji;rw [if_pos h0,hT];dsimp only;rw [if_neg h1]) (by unfold Jr;rw [if_pos h0,hT];dsimp only;rw [if_neg h1])
    ·exact hno (by unfold Ji;rw [if_neg h0]) (by unfold Jr;rw [if_neg h0])
   ·simp only[if_neg e5]
    have hpl: ∀ {N':List Int},N'.length=W.N.length->(∀ k:Nat,0<(W.N[k]?).getD 0->NW (jZ g long m a.s) k\/0<(N'[k]?).getD 0)-> ∀ r s:Nat,jL g W r=some (s:Nat)->NW (jZ g long m a.s) s\/jL g {W with N:=N'} r=some (s:Nat):=fun{N'} hl hk r s h=>by
     unfold jL at h|-;dsimp only
     cases hT:W.T[r]? with
     |some e=>rw [hT] at h;exact .inr h
     |none=>
      rw[hT] at h;dsimp only at h|-
      split at h
      ·rename_i hpos
       cases h
       rcases hk (r-W.T.length) hpos with h1|h1
       ·exact .inl h1
       ·right;rw [if_pos h1];rfl
      ·cases h
    by_cases e6:a.w%10=6
    ·have e8:a.w%10<8:=by omega
     simp only[if_pos e6,if_pos e8]
     by_cases hc:inS g a.s
     ·simp only[if_pos hc]
      obtain⟨i1,k1,n1⟩:=jcy (W':=W) ok hm hi ha a.s
      exact⟨i1,k1.trans (jcY rfl (hpl jjw fun k hk=> .inr (jjv hk)) fun t s i h=> .inr h)⟩
     ·simp only[if_neg hc]
      have:jZ g long m a.s=m:=by unfold jZ;rw [if_neg hc]
      rw[this];exact⟨hi,JM.refl⟩
    ·simp only[if_neg e6]
     by_cases e7:a.w%10=7
     ·have e8:a.w%10<8:=by omega
      simp only[if_pos e7,if_pos e8]
      by_cases hc:inS g a.s
      ·simp only[if_pos hc]
       obtain⟨i1,k1,n1⟩:=jcy (W':=W) ok hm hi ha a.s
       refine⟨i1,k1.trans (jcY rfl (hpl jhT fun k hk=>?_) fun t s i h=> .inr h)⟩;unfold inS at hc
       by_cases e:k=a.s.toNat
       ·left;exact n1 k bc bc
       ·right;rw [jii e];exact hk
      ·simp only[if_neg hc]
       have:jZ g long m a.s=m:=by unfold jZ;rw [if_neg hc]
       rw[this];exact⟨hi,JM.refl⟩
     ·have e8: ¬a.w%10<8:=by omega
      simp only[if_neg e7,if_neg e8]
      by_cases e9:a.w%10=8
      ·simp only[if_pos e9]
       cases h:stepM g long W m a.i (a.u:Nat) with
       |none=>exact⟨hi,JM.refl⟩
       |some m'=>exact hsame (jeU ok hm hW hi h)
      ·simp only[if_neg e9]
       cases h:JK g long W m with
       |none=>exact⟨hi,JM.refl⟩
       |some m'=>
        obtain⟨k,u,hk⟩:=jcg h
        exact hsame (jeU ok hm hW hi hk)
end
structure MsP where
 W:MwP
 m:MaP
 k:MaP
def actS2 (g:PlG) (long:Nat) (S:MsP) (a:jcu):MsP:=⟨JR g S.W a,jas g long S.W S.m a,jas g long S.W S.k a⟩
structure MsOk (g:PlG) (long:Nat) (S:MsP):Prop where
 W:Jv g S.W
 rf:jaD g S.W.x
 m:jw g long S.W S.m
 k:jw g long S.W S.k
theorem MsOk.act {g:PlG} {long:Nat} {S:MsP} (ok:jh g) (h:MsOk g long S) (a:jcu):MsOk g long (actS2 g long S a):=
 ⟨actW_ok ok h.W,actW_rf ok h.W h.rf,actK_ok ok h.W h.m,actK_ok ok h.W h.k⟩
structure CyP where
 W:MwP
 m:MaP
 A:List Bool
 sa:Bool
 at_:Nat
 D:List Bool
 ph:Nat
 st:Nat
def jP (g:PlG) (s:CyP):CyP:=
 if s.ph=1/\JB g s.W s.m=true then{s with sa:=true,ph:=if s.at_=g.slots then 3 else 2}
 else if s.ph=2/\s.at_=g.slots then{s with ph:=3} else s
def madeC (g:PlG) (s:CyP):CyP:=jP g {s with st:=s.st+1}
def sweepC (g:PlG) (s:CyP):Option CyP:=
 if s.sa=true/\s.at_<g.slots then
  some (if s.A[s.at_]?=some true/\s.m.C[s.at_]?=some 0 then{s with W:={s.W with x:=JH s.W.x (jv g (s.at_:Nat))},D:=s.D.set s.at_ true,at_:=s.at_+1} else{s with at_:=s.at_+1})
 else none
def stepC (g:PlG) (long nw:Nat) (s:CyP) (hd u:Int):Option CyP:=
 if s.ph=1 then(stepM g long s.W s.m hd u).map fun m'=>madeC g {s with m:=m'}
 else if s.ph=2/\u=5/\0<=hd/\hd<=((nw:Nat):Int) then(sweepC g s).map (madeC g)
 else none
def jM (g:PlG) (long:Nat) (s:CyP):Option CyP:=
 if s.ph=1 then(JK g long s.W s.m).map fun m'=>madeC g {s with m:=m'}
 else if s.ph=2 then(sweepC g s).map (madeC g) else none
def beginC (g:PlG) (s:CyP):CyP:={s with m:=jcK g s.m,ph:=1,st:=0}
def JZ (gens:Int) (e:jk):jk:=if e.st=2 then(if e.gen>=gens then⟨3,0,e.gen⟩ else⟨0,0,e.gen+1⟩) else e
def Jq (gens:Int) (T:List jk):List jk:=T.map (JZ gens)
def recyN (gens:Int) (T:List jk):Nat:=T.countP fun e=>decide (e.st=2/\ ¬e.gen>=gens)
def publishC (g:PlG) (gens:Int) (s:CyP):CyP:=
 {s with A:=(jah s.A s.D).2,sa:=false,at_:=0,D:=List.replicate g.slots false,W:={s.W with T:=Jq gens s.W.T},m:={s.m with act:=false},ph:=0}
def shdC (g:PlG) (long:Nat) (s:CyP) (sl:Int):CyP:=if s.ph=1 then{s with m:=jZ g long s.m sl} else s
def Jd (m:MaP) (s:Nat):MaP:=if m.act=true then{m with C:=m.C.set s 2} else m
structure jaW where
 w:Nat
 n:Int
 i:Int
 t:Int
def makesC (g:PlG) (s:CyP) (a:jaW):CyP:=
  if (jX g s.A a.n).2.1=0/\(JN s.W.T).isSome=true then
    {s with A:=(jX g s.A a.n).2.2,m:=Jd s.m (jX g s.A a.n).1.toNat,
             W:={s.W with T:=jS s.W.T (jX g s.A a.n).1,x:=(makeP s.W.x (jv g (jX g s.A a.n).1) (hdM (jv g (jX g s.A a.n).1) a.i)).2}}
  else s
def shdO (g:PlG) (long:Nat) (s:CyP) (t:Int):CyP:=if t>=0 then shdC g long s t else s
def toC (T:List jk) (t:Int):Int:=if t<0 then-1 else(Ji T t).getD (-1)
def putC (g:PlG) (s:CyP) (sl i to:Int):CyP:={s with W:={s.W with x:=(Jp s.W.x g.slots (jv g sl) i to).2}}
def jbR (g:PlG) (long:Nat) (s:CyP) (a:jaW):CyP:=
 match Ji s.W.T a.n with
 |none=>s
 |some sl=>
  if a.t>=0/\(Ji s.W.T a.t).isNone=true then s
  else if (refP s.W.x g.slots (jv g sl) a.i).2≠0 then s
  else
   putC g (shdO g long (shdO g long s (refP s.W.x g.slots (jv g sl) a.i).1) (toC s.W.T a.t)) sl a.i (toC s.W.T a.t)
def doesC (g:PlG) (long:Nat) (s:CyP) (a:jaW):CyP:=
 if a.w%6<2 then makesC g s a
 else if a.w%6=2 then jbR g long s a
 else match Ji s.W.T a.n with
  |none=>s
  |some sl=>
   if a.w%6=3 then(let s1:=shdC g long s sl;{s1 with W:={s1.W with T:=Jr s1.W.T a.n}})
   else if a.w%6=4 then{s with W:={s.W with N:=JQ s.W.N sl.toNat}}
   else(let s1:=shdC g long s sl;{s1 with W:={s1.W with N:=JX s1.W.N sl.toNat}})
structure CyPre (g:PlG) (long:Nat) (s:CyP):Prop where
 w:Jv g s.W
 rf:jaD g s.W.x
 m:jw g long s.W s.m
 i:jau s.m
 A:s.A.length=g.slots
 D:s.D.length=g.slots
 p0:s.ph=0->s.m.act=false/\s.sa=false/\s.at_=0/\s.D=List.replicate g.slots false
 p1:s.ph=1->s.m.act=true/\s.sa=false/\s.at_=0/\s.D=List.replicate g.slots false
 p2:s.ph=2->s.m.act=true/\s.sa=true/\s.at_<=g.slots
 p3:s.ph=3->s.m.act=true/\s.sa=true/\s.at_=g.slots
 ph:s.ph<=3
 dn:2<=s.ph-> ∀ t,¬Lst s.m t
structure jp (g:PlG) (long:Nat) (s:CyP):Prop extends CyPre g long s where
 lt:s.ph=2->s.at_<g.slots
 go:s.ph=1->JB g s.W s.m=false
def Jg (g:PlG) (s:CyP):Nat:=if s.ph=1 then jH g s.W s.m+g.slots+1 else if s.ph=2 then g.slots-s.at_ else 0
section
variable {g : PlG} {long : Nat} {s s' : CyP}
theorem goes_mes (hs:1<=g.slots):Jg g (jP g s)<=Jg g s:=by
 unfold jP
 split
 ·rename_i h
  unfold Jg;rw[if_pos h.1];dsimp only
  split
  ·rw[if_neg bn,if_neg bn];omega
  ·rw[if_neg bn,if_pos rfl];omega
 ·split
  ·rename_i h
   unfold Jg;dsimp only;rw[if_neg bn,if_neg bn]
   omega
  ·exact Nat.le_refl _
theorem jcm (ok:jh g) (h:jp g long s) (hh:jM g long s=some s'):Jg g s'<Jg g s:=by
 have hsl:=ok.slots
 unfold jM at hh
 split at hh
 ·rename_i h1
  cases hm:JK g long s.W s.m with
  |none=>rw [hm] at hh;cases hh
  |some m'=>
   rw[hm] at hh
   cases hh
   obtain⟨k,u,hk⟩:=jcg hm
   obtain⟨_,h2,_,_,_⟩:=jdE ok h.m hk
   refine zaW ?_;unfold Jg;dsimp only;rw[if_pos h1,if_pos h1]
   omega
 ·split at hh
  ·rename_i h1 h2
   unfold sweepC at hh
   split at hh
   ·rename_i h3
    cases hh
    refine zaW ?_;unfold Jg;rw[if_neg h1,if_pos h2]
    split
    ·dsimp only;first|omega|(rw [if_neg h1,if_pos h2];omega)
    ·dsimp only;first|omega|(rw [if_neg h1,if_pos h2];omega)
   ·cases hh
  ·cases hh
theorem jgk (ok:jh g) (h:jp g long s) (h0:s.ph≠0) (hh:jM g long s=none):s.ph=3:=by
 have h3:=h.ph
 unfold jM at hh
 split at hh
 ·rename_i h1
  cases hm:JK g long s.W s.m with
  |none=>have:=help_done ok h.m (h.p1 h1).1 hm;rw [h.go h1] at this;cases this
  |some m'=>rw [hm] at hh;cases hh
 ·split at hh
  ·rename_i h1 h2
   obtain⟨_,a,_⟩:=h.p2 h2
   have b:=h.lt h2
   unfold sweepC at hh;rw[if_pos ⟨a,b⟩] at hh
   cases hh
  ·omega
end
section
variable {g : PlG} {long nw : Nat} {s s' : CyP}
theorem goes_cy (ok:jh g) (h:CyPre g long s):jp g long (jP g s):=by
 have hsl:=ok.slots
 unfold jP
 split
 ·rename_i h1
  obtain⟨a,b,c,d⟩:=h.p1 h1.1
  rw[if_neg bc];exact⟨⟨h.w,h.rf,h.m,h.i,h.A,h.D,fun e=>bO,fun e=>bO,fun _=>⟨a,rfl,by show s.at_<=_;omega⟩,fun e=>bO,by show 2<=3;decide,fun _ t=>jjT h1.2 t⟩,fun _=>by show s.at_<_;omega,fun e=>bO⟩
 ·rename_i h1
  split
  ·rename_i h2
   obtain⟨a,b,c⟩:=h.p2 h2.1
   exact⟨⟨h.w,h.rf,h.m,h.i,h.A,h.D,fun e=>bO,fun e=>bO,fun e=>bO,fun _=>⟨a,b,h2.2⟩,by show 3<=3;decide,fun _=>h.dn (by rw[h2.1];decide)⟩,fun e=>bO,fun e=>bO⟩
  ·rename_i h2
   refine⟨h,fun e=>?_,fun e=>?_⟩
   ·have:=(h.p2 e).2.2
    have: ¬s.at_=g.slots:=fun e2=>h2 ⟨e,e2⟩
    omega
   ·cases hd:JB g s.W s.m with
    |false=>rfl
    |true=>exact absurd ⟨e,hd⟩ h1
theorem jdH (ok:jh g) (h:CyPre g long s):jp g long (madeC g s):=
 goes_cy ok ⟨h.w,h.rf,h.m,h.i,h.A,h.D,h.p0,h.p1,h.p2,h.p3,h.ph,h.dn⟩
theorem wipe_rf (ok:jh g) {x:List Int} (hx:x.length=g.words) (h:jaD g x) {t:Nat} {y:jn} (hy:g.L[t]?=some y):jaD g (JH x y):=fun q z hz j hj=>by
 have f1:=ok.fits hy
 have f2:=ok.fits hz
 have h1:=J7 hj
 by_cases e:t=q
 ·subst e;rw[hy] at hz;cases hz;rw[jbM bc,if_pos bc];omega
 ·have:=ok.apart hy hz e
  rw[jch (x:=x) (by rw[jbM bc,if_neg bc])] at hj;rw[jbM bc,if_neg bc];exact h q z hz j hj
theorem CyPre.wipe (ok:jh g) (h:CyPre g long s) (h2:s.ph=2) {t:Nat} (ht:t<g.slots):Jv g {s.W with x:=JH s.W.x (jv g (t:Nat))}/\jaD g (JH s.W.x (jv g (t:Nat)))/\jw g long {s.W with x:=JH s.W.x (jv g (t:Nat))} s.m:=by
 obtain⟨y,hy⟩:=Je ht
 rw[jY hy]
 have hf:=ok.fits hy
 have hx:=h.w.x
 refine⟨⟨(jdz bc).trans hx,JF.cleared h.w.w,h.w.N,h.w.n,h.w.t⟩,wipe_rf ok hx h.rf hy,⟨h.m.C,h.m.c,h.m.G,h.m.hs,fun k q hk=>?_,h.m.root⟩⟩
 rcases h.m.h k q hk with⟨e1,e2,e3,_⟩|e
 ·exact absurd (.inr (.inr ⟨k,q,hk,e1,by omega⟩)) (h.dn (by rw[h2];decide) q.slot.toNat)
 ·exact .inr e
theorem jbw (ok:jh g) (h:jp g long s) (h2:s.ph=2) (hs:sweepC g s=some s'):CyPre g long s'/\s'.ph=2/\s'.at_=s.at_+1/\s'.m=s.m/\s'.A=s.A/\s'.W.T=s.W.T/\s'.W.N=s.W.N/\s'.st=s.st:=by
 have hlt:=h.lt h2
 obtain⟨a,b,_⟩:=h.p2 h2
 unfold sweepC at hs;rw[if_pos ⟨b,hlt⟩] at hs
 have hdn:=h.dn (by rw[h2];decide)
 split at hs
 ·cases hs
  obtain⟨w1,w2,w3⟩:=h.toCyPre.wipe ok h2 hlt
  exact⟨⟨w1,w2,w3,h.i,h.A,by show(s.D.set _ _).length=_;rw [List.length_set];exact h.D,fun e=>Bc,fun e=>Bc,fun _=>⟨a,b,hlt⟩,fun e=>Bc,by show s.ph<=3;omega,fun _=>hdn⟩,h2,rfl,rfl,rfl,rfl,rfl,rfl⟩
 ·cases hs
  exact⟨⟨h.w,h.rf,h.m,h.i,h.A,h.D,fun e=>Bc,fun e=>Bc,fun _=>⟨a,b,hlt⟩,fun e=>Bc,by show s.ph<=3;omega,fun _=>hdn⟩,h2,rfl,rfl,rfl,rfl,rfl,rfl⟩
theorem jco (ok:jh g) (h:jp g long s) (h1:s.ph=1) {m':MaP} {k u:Int} (hm:stepM g long s.W s.m k u=some m'):CyPre g long {s with m:=m'}:=by
 obtain⟨a,b,c,d⟩:=h.p1 h1
 obtain⟨z1,_,_,z4,_⟩:=jdE ok h.m hm
 have z5:=jeU ok h.m h.w h.i hm
 exact⟨h.w,h.rf,z1,z5.i,h.A,h.D,fun e=>(by rw[show s.ph=0 from e] at h1;cases h1),fun _=>⟨z4.trans a,b,c,d⟩,fun e=>Bo,fun e=>(by rw[show s.ph=3 from e] at h1;cases h1),h.ph,fun e=>absurd (show 2<=s.ph from e) bc⟩
theorem step_cy (ok:jh g) (h:jp g long s) {k u:Int} (hs:stepC g long nw s k u=some s'):jp g long s':=by
 unfold stepC at hs
 split at hs
 ·rename_i h1
  cases hm:stepM g long s.W s.m k u with
  |none=>rw [hm] at hs;cases hs
  |some m'=>rw [hm] at hs;cases hs;exact jdH ok (jco ok h h1 hm)
 ·split at hs
  ·rename_i h2
   cases hm:sweepC g s with
   |none=>rw [hm] at hs;cases hs
   |some q=>rw [hm] at hs;cases hs;exact jdH ok (jbw ok h h2.1 hm).1
  ·cases hs
theorem jhg (ok:jh g) (h:jp g long s) (hs:jM g long s=some s'):jp g long s':=by
 unfold jM at hs
 split at hs
 ·rename_i h1
  cases hm:JK g long s.W s.m with
  |none=>rw [hm] at hs;cases hs
  |some m'=>
   rw[hm] at hs;cases hs
   obtain⟨k,u,hk⟩:=jcg hm
   exact jdH ok (jco ok h h1 hk)
 ·split at hs
  ·rename_i h2
   cases hm:sweepC g s with
   |none=>rw [hm] at hs;cases hs
   |some q=>rw [hm] at hs;cases hs;exact jdH ok (jbw ok h h2 hm).1
  ·cases hs
theorem jj2 (ok:jh g) (hl:1<=long) (h:jp g long s) (h0:s.ph=0):jp g long (beginC g s):=by
 obtain⟨a,b,c,d⟩:=h.p0 h0
 have h9:=h.m.hs
 have hsl:=ok.slots
 refine⟨⟨h.w,h.rf,new_ok hl bc,new_in,h.A,h.D,fun e=>bO,fun _=>⟨rfl,b,c,d⟩,fun e=>bO,fun e=>bO,by show 1<=3;decide,fun e=>absurd (show 2<=1 from e) bn⟩,fun e=>bO,fun _=>?_⟩
 show JB g s.W (JW g _ true)=false
 unfold JB;rw[show decide (s.W.T.length+g.slots<=(JW g (s.m.hs.length-1) true).root)=false from decide_eq_false (by show ¬_<=0;omega)]
 simp
end
section
variable {g : PlG} {long nw : Nat} {s s' : CyP}
theorem jee:(jP g s).st=s.st:=by
 unfold jP;split
 ·rfl
 ·split<;>rfl
theorem jfo:s.ph<=(jP g s).ph:=by
 unfold jP;split
 ·rename_i h
  show s.ph<=if s.at_=g.slots then 3 else 2
  split<;>omega
 ·split
  ·rename_i h
   show s.ph<=3
   omega
  ·exact Nat.le_refl _
theorem jc2:(jP g s).W=s.W/\(jP g s).m=s.m/\(jP g s).A=s.A/\(jP g s).at_=s.at_/\(jP g s).D=s.D:=by
 unfold jP;split
 ·exact⟨rfl,rfl,rfl,rfl,rfl⟩
 ·split<;>exact⟨rfl,rfl,rfl,rfl,rfl⟩
theorem jgs (hs:sweepC g s=some s'):s'.st=s.st/\s'.ph=s.ph/\s'.at_=s.at_+1:=by
 unfold sweepC at hs
 split at hs
 ·split at hs<;>cases hs<;>exact⟨rfl,rfl,rfl⟩
 ·cases hs
theorem jhf (hs:jM g long s=some s'):s'.st=s.st+1/\s.ph<=s'.ph:=by
 unfold jM at hs
 split at hs
 ·rename_i h1
  cases hm:JK g long s.W s.m with
  |none=>rw [hm] at hs;cases hs
  |some m'=>rw [hm] at hs;cases hs;exact⟨jee,jfo (s:={s with m:=m',st:=s.st+1})⟩
 ·split at hs
  ·cases hm:sweepC g s with
   |none=>rw [hm] at hs;cases hs
   |some q=>
    rw[hm] at hs;cases hs
    obtain⟨a,b,_⟩:=jgs hm
    refine⟨jee.trans (by show q.st+1=_;rw [a]),?_⟩
    have:=jfo (g:=g) (s:={q with st:=q.st+1})
    exact Nat.le_trans (Nat.le_of_eq b.symm) this
  ·cases hs
theorem jko {k u:Int} (hs:stepC g long nw s k u=some s'):s'.st=s.st+1/\s.ph<=s'.ph:=by
 unfold stepC at hs
 split at hs
 ·cases hm:stepM g long s.W s.m k u with
  |none=>rw [hm] at hs;cases hs
  |some m'=>rw [hm] at hs;cases hs;exact⟨jee,jfo (s:={s with m:=m',st:=s.st+1})⟩
 ·split at hs
  ·cases hm:sweepC g s with
   |none=>rw [hm] at hs;cases hs
   |some q=>
    rw[hm] at hs;cases hs
    obtain⟨a,b,_⟩:=jgs hm
    refine⟨jee.trans (by show q.st+1=_;rw [a]),?_⟩
    have:=jfo (g:=g) (s:={q with st:=q.st+1})
    exact Nat.le_trans (Nat.le_of_eq b.symm) this
  ·cases hs
theorem step_mes (ok:jh g) (h:jp g long s) {k u:Int} (hh:stepC g long nw s k u=some s'):Jg g s'<Jg g s:=by
 have hsl:=ok.slots
 unfold stepC at hh
 split at hh
 ·rename_i h1
  cases hm:stepM g long s.W s.m k u with
  |none=>rw [hm] at hh;cases hh
  |some m'=>
   rw[hm] at hh
   cases hh
   obtain⟨_,h2,_,_,_⟩:=jdE ok h.m hm
   refine zaW ?_;unfold Jg;dsimp only;rw[if_pos h1,if_pos h1]
   omega
 ·split at hh
  ·rename_i h1 h2
   cases hm:sweepC g s with
   |none=>rw [hm] at hh;cases hh
   |some q=>
    rw[hm] at hh
    cases hh
    obtain⟨a,b,c⟩:=jgs hm
    have hlt:=h.lt h2.1
    refine zaW ?_;unfold Jg;dsimp only;rw[b,c,if_neg h1,if_pos h2.1,if_neg h1,if_pos h2.1]
    omega
  ·cases hh
theorem help_sum (ok:jh g) (h:jp g long s) (hs:jM g long s=some s'):s'.st+Jg g s'<=s.st+Jg g s:=by
 have h1:=(jhf hs).1
 have h2:=jcm ok h hs
 omega
theorem step_sum (ok:jh g) (h:jp g long s) {k u:Int} (hs:stepC g long nw s k u=some s'):s'.st+Jg g s'<=s.st+Jg g s:=by
 have h1:=(jko hs).1
 have h2:=step_mes ok h hs
 omega
theorem begin_sum (ok:jh g):(beginC g s).st+Jg g (beginC g s)<=18*g.words+s.W.T.length+g.slots+1:=by
 have:=jfN (W:=s.W) ok (s.m.hs.length-1)
 show 0+(if (1:Nat)=1 then jH g s.W (jcK g s.m)+g.slots+1 else _)<=_
 rw[if_pos rfl];unfold jcK
 omega
end
end Go.Proofs.YtciaccbemnpipaaGreatDoor.Sw
namespace Go.Proofs.YtciaccbemnpipaaGreatDoor
open Go.RowKit
section
variable {P : Program} {w0 : World} {ro : Option Nat} {n : Nat} {Q : Exit -> Act -> World -> Prop} {ds : List Deferred} {m : jo} {H : jb}
theorem K.cutE {σ:Type} {x y:Code} (keep:jo) (hk:jcS m keep) (M:σ->jo->jo) (Hs:σ->jb) (I:σ->Prop) (h1:K P w0 ro n x (Exit.then (jfG w0 n ds (fun s=>M s keep) Hs I) Q) ds m H) (h2: ∀ s,I s->K P w0 ro n y Q ds (M s keep) (Hs s)):K P w0 ro n x (Exit.then (Code.wpIn (fen ro) 0 P y Q) Q) ds m H:=
 .mk fun a w ha hw=>wpIn_mono (h1.out a w ha hw) fun e a w q=>by
  cases e with
  |normal=>obtain⟨s,hf,hh,hi⟩:=q;exact(h2 s hi).out a w hf hh
  |_=>exact q
