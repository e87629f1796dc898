/-The walker and contracts, part 18.-/
import Derived.Test.YtciaccbemnpipaaGreatDoorJ17
set_option linter.all false
namespace Go.Proofs.YtciaccbemnpipaaGreatDoor.Sw
set_option maxHeartbeats 8000000
open Go.Proofs.YtciaccbemnpipaaGreatDoor renaming lo -> qL, hi -> qH
open Go.RowKit
set_option maxRecDepth 10000
def jbc (q y:Int):Int:=q/y
def jcV (page q y:Int):Int:=(q/y+page/y-1)/(page/y)
def ja5 (c:Cfg) (t:Int):Int:=((c.tn[t.toNat]?).map (·.quota)).getD 0
def cfgC (c:Cfg) (k:Int):Int:=((c.cl[k.toNat]?)).getD 0
def jap (c:Cfg) (t k:Int):Int × Int:=if Jh c t k then(jbc (ja5 c t) (cfgC c k),0) else(0,2)
def pagesP (c:Cfg) (t k:Int):Int × Int:=if Jh c t k then(jcV c.page (ja5 c t) (cfgC c k),0) else(0,2)
def prV (p:Int × Int):Value:= .tuple [.int .i64 p.1, .int .i64 p.2].toArray
theorem jgw {q y:Int} (hy:2<=y) (hq:y<=q) (hq2:q<=4096):1<=jbc q y/\jbc q y<=2048:=by
 unfold jbc
 constructor
 ·exact(Int.le_ediv_iff_mul_le bc).2 bc
 ·exact Int.le_trans (Int.ediv_le_ediv bc hq2) (by
   have:(4096:Int)/y*y<=4096:=Int.ediv_mul_le _ bc
   have h0:0<=(4096:Int)/y:=Int.ediv_nonneg bc bc
   have:(4096:Int)/y*2<=4096/y*y:=Int.mul_le_mul_of_nonneg_left hy h0
   omega)
theorem Slots_K {w0:World} {H:jb} {c:Cfg} {vc vt:Value} {t k:Int} (hR:Jl w0 H c vc vt):
  Cs w0 155 [jA c vc vt, .int .i64 t, .int .i64 k] H (prV (jap c t k)):=by
 have hc0:=fun A (hp:Part A H)=>jgY (t:=t) (k:=k) (hR.part hp)
 obtain⟨hS,hT',o1,o2,l1,l2⟩:=hR
 cases ht:Jh c t k with
 |false=>
  have he:jap c t k=(0,2):=by simp[jap,ht]
  rw[ht] at hc0;rw[he]
  obtain⟨cl,page,tn,workers,grey,gens⟩:=c
  dsimp only at hS hT' l1 l2 he;simp only[jA,jV] at hc0|-;refine en3 25 Tryz.func155 ?_
  (iterate 15 first|refine yS ?_|intro _)
  refine zu ?_;refine yr12 ?_;exact zd
 |true=>
  obtain⟨i,j,x,y,rfl,rfl,hx,hy,ok⟩:=jbN ht
  have he:jap c (i:Nat) (j:Nat)=(x.quota/y,0):=by simp[jap,ht,jbc,ja5,cfgC,hx,hy]
  have hb:=(ok.ten x (List.mem_of_getElem? hx)).1
  have hb2:=ok.el y (List.mem_of_getElem? hy)
  have hil:=jl hx
  have hjl:=jl hy
  rw[ht] at hc0;rw[he]
  obtain⟨q,tr,cp,ax⟩:=x
  obtain⟨cl,page,tn,workers,grey,gens⟩:=c
  dsimp only at hS hT' l1 l2 he hx hy hb hb2 hil hjl;simp only[jA,jV] at hc0|-;refine en3 25 Tryz.func155 ?_
  (iterate 15 first|refine yS ?_|intro _)
  refine zu ?_;refine yr7 ?_;refine zac ?_;refine yr17 ?_;exact zd
theorem Pages_K {w0:World} {H:jb} {c:Cfg} {vc vt:Value} {t k:Int} (hR:Jl w0 H c vc vt):
  Cs w0 154 [jA c vc vt, .int .i64 t, .int .i64 k] H (prV (pagesP c t k)):=by
 have hc0:=fun A (hp:Part A H)=>Slots_K (t:=t) (k:=k) (hR.part hp)
 obtain⟨hS,hT',o1,o2,l1,l2⟩:=hR
 cases ht:Jh c t k with
 |false=>
  have he:pagesP c t k=(0,2):=by simp[pagesP,ht]
  have he2:jap c t k=(0,2):=by simp[jap,ht]
  rw[he2] at hc0;rw[he]
  obtain⟨cl,page,tn,workers,grey,gens⟩:=c
  dsimp only at hS hT' l1 l2 he;simp only[jA,jV] at hc0|-;refine en3 35 Tryz.func154 ?_
  (iterate 14 first|refine yS ?_|intro _)
  refine Jx (hc0 _ ja) ?_;rintro _ _ ⟨rfl,rfl⟩;simp only[prV];refine yr24 ?_;exact zd
 |true=>
  obtain⟨i,j,x,y,rfl,rfl,hx,hy,ok⟩:=jbN ht
  have he:pagesP c (i:Nat) (j:Nat)=(jcV c.page x.quota y,0):=by simp[pagesP,ht,ja5,cfgC,hx,hy]
  have hb:=(ok.ten x (List.mem_of_getElem? hx)).1
  have hb2:=ok.el y (List.mem_of_getElem? hy)
  have hpg:=ok.page
  have hn:jap c (i:Nat) (j:Nat)=(jbc x.quota y,0):=by simp[jap,ht,ja5,cfgC,hx,hy]
  have hsl:=jgw (q:=x.quota) (y:=y) bc bc hb.2
  have hper:1<=c.page/y/\c.page/y<=64:=⟨(Int.le_ediv_iff_mul_le bc).2 bc,Int.le_trans (Int.ediv_le_self _ bc) hpg.2⟩
  have hil:=jl hx
  have hjl:=jl hy
  rw[hn] at hc0;rw[he]
  have hpn:jcV c.page x.quota y=(jbc x.quota y+c.page/y-1)/(c.page/y):=rfl
  rw[hpn]
  obtain⟨n,hn'⟩: ∃ n,n=jbc x.quota y:=⟨_,rfl⟩
  rw[<-hn'] at hc0 hsl|-
  obtain⟨q,tr,cp,ax⟩:=x
  obtain⟨cl,page,tn,workers,grey,gens⟩:=c
  dsimp only at hS hT' l1 l2 he hx hy hb hb2 hil hjl hpg hper;simp only[jA,jV] at hc0|-
  obtain⟨pr,hpr⟩: ∃ p,p=page/y:=⟨_,rfl⟩
  rw[<-hpr] at hper;refine en3 35 Tryz.func154 ?_
  (iterate 14 first|refine yS ?_|intro _)
  refine Jx (hc0 _ ja) ?_;rintro _ _ ⟨rfl,rfl⟩;simp only[prV];refine yr18 ?_;refine zS ?_;refine yr24 ?_;exact zd
theorem Size0_K {w0:World} {F:jb} {p:jQ} {s:Nat} {x:jn} (ok:jar p) (hx:p.g.L[s]?=some x):
  Cs w0 333 [pt p.b, .int .i64 (s:Nat)] (planH p++F) (.tuple [.int .i64 (x.size:Nat), .int .i64 0].toArray):=by
 obtain⟨k,d,hk,hd,hs,rfl⟩:=L_at hx
 have ho:=ok.o
 have hpl:p.g.parts.length=p.g.m:=jcz
 have hkl:k<p.g.parts.length:=by omega
 have hx:p.g.parts[k]?=some (p.g.pt k):=jc1 hk
 refine en2 27 Tryz.func333 ?_;refine yr11 ?_;refine jj (jfD ok hk hd hs) ?_;simp only[jG,j8,jU];refine yr34 ?_;exact zI
theorem Class0_K {w0:World} {F:jb} {p:jQ} {s:Nat} {x:jn} (ok:jar p) (hx:p.g.L[s]?=some x):
  Cs w0 336 [pt p.b, .int .i64 (s:Nat)] (planH p++F) (.tuple [.int .i64 (x.cls:Nat), .int .i64 0].toArray):=by
 obtain⟨k,d,hk,hd,hs,rfl⟩:=L_at hx
 refine en2 18 Tryz.func336 ?_;refine yr11 ?_;refine jj (jfD ok hk hd hs) ?_;refine yr18 ?_;exact zI
theorem Addr0_K {w0:World} {F:jb} {p:jQ} {s:Nat} {x:jn} (ok:jar p) (hx:p.g.L[s]?=some x):
  Cs w0 60 [pt p.b, .int .i64 (s:Nat)] (planH p++F) (.tuple [.int .i64 (x.addr:Nat), .int .i64 0].toArray):=by
 obtain⟨h1,_,_,h2,h3,h4,_⟩:=ok.g.fits hx
 have hw:=ok.g.words
 have hpg:=ok.g.pg
 have hpp:=ok.g.pages.2
 obtain⟨k,d,hk,hd,hs,rfl⟩:=L_at hx
 have hn:=ok.g.n hk
 have hper:=ok.g.per hk
 have hy:=ok.g.y k hk
 have ho:=ok.o
 have hpl:p.g.parts.length=p.g.m:=jcz
 have hkl:k<p.g.parts.length:=by omega
 have hx:p.g.parts[k]?=some (p.g.pt k):=jc1 hk
 simp only[PlG.sl] at h1 h2 h3 h4|-
 obtain⟨pt,hpt⟩: ∃ pt,pt=p.g.pt k:=⟨_,rfl⟩
 obtain⟨y,hy'⟩: ∃ y,y=p.g.y k:=⟨_,rfl⟩
 obtain⟨per,hper'⟩: ∃ y,y=p.g.per k:=⟨_,rfl⟩
 obtain⟨pg,hpg'⟩: ∃ y,y=p.g.page k:=⟨_,rfl⟩
 rw[<-hy',<-hper',<-hpg'] at h1 h3 h4|-;rw[<-hper',<-hpg'] at h2;rw[<-hper'] at hper;rw[<-hy'] at hy;rw[<-hpt] at hx
 obtain⟨sz,fi,ma,pa,pe⟩:=pt
 obtain⟨rfl,_,_,rfl,rfl⟩:sz=y/\fi=p.g.first k/\ma=p.g.n k/\pa=pg/\pe=per:=by
  simp only[PlG.pt,jdo.mk.injEq] at hpt
  obtain⟨e1,e2,e3,e4,e5⟩:=hpt
  exact⟨by rw[e1,hy'],e2,e3,by rw[e4,hpg'],by rw[e5,hper']⟩
 clear hpt hy' hper' hpg'
 obtain⟨a,ha⟩: ∃ a,a=d/pe:=⟨_,rfl⟩
 obtain⟨b,hb⟩: ∃ b,b=d%pe:=⟨_,rfl⟩
 have e1:((d:Nat):Int)/((pe:Nat):Int)=(a:Nat):=by rw[ha];rfl
 have e2:((d:Nat):Int)%((pe:Nat):Int)=(b:Nat):=by rw[hb];rfl
 rw[<-ha,<-hb] at h1|-;rw[<-ha] at h2 h3 h4;rw[<-hb] at h4
 obtain⟨m1,hm1⟩: ∃ m,m=(pa+a)*p.g.pg:=⟨_,rfl⟩
 obtain⟨m2,hm2⟩: ∃ m,m=b*sz:=⟨_,rfl⟩
 have e3:(((pa:Nat):Int)+(a:Nat))*((p.g.pg:Nat):Int)=(m1:Nat):=by rw[hm1];simp
 have e4:((b:Nat):Int)*((sz:Nat):Int)=(m2:Nat):=by rw[hm2];simp
 have hal:a<=d:=by rw[ha];exact Nat.div_le_self _ _
 have hbl:b<=d:=by rw[hb];exact Nat.mod_le _ _
 rw[<-hm1,<-hm2] at h1|-
 have hm1b:m1<=1048576:=by omega
 have hm2b:m2<=1048576:=by omega
 clear h3 h4;refine en2 47 Tryz.func60 ?_;refine yr11 ?_;refine jj (jfD ok hk hd hs) ?_;simp only[jG,j8,jU]
 (iterate 33 first|refine yS ?_|intro _)
 simp only[jmK]
 have e5:(((pa:Nat):Int)+((d:Nat):Int)/((pe:Nat):Int))*((p.g.pg:Nat):Int)=(m1:Nat):=by rw[e1,e3]
 have e6:((d:Nat):Int)%((pe:Nat):Int)*((sz:Nat):Int)=(m2:Nat):=by rw[e2,e4]
 have e7:((m1:Nat):Int)+((m2:Nat):Int)=((m1+m2:Nat):Int):=by omega
 refine yr1 ?_;refine K.dr [] (od 0 [0,0,0,0,0,0,0,0,0,0,0,0,0,0,0,0,0,0,0,0,0,0]) Part.nil ?_;refine yr25 ?_;rw[e5,e6,e7];exact zI
structure BoM where
 b:Nat
 m:Jy
 t:Nat
 p:jQ
def jT (B:BoM):jb:=[(B.b,cells [pt B.m.b, .int .i64 (B.t:Nat),pt B.p.b] 260)]
theorem J5 {B:BoM} {F:jb}:jT B++F=(B.b,cells [pt B.m.b, .int .i64 (B.t:Nat),pt B.p.b] 260)::F:=rfl
structure jaf (B:BoM) (x:List Int):Prop where
 m:jaB B.m
 p:jar B.p
 r:B.m.R[B.t]?=some x
 n:x.length=B.p.g.words
 w:JF x
def jae (m:Jy) (t:Nat) (x:List Int):Jy:=⟨m.b,m.R.set t x,m.ow,m.ob⟩
theorem jjd {m:Jy} {t a:Nat} {w:Int} {x:List Int} (ht:m.R[t]?=some x):setM m t a w=jae m t (x.set a w):=by unfold setM jae;rw [ht];rfl
theorem jh9 {m:Jy} {t:Nat} {x:List Int} {p:jn} (ht:m.R[t]?=some x):jdh m t p.addr p.size=jae m t (JH x p):=by unfold jdh jae;rw [ht];rfl
theorem jjs {m:Jy} {t:Nat} {x y:List Int}:jae (jae m t x) t y=jae m t y:=by unfold jae;simp[List.set_set]
theorem jhx {m:Jy} {t:Nat} {x y:List Int} (ht:m.R[t]?=some x):(jae m t y).R[t]?=some y:=by unfold jae;exact List.getElem?_set_self (jl ht)
theorem jeJ {m:Jy} {t:Nat} {x:List Int} (ht:m.R[t]?=some x):jae m t x=m:=by
 unfold jae
 have:m.R.set t x=m.R:=by
  apply List.ext_getElem?
  intro i
  by_cases h:i=t
  ·subst h;rw [List.getElem?_set_self (jl ht),ht]
  ·rw[List.getElem?_set_ne bc]
 rw[this]
theorem jkI {m:Jy} {t:Nat} {x y:List Int} (ok:jaB m) (ht:m.R[t]?=some x) (hl:y.length=x.length):jaB (jae m t y):=by
 have h:=set_r ht (x':=y) hl
 refine ok_of ok ?_ h.2 bF
 obtain⟨e1,e2⟩:=jcq ht
 show(m.R.set t y).flatten.length=_
 rw[h.1];simp only[List.length_append,List.length_take,List.length_drop];omega
def ja4 (B:BoM) (x:List Int):BoM:=⟨B.b,jae B.m B.t x,B.t,B.p⟩
theorem jkv {B:BoM} {x y:List Int} (ok:jaf B x) (hl:y.length=x.length) (hw:JF y):jaf (ja4 B y) y:=⟨jkI ok.m ok.r hl,ok.p,jhx ok.r,by rw[hl];exact ok.n,hw⟩
theorem jbj {B:BoM} {x:List Int} (ok:jaf B x):ja4 B x=B:=by unfold ja4;rw [jeJ ok.r]
def headV (o:Option HdP):Value:=match o with
 |some h=> .tuple [hdV h, .int .i64 0].toArray
 |none=> .tuple [hdV ⟨0,0,0⟩, .int .i64 5].toArray
section
variable {w0 : World} {F : jb} {B : BoM} {x : List Int} {s : Nat} {y : jn}
theorem bonone_K:
  Cs w0 332 [pt B.b] (jT B++(jy B.m++(planH B.p++F))) (.bool false):=by
 refine en1 12 Tryz.func332 ?_;simp only[jG,jU,j8,J5];refine yr20 ?_;exact zT
theorem place_K (ok:jaf B x) (hy:B.p.g.L[s]?=some y):
  Cs w0 248 [pt B.b, .int .i64 (s:Nat)] (jT B++(jy B.m++(planH B.p++F))) (.tuple [.int .i64 (y.addr:Nat), .int .i64 (y.size:Nat), .int .i64 0].toArray):=by
 have okp:=ok.p
 refine en2 33 Tryz.func248 ?_;refine yr12 ?_;refine jj (bonone_K (B:=B)) ?_;simp only[jG,jU,j8,J5];refine yr14 ?_;refine ji (Addr0_K okp hy) bR ?_;simp only[jG,jU,j8,J5];refine yr24 ?_;refine ji (Size0_K okp hy) bR ?_;simp only[jG,jU,j8,J5];refine yr18 ?_;exact zT
theorem lies_K {h:HdP} (ok:jaf B x) (hy:B.p.g.L[s]?=some y):
  Cs w0 251 [pt B.b, .int .i64 (s:Nat), .int .i64 (y.size:Nat),hdV h] (jT B++(jy B.m++(planH B.p++F))) (.bool (JA y h)):=by
 have okp:=ok.p
 have hneed:=fun A=>Need_K (w0:=w0) (H:=A) (h:=h)
 obtain⟨c,r,w⟩:=h
 unfold hdV at*;dsimp only at*
 cases hm:Jb ⟨c,r,w⟩ with
 |false=>
  have e:JA y ⟨c,r,w⟩=false:=by simp[JA,hm]
  have hn:jaj ⟨c,r,w⟩=(0,2):=by simp[jaj,hm]
  simp only[hn] at hneed;rw[e];refine en4 40 Tryz.func251 ?_
  (iterate 11 first|refine yS ?_|intro _)
  refine zp ?_;simp only[jG,jU,j8,J5];refine yr15 ?_;refine zaS ?_;simp only[jG,jU,j8,J5];refine yr26 ?_;exact zT
 |true=>
  have hn:jaj ⟨c,r,w⟩=(r+w+1,0):=by simp[jaj,hm]
  simp only[hn] at hneed
  by_cases h1:c=(y.cls:Nat)
  ·by_cases h2:r+w+1<=(y.size:Nat)
   ·have e:JA y ⟨c,r,w⟩=true:=by unfold JA;rw [hm,Bool.true_and,decide_eq_true h1,decide_eq_true h2];rfl
    rw[e];refine en4 40 Tryz.func251 ?_
    (iterate 11 first|refine yS ?_|intro _)
    refine zp ?_;simp only[jG,jU,j8,J5];refine yr15 ?_;refine zaS ?_;simp only[jG,jU,j8,J5];refine yr26 ?_;exact zT
   ·have e:JA y ⟨c,r,w⟩=false:=by simp[JA,hm,h2]
    rw[e];refine en4 40 Tryz.func251 ?_
    (iterate 11 first|refine yS ?_|intro _)
    refine zp ?_;simp only[jG,jU,j8,J5];refine yr15 ?_;refine zaS ?_;simp only[jG,jU,j8,J5];refine yr26 ?_;exact zT
  ·have e:JA y ⟨c,r,w⟩=false:=by simp[JA,hm,h1]
   rw[e];refine en4 40 Tryz.func251 ?_
   (iterate 11 first|refine yS ?_|intro _)
   refine zp ?_;simp only[jG,jU,j8,J5];refine yr15 ?_;refine zaS ?_;simp only[jG,jU,j8,J5];refine yr26 ?_;exact zT
theorem jdg (hG:ju w0) (ok:jaf B x) (hy:B.p.g.L[s]?=some y):
  Cs w0 161 [pt B.b, .int .i64 (s:Nat)] (jT B++(jy B.m++(planH B.p++F))) (headV (headP x y)):=by
 have okp:=ok.p
 have okm:=ok.m
 have hr:=ok.r
 obtain⟨f1,f2,_⟩:=ok.p.g.fits hy
 have hal:y.addr<x.length:=by rw[ok.n];omega
 have hwx:=jgW hal
 obtain⟨w1,w2⟩:=ok.w.at_ y.addr
 obtain⟨w,hw⟩: ∃ w:Nat,wAt x y.addr=w:=⟨(wAt x y.addr).toNat,by omega⟩
 have hhead:headP x y=match jbH w with|some h=>if JA y h then some h else none|none=>none:=by unfold headP;rw [hw];rfl
 rw[hw] at hwx w2
 have hwl:w<18446744073709551616:=by omega
 refine en2 53 Tryz.func161 ?_
 (iterate 12 first|refine yS ?_|intro _)
 refine zad ?_;rw[J5];refine yr20 ?_;refine K.dr [] (od 0 [0,0,0,0,0,0,0,0,0,2,0,0,0,0,0]) Part.nil ?_;refine yr10 ?_;refine ji (Load_K okm hr hwx) ja ⟨ja,?_⟩;refine yq10 fun T hT=>?_;refine(CallV.fn (hGet_K hG hwl)).mono ?_;rintro _ _ ⟨rfl,rfl⟩;unfold jbD
 cases hg:jbH w with
 |none=>
  rw[hg] at hhead;dsimp only at hhead|-;refine ze ?_;clear hT T;rw[hhead];unfold hdV headV
  (iterate 34 first|refine yS ?_|intro _)
  exact zT
 |some h=>
  rw[hg] at hhead;dsimp only at hhead|-
  have hlies:=fun A=>lies_K (w0:=w0) (F:=A) (h:=h) ok hy
  obtain⟨c,r,w⟩:=h
  unfold hdV at*;dsimp only at*;refine ze ?_;clear hT T
  (iterate 19 first|refine yS ?_|intro _)
  refine zC fun T hT=>?_;refine(CallV.part (CallV.fn (hlies _)) bR).mono ?_;rintro _ _ ⟨rfl,rfl⟩
  cases hl:JA y ⟨c,r,w⟩ with
  |true=>
   rw[hl] at hhead;simp only[if_true] at hhead;refine ze ?_;clear hT T;rw[hhead];unfold headV hdV;refine yr15 ?_;exact zT
  |false=>
   rw[hl] at hhead;simp only[Bool.false_eq_true,if_false] at hhead;refine ze ?_;clear hT T;rw[hhead];unfold headV hdV;refine yr14 ?_;exact zT
end
theorem jhh {g:PlG} (ok:jh g):g.L.length<=16384:=by rw[jak];exact ok.slots.2
def arL (v:PlV) (g:PlG) (va:Value):List Value:=[v.L,v.F,v.M, .int .i64 (g.words:Nat),v.C,va]
theorem cls_iff {g:PlG} {i k:Nat} {x:jn} (h:g.L[i]?=some x) (hk:k<g.m):x.cls=k↔g.first k<=i/\i<g.first k+g.n k:=by
 obtain⟨k',d,hk',hd,rfl,rfl⟩:=L_at h
 show k'=k↔_
 constructor
 ·rintro rfl
  show g.first k'<=g.first k'+d/\g.first k'+d<_
  omega
 ·rintro⟨h1,h2⟩;exact(jjW (n:=g.n) (k:=k') (d:=d) (k':=k) (d':=g.first k'+d-g.first k) hd bc (by show g.first k'+d=g.first k+_;omega)).1
structure TkS where
 i:Nat
section
variable {w0 : World} {D F : jb} {v : PlV} {va : Value} {g : PlG} {A : List Bool}
theorem jek {n:Int} (hP:jad w0 D v g) (ok:jh g):
  Cs w0 225 [.agg (plL v g).toArray, .int .i64 n] (D++F) (.bool (decide (0<=n/\n<(g.slots:Nat)))):=by
 have hL:=hP.L
 have q1:=hP.oL
 have q2:=hP.oF
 have q3:=hP.oM
 have q4:=hP.oC
 have hlen:=jak (g:=g)
 unfold plL
 by_cases h0:n>=0
 ·by_cases h1:n<((g.L.length:Nat):Int)
  ·rw[decide_eq_true (show 0<=n/\n<(g.slots:Nat) by omega)];refine en2 14 Tryz.func225 ?_
   (iterate 22 first|refine yS ?_|intro _)
   exact zd
  ·rw[decide_eq_false (show ¬(0<=n/\n<(g.slots:Nat)) by omega)];refine en2 14 Tryz.func225 ?_
   (iterate 22 first|refine yS ?_|intro _)
   exact zd
 ·rw[decide_eq_false (show ¬(0<=n/\n<(g.slots:Nat)) by omega)];refine en2 14 Tryz.func225 ?_
  (iterate 22 first|refine yS ?_|intro _)
  exact zd
theorem raNew_K (hP:jad w0 D v g) (ok:jh g):
  Call Tryz.prog w0 48 [.agg (plL v g).toArray] (D++F) (fun r H'=> ∃ (va:Value) (N:jb),ArD w0 (N++D) v va g (List.replicate g.slots false)/\r= .agg (arL v g va).toArray/\H'=N++(D++F)):=by
 have hL:=hP.L
 have q1:=hP.oL
 have q2:=hP.oF
 have q3:=hP.oM
 have q4:=hP.oC
 have hlen:=jak (g:=g)
 have hbl:=jhh ok
 unfold plL;rw[<-hlen];refine en1 9 Tryz.func48 ?_
 (iterate 9 first|refine yS ?_|intro _)
 refine K.dr _ (od 0 [1,0,0,0,2,0,2]) (Part.drop Part.all) ?_;refine yr4 ?_;refine KD.e rfl rfl (Eff.makeR (E:=boE) (x0:=false) rfl rfl rfl rfl rfl rfl be) ?_;rintro _ _ ⟨o7,ok7,rfl,rfl⟩;refine⟨ja,?_⟩;refine yr6 ?_;refine KE.fin (H':=oH boE 4 (List.replicate g.L.length false) o7++(D++F)) jd rfl jc ja ⟨oV o7 (List.replicate g.L.length false).length,_,⟨hP.part ja,Sli.own jt ok7 rfl,jJ _ _⟩,rfl,rfl⟩
theorem rTake_K {k:Int} (hA:ArD w0 D v va g A) (ok:jh g) (hl:A.length=g.slots):
  Call Tryz.prog w0 129 [.agg (arL v g va).toArray, .int .i64 k] (D++F) (fun r H'=> ∃ (va':Value) (N:jb),ArD w0 (N++D) v va' g (jX g A k).2.2/\r= .tuple [.agg (arL v g va').toArray, .int .i64 (jX g A k).1, .int .i64 (jX g A k).2.1].toArray/\H'=N++(D++F)):=by
 have hL:=hA.p.L
 have hC:=hA.p.C
 have haA:=hA.a
 have q1:=hA.p.oL
 have q2:=hA.p.oF
 have q3:=hA.p.oM
 have q4:=hA.p.oC
 have q5:=hA.o
 have hlen:=jak (g:=g)
 have hbl:=jhh ok
 have hcl:g.clI.length=g.m:=by simp[PlG.clI,PlG.m]
 have hm:=ok.m
 unfold arL
 by_cases hk:0<=k/\k<(g.m:Nat)
 ·obtain⟨k,rfl⟩: ∃ q:Nat,k=q:=⟨k.toNat,by omega⟩
  have hkm:k<g.m:=by omega
  have hge: ¬((k:Nat):Int)>=((g.clI.length:Nat):Int):=by omega
  have htk:jX g A (k:Nat)=match jaR A (g.first k) (g.n k) with|some i=>(((i:Nat):Int),0,A.set i true)|none=>(0,6,A):=by
   unfold jX;rw [if_pos hk];rfl
  have hfk:g.first k+g.n k<=g.slots:=jbL hkm
  refine en2 57 Tryz.func129 ?_;refine yr3 ?_;intro b2;refine yr1 ?_;intro b4;refine yr29 ?_;refine K.loopT (σ:=TkS) [(1,_),(2,_),(4,_)] (fun s kp_=>(7, .int .i64 (s.i:Nat))::kp_) (fun s=>(b2,cells [v.L,v.F,v.M, .int .i64 (g.words:Nat),v.C,va] 37)::(b4,cells [.slice none 0 0, .slice none 0 0, .slice none 0 0, .int .i64 0, .slice none 0 0, .slice none 0 0] 37)::(D++F)) (fun s=>s.i<=A.length/\ ∀ j:Nat,j<s.i->g.first k<=j->j<g.first k+g.n k->A[j]?≠some false) (fun s=>A.length-s.i) (⟨0⟩) jg ja (⟨Nat.zero_le _,fun j h=>by simp at h⟩) ?_;rintro⟨i⟩ ⟨hi,hno⟩;dsimp only at hi hno|-
  by_cases hlt:i<A.length
  ·obtain⟨x,hx⟩:=Je (g:=g) (i:=i) bc
   obtain⟨b,hb⟩:=jq hlt
   have hci:=cls_iff hx hkm
   by_cases hc:x.cls=k
   ·have hcc:((x.cls:Nat):Int)=((k:Nat):Int):=by rw[hc]
    cases b with
    |false=>
     have hf:jaR A (g.first k) (g.n k)=some i:=free_is (hci.1 hc).1 (hci.1 hc).2 hb fun j h1 h2=>hno j h2 h1 (by have:=(hci.1 hc).2;omega)
     rw[hf] at htk;dsimp only at htk;rw[htk]
     (iterate 43 first|refine yS ?_|intro _)
     refine KL.e rfl (Eff.appLit (E:=boE) (ys:=A) rfl rfl rfl rfl rfl rfl rfl jK ba be rfl) ?_;rintro _ _ ⟨o',ok',rfl,rfl⟩;refine yr29 ?_;refine KE.fin (H':=oH boE 4 (A.set i true) o'++(D++F)) jd rfl jc ja ⟨oV o' A.length,_,⟨hA.p.part ja,Sli.own jt (ok'.set i true) bF,jJ _ _⟩,rfl,rfl⟩
    |true=>
     refine yr45 ?_
     exact KE.again ⟨i+1⟩ jg ja ⟨hlt,fun j h1 h2 h3 h4=>by
      by_cases hji:j=i
      ·rw[hji,hb] at h4;cases h4
      ·exact hno j (by dsimp only at h1;omega) h2 h3 h4⟩ bI
   ·have hcc: ¬((x.cls:Nat):Int)=((k:Nat):Int):=by omega
    refine yr45 ?_
    exact KE.again ⟨i+1⟩ jg ja ⟨hlt,fun j h1 h2 h3 h4=>by
     by_cases hji:j=i
     ·exact hc (hci.2 bc)
     ·exact hno j (by dsimp only at h1;omega) h2 h3 h4⟩ bI
  ·have hf:jaR A (g.first k) (g.n k)=none:=jhi fun j h1 h2=>hno j bc h1 h2
   rw[hf] at htk;dsimp only at htk;rw[htk];refine yr25 ?_;exact zbt
 ·have htk:jX g A k=(0,2,A):=by unfold jX;rw [if_neg hk]
  rw[htk]
  by_cases h0:k<0
  ·refine en2 57 Tryz.func129 ?_;refine yr3 ?_;intro b2;refine yr1 ?_;intro b4;refine yr30 ?_;exact zbt
  ·have hge:k>=((g.clI.length:Nat):Int):=by omega
   refine en2 57 Tryz.func129 ?_;refine yr3 ?_;intro b2;refine yr1 ?_;intro b4;refine yr30 ?_;exact zbt
end
theorem jg3 {R:List RwD} {t:Nat} {q:RwD} (h:R[t]?=some q):(rwX R)[t]?=some q.x:=by unfold rwX;rw [List.getElem?_map,h];rfl
theorem rwX_of {R:List RwD} {t:Nat} {x:List Int} (h:(rwX R)[t]?=some x): ∃ q,R[t]?=some q/\q.x=x:=by
 unfold rwX at h;rw[List.getElem?_map] at h
 cases hq:R[t]? with
 |none=>rw [hq] at h;cases h
 |some q=>rw [hq] at h;exact⟨q,rfl,by simpa using h⟩
structure WtS where
 k:Nat
 oo:Own
 R:List RwD
 N:jb
section
variable {w0 : World} {D F : jb} {vr : Value} {R : List RwD} {t a : Nat} {q : RwD} {x : List Int}
theorem rIn_K (hM:jaE w0 D vr R) (hR:R.length<=1000) (hq:R[t]?=some q) (ha:a<q.x.length):
  Cs w0 327 [.agg [vr].toArray, .int .i64 (t:Nat), .int .i64 (a:Nat)] (D++F) (.int .i64 0):=by
 have hr:=hM.r
 have ho:=hM.o
 have hx:=hM.x q (List.mem_of_getElem? hq)
 have htl:=jl hq
 have hge: ¬((t:Nat):Int)>=((R.length:Nat):Int):=by omega
 have hge2: ¬((a:Nat):Int)>=((q.x.length:Nat):Int):=by omega
 refine en3 28 Tryz.func327 ?_
 (iterate 50 first|refine yS ?_|intro _)
 exact zd
theorem rLoad_K {w:Int} (hM:jaE w0 D vr R) (hR:R.length<=1000) (hq:R[t]?=some q) (hw:q.x[a]?=some w):
  Cs w0 242 [.agg [vr].toArray, .int .i64 (t:Nat), .int .i64 (a:Nat)] (D++F) (.tuple [.int .u64 w, .int .i64 0].toArray):=by
 have hr:=hM.r
 have ho:=hM.o
 have hx:=hM.x q (List.mem_of_getElem? hq)
 have htl:=jl hq
 have hal:=jl hw
 refine en3 24 Tryz.func242 ?_
 (iterate 14 first|refine yS ?_|intro _)
 refine ji (rIn_K hM hR hq hal) ja ?_;refine yr28 ?_;exact zd
theorem jkx {w:Int} (hM:jaE w0 D vr R) (hR:R.length<=1000) (hq:R[t]?=some q) (ha:a<q.x.length) (hl:q.x.length<=4294967296):
  Call Tryz.prog w0 348 [.agg [vr].toArray, .int .i64 (t:Nat), .int .i64 (a:Nat), .int .u64 w] (D++F) (fun r H'=> ∃ (vr':Value) (R':List RwD) (N:jb),jaE w0 (N++D) vr' R'/\rwX R'=(rwX R).set t (q.x.set a w)/\r= .agg [vr'].toArray/\H'=N++(D++F)):=by
 have hr:=hM.r
 have ho:=hM.o
 have htl:=jl hq
 have hrl:(rwX R).length=R.length:=by simp[rwX]
 obtain⟨X,hX⟩: ∃ X,X=(rwX R).set t (q.x.set a w):=⟨_,rfl⟩
 have hXl:X.length=R.length:=by rw[hX,List.length_set,hrl]
 have hXt:X[t]?=some (q.x.set a w):=by rw[hX,List.getElem?_set_self bc]
 have hXn: ∀ k q',k≠t->R[k]?=some q'->X[k]?=some q'.x:=fun k q' h1 h2=>by rw[hX,List.getElem?_set_ne bc];exact jg3 h2
 rw[<-hX];clear hX;refine en4 41 Tryz.func348 ?_;refine yr3 ?_;intro b4;refine yr1 ?_;intro b8;refine yr5 ?_;intro b9;refine yr9 ?_;refine K.loopT (σ:=WtS) [(1,_),(2,_),(3,_),(4,_),(8,_),(9,_)] (fun s kp_=>(10, .int .i64 (s.k:Nat))::kp_) (fun s=>(s.N++(oH rwE 66 s.R s.oo++((b9,cells [oV s.oo s.R.length] 40)::(b4,cells [vr] 40)::(b8,cells [.slice none 0 0] 40)::(D++F))))) (fun s=>s.k<=R.length/\oOk rwE s.R s.oo/\rwX s.R=X.take s.k/\ ∀ q'∈s.R,Sli w0 (s.N++D) uE (.slice q'.a q'.n q'.c) q'.x) (fun s=>R.length-s.k) (⟨0,none,[],[]⟩) jg ja (⟨Nat.zero_le _,rfl,rfl,fun q' h=>by cases h⟩) ?_;rintro⟨k,oo,R1,N1⟩ ⟨hk,hoo,hX1,hs1⟩;dsimp only at hk hoo hX1 hs1|-
 have hR1:R1.length=k:=by have:=congrArg List.length hX1;simp[rwX,hXl] at this;omega
 by_cases hlt:k<R.length
 ·obtain⟨q',hq'⟩:=jq hlt
  have hx':=hM.x q' (List.mem_of_getElem? hq')
  by_cases hkt:k=t
  ·have hkt':((k:Nat):Int)=((t:Nat):Int):=by rw[hkt]
   have hqq:q'=q:=by rw[hkt] at hq';rw [hq] at hq';cases hq';rfl
   subst hqq
   obtain⟨v0,hv0⟩:=jq ha
   (iterate 39 first|refine yS ?_|intro _)
   refine KL.e rfl (Eff.appLit (E:=uE) (ys:=q'.x) rfl rfl rfl rfl rfl rfl rfl jK ba be rfl) ?_;rintro _ _ ⟨o',ok',rfl,rfl⟩;refine yr11 ?_
   have hset:=ok'.set a w
   have hlen:(q'.x.set a w).length=q'.x.length:=List.length_set
   cases o' with
   |none=>
    exfalso
    simp only[oOk] at ok';rw[ok'] at ha;simp at ha
   |some ob=>
    have hnew: ∀ A,Sli w0 (oH uE 67 (q'.x.set a w) (some ob)++A) uE (.slice (some ⟨ob.b,0,none⟩) q'.x.length ob.c) (q'.x.set a w):=fun A=>Sli.own jE.head hset hlen.symm
    have hXs:X.take (k+1)=X.take k++ [q'.x.set a w]:=by rw[hkt];exact ja6 hXt
    have hbd:(R1++ [(⟨some ⟨ob.b,0,none⟩,q'.x.length,ob.c,q'.x.set a w⟩:RwD)]).length<=4294967296:=by simp;omega
    obtain⟨qn,hqn⟩: ∃ qn:RwD,qn=⟨some ⟨ob.b,0,none⟩,q'.x.length,ob.c,q'.x.set a w⟩:=⟨_,rfl⟩
    refine zg ?_
    (iterate 5 first|refine yS ?_|intro _)
    refine KL.e rfl (Eff.appZ (E:=rwE) (xs:=R1) (o:=oo) (ys:=[⟨some ⟨ob.b,0,none⟩,q'.x.length,ob.c,q'.x.set a w⟩]) (zs:=R1++ [⟨some ⟨ob.b,0,none⟩,q'.x.length,ob.c,q'.x.set a w⟩]) rfl rfl rfl rfl rfl rfl jt bh ba (rfl) be rfl) ?_;rintro _ _ ⟨o',ok',rfl,rfl⟩;refine yr10 ?_
    exact KE.again ⟨k+1,o',R1++ [⟨some ⟨ob.b,0,none⟩,q'.x.length,ob.c,q'.x.set a w⟩],oH uE 67 (q'.x.set a w) (some ob)++N1⟩ jg ja ⟨hlt,ok',by show rwX _=_;rw [hXs,<-hX1];simp[rwX],fun q2 h2=>by
     rcases List.mem_append.1 h2 with h2|h2
     ·exact(hs1 q2 h2).part ja
     ·rw[List.mem_singleton.1 h2,List.append_assoc];exact hnew _⟩ Bj
  ·have hkt': ¬((k:Nat):Int)=((t:Nat):Int):=by omega
   have hXs:X.take (k+1)=X.take k++ [q'.x]:=ja6 (hXn k q' hkt hq')
   have hbd:(R1++ [(⟨q'.a,q'.n,q'.c,q'.x⟩:RwD)]).length<=4294967296:=by simp;omega
   refine yr36 ?_;refine zg ?_
   (iterate 5 first|refine yS ?_|intro _)
   refine KL.e rfl (Eff.appZ (E:=rwE) (xs:=R1) (o:=oo) (ys:=[⟨q'.a,q'.n,q'.c,q'.x⟩]) (zs:=R1++ [⟨q'.a,q'.n,q'.c,q'.x⟩]) rfl rfl rfl rfl rfl rfl jt bh ba (rfl) be rfl) ?_;rintro _ _ ⟨o',ok',rfl,rfl⟩;refine yr10 ?_
   exact KE.again ⟨k+1,o',R1++ [⟨q'.a,q'.n,q'.c,q'.x⟩],N1⟩ jg ja ⟨hlt,ok',by show rwX _=_;rw [hXs,<-hX1];simp[rwX],fun q2 h2=>by
    rcases List.mem_append.1 h2 with h2|h2
    ·exact hs1 q2 h2
    ·rw[List.mem_singleton.1 h2];exact hx'.part ja⟩ Bj
 ·have hkR:k=R.length:=by omega
  have hX2:rwX R1=X:=by rw[hX1,List.take_of_length_le bc]
  refine yr23 ?_;exact KE.fin (H':=(N1++oH rwE 66 R1 oo)++(D++F)) jd rfl jc bz ⟨oV oo R1.length,R1,_,⟨Sli.own (H:=(N1++oH rwE 66 R1 oo)++D) (by rw[List.append_assoc];exact jt) hoo rfl,jJ _ _,fun q2 h2=>(hs1 q2 h2).part bz⟩,hX2,rfl,rfl⟩
end
structure ZrS where
 i:Nat
 vr:Value
 R:List RwD
 N:jb
theorem jkZ {x:List Int} {a i:Nat} (h:a+i<x.length):(cleared x a (a+i) 0).set (a+i) 0=cleared x a (a+(i+1)) 0:=by
 apply List.ext_getElem?
 intro j
 have key: ∀ (b:Nat),a<=b->b<=x.length-> ∀ j:Nat,(cleared x a b 0)[j]?=if a<=j/\j<b then some 0 else x[j]? :=by
  intro b h1 h2 j;unfold cleared
  rcases Nat.lt_or_ge j a with hj|hj
  ·rw[List.append_assoc,List.getElem?_append_left bK,List.getElem?_take_of_lt hj,if_neg bc]
  ·rcases Nat.lt_or_ge j b with hb|hb
   ·rw[List.append_assoc,List.getElem?_append_right bK,List.getElem?_append_left (by rw[List.length_replicate,List.length_take];omega),List.getElem?_replicate,if_pos bK,if_pos ⟨hj,hb⟩]
   ·rw[List.getElem?_append_right Bw,List.getElem?_drop,if_neg bc]
    congr 1
    rw[List.length_append,List.length_take,List.length_replicate];omega
 by_cases hj:j=a+i
 ·subst hj;rw[List.getElem?_set_self (by rw[jdp bc bc];exact h),key _ bc bc,if_pos bc]
 ·rw[List.getElem?_set_ne bc,key _ bc bc,key _ bc bc]
  by_cases hc:a<=j/\j<a+i
  ·rw[if_pos hc,if_pos bc]
  ·rw[if_neg hc,if_neg bc]
section
variable {w0 : World} {D F : jb} {vr : Value} {R : List RwD} {t a n : Nat} {q : RwD} {x : List Int}
theorem jjo {w:Int} (hM:jaE w0 D vr R) (hR:R.length<=1000) (hq:R[t]?=some q) (ha:a<q.x.length) (hl:q.x.length<=4294967296):
  Call Tryz.prog w0 318 [.agg [vr].toArray, .int .i64 (t:Nat), .int .i64 (a:Nat), .int .u64 w] (D++F) (fun r H'=> ∃ (vr':Value) (R':List RwD) (N:jb),jaE w0 (N++D) vr' R'/\rwX R'=(rwX R).set t (q.x.set a w)/\r= .tuple [.agg [vr'].toArray, .int .i64 0].toArray/\H'=N++(D++F)):=by
 have ho:=hM.o
 refine en4 24 Tryz.func318 ?_
 (iterate 15 first|refine yS ?_|intro _)
 refine ji (rIn_K hM hR hq ha) ja ?_;refine yr20 ?_;refine je (jkx hM hR hq ha hl) ja ?_;rintro _ _ ⟨vr',R',N,hM',hX,rfl,rfl⟩
 have ho':=hM'.o
 refine yr5 ?_;exact zbu
theorem jkE (hM:jaE w0 D vr R) (hR:R.length<=1000) (hq:R[t]?=some q) (ha:a+n<=q.x.length) (hl:q.x.length<=4294967296):
  Call Tryz.prog w0 281 [.agg [vr].toArray, .int .i64 (t:Nat), .int .i64 (a:Nat), .int .i64 (n:Nat)] (D++F) (fun r H'=> ∃ (vr':Value) (R':List RwD) (N:jb),jaE w0 (N++D) vr' R'/\rwX R'=(rwX R).set t (cleared q.x a (a+n) 0)/\r= .tuple [.agg [vr'].toArray, .int .i64 0].toArray/\H'=N++(D++F)):=by
 have hr:=hM.r
 have ho:=hM.o
 have htl:=jl hq
 have hx:=hM.x q (List.mem_of_getElem? hq)
 have hrl:(rwX R).length=R.length:=by simp[rwX]
 have hge: ¬((t:Nat):Int)>=((R.length:Nat):Int):=by omega
 have hgt: ¬((a:Nat):Int)>((q.x.length:Nat):Int):=by omega
 have hgt2: ¬((n:Nat):Int)>((q.x.length:Nat):Int)-((a:Nat):Int):=by omega
 have h0:rwX R=(rwX R).set t (cleared q.x a (a+0) 0):=by
  rw[Nat.add_zero,jhH]
  apply List.ext_getElem?
  intro j
  by_cases hj:j=t
  ·subst hj;rw [List.getElem?_set_self bc];exact jg3 hq
  ·rw[List.getElem?_set_ne bc]
 refine en4 62 Tryz.func281 ?_;refine yr3 ?_;intro b4;refine yr1 ?_;intro b8;refine yr63 ?_;refine K.loopT (σ:=ZrS) [(1,_),(2,_),(3,_),(4,_),(8,_)] (fun s kp_=>(10, .int .i64 (s.i:Nat))::kp_) (fun s=>(b4,cells [s.vr] 40)::(b8,cells [.slice none 0 0] 40)::(s.N++(D++F))) (fun s=>s.i<=n/\jaE w0 (s.N++D) s.vr s.R/\rwX s.R=(rwX R).set t (cleared q.x a (a+s.i) 0)) (fun s=>n-s.i) (⟨0,vr,R,[]⟩) jg ja (⟨Nat.zero_le _,hM,h0⟩) ?_;rintro⟨i,v1,R1,N⟩ ⟨hi,hM1,hX1⟩;dsimp only at hi hM1 hX1|-
 have ho1:=hM1.o
 by_cases hlt:i<n
 ·have hR1:R1.length=R.length:=by have:=congrArg List.length hX1;rw [List.length_set,hrl] at this;simpa [rwX] using this
  obtain⟨q1,hq1,hqx⟩:=rwX_of (R:=R1) (t:=t) (x:=cleared q.x a (a+i) 0) (by rw[hX1,List.getElem?_set_self bc])
  have hql:q1.x.length=q.x.length:=by rw[hqx];exact jdp bc bc
  have hai:((a:Nat):Int)+((i:Nat):Int)=((a+i:Nat):Int):=by omega
  refine yq19 fun T hT=>?_;rw[hai];refine(CallV.part (CallV.fn (jkx (F:=(b4,cells [v1] 40)::(b8,cells [.slice none 0 0] 40)::F) hM1 bc hq1 (a:=a+i) bc bc)) bz).mono ?_;rintro _ _ ⟨v2,R2,N2,hM2,hX2,rfl,rfl⟩
  have ho2:=hM2.o
  rw[hqx,hX1,List.set_set,jkZ bc] at hX2;rw[<-List.append_assoc] at hM2;refine ze ?_;clear hT T;simp only[List.append_assoc];refine yr9 ?_;exact KE.again ⟨i+1,v2,R2,N2++N⟩ jg bf ⟨hlt,hM2,hX2⟩ (by show n-(i+1)<n-i;omega)
 ·have hin:i=n:=by omega
  subst hin;refine yr22 ?_;exact KE.fin jd rfl jc ja ⟨v1,R1,N,hM1,hX1,rfl,rfl⟩
structure AlS where
 k:Nat
 o:Own
theorem rAll_K (hM:jaE w0 D vr R) (hR:R.length<=1000) (hl:(rwX R).flatten.length<=1000000000):
  Call Tryz.prog w0 16 [.agg [vr].toArray] (D++F) (fun r H'=> ∃ o,oOk uE (rwX R).flatten o/\r=oV o (rwX R).flatten.length/\H'=oH uE 67 (rwX R).flatten o++(D++F)):=by
 have hr:=hM.r
 have ho:=hM.o
 have hrl:(rwX R).length=R.length:=by simp[rwX]
 have hle: ∀ k,((rwX R).take k).flatten.length<=1000000000:=fun k=>by
  refine Nat.le_trans ?_ hl
  conv=>rhs;rw [<-List.take_append_drop k (rwX R),List.flatten_append,List.length_append]
  omega
 refine en1 20 Tryz.func16 ?_;refine yr3 ?_;intro b1;refine yr15 ?_;refine K.loopT (σ:=AlS) [(1,_)] (fun s kp_=>(4, .int .i64 (s.k:Nat))::(3,oV s.o ((rwX R).take s.k).flatten.length)::kp_) (fun s=>oH uE 67 ((rwX R).take s.k).flatten s.o++((b1,cells [vr] 40)::(D++F))) (fun s=>s.k<=R.length/\oOk uE ((rwX R).take s.k).flatten s.o) (fun s=>R.length-s.k) (⟨0,none⟩) jg ja (⟨Nat.zero_le _,rfl⟩) ?_;rintro⟨k,o⟩ ⟨hk,ko⟩;dsimp only at hk ko|-
 have hlk:=hle (k+1)
 by_cases hlt:k<R.length
 ·obtain⟨q,hq⟩:=jq hlt
  have hx:=hM.x q (List.mem_of_getElem? hq)
  have hsn:((rwX R).take k).flatten++q.x=((rwX R).take (k+1)).flatten:=by rw[ja6 (jg3 hq),List.flatten_append];simp
  have hbd:((rwX R).take (k+1)).flatten.length<=4294967296:=by omega
  refine yr15 ?_;refine zg ?_;refine yr6 ?_;refine KL.e rfl (Eff.appZ (E:=uE) (xs:=((rwX R).take k).flatten) (o:=o) (ys:=q.x) (zs:=((rwX R).take (k+1)).flatten) rfl rfl rfl rfl rfl rfl jt bh ba (hsn) be rfl) ?_;rintro _ _ ⟨o',ok',rfl,rfl⟩;refine yr9 ?_;exact KE.again ⟨k+1,o'⟩ jg ja ⟨hlt,ok'⟩ Bj
 ·have he:(rwX R).take k=rwX R:=List.take_of_length_le bc
  rw[he] at ko|-;refine yr23 ?_;exact zbs
end
def boL (v:PlV) (g:PlG) (vr:Value) (t:Nat):List Value:=[vr, .int .i64 (t:Nat),v.L,v.F,v.M, .int .i64 (g.words:Nat),v.C]
structure BoD (w0:World) (D:jb) (v:PlV) (vr:Value) (g:PlG) (R:List RwD):Prop where
 p:jad w0 D v g
 m:jaE w0 D vr R
theorem BoD.part {w0:World} {D D':jb} {v:PlV} {vr:Value} {g:PlG} {R:List RwD} (h:BoD w0 D v vr g R) (hp:Part D' D):BoD w0 D' v vr g R:=⟨h.p.part hp,h.m.part hp⟩
structure BoF (g:PlG) (R:List RwD) (t:Nat) (x:List Int):Prop where
 ok:jh g
 n:R.length<=1000
 r:(rwX R)[t]?=some x
 l:x.length=g.words
 w:JF x
theorem BoF.q {g:PlG} {R:List RwD} {t:Nat} {x:List Int} (h:BoF g R t x): ∃ q,R[t]?=some q/\q.x=x:=rwX_of h.r
theorem BoF.self {g:PlG} {R:List RwD} {t:Nat} {x:List Int} (h:BoF g R t x):rwX R=(rwX R).set t x:=by
 apply List.ext_getElem?
 intro j
 by_cases hj:j=t
 ·subst hj;rw [List.getElem?_set_self (jl h.r)];exact h.r
 ·rw[List.getElem?_set_ne bc]
theorem BoF.next {g:PlG} {R R':List RwD} {t:Nat} {x y:List Int} (h:BoF g R t x) (hX:rwX R'=(rwX R).set t y) (hl:y.length=x.length) (hw:JF y):BoF g R' t y:=by
 refine⟨h.ok,?_,by rw[hX];exact List.getElem?_set_self (jl h.r),by rw[hl];exact h.l,hw⟩
 have:=congrArg List.length hX
 rw[List.length_set] at this
 have h2:=h.n
 simp only[rwX,List.length_map] at this
 omega
structure StA where
 b9:Nat
 vr:Value
 R:List RwD
 N:jb
section
variable {w0 : World} {D F : jb} {v : PlV} {vr : Value} {g : PlG} {R : List RwD} {t s : Nat} {x : List Int} {y : jn}
theorem je0 {i:Nat} (hB:BoD w0 D v vr g R) (hf:BoF g R t x) (hy:g.L[s]?=some y) (hi:y.addr+i<x.length):
  Cs w0 145 [.agg (boL v g vr t).toArray, .int .i64 (s:Nat), .int .i64 (i:Nat)] (D++F) (.int .u64 (wAt x (y.addr+i))):=by
 obtain⟨q,hq,hqx⟩:=hf.q
 subst hqx
 have hL:=hB.p.L
 have ho:=hB.m.o
 have q1:=hB.p.oL
 have q2:=hB.p.oF
 have q3:=hB.p.oM
 have q4:=hB.p.oC
 have hsl:=jl hy
 have hfit:=hf.ok.fits hy
 have hww:=hf.ok.words
 have hlx:=hf.l
 have hai:((y.addr:Nat):Int)+((i:Nat):Int)=((y.addr+i:Nat):Int):=by omega
 unfold boL;refine en3 27 Tryz.func145 ?_
 (iterate 8 first|refine yS ?_|intro _)
 refine K.dr [] (od 0 [0,0,0,0,0,0,0,0,0,0,0,0,0,2,0,0,0,0,0]) Part.nil ?_;refine yr13 ?_;refine zj fun T hT=>?_;rw[hai];refine(CallV.part (CallV.fn (rLoad_K hB.m hf.n hq (jgW hi))) ja).mono ?_;rintro _ _ ⟨rfl,rfl⟩;refine zf ?_;clear hT T;refine yr14 ?_;exact zd
theorem jge {i:Nat} {w:Int} (hB:BoD w0 D v vr g R) (hf:BoF g R t x) (hy:g.L[s]?=some y) (hi:y.addr+i<x.length):
  Call Tryz.prog w0 228 [.agg (boL v g vr t).toArray, .int .i64 (s:Nat), .int .i64 (i:Nat), .int .u64 w] (D++F) (fun r H'=> ∃ (vr':Value) (R':List RwD) (N:jb),BoD w0 (N++D) v vr' g R'/\rwX R'=(rwX R).set t (x.set (y.addr+i) w)/\r= .agg (boL v g vr' t).toArray/\H'=N++(D++F)):=by
 obtain⟨q,hq,hqx⟩:=hf.q
 subst hqx
 have hL:=hB.p.L
 have ho:=hB.m.o
 have q1:=hB.p.oL
 have q2:=hB.p.oF
 have q3:=hB.p.oM
 have q4:=hB.p.oC
 have hsl:=jl hy
 have hfit:=hf.ok.fits hy
 have hww:=hf.ok.words
 have hlx:=hf.l
 have hai:((y.addr:Nat):Int)+((i:Nat):Int)=((y.addr+i:Nat):Int):=by omega
 unfold boL;refine en4 35 Tryz.func228 ?_;refine yr3 ?_;intro b4;refine yr1 ?_;intro b8;refine yr2 ?_;refine K.cutT (σ:=StA) [(4,_),(8,_)] jg (fun s kp_=>(9,pt s.b9)::kp_) (fun s=>s.N++((s.b9,cells [s.vr] 40)::(b4,cells [vr, .int .i64 (t:Nat),v.L,v.F,v.M, .int .i64 (g.words:Nat),v.C] 42)::(b8,cells [.slice none 0 0, .int .i64 0, .slice none 0 0, .slice none 0 0, .slice none 0 0, .int .i64 0, .slice none 0 0] 42)::(D++F))) (fun s=>jaE w0 (s.N++D) s.vr s.R/\rwX s.R=(rwX R).set t (q.x.set (y.addr+i) w)) ?_ ?_
 ·skip
  refine zi ?_;refine K.dr ((b4,cells [vr, .int .i64 (t:Nat),v.L,v.F,v.M, .int .i64 (g.words:Nat),v.C] 42)::D) (od 0 [1,1,1,1,1,1,1,1,1,1,1,1,1,1,3,1,1,1,2,2,0]) ja ?_;refine yr14 ?_;refine KD.fork2 (x:=14) (y:=18) (o1:=[(15,1),(16,1),(17,1),(18,2),(19,2),(20,0)]) (o2:=[(14,2),(15,0),(16,0),(17,1),(19,2),(20,0)]) bu rfl rfl bu bu ?_ ?_
  ·refine zk fun T hT=>?_;rw[hai];refine(CallV.part (CallV.fn (jjo hB.m hf.n hq hi bc)) ja).mono ?_;rintro _ _ ⟨vr',R',N,hM',hX,rfl,rfl⟩
   have ho':=hM'.o
   refine zf ?_;clear hT T;refine yr4 ?_;intro b9;refine yr5 ?_;exact KE.meet ⟨b9,vr',R',N⟩ jg ja ⟨hM',hX⟩
  ·(refine jR.e rfl (Eff.alloc rfl) ?_;rintro _ _ ⟨b9,rfl,rfl⟩;refine⟨ja,?_⟩)
   refine zj fun T hT=>?_;rw[hai];refine(CallV.part (CallV.fn (jjo hB.m hf.n hq hi bc)) ja).mono ?_;rintro _ _ ⟨vr',R',N,hM',hX,rfl,rfl⟩
   have ho':=hM'.o
   refine zf ?_;clear hT T;refine yr7 ?_;exact KE.meet ⟨b9,vr',R',N⟩ jg ja ⟨hM',hX⟩
 ·rintro⟨b9,vr',R',N⟩ ⟨hM',hX⟩;dsimp only at hM' hX|-
  have ho':=hM'.o
  refine yr12 ?_;exact zbV
theorem jjm {h:HdP} (hB:BoD w0 D v vr g R) (hy:g.L[s]?=some y):
  Cs w0 226 [.agg (boL v g vr t).toArray, .int .i64 (s:Nat),hdV h] (D++F) (.bool (JA y h)):=by
 have hL:=hB.p.L
 have ho:=hB.m.o
 have q1:=hB.p.oL
 have q2:=hB.p.oF
 have q3:=hB.p.oM
 have q4:=hB.p.oC
 have hsl:=jl hy
 have hneed:=fun A=>jkF (w0:=w0) (H:=A) (h:=h)
 obtain⟨c,r,w⟩:=h
 unfold hdV boL at*;dsimp only at*
 cases hm:Jb ⟨c,r,w⟩ with
 |false=>
  have e:JA y ⟨c,r,w⟩=false:=by simp[JA,hm]
  have hn:jaj ⟨c,r,w⟩=(0,2):=by simp[jaj,hm]
  simp only[hn] at hneed;rw[e];refine en3 39 Tryz.func226 ?_
  (iterate 13 first|refine yS ?_|intro _)
  refine zp ?_;refine yr8 ?_;refine zaT ?_;refine yr29 ?_;exact zd
 |true=>
  have hn:jaj ⟨c,r,w⟩=(r+w+1,0):=by simp[jaj,hm]
  simp only[hn] at hneed
  by_cases h1:c=(y.cls:Nat)
  ·by_cases h2:r+w+1<=(y.size:Nat)
   ·have e:JA y ⟨c,r,w⟩=true:=by unfold JA;rw [hm,Bool.true_and,decide_eq_true h1,decide_eq_true h2];rfl
    rw[e];refine en3 39 Tryz.func226 ?_
    (iterate 13 first|refine yS ?_|intro _)
    refine zp ?_;refine yr8 ?_;refine zaT ?_;refine yr29 ?_;exact zd
   ·have e:JA y ⟨c,r,w⟩=false:=by simp[JA,hm,h2]
    rw[e];refine en3 39 Tryz.func226 ?_
    (iterate 13 first|refine yS ?_|intro _)
    refine zp ?_;refine yr8 ?_;refine zaT ?_;refine yr29 ?_;exact zd
  ·have e:JA y ⟨c,r,w⟩=false:=by simp[JA,hm,h1]
   rw[e];refine en3 39 Tryz.func226 ?_
   (iterate 13 first|refine yS ?_|intro _)
   refine zp ?_;refine yr8 ?_;refine zaT ?_;refine yr29 ?_;exact zd
