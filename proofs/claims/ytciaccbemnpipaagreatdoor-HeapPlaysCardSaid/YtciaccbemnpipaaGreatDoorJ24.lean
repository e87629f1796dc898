/-The walker and contracts, part 24.-/
import Derived.Test.YtciaccbemnpipaaGreatDoorJ22
import Derived.Test.YtciaccbemnpipaaGreatDoorJ23
set_option linter.all false
namespace Go.Proofs.YtciaccbemnpipaaGreatDoor.Sw
set_option maxHeartbeats 8000000
open Go.Proofs.YtciaccbemnpipaaGreatDoor renaming lo -> qL, hi -> qH
open Go.RowKit
set_option maxRecDepth 10000
theorem tot1_K {w0:World} {F:jb} {c:Cfg} {vc vt:Value} {b1 i:Nat} (hR:Jl w0 F c vc vt) (hc:cfgP c=true) (hi:i<c.tn.length):
  Call Tryz.prog w0 83 [.int .i64 (i:Nat),pt b1] ((b1,cells (jV c vc vt) 25)::F)
   (fun r H'=>r= .int .i64 (wordsP c (i:Nat))/\H'=(b1,cells (jV c vc vt) 25)::F):=by
 have hc0:=fun A (hp:Part A F)=>jgV (hR.part hp) hc hi
 obtain⟨hS,hT',o1,o2,l1,l2⟩:=hR
 obtain⟨p,hp⟩: ∃ p,p=wordsP c (i:Nat):=⟨_,rfl⟩
 rw[<-hp] at hc0|-
 obtain⟨cl,page,tn,workers,grey,gens⟩:=c
 dsimp only at hS hT' l1 l2 hc0|-;simp only[jA,jV] at hc0|-;refine en2 7 Tryz.func83 ?_;refine yr10 ?_;refine zu ?_;refine yr4 ?_;exact zd
theorem base1_K {w0:World} {F:jb} {c:Cfg} {vc vt:Value} {b1 i:Nat} (hR:Jl w0 F c vc vt) (hc:cfgP c=true) (hi:i<c.tn.length):
  Call Tryz.prog w0 86 [.int .i64 (i:Nat),pt b1] ((b1,cells (jV c vc vt) 25)::F)
   (fun r H'=>r= .int .i64 (wordsP c (i:Nat))/\H'=(b1,cells (jV c vc vt) 25)::F):=by
 have hc0:=fun A (hp:Part A F)=>jgV (hR.part hp) hc hi
 obtain⟨hS,hT',o1,o2,l1,l2⟩:=hR
 obtain⟨p,hp⟩: ∃ p,p=wordsP c (i:Nat):=⟨_,rfl⟩
 rw[<-hp] at hc0|-
 obtain⟨cl,page,tn,workers,grey,gens⟩:=c
 dsimp only at hS hT' l1 l2 hc0|-;simp only[jA,jV] at hc0|-;refine en2 7 Tryz.func86 ?_;refine yr10 ?_;refine zu ?_;refine yr4 ?_;exact zd
theorem jkb {w0:World} {H:jb} {c:Cfg} {vc vt:Value} {t:Int} (hR:Jl w0 H c vc vt):
  Cs w0 87 [jA c vc vt, .int .i64 t] H (prV (jav c t)):=by
 have hc0:=fun A (hp:Part A H)=>jgY (t:=t) (k:=0) (hR.part hp)
 have hw:=fun A (hp:Part A H) (i:Nat) (hc:cfgP c=true) (hi:i<c.tn.length)=>jgV (hR.part hp) hc hi
 obtain⟨hS,hT',o1,o2,l1,l2⟩:=hR
 cases ht:Jh c t 0 with
 |false=>
  have he:jav c t=(0,2):=by simp[jav,ht]
  rw[ht] at hc0;rw[he];clear hw
  obtain⟨cl,page,tn,workers,grey,gens⟩:=c
  dsimp only at hS hT' l1 l2 he;simp only[jA,jV] at hc0|-;refine en2 13 Tryz.func87 ?_
  (iterate 14 first|refine yS ?_|intro _)
  refine zu ?_;refine yr12 ?_;exact zd
 |true=>
  obtain⟨i,j,x,y,rfl,_,hx,hy,ok⟩:=jbN ht
  have hil:=jl hx
  have hcp:cfgP c=true:=by simp only[Jh,Bool.and_eq_true] at ht;exact ht.1
  have he:jav c (i:Nat)=(wordsP c (i:Nat),0):=by simp[jav,ht]
  have hw':=fun A hp=>hw A hp i hcp hil
  clear hw;rw[ht] at hc0;rw[he]
  obtain⟨p,hp⟩: ∃ p,p=wordsP c (i:Nat):=⟨_,rfl⟩
  rw[<-hp] at hw'|-
  obtain⟨cl,page,tn,workers,grey,gens⟩:=c
  dsimp only at hS hT' l1 l2 he hx hy hil;simp only[jA,jV] at hc0 hw'|-;refine en2 13 Tryz.func87 ?_
  (iterate 14 first|refine yS ?_|intro _)
  refine zu ?_;refine yr11 ?_;refine jj (hw' _ ja) ?_;refine yr5 ?_;exact zd
theorem Total_K {w0:World} {H:jb} {c:Cfg} {vc vt:Value} (hR:Jl w0 H c vc vt):
  Cs w0 41 [jA c vc vt] H (prV (totalP c)):=by
 have hc0:=fun A (hp:Part A H)=>jhP (hR.part hp)
 cases hc:cfgP c with
 |false=>
  have he:totalP c=(0,2):=by simp[totalP,hc]
  rw[hc] at hc0;rw[he];simp only[jaX,Bool.false_eq_true,if_false] at hc0
  obtain⟨hS,hT',o1,o2,l1,l2⟩:=hR
  obtain⟨cl,page,tn,workers,grey,gens⟩:=c
  dsimp only at hS hT' l1 l2 he;simp only[jA,jV] at hc0|-;refine en1 14 Tryz.func41 ?_;refine yr3 ?_;intro b1;refine yr9 ?_;refine zu ?_;refine yr19 ?_;exact zd
 |true=>
  have hok:=(jaz hc).tn
  have he:totalP c=(Jj (fun i=>wordsP c (i:Nat)) c.tn.length,0):=by simp[totalP,hc]
  have hc1:=fun k b1 (hk:k<c.tn.length)=>tot1_K (b1:=b1) hR hc hk
  have hB:=fun k (hk:k<c.tn.length)=>jdy hc hk
  rw[hc] at hc0;rw[he];simp only[jaX,if_true] at hc0
  obtain⟨f,hf⟩: ∃ f:Nat->Int,f=fun i=>wordsP c (i:Nat):=⟨_,rfl⟩
  have hfi: ∀ i,wordsP c (i:Nat)=f i:=fun i=>by rw[hf]
  rw[<-hf];simp only[hfi] at hB hc1
  obtain⟨hS,hT',o1,o2,l1,l2⟩:=hR
  obtain⟨cl,page,tn,workers,grey,gens⟩:=c
  dsimp only at hS hT' l1 l2 he hok hB hc1|-;simp only[jA,jV] at hc0 hc1|-;refine en1 14 Tryz.func41 ?_;refine yr3 ?_;intro b1;refine yr9 ?_;refine zu ?_;refine yq17 fun T hT=>?_;refine(CallV.part (CallV.fn (sumT_K (H:=(b1,cells [vc, .int .i64 page,vt, .int .i64 workers, .int .i64 grey, .int .i64 gens] 25)::H) (l:=tn) (f:=f) (hT'.part ja) hok.2 (fun k hk=>hB k hk) ?_)) ja).mono ?_
  ·intro k hk;exact CallV.clo (cap:=[_]) (hc1 k _ hk)
  ·rintro _ _ ⟨rfl,rfl⟩;refine ze ?_;clear hT T;refine yr5 ?_;exact zd
theorem Base_K {w0:World} {H:jb} {c:Cfg} {vc vt:Value} {t:Int} (hR:Jl w0 H c vc vt):
  Cs w0 42 [jA c vc vt, .int .i64 t] H (prV (jbp c t)):=by
 have hc0:=fun A (hp:Part A H)=>jgY (t:=t) (k:=0) (hR.part hp)
 cases ht:Jh c t 0 with
 |false=>
  have he:jbp c t=(0,2):=by simp[jbp,ht]
  rw[ht] at hc0;rw[he]
  obtain⟨hS,hT',o1,o2,l1,l2⟩:=hR
  obtain⟨cl,page,tn,workers,grey,gens⟩:=c
  dsimp only at hS hT' l1 l2 he;simp only[jA,jV] at hc0|-;refine en2 16 Tryz.func42 ?_;refine yr3 ?_;intro b2;refine yr10 ?_;refine zu ?_;refine yr12 ?_;exact zd
 |true=>
  obtain⟨i,j,x,y,rfl,_,hx,hy,ok⟩:=jbN ht
  have hil:=jl hx
  have hok:=ok.tn
  have hcp:cfgP c=true:=by simp only[Jh,Bool.and_eq_true] at ht;exact ht.1
  have he:jbp c (i:Nat)=(Jj (fun i=>wordsP c (i:Nat)) i,0):=by simp[jbp,ht]
  have hc1:=fun k b1 (hk:k<c.tn.length)=>base1_K (b1:=b1) hR hcp hk
  have hB:=fun k (hk:k<c.tn.length)=>jdy hcp hk
  rw[ht] at hc0;rw[he]
  obtain⟨f,hf⟩: ∃ f:Nat->Int,f=fun i=>wordsP c (i:Nat):=⟨_,rfl⟩
  have hfi: ∀ i,wordsP c (i:Nat)=f i:=fun i=>by rw[hf]
  rw[<-hf];simp only[hfi] at hB hc1
  obtain⟨hS,hT',o1,o2,l1,l2⟩:=hR
  obtain⟨cl,page,tn,workers,grey,gens⟩:=c
  dsimp only at hS hT' l1 l2 he hok hB hc1 hil hx hy|-;simp only[jA,jV] at hc0 hc1|-
  have htl:(tn.take i).length=i:=by rw[List.length_take];omega
  have hT2:Sli w0 H tnE (j9 vt 0 i tnE.sz) (tn.take i):=hT'.sub (Nat.zero_le _) bc
  refine en2 16 Tryz.func42 ?_;refine yr3 ?_;intro b2;refine yr10 ?_;refine zu ?_;refine yq13 fun T hT=>?_;refine(CallV.part (CallV.fn (sumT_K (H:=(b2,cells [vc, .int .i64 page,vt, .int .i64 workers, .int .i64 grey, .int .i64 gens] 25)::H) (l:=tn.take i) (f:=f) (hT2.part ja) bc (fun k hk=>hB k bc) ?_)) ja).mono ?_
  ·intro k hk;exact CallV.clo (cap:=[_]) (hc1 k _ bc)
  ·rintro _ _ ⟨rfl,rfl⟩;rw[htl];refine ze ?_;clear hT T;refine yr5 ?_;exact zd
def gOf (c:Cfg) (t:Int):PlG:=⟨c.cl.map Int.toNat,c.page.toNat,(ja5 c t).toNat⟩
section
variable {c : Cfg} {t : Int}
theorem gOf_m:(gOf c t).m=c.cl.length:=by simp[PlG.m,gOf]
theorem gOf_y {k:Nat} {y:Int} (h:c.cl[k]?=some y):(gOf c t).y k=y.toNat:=by
 simp[PlG.y,gOf,List.getD,h]
structure GAt (c:Cfg) (t:Int) (g:PlG):Prop where
 ok:jh g
 m:g.m=c.cl.length
 page:c.page=(g.pg:Nat)
 y: ∀ (k:Nat) (y:Int),c.cl[k]?=some y->y=(g.y k:Nat)
 slots: ∀ k:Nat,k<g.m->jap c t (k:Nat)=(((g.n k:Nat):Int),0)
 pages: ∀ k:Nat,k<g.m->pagesP c t (k:Nat)=(((g.pgs k:Nat):Int),0)
 region:jav c t=(((g.words:Nat):Int),0)
theorem jkk {f:Nat->Int} {n:Nat->Nat} {p:Nat}: ∀ {m:Nat},(∀ k,k<m->f k=((n k*p:Nat):Int))->Jj f m=((jz n m*p:Nat):Int)
 |0,_=>by simp[Jj,jz]
 |m+1,h=>by
  have h1:=jkk (m:=m) (fun k hk=>h k bc)
  have h2:=h m bc
  simp only[Jj,jz,h1,h2,Nat.add_mul];omega
theorem g_at (h:Jh c t 0=true):GAt c t (gOf c t):=by
 obtain⟨i,j,x,y0,rfl,_,hx,_,ok⟩:=jbN h
 have hil:=jl hx
 have hcp:cfgP c=true:=by simp only[Jh,Bool.and_eq_true] at h;exact h.1
 have hq:ja5 c (i:Nat)=x.quota:=by simp[ja5,hx]
 obtain⟨⟨q1,q2⟩,_⟩:=ok.ten x (List.mem_of_getElem? hx)
 have hpg:=ok.page
 have key: ∀ k,k<c.cl.length-> ∃ y:Nat,c.cl[k]?=some (y:Int)/\2<=y/\(y:Int)<=jbV c.cl/\(gOf c (i:Nat)).y k=y:=by
  intro k hk
  obtain⟨y,hy⟩:=jq hk
  have h1:=ok.el y (List.mem_of_getElem? hy)
  refine⟨y.toNat,by rw[hy];congr 1;omega,by omega,by omega,gOf_y hy⟩
 obtain⟨q,hqn⟩: ∃ q:Nat,x.quota=q:=⟨x.quota.toNat,by obtain⟨y,_,h2,h3,_⟩:=key 0 (by have:=ok.cl;omega);omega⟩
 obtain⟨p,hpn⟩: ∃ p:Nat,c.page=p:=⟨c.page.toNat,by obtain⟨y,_,h2,h3,_⟩:=key 0 (by have:=ok.cl;omega);omega⟩
 have hgq:(gOf c (i:Nat)).q=q:=by simp[gOf,hq,hqn]
 have hgp:(gOf c (i:Nat)).pg=p:=by simp[gOf,hpn]
 have hgm:(gOf c (i:Nat)).m=c.cl.length:=gOf_m
 have hth: ∀ k,k<c.cl.length->Jh c (i:Nat) (k:Nat)=true:=fun k hk=>jbl hcp hil hk
 have hok:jh (gOf c (i:Nat)):=by
  refine⟨by rw[hgm];exact ok.cl,fun k hk=>?_,by rw[hgp];omega,by rw[hgq];omega⟩;rw[hgm] at hk
  obtain⟨y,_,h2,h3,h4⟩:=key k hk
  rw[h4,hgp,hgq];omega
 have hsl: ∀ k:Nat,k<(gOf c (i:Nat)).m->jap c (i:Nat) (k:Nat)=((((gOf c (i:Nat)).n k:Nat):Int),0):=by
  intro k hk;rw[hgm] at hk
  obtain⟨y,h1,h2,h3,h4⟩:=key k hk
  simp only[jap,hth k hk,if_true,jbc,hq,cfgC,Int.toNat_natCast,h1,Option.getD_some,PlG.n,h4,hgq,hqn]
  rfl
 have hpp: ∀ k:Nat,k<(gOf c (i:Nat)).m->pagesP c (i:Nat) (k:Nat)=((((gOf c (i:Nat)).pgs k:Nat):Int),0):=by
  intro k hk
  have b1:=hok.n hk
  have b2:=hok.per hk
  rw[hgm] at hk
  obtain⟨y,h1,h2,h3,h4⟩:=key k hk
  have e1:((gOf c (i:Nat)).n k:Int)=(q:Int)/(y:Int):=by simp only[PlG.n,h4,hgq];rfl
  have e2:((gOf c (i:Nat)).per k:Int)=(p:Int)/(y:Int):=by simp only[PlG.per,h4,hgp];rfl
  simp only[pagesP,hth k hk,if_true,jcV,hq,cfgC,Int.toNat_natCast,h1,Option.getD_some,hqn,hpn,<-e1,<-e2]
  congr 1
  unfold PlG.pgs
  have e3:(((gOf c (i:Nat)).n k:Nat):Int)+((gOf c (i:Nat)).per k:Nat)-1=(((gOf c (i:Nat)).n k+(gOf c (i:Nat)).per k-1:Nat):Int):=by omega
  rw[e3];rfl
 refine⟨hok,hgm,by rw[hgp,hpn],?_,hsl,hpp,?_⟩
 ·intro k y hy
  obtain⟨y',h1,h2,h3,h4⟩:=key k (jl hy)
  rw[h4,hy] at*
  cases h1;rfl
 ·simp only[jav,h,if_true,wordsP]
  congr 1
  rw[<-hgm]
  refine jkk fun k hk=>?_
  simp only[pwP,hpp k hk,hpn,hgp]
  rfl
end
theorem Of0_K {w0:World} {F:jb} {p:jQ} {k:Nat} (ok:jar p) (hk:k<p.g.m):
  Cs w0 288 [pt p.b, .int .i64 (k:Nat)] (planH p++F) (.tuple [.int .i64 (p.g.first k:Nat), .int .i64 (p.g.n k:Nat), .int .i64 0].toArray):=by
 have ho:=ok.o
 have hpl:p.g.parts.length=p.g.m:=jcz
 have hkl:k<p.g.parts.length:=by omega
 have hge: ¬((k:Nat):Int)>=((p.g.parts.length:Nat):Int):=by omega
 have hx:p.g.parts[k]?=some (p.g.pt k):=jc1 hk
 refine en2 38 Tryz.func288 ?_;refine yr13 ?_;refine zaa ?_;simp only[jG,j8,jU];refine yr25 ?_;refine K.dr [] (od 0 [0,0,0,0,0,0,0,0,0,0,0,0,0,0,0,0,0,0,0]) Part.nil ?_;refine yr22 ?_;exact zI
theorem Of0_E {w0:World} {F:jb} {p:jQ} {k:Int} (ok:jar p) (hk: ¬(0<=k/\k<(p.g.m:Nat))):
  Cs w0 288 [pt p.b, .int .i64 k] (planH p++F) (.tuple [.int .i64 0, .int .i64 0, .int .i64 2].toArray):=by
 have ho:=ok.o
 have hpl:p.g.parts.length=p.g.m:=jcz
 refine en2 38 Tryz.func288 ?_
 by_cases h0:k<0
 ·refine yr13 ?_;refine zaa ?_;simp only[jG,j8,jU];refine yr31 ?_;exact zI
 ·have hge:k>=((p.g.parts.length:Nat):Int):=by omega
  refine yr13 ?_;refine zaa ?_;simp only[jG,j8,jU];refine yr31 ?_;exact zI
def jbF (g:PlG) (k:Nat):List jdo:=(List.range k).map g.pt
theorem pts_succ (g:PlG) (k:Nat):jbF g k++ [g.pt k]=jbF g (k+1):=by simp[jbF,List.range_succ]
theorem jkJ (g:PlG) (k:Nat):(jbF g k).length=k:=by simp[jbF]
structure NwS where
 k:Nat
 o:Own
theorem pNew_K {w0:World} {F:jb} {c:Cfg} {vc vt:Value} {t:Int} (hR:Jl w0 F c vc vt) (ht:Jh c t 0=true):
  Call Tryz.prog w0 88 [jA c vc vt, .int .i64 t] F (fun r H'=> ∃ p:jQ,jar p/\p.g=gOf c t/\r= .tuple [pt p.b, .int .i64 0].toArray/\H'=planH p++F):=by
 have ga:=g_at ht
 obtain⟨g,hg⟩: ∃ g,g=gOf c t:=⟨_,rfl⟩
 rw[<-hg] at ga|-
 have hreg:=fun A (hp:Part A F)=>jkb (t:=t) (hR.part hp)
 have hsl:=fun A (k:Nat) (hp:Part A F)=>Slots_K (t:=t) (k:=(k:Nat)) (hR.part hp)
 have hpg:=fun A (k:Nat) (hp:Part A F)=>Pages_K (t:=t) (k:=(k:Nat)) (hR.part hp)
 rw[ga.region] at hreg
 have ok:=ga.ok
 have hm:=ok.m
 have hgm:=ga.m
 have hgy:=ga.y
 have hgs:=ga.slots
 have hgp:=ga.pages
 have hgpg:=ga.page
 have hpgl:=ok.pg
 obtain⟨hS,hT',o1,o2,l1,l2⟩:=hR
 obtain⟨cl,page,tn,workers,grey,gens⟩:=c
 dsimp only at hS hT' l1 l2 hgm hgy hgpg;simp only[jA,jV] at hreg hsl hpg|-;subst hgpg;simp only[prV] at hreg hsl hpg;clear ga hg ht
 have f0:g.first 0=0:=rfl
 have q0:g.page 0=0:=rfl
 refine en2 92 Tryz.func88 ?_;refine yr3 ?_;intro b2;refine yr10 ?_;refine jj (hreg _ ja) ?_;refine yr22 ?_;intro b27;refine yr13 ?_;refine K.loopT (σ:=NwS) [(1,_),(2,_),(8,_),(29,_),(30,_)] (fun s kp_=>(31, .int .i64 (s.k:Nat))::kp_) (fun s=>(b27,cells [oV s.o (jbF g s.k).length, .int .i64 (g.first s.k:Nat), .int .i64 (g.page s.k:Nat), .int .i64 (g.pg:Nat)] 222)::(oH jdj 219 (jbF g s.k) s.o++((b2,cells [vc, .int .i64 (g.pg:Nat),vt, .int .i64 workers, .int .i64 grey, .int .i64 gens] 25)::F))) (fun s=>s.k<=g.m/\oOk jdj (jbF g s.k) s.o) (fun s=>g.m-s.k) (⟨0,none⟩) jg ja (⟨Nat.zero_le _,rfl⟩) ?_;rintro⟨k,o⟩ ⟨hk,hok⟩;dsimp only at hk hok|-
 by_cases hlt:k<g.m
 ·obtain⟨y,hy⟩:=jq (l:=cl) (k:=k) bc
  have hyk:=hgy k y hy
  subst hyk
  have hkl:k<cl.length:=by omega
  have hsl1:=fun A hp=>hsl A k hp
  have hpg1:=fun A hp=>hpg A k hp
  rw[hgs k hlt] at hsl1;rw[hgp k hlt] at hpg1
  have y1:=ok.y k hlt
  have hper:((g.pg:Nat):Int)/((g.y k:Nat):Int)=((g.per k:Nat):Int):=rfl
  have b1:=ok.first (show k<=g.m by omega)
  have b2':=ok.page (show k<=g.m by omega)
  have b3:=ok.n hlt
  have b4:=ok.pgs hlt
  have e1:((g.first k:Nat):Int)+((g.n k:Nat):Int)=((g.first (k+1):Nat):Int):=rfl
  have e2:((g.page k:Nat):Int)+((g.pgs k:Nat):Int)=((g.page (k+1):Nat):Int):=rfl
  have hptl:=jkJ g k
  have hptb:(jbF g (k+1)).length<=4294967296:=by rw[jkJ];omega
  dsimp only at hsl1 hpg1;clear hsl hpg hgs hgp hgy;refine yr26 ?_;refine jj (hsl1 _ ja) ?_;refine yr13 ?_;refine jj (hpg1 _ ja) ?_;refine yr7 ?_;refine zi ?_
  (repeat refine K.seq ?_)
  refine K.dr ((b27,cells [oV o (jbF g k).length, .int .i64 (g.first k:Nat), .int .i64 (g.page k:Nat), .int .i64 (g.pg:Nat)] 222)::[]) (od 0 [1,1,1,1,1,0,0,0,0,0,0,0,0,0,0,0,0,0,0,0,2,2,0,0,4]) ja ?_
  (iterate 23 first|refine yS ?_|intro _)
  -- STOP at region 10 op 21: {"h": "Op.call", "a": [{"callee": {"h": "Callee.builtin", "a": ["Builtin.append"]}, "args": [{"h": "Operand.tmp", "a": [54]}, {"h": "Operand.tmp", "a": [70]}], "argTypes": [220, 220]}]}
  refine KD.e rfl rfl (Eff.appZ (E:=jdj) (xs:=jbF g k) (o:=o) (ys:=[g.pt k]) (zs:=jbF g (k+1)) rfl rfl rfl rfl rfl rfl jt bh ba (pts_succ g k) be rfl) ?_;rintro _ _ ⟨o',ok',rfl,rfl⟩;refine⟨ja,?_⟩;refine yr2 ?_;refine zaD ?_;refine yr32 ?_;rw[e1,e2];exact KE.again ⟨k+1,o'⟩ jg ja ⟨hlt,ok'⟩ (by show g.m-(k+1)<g.m-k;omega)
 ·have hke:k=g.m:=by omega
  subst hke;refine yr20 ?_;exact KE.fin (H':=planH ⟨b27,g,o⟩++F) jd rfl jc (by rw[jU];exact ja) ⟨⟨b27,g,o⟩,⟨ok,hok⟩,rfl,rfl,rfl⟩
section
variable {w0 : World} {D F : jb} {v : PlV} {vr : Value} {g : PlG} {R : List RwD} {t s : Nat} {x : List Int} {y : jn}
theorem jeH {ref:Bool} {i:Int} (hB:BoD w0 D v vr g R) (hf:BoF g R t x) (hy:g.L[s]?=some y):
  Cs w0 240 [.agg (boL v g vr t).toArray, .int .i64 (s:Nat), .int .i64 i, .bool ref] (D++F) (.int .i64 (fldP x y ref i)):=by
 have ho:=hB.m.o
 have q1:=hB.p.oL
 have q2:=hB.p.oF
 have q3:=hB.p.oM
 have q4:=hB.p.oC
 have hhead:=fun A=>je1 (w0:=w0) (D:=D) (F:=A) hB hf hy
 have hfl:fldP x y ref i=match headP x y with|none=>5|some h=>if 0<=i/\i<h.r+h.w/\decide (i<h.r)=ref then 0 else 110:=rfl
 have hhm: ∀ h,headP x y=some h->Jb h=true:=fun h e=>(jbm (jb1 e).2).1
 unfold headV at hhead;unfold boL at*
 cases hh:headP x y with
 |none=>
  rw[hh] at hfl;simp only[hh] at hhead;dsimp only at hfl;rw[hfl];unfold hdV at hhead;dsimp only at hhead;refine en4 35 Tryz.func240 ?_
  (iterate 12 first|refine yS ?_|intro _)
  refine zJ ?_
  (iterate 25 first|refine yS ?_|intro _)
  exact zd
 |some h=>
  rw[hh] at hfl;simp only[hh] at hhead;dsimp only at hfl
  have hm:=hhm h hh
  have hF:=fun A=>rField_K (w0:=w0) (H:=A) (h:=h) (i:=i)
  have hfd:JJ h i=if i<0\/i>=h.r+h.w then(false,110) else(decide (i<h.r),0):=by unfold JJ;rw [if_pos hm]
  obtain⟨c,r,w⟩:=h
  unfold hdV at*;dsimp only at*;clear hhm
  by_cases h1:i<0\/i>=r+w
  ·rw[if_pos h1] at hfd;rw[if_neg bc] at hfl;simp only[hfd] at hF;rw[hfl];refine en4 35 Tryz.func240 ?_
   (iterate 12 first|refine yS ?_|intro _)
   refine zJ ?_
   (iterate 24 first|refine yS ?_|intro _)
   refine jj (hF _) ?_;refine yr27 ?_;exact zd
  ·rw[if_neg h1] at hfd;simp only[hfd] at hF
   by_cases h2:decide (i<r)=ref
   ·rw[if_pos ⟨by omega,by omega,h2⟩] at hfl;rw[hfl];subst h2
    have hbn:(decide (i<r) !=decide (i<r))=false:=by simp
    refine en4 35 Tryz.func240 ?_
    (iterate 12 first|refine yS ?_|intro _)
    refine zJ ?_
    (iterate 24 first|refine yS ?_|intro _)
    refine jj (hF _) ?_;refine yr19 ?_;rw[hbn];refine yr9 ?_;exact zd
   ·rw[if_neg (by intro h;exact h2 h.2.2)] at hfl;rw[hfl]
    have hbn:(decide (i<r) !=ref)=true:=by
     cases hd:decide (i<r)<;>cases ref<;>simp_all
    refine en4 35 Tryz.func240 ?_
    (iterate 12 first|refine yS ?_|intro _)
    refine zJ ?_
    (iterate 24 first|refine yS ?_|intro _)
    refine jj (hF _) ?_;refine yr19 ?_;rw[hbn];refine yr8 ?_;exact zd
theorem jlb {i w:Int} (hB:BoD w0 D v vr g R) (hf:BoF g R t x) (hy:g.L[s]?=some y):
  Call Tryz.prog w0 140 [.agg (boL v g vr t).toArray, .int .i64 (s:Nat), .int .i64 i, .int .u64 w] (D++F) (fun r H'=> ∃ (vr':Value) (R':List RwD) (N:jb),BoD w0 (N++D) v vr' g R'/\rwX R'=(rwX R).set t (J6 x y i w).2/\r= .tuple [.agg (boL v g vr' t).toArray, .int .i64 (J6 x y i w).1].toArray/\H'=N++(D++F)):=by
 have ho:=hB.m.o
 have q1:=hB.p.oL
 have q2:=hB.p.oF
 have q3:=hB.p.oM
 have q4:=hB.p.oC
 have hself:=hf.self
 have hfit:=hf.ok.fits hy
 have hww:=hf.ok.words
 have hlx:=hf.l
 rw[jhL];dsimp only
 have hfld:=fun A=>jeH (w0:=w0) (D:=D) (F:=A) (ref:=false) (i:=i) hB hf hy
 by_cases e:fldP x y false i=0
 ·obtain⟨p1,p2,p3⟩:=J7 e
  have hi1:(1:Int)+i=((1+i.toNat:Nat):Int):=by omega
  have hfa:y.addr+(1+i.toNat)=fAt y i:=by unfold fAt;omega
  have hst:=fun A=>jge (w0:=w0) (D:=D) (F:=A) (i:=1+i.toNat) (w:=w) hB hf hy bc
  rw[hfa] at hst;simp only[e] at hfld;rw[if_pos e,e];unfold boL at*;refine en4 25 Tryz.func140 ?_
  (iterate 15 first|refine yS ?_|intro _)
  refine zq ?_;refine yq20 fun T hT=>?_;rw[hi1];refine(CallV.part (CallV.fn (hst _)) ja).mono ?_;rintro _ _ ⟨vr',R',N,hM',hX,rfl,rfl⟩
  have ho':=hM'.m.o
  refine ze ?_;clear hT T;refine yr5 ?_;exact zbu
 ·rw[if_neg e]
  have hne:fldP x y false i≠0:=e
  obtain⟨fe,hfe⟩: ∃ fe,fe=fldP x y false i:=⟨_,rfl⟩
  simp only[<-hfe] at hfld hne|-;unfold boL at*;refine en4 25 Tryz.func140 ?_
  (iterate 15 first|refine yS ?_|intro _)
  refine zq ?_;refine yr21 ?_;exact zao
theorem rbMake_K {h:HdP} (hB:BoD w0 D v vr g R) (hf:BoF g R t x) (hy:g.L[s]?=some y):
  Call Tryz.prog w0 130 [.agg (boL v g vr t).toArray, .int .i64 (s:Nat),hdV h] (D++F) (fun r H'=> ∃ (vr':Value) (R':List RwD) (N:jb),BoD w0 (N++D) v vr' g R'/\rwX R'=(rwX R).set t (makeP x y h).2/\r= .tuple [.agg (boL v g vr' t).toArray, .int .i64 (makeP x y h).1].toArray/\H'=N++(D++F)):=by
 have ho:=hB.m.o
 have q1:=hB.p.oL
 have q2:=hB.p.oF
 have q3:=hB.p.oM
 have q4:=hB.p.oC
 have hself:=hf.self
 have hfit:=hf.ok.fits hy
 have hww:=hf.ok.words
 have hlx:=hf.l
 have hHas:=fun A=>jek (w0:=w0) (D:=D) (F:=A) (n:=(s:Nat)) hB.p hf.ok
 simp only[jd5 hy] at hHas
 have hhead:=fun A=>je1 (w0:=w0) (D:=D) (F:=A) hB hf hy
 have hwipe:=fun A=>jjn (w0:=w0) (D:=D) (F:=A) hB hf hy
 have hlies:=fun A=>jjm (w0:=w0) (D:=D) (F:=A) (t:=t) (h:=h) hB hy
 have hput:=fun A=>rPut_K (w0:=w0) (H:=A) (h:=h)
 have hmk:makeP x y h=if JA y h then(if (headP x y).isSome then(8,x) else(0,(JH x y).set y.addr (jbW h))) else(2,x):=rfl
 have hpw:jbW h=(putN h.c.toNat h.r.toNat h.w.toNat:Nat):=rfl
 have hlm:=fun e=>(jbm (p:=y) (h:=h) e).1
 have hpp:Jb h=true->jbX h= .tuple [.int .u64 (jbW h), .int .i64 0].toArray:=fun e=>by unfold jbX;rw [if_pos e];rfl
 obtain⟨pw,hpw'⟩: ∃ pw,pw=jbW h:=⟨_,rfl⟩
 rw[<-hpw'] at hmk hpp
 obtain⟨mk,hmk'⟩: ∃ mk,mk=makeP x y h:=⟨_,rfl⟩
 rw[<-hmk'] at hmk|-
 obtain⟨li,hli⟩: ∃ li,li=JA y h:=⟨_,rfl⟩
 rw[<-hli] at hmk hlm;simp only[<-hli] at hlies
 obtain⟨c,r,w⟩:=h
 unfold hdV boL at*;unfold plL at hHas;dsimp only at*;clear hpw hpw' hmk' hli
 cases li with
 |false=>
  simp only[Bool.false_eq_true,if_false] at hmk;rw[hmk];dsimp only;refine en3 49 Tryz.func130 ?_
  (iterate 18 first|refine yS ?_|intro _)
  refine zK ?_;refine yr6 ?_;refine ji (hlies _) ja ?_;refine yr14 ?_;exact zao
 |true=>
  simp only[if_true] at hmk;unfold headV hdV at hhead
  cases hh:headP x y with
  |some h'=>
   rw[hh] at hmk;simp only[hh] at hhead;simp only[Option.isSome,if_true] at hmk
   obtain⟨c',r',w'⟩:=h'
   dsimp only at hhead;rw[hmk];dsimp only;refine en3 49 Tryz.func130 ?_
   (iterate 18 first|refine yS ?_|intro _)
   refine zK ?_;refine yr6 ?_;refine ji (hlies _) ja ?_;refine yr12 ?_;refine zJ ?_
   (iterate 26 first|refine yS ?_|intro _)
   exact zao
  |none=>
   rw[hh] at hmk;simp only[hh] at hhead;simp only[Option.isSome,Bool.false_eq_true,if_false] at hmk;rw[hmk];dsimp only;simp only[hpp (hlm rfl)] at hput;refine en3 49 Tryz.func130 ?_
   (iterate 18 first|refine yS ?_|intro _)
   refine zK ?_;refine yr6 ?_;refine ji (hlies _) ja ?_;refine yr12 ?_;refine zJ ?_
   (iterate 23 first|refine yS ?_|intro _)
   refine jj (hput _) ?_;refine yq11 fun T hT=>?_;refine(CallV.part (CallV.fn (hwipe _)) ja).mono ?_;rintro _ _ ⟨vr1,R1,N1,hB1,hX1,rfl,rfl⟩
   have ho1:=hB1.m.o
   have hf1:=hf.next hX1 (jdz bc) (JF.cleared hf.w)
   have hst:=fun A=>jge (w0:=w0) (D:=N1++D) (F:=A) (i:=0) (w:=pw) hB1 hf1 hy (by have:=hf1.l;omega)
   unfold boL at hst;refine ze ?_;clear hT T;refine yq11 fun T hT=>?_;refine(CallV.part (CallV.fn (hst _)) bz).mono ?_;rintro _ _ ⟨vr2,R2,N2,hB2,hX2,rfl,rfl⟩
   have ho2:=hB2.m.o
   rw[hX1,List.set_set] at hX2;rw[<-List.append_assoc] at hB2;refine ze ?_;clear hT T;refine yr5 ?_;exact KE.fin (H':=(N2++N1)++(D++F)) jd rfl jc bf ⟨vr2,R2,N2++N1,hB2,hX2,rfl,rfl⟩
end
section
variable {w0 : World} {D F : jb} {v : PlV} {vr : Value} {g : PlG} {R : List RwD} {t s : Nat} {x : List Int} {y : jn}
theorem jg4 {i:Int} (hB:BoD w0 D v vr g R) (hf:BoF g R t x) (hy:g.L[s]?=some y):
  Cs w0 139 [.agg (boL v g vr t).toArray, .int .i64 (s:Nat), .int .i64 i] (D++F) (.tuple [.int .i64 (refP x g.slots y i).1, .int .i64 (refP x g.slots y i).2].toArray):=by
 have hL:=hB.p.L
 have hLl:=jak (g:=g)
 have hsl:=hf.ok.slots
 have ho:=hB.m.o
 have q1:=hB.p.oL
 have q2:=hB.p.oF
 have q3:=hB.p.oM
 have q4:=hB.p.oC
 have hfit:=hf.ok.fits hy
 have hlx:=hf.l
 have hfld:=fun A=>jeH (w0:=w0) (D:=D) (F:=A) (ref:=true) (i:=i) hB hf hy
 obtain⟨fe,hfe⟩: ∃ fe,fe=fldP x y true i:=⟨_,rfl⟩
 unfold refP;rw[<-hfe];simp only[<-hfe] at hfld
 by_cases e:fe=0
 ·subst e
  obtain⟨p1,p2,p3⟩:=J7 hfe.symm
  have hi1:(1:Int)+i=((1+i.toNat:Nat):Int):=by omega
  have hfa:y.addr+(1+i.toNat)=fAt y i:=by unfold fAt;omega
  have hld:=fun A=>je0 (w0:=w0) (D:=D) (F:=A) (i:=1+i.toNat) hB hf hy bc
  rw[hfa] at hld
  obtain⟨w,hw⟩: ∃ w,wAt x (fAt y i)=w:=⟨_,rfl⟩
  have hwb:=hf.w.at_ (fAt y i)
  rw[hw] at hld hwb|-;simp only[if_true]
  by_cases hgt:w>((g.slots:Nat):Int)
  ·rw[if_pos hgt]
   have hgt':w>((g.L.length:Nat):Int):=by omega
   unfold boL at*;refine en3 32 Tryz.func139 ?_
   (iterate 14 first|refine yS ?_|intro _)
   refine zq ?_;refine yq19 fun T hT=>?_;rw[hi1];refine(CallV.part (CallV.fn (hld _)) ja).mono ?_;rintro _ _ ⟨rfl,rfl⟩;refine ze ?_;clear hT T;refine yr24 ?_;exact zd
  ·rw[if_neg hgt]
   have hgt': ¬w>((g.L.length:Nat):Int):=by omega
   unfold boL at*;refine en3 32 Tryz.func139 ?_
   (iterate 14 first|refine yS ?_|intro _)
   refine zq ?_;refine yq19 fun T hT=>?_;rw[hi1];refine(CallV.part (CallV.fn (hld _)) ja).mono ?_;rintro _ _ ⟨rfl,rfl⟩;refine ze ?_;clear hT T;refine yr28 ?_;exact zd
 ·simp only[if_neg e];clear hfe;unfold boL at*;refine en3 32 Tryz.func139 ?_
  (iterate 14 first|refine yS ?_|intro _)
  refine zq ?_;refine yr20 ?_;exact zd
theorem jlB {i to:Int} (hB:BoD w0 D v vr g R) (hf:BoF g R t x) (hy:g.L[s]?=some y):
  Call Tryz.prog w0 141 [.agg (boL v g vr t).toArray, .int .i64 (s:Nat), .int .i64 i, .int .i64 to] (D++F) (fun r H'=> ∃ (vr':Value) (R':List RwD) (N:jb),BoD w0 (N++D) v vr' g R'/\rwX R'=(rwX R).set t (Jp x g.slots y i to).2/\r= .tuple [.agg (boL v g vr' t).toArray, .int .i64 (Jp x g.slots y i to).1].toArray/\H'=N++(D++F)):=by
 have hL:=hB.p.L
 have hLl:=jak (g:=g)
 have hsl:=hf.ok.slots
 have ho:=hB.m.o
 have q1:=hB.p.oL
 have q2:=hB.p.oF
 have q3:=hB.p.oM
 have q4:=hB.p.oC
 have hself:=hf.self
 have hfit:=hf.ok.fits hy
 have hww:=hf.ok.words
 have hlx:=hf.l
 have hHas:=fun A=>jek (w0:=w0) (D:=D) (F:=A) (n:=(s:Nat)) hB.p hf.ok
 simp only[jd5 hy] at hHas
 have hfld:=fun A=>jeH (w0:=w0) (D:=D) (F:=A) (ref:=true) (i:=i) hB hf hy
 unfold plL at hHas;unfold Jp
 by_cases h1:to< -1
 ·rw[if_pos (.inl h1)];dsimp only;unfold boL at*;refine en4 45 Tryz.func141 ?_
  (iterate 16 first|refine yS ?_|intro _)
  refine zK ?_;refine yr25 ?_;exact zao
 ·by_cases h2:to>=((g.slots:Nat):Int)
  ·rw[if_pos (.inr h2)];dsimp only
   have h2':to>=((g.L.length:Nat):Int):=by omega
   unfold boL at*;refine en4 45 Tryz.func141 ?_
   (iterate 16 first|refine yS ?_|intro _)
   refine zK ?_;refine yr25 ?_;exact zao
  ·rw[if_neg bc]
   have h2': ¬to>=((g.L.length:Nat):Int):=by omega
   obtain⟨fe,hfe⟩: ∃ fe,fe=fldP x y true i:=⟨_,rfl⟩
   rw[<-hfe];simp only[<-hfe] at hfld
   by_cases e:fe=0
   ·subst e
    obtain⟨p1,p2,p3⟩:=J7 hfe.symm
    have hi1:(1:Int)+i=((1+i.toNat:Nat):Int):=by omega
    have hfa:y.addr+(1+i.toNat)=fAt y i:=by unfold fAt;omega
    have hst:=fun A=>jge (w0:=w0) (D:=D) (F:=A) (i:=1+i.toNat) (w:=to+1) hB hf hy bc
    rw[hfa] at hst;simp only[if_true];unfold boL at*;refine en4 45 Tryz.func141 ?_
    (iterate 16 first|refine yS ?_|intro _)
    refine zK ?_;refine yr24 ?_;refine zq ?_;refine yq22 fun T hT=>?_;rw[hi1];refine(CallV.part (CallV.fn (hst _)) ja).mono ?_;rintro _ _ ⟨vr',R',N,hM',hX,rfl,rfl⟩
    have ho':=hM'.m.o
    refine ze ?_;clear hT T;refine yr5 ?_;exact zbu
   ·simp only[if_neg e];unfold boL at*;refine en4 45 Tryz.func141 ?_
    (iterate 16 first|refine yS ?_|intro _)
    refine zK ?_;refine yr24 ?_;refine zq ?_;refine yr21 ?_;exact zao
end
section
variable {w0 : World} {F : jb} {t : TbM}
theorem jlp {i:Nat} {e:jk} (ok:TbOk t) (he:t.l[i]?=some e) (h0:e.st=2):
  Call Tryz.prog w0 308 [pt t.b, .pointer (some (adr (oV t.o t.l.length) (i*enE.sz))), .int .i64 0] (jF t++F) (fun r H'=>r= .tuple #[]/\H'=jF ⟨t.b,t.l.set i ⟨0,e.slot,e.gen⟩,t.gens,t.o⟩++F):=by
 have ho:=ok.o
 have hn:=ok.n
 obtain⟨st,sl,ge⟩:=e
 dsimp only at h0;subst h0
 have c0:=jaH he ⟨0,sl,ge⟩ 0
 have c1:=jaH he ⟨0,sl,ge⟩ 1
 have c2:=jaH he ⟨0,sl,ge⟩ 2
 have c3:=jaH he ⟨0,sl,ge⟩ 3
 have p0:1<=cntP 2 t.l:=jfs he
 have p1:=jcQ 0 t.l
 have p2:=jcQ 2 t.l
 simp at c0 c1 c2 c3
 have e0:((cntP 2 t.l:Nat):Int)-1=((cntP 2 (t.l.set i ⟨0,sl,ge⟩):Nat):Int):=by omega
 have e1:((cntP 0 t.l:Nat):Int)+1=((cntP 0 (t.l.set i ⟨0,sl,ge⟩):Nat):Int):=by omega
 refine en3 33 Tryz.func308 ?_;simp only[Jm];refine yr1 ?_;refine zaj ?_;refine yr7 ?_;dsimp only;refine yr11 ?_;refine zae ?_;refine yr14 ?_;refine zg ?_;refine yr4 ?_;refine KL.eN (Eff.stSl0 (x1:=(⟨0,sl,ge⟩:jk)) rfl rfl rfl rfl jt ho he rfl rfl) ?_;rintro _ _ rfl;refine yr1 ?_;rw[e0,e1];exact KE.finN (H':=jF ⟨t.b,t.l.set i ⟨0,sl,ge⟩,t.gens,t.o⟩++F) jd rfl jc (by simp only[Jm,List.length_set,c1,c3];exact ja) ⟨rfl,rfl⟩
theorem jlo {i:Nat} {e:jk} (ok:TbOk t) (he:t.l[i]?=some e) (h0:e.st=2):
  Call Tryz.prog w0 308 [pt t.b, .pointer (some (adr (oV t.o t.l.length) (i*enE.sz))), .int .i64 3] (jF t++F) (fun r H'=>r= .tuple #[]/\H'=jF ⟨t.b,t.l.set i ⟨3,e.slot,e.gen⟩,t.gens,t.o⟩++F):=by
 have ho:=ok.o
 have hn:=ok.n
 obtain⟨st,sl,ge⟩:=e
 dsimp only at h0;subst h0
 have c0:=jaH he ⟨3,sl,ge⟩ 0
 have c1:=jaH he ⟨3,sl,ge⟩ 1
 have c2:=jaH he ⟨3,sl,ge⟩ 2
 have c3:=jaH he ⟨3,sl,ge⟩ 3
 have p0:1<=cntP 2 t.l:=jfs he
 have p1:=jcQ 3 t.l
 have p2:=jcQ 2 t.l
 simp at c0 c1 c2 c3
 have e0:((cntP 2 t.l:Nat):Int)-1=((cntP 2 (t.l.set i ⟨3,sl,ge⟩):Nat):Int):=by omega
 have e1:((cntP 3 t.l:Nat):Int)+1=((cntP 3 (t.l.set i ⟨3,sl,ge⟩):Nat):Int):=by omega
 refine en3 33 Tryz.func308 ?_;simp only[Jm];refine yr1 ?_;refine zaj ?_;refine yr7 ?_;dsimp only;refine yr11 ?_;refine zae ?_;refine yr14 ?_;refine zg ?_;refine yr4 ?_;refine KL.eN (Eff.stSl0 (x1:=(⟨3,sl,ge⟩:jk)) rfl rfl rfl rfl jt ho he rfl rfl) ?_;rintro _ _ rfl;refine yr1 ?_;rw[e0,e1];exact KE.finN (H':=jF ⟨t.b,t.l.set i ⟨3,sl,ge⟩,t.gens,t.o⟩++F) jd rfl jc (by simp only[Jm,List.length_set,c0,c1];exact ja) ⟨rfl,rfl⟩
structure TbJ where
 i:Nat
theorem tbin2_K {st:Int} {q1 q2:Nat} {yv:Value} (ok:TbOk t) (A:Nat->jb) (R:Nat->TbM)
  (h0:R 0=t) (hb: ∀ i,(R i).b=t.b/\(R i).o=t.o/\(R i).l.length=t.l.length/\TbOk (R i)/\(R i).l[i]?=t.l[i]?)
  (hn: ∀ (i:Nat) (e:jk),t.l[i]?=some e->e.st≠st->A (i+1)=A i/\R (i+1)=R i)
  (hy: ∀ (i:Nat) (e:jk),t.l[i]?=some e->e.st=st->CallV Tryz.prog w0 yv [.int .i64 (i:Nat), .pointer (some (adr (oV t.o t.l.length) (i*enE.sz)))] (A i++((q1,cells [pt t.b] 148)::(q2,cells [.int .i64 st] 3)::(jF (R i)++F))) (fun u H'=>u= .bool true/\H'=A (i+1)++((q1,cells [pt t.b] 148)::(q2,cells [.int .i64 st] 3)::(jF (R (i+1))++F)))):
  Call Tryz.prog w0 387 [yv,pt q1,pt q2] (A 0++((q1,cells [pt t.b] 148)::(q2,cells [.int .i64 st] 3)::(jF t++F)))
   (fun _ H'=>H'=A t.l.length++((q1,cells [pt t.b] 148)::(q2,cells [.int .i64 st] 3)::(jF (R t.l.length)++F))):=by
 have ho:=ok.o
 have hn0:=ok.n
 refine en3 34 Tryz.func387 ?_;simp only[Jm];refine yr11 ?_;refine K.loopT (σ:=TbJ) [(0,_),(1,_),(2,_),(10,_)] (fun s kp_=>(11, .int .i64 (s.i:Nat))::kp_) (fun s=>A s.i++((q1,cells [pt t.b] 148)::(q2,cells [.int .i64 st] 3)::(jF (R s.i)++F))) (fun s=>s.i<=t.l.length) (fun s=>t.l.length-s.i) (⟨0⟩) jg (by dsimp only;rw [h0];exact bH) (Nat.zero_le _) ?_;rintro⟨i⟩ hi;dsimp only at hi|-
 obtain⟨b1,b2,b3,b4,b5⟩:=hb i
 have ho':=b4.o
 rw[b2] at ho'
 by_cases hlt:i<t.l.length
 ·obtain⟨e,he⟩:=jq hlt
  have he':(R i).l[i]?=some e:=b5.trans he
  by_cases hst:e.st=st
  ·have hyi:=hy i e he hst
   simp only[Jm,b1,b2,b3] at hyi|-;refine yr29 ?_;refine zaY ?_;refine yr10 ?_;refine zo fun T hT=>?_;refine(CallV.part hyi ja).mono ?_;rintro _ H' ⟨rfl,rfl⟩;refine zf ?_;clear hT T;refine yr12 ?_;exact KE.again ⟨i+1⟩ jg bH hlt Be
  ·obtain⟨ha,hr⟩:=hn i e he hst
   simp only[Jm,b1,b2,b3];refine yr29 ?_;refine zaY ?_;refine yr23 ?_;exact KE.again ⟨i+1⟩ jg (by dsimp only;rw [ha,hr];simp only[Jm,b1,b2,b3];exact ja) hlt Be
 ·have hie:i=t.l.length:=by omega
  subst hie;simp only[Jm,b1,b2,b3];refine yr11 ?_;exact KE.finN (H':=A t.l.length++((q1,cells [pt t.b] 148)::(q2,cells [.int .i64 st] 3)::(jF (R t.l.length)++F))) jd rfl jc (by simp only[Jm,b1,b2,b3];exact ja) (by simp only[Jm,b1,b2,b3])
def recTo (gens:Int) (T:List jk) (k:Nat):List jk:=Jq gens (T.take k)++T.drop k
theorem jgb (gens:Int) (T:List jk) (k:Nat):(recTo gens T k).length=T.length:=by
 unfold recTo Jq;rw [List.length_append,List.length_map,List.length_take,List.length_drop];omega
theorem jgc (gens:Int) (T:List jk):recTo gens T T.length=Jq gens T:=by unfold recTo;rw [List.take_length,List.drop_length,List.append_nil]
theorem jeY (gens:Int) (T:List jk) (k:Nat):(recTo gens T k)[k]?=T[k]? :=by
 unfold recTo Jq
 by_cases h:k<=T.length
 ·have hl:((T.take k).map (JZ gens)).length=k:=by rw[List.length_map,List.length_take];omega
  rw[List.getElem?_append_right bc,hl,Nat.sub_self,List.getElem?_drop];rfl
 ·rw[List.getElem?_eq_none (by rw[List.length_append,List.length_map,List.length_take,List.length_drop];omega),List.getElem?_eq_none bc]
theorem jet {gens:Int} {T:List jk} {k:Nat} {e:jk} (h:T[k]?=some e):recTo gens T (k+1)=(recTo gens T k).set k (JZ gens e):=by
 have hlt:=jl h
 unfold recTo Jq
 have hl:((T.take k).map (JZ gens)).length=k:=by rw[List.length_map,List.length_take];omega
 rw[List.set_append,if_neg bc,hl,Nat.sub_self,ja6 h,List.map_append,List.append_assoc]
 congr 1
 rw[List.drop_eq_getElem_cons hlt]
 have:T[k]=e:=by rw[List.getElem?_eq_getElem hlt] at h;exact Option.some.inj h
 rw[this];rfl
theorem jgd {gens:Int} {T:List jk} {k:Nat} {e:jk} (h:T[k]?=some e):recyN gens (T.take (k+1))=recyN gens (T.take k)+(if e.st=2/\ ¬e.gen>=gens then 1 else 0):=by
 unfold recyN;rw[ja6 h,List.countP_append]
 by_cases hc:e.st=2/\ ¬e.gen>=gens
 ·rw[if_pos hc,List.countP_cons_of_pos (by exact decide_eq_true hc)];rfl
 ·rw[if_neg hc,List.countP_cons_of_neg (by rw[decide_eq_false hc];exact Bool.false_ne_true)];rfl
theorem jhY {gens:Int} {T:List jk} {k:Nat} {e:jk} (h:T[k]?=some e) (hn:e.st≠2):recTo gens T (k+1)=recTo gens T k/\recyN gens (T.take (k+1))=recyN gens (T.take k):=by
 constructor
 ·rw[jet h];unfold JZ;rw[if_neg hn]
  obtain⟨hl,he⟩:=List.getElem?_eq_some_iff.1 ((jeY gens T k).trans h)
  rw[<-he,List.set_getElem_self]
 ·rw[jgd h,if_neg (fun h=>hn h.1)];rfl
theorem jgA (ok:TbOk t) (k:Nat):TbOk ⟨t.b,recTo t.gens t.l k,t.gens,t.o⟩:=by
 induction k with
 |zero=>exact ok
 |succ k ih=>
  cases h:t.l[k]? with
  |none=>
   have hl:=List.getElem?_eq_none_iff.1 h
   have:recTo t.gens t.l (k+1)=recTo t.gens t.l k:=by
    unfold recTo;rw[List.take_of_length_le bc,List.take_of_length_le hl,List.drop_of_length_le bc,List.drop_of_length_le hl]
   rw[this];exact ih
  |some e=>
   rw[jet h]
   have hb:=ok.e e (List.mem_of_getElem? h)
   have hg:=ok.g
   refine jdK (t:=⟨t.b,recTo t.gens t.l k,t.gens,t.o⟩) ih ?_;unfold JZ
   split
   ·split
    ·dsimp only;omega
    ·dsimp only;omega
   ·exact hb
theorem jjj (gens:Int) (T:List jk):recyN gens T<=T.length:=List.countP_le_length
theorem jk2 (ok:TbOk t):Call Tryz.prog w0 380 [pt t.b] (jF t++F)
  (fun r H'=>r= .int .i64 (recyN t.gens t.l:Nat)/\TbOk ⟨t.b,Jq t.gens t.l,t.gens,t.o⟩/\H'=jF ⟨t.b,Jq t.gens t.l,t.gens,t.o⟩++F):=by
 have ho:=ok.o
 have hn:=ok.n
 have hg:=ok.g
 have okE:=jgA ok t.l.length
 rw[jgc] at okE;refine en1 41 Tryz.func380 ?_;refine yr3 ?_;intro b1;refine yr8 ?_;refine zL ?_;refine yr8 ?_;intro b3;refine yr8 ?_;refine Jx (tbin_K (b:=t.b) (st:=2)) ?_;rintro _ _ ⟨c1,c2,rfl,rfl⟩;refine yr3 ?_;refine K.rangeFunc (lb:=[pt c1,pt c2]) rfl
  (fun D G=>G=(D, .deferred (some []))::(b3,cells [.int .i64 (recyN t.gens t.l:Nat)] 3)::(b1,cells [pt t.b] 148)::(jF ⟨t.b,Jq t.gens t.l,t.gens,t.o⟩++F))
  (fun D c G=>False) ?_ ?_ ?_
 ·intro l D rc hyl
  refine(Call.part (tbin2_K (F:=F) (st:=2) (q1:=c1) (q2:=c2) ok
   (fun k=>(l, .loop (rc .ready none))::(D, .deferred (some []))::(b3,cells [.int .i64 (recyN t.gens (t.l.take k):Nat)] 3)::(b1,cells [pt t.b] 148)::[])
   (fun k=>⟨t.b,recTo t.gens t.l k,t.gens,t.o⟩) rfl
   (fun k=>⟨rfl,rfl,jgb _ _ _,jgA ok k,jeY _ _ _⟩)
   (fun i e he hn=>by
    obtain⟨q1,q2⟩:=jhY (gens:=t.gens) he hn
    rw[q1,q2];exact⟨rfl,rfl⟩) ?_) bM).mono ?_
  ·intro i e he hst
   obtain⟨st,sl,ge⟩:=e
   dsimp only at hst;subst hst
   have hb:=ok.e _ (List.mem_of_getElem? he)
   dsimp only at hb
   have hlt:=jl he
   have okL:=jgA ok i
   have heL:=(jeY t.gens t.l i).trans he
   have hll:=jgb t.gens t.l i
   have hnx:=jet (gens:=t.gens) he
   have hn2:=jgd (gens:=t.gens) he
   have hnl:=jjj t.gens (t.l.take i)
   rw[List.length_take] at hnl
   obtain⟨n,hn'⟩: ∃ n,recyN t.gens (t.l.take i)=n:=⟨_,rfl⟩
   rw[hn'] at hn2 hnl
   obtain⟨L,hL⟩: ∃ L,recTo t.gens t.l i=L:=⟨_,rfl⟩
   rw[hL] at okL heL hll hnx
   obtain⟨n1,hn1⟩: ∃ n1,recyN t.gens (t.l.take (i+1))=n1:=⟨_,rfl⟩
   rw[hn1] at hn2;rw[hL,hn',hnx,hn1]
   have okL1:TbOk ⟨t.b,L.set i ⟨2,0,ge⟩,t.gens,t.o⟩:=jdK okL Bi
   have heL1:(L.set i (⟨2,0,ge⟩:jk))[i]?=some ⟨2,0,ge⟩:=List.getElem?_set_self bc
   have hll1:(L.set i (⟨2,0,ge⟩:jk)).length=t.l.length:=by rw[List.length_set];exact hll
   have hcs: ∀ q:Int,cntP q (L.set i ⟨2,0,ge⟩)=cntP q L:=fun q=>by
    have:=jaH heL ⟨2,0,ge⟩ q
    dsimp only at this
    omega
   have hoL:=okL.o
   have hoL1:=okL1.o
   dsimp only at hoL hoL1;simp only[List.cons_append,List.nil_append];refine zbp ?_;refine zg ?_;refine yr2 ?_;refine KE.begin jK ?_;refine yr1 ?_;simp only[Jm,hll]
   skip
   refine zg ?_;refine yr3 ?_;refine KL.eN (Eff.stSl (j:=1) (x1:=(⟨2,0,ge⟩:jk)) rfl rfl rfl rfl jt hoL heL rfl rfl) ?_;rintro _ _ rfl;refine yr1 ?_
   by_cases hge:ge>=t.gens
   ·have hre:JZ t.gens ⟨2,sl,ge⟩=⟨3,0,ge⟩:=by unfold JZ;rw [if_pos rfl,if_pos hge]
    have hn1':n1=n:=by rw[hn2,if_neg (fun h=>h.2 hge)];rfl
    subst hn1'
    have ht:=fun A=>jlo (w0:=w0) (F:=A) okL1 heL1 rfl
    simp only[hll1,List.set_set,hre] at ht|-;refine yr3 ?_;refine zab ?_;refine yr18 ?_;refine ji (ht _) (by simp only[Jm,hll1,hcs];exact ja) ?_;refine yr5 ?_;refine KE.part ((l, .loop (rc .busy none))::((D, .deferred (some []))::(b3,cells [.int .i64 (n1:Nat)] 3)::(b1,cells [pt t.b] 148)::(c1,cells [pt t.b] 148)::(c2,cells [.int .i64 2] 3)::(jF ⟨t.b,L.set i ⟨3,0,ge⟩,t.gens,t.o⟩++F))) (by exact ja) ?_;exact KE.roundN jx.head ⟨rfl,rfl⟩
   ·have hre:JZ t.gens ⟨2,sl,ge⟩=⟨0,0,ge+1⟩:=by unfold JZ;rw [if_pos rfl,if_neg hge]
    have okL2:TbOk ⟨t.b,L.set i ⟨2,0,ge+1⟩,t.gens,t.o⟩:=jdK okL Bi
    have heL2:(L.set i (⟨2,0,ge+1⟩:jk))[i]?=some ⟨2,0,ge+1⟩:=List.getElem?_set_self bc
    have hll2:(L.set i (⟨2,0,ge+1⟩:jk)).length=t.l.length:=by rw[List.length_set];exact hll
    have hcs2: ∀ q:Int,cntP q (L.set i ⟨2,0,ge+1⟩)=cntP q L:=fun q=>by
     have:=jaH heL ⟨2,0,ge+1⟩ q
     dsimp only at this
     omega
    have hn1':n1=n+1:=by rw[hn2,if_pos (show(⟨2,sl,ge⟩:jk).st=2/\ ¬(⟨2,sl,ge⟩:jk).gen>=t.gens from⟨rfl,hge⟩)]
    subst hn1'
    have ht:=fun A=>jlp (w0:=w0) (F:=A) okL2 heL2 rfl
    simp only[hll2,List.set_set,hre] at ht|-;refine yr3 ?_;refine zab ?_;refine yr15 ?_;refine zg ?_;refine yr7 ?_;refine KL.eN (Eff.stSl (j:=2) (x1:=(⟨2,0,ge+1⟩:jk)) rfl rfl rfl rfl jt hoL1 heL1 rfl rfl) ?_;rintro _ _ rfl;refine yr1 ?_;simp only[List.set_set];refine yr6 ?_;refine ji (ht _) (by simp only[Jm,hll2,hcs2];exact ja) ?_;refine yr8 ?_;refine KE.part ((l, .loop (rc .busy none))::((D, .deferred (some []))::(b3,cells [.int .i64 ((n+1:Nat):Int)] 3)::(b1,cells [pt t.b] 148)::(c1,cells [pt t.b] 148)::(c2,cells [.int .i64 2] 3)::(jF ⟨t.b,L.set i ⟨0,0,ge+1⟩,t.gens,t.o⟩++F))) (by exact ja) ?_;exact KE.roundN jx.head ⟨rfl,rfl⟩
  ·rintro u H' rfl;rw[List.take_length,jgc];refine .inl ⟨_,?_,rfl⟩;exact zaw
 ·rintro D G rfl;refine yr9 ?_;exact KE.fin jd rfl jc ja ⟨rfl,okE,rfl⟩
 ·rintro D c G hf;exact hf.elim
