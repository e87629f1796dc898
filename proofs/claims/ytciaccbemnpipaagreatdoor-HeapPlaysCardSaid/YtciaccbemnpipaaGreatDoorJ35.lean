/-The walker and contracts, part 35.-/
import Derived.Test.YtciaccbemnpipaaGreatDoorJ29
import Derived.Test.YtciaccbemnpipaaGreatDoorJ34
set_option linter.all false
namespace Go.Proofs.YtciaccbemnpipaaGreatDoor.Sw
set_option maxHeartbeats 8000000
open Go.Proofs.YtciaccbemnpipaaGreatDoor renaming lo -> qL, hi -> qH
open Go.RowKit
set_option maxRecDepth 10000
def mR (f:Nat->Int) (n:Nat):List (List Int):=(List.range n).map fun t=>List.replicate (f t).toNat 0
theorem jem (f:Nat->Int) (n:Nat):(mR f n).length=n:=by simp[mR]
theorem mR_get {f:Nat->Int} {n t:Nat} (h:t<n):(mR f n)[t]?=some (List.replicate (f t).toNat 0):=by simp[mR,h]
theorem jhc {f:Nat->Int} {n:Nat} (hf: ∀ i,i<n->0<=f i): ∀ t,t<=n->((baseP (mR f n) t:Nat):Int)=Jj f t
 |0,_=>rfl
 |t+1,h=>by
  have h1:=jhc hf t bc
  have h2:=(jcq (mR_get (f:=f) (n:=n) (t:=t) bc)).1
  rw[h2,List.length_replicate]
  have:=hf t bc
  simp only[Jj]
  omega
theorem mR_flat {f:Nat->Int} {n:Nat}:(mR f n).flatten=List.replicate ((mR f n).flatten).length 0:=by
 refine List.eq_replicate_iff.2 ⟨rfl,fun v hv=>?_⟩
 obtain⟨l,hl,hv⟩:=List.mem_flatten.1 hv
 obtain⟨t,_,rfl⟩:=List.mem_map.1 hl
 exact(List.mem_replicate.1 hv).2
theorem mR_flen {f:Nat->Int} {n:Nat} (hf: ∀ i,i<n->0<=f i):(((mR f n).flatten.length:Nat):Int)=Jj f n:=by
 rw[<-jhc hf n (Nat.le_refl n),jfK];unfold baseP;rw[List.take_of_length_le (by rw[jem];exact Nat.le_refl n)]
def bsK (f:Nat->Int) (k:Nat):List Int:=(List.range k).map fun t=>Jj f t
theorem jj1 (f:Nat->Int) (k:Nat):bsK f k++ [Jj f k]=bsK f (k+1):=by simp[bsK,List.range_succ]
theorem bsK_len (f:Nat->Int) (k:Nat):(bsK f k).length=k:=by simp[bsK]
theorem bsK_all {f:Nat->Int} {n:Nat} (hf: ∀ i,i<n->0<=f i):bsK f (n+1)=jaA (mR f n):=by
 unfold bsK jaA;rw[jem]
 refine List.map_congr_left fun t ht=>(jhc hf t ?_).symm
 have:=List.mem_range.1 ht;omega
structure MnS where
 k:Nat
 o:Own
theorem mNew_K {w0:World} {F:jb} {c:Cfg} {vc vt:Value} (hR:Jl w0 F c vc vt) (hc:cfgP c=true):
  Call Tryz.prog w0 18 [jA c vc vt] F (fun r H'=> ∃ m:Jy,jaB m/\m.R=mR (fun t=>wordsP c (t:Nat)) c.tn.length/\r= .tuple [pt m.b, .int .i64 0].toArray/\H'=jy m++F):=by
 have hok:=(jaz hc).tn
 have htot:=fun A (hp:Part A F)=>Total_K (hR.part hp)
 have hbase:=fun A (k:Nat) (hp:Part A F)=>Base_K (t:=(k:Nat)) (hR.part hp)
 have he:totalP c=(Jj (fun i=>wordsP c (i:Nat)) c.tn.length,0):=by simp[totalP,hc]
 have hB:=fun k (hk:k<c.tn.length)=>jdy hc hk
 have hbe:=fun k (hk:k<c.tn.length)=>jho hc hk
 rw[he] at htot
 obtain⟨f,hf⟩: ∃ f:Nat->Int,f=fun i=>wordsP c (i:Nat):=⟨_,rfl⟩
 have hfi: ∀ i:Nat,wordsP c (i:Nat)=f i:=fun i=>by rw[hf]
 simp only[hfi] at hB hbe htot|-
 have hf0: ∀ i,i<c.tn.length->0<=f i:=fun i hi=>(hB i hi).1
 have hsum:=jcF (f:=f) (n:=c.tn.length) hB
 obtain⟨tot,htt⟩: ∃ tot:Nat,Jj f c.tn.length=tot:=⟨(Jj f c.tn.length).toNat,by omega⟩
 have hflen:(mR f c.tn.length).flatten.length=tot:=by have:=mR_flen hf0;omega
 have hflat:List.replicate tot 0=(mR f c.tn.length).flatten:=by rw[<-hflen];exact mR_flat.symm
 have hball:=bsK_all hf0
 have hsn:bsK f c.tn.length++ [((tot:Nat):Int)]=bsK f (c.tn.length+1):=by rw[<-htt];exact jj1 f _
 rw[htt] at htot hsum
 obtain⟨hS,hT',o1,o2,l1,l2⟩:=hR
 obtain⟨cl,page,tn,workers,grey,gens⟩:=c
 dsimp only at hS hT' l1 l2 hok htot hbase hB hbe hf0 htt hflen hflat hball hsn hsum|-;simp only[jA,jV,prV] at htot hbase|-;clear he hf hfi hc;refine en1 56 Tryz.func18 ?_;refine yr3 ?_;intro b1;refine yr8 ?_;refine zag ?_;refine yr20 ?_;refine KL.e rfl (Eff.makeR (E:=uE) (x0:=0) rfl rfl rfl rfl rfl rfl be) ?_;rintro _ _ ⟨o19,ok19,rfl,rfl⟩;refine yr2 ?_;intro b21;refine yr13 ?_;refine K.loopT (σ:=MnS) [(1,_),(4,_),(6,_),(24,_)] (fun s kp_=>(25, .int .i64 (s.k:Nat))::kp_) (fun s=>(b21,cells [oV o19 (List.replicate tot (0:Int)).length,oV s.o (bsK f s.k).length] 111)::(oH uE 67 (List.replicate tot 0) o19++(oH iE 3 (bsK f s.k) s.o++((b1,cells [vc, .int .i64 page,vt, .int .i64 workers, .int .i64 grey, .int .i64 gens] 25)::F)))) (fun s=>s.k<=tn.length/\oOk iE (bsK f s.k) s.o) (fun s=>tn.length-s.k) (⟨0,none⟩) jg ja (⟨Nat.zero_le _,rfl⟩) ?_;rintro⟨k,o⟩ ⟨hk,hok2⟩;dsimp only at hk hok2|-
 have hbl:=bsK_len f k
 have hbl1:=bsK_len f (k+1)
 by_cases hlt:k<tn.length
 ·have hb1:=fun A hp=>hbase A k hp
  rw[hbe k hlt] at hb1;dsimp only at hb1
  have hbd:(bsK f (k+1)).length<=4294967296:=by omega
  clear hbase;refine yr22 ?_;refine jj (hb1 _ ja) ?_;refine yr7 ?_;refine zg ?_
  (iterate 8 first|refine yS ?_|intro _)
  refine KL.e rfl (Eff.appZ (E:=iE) (xs:=bsK f k) (o:=o) (ys:=[Jj f k]) (zs:=bsK f (k+1)) rfl rfl rfl rfl rfl rfl jt bh ba (jj1 f k) be rfl) ?_;rintro _ _ ⟨o',ok',rfl,rfl⟩;refine yr10 ?_;exact KE.again ⟨k+1,o'⟩ jg ja ⟨hlt,ok'⟩ Bg
 ·have hke:k=tn.length:=by omega
  subst hke
  have hbd:(bsK f (tn.length+1)).length<=4294967296:=by omega
  refine yr12 ?_;refine zg ?_
  (iterate 8 first|refine yS ?_|intro _)
  refine KL.e rfl (Eff.appZ (E:=iE) (xs:=bsK f tn.length) (o:=o) (ys:=[((tot:Nat):Int)]) (zs:=bsK f (tn.length+1)) rfl rfl rfl rfl rfl rfl jt bh ba (hsn) be rfl) ?_;rintro _ _ ⟨o',ok',rfl,rfl⟩;refine yr13 ?_;rw[hball,hflat] at*;exact KE.fin (H':=jy ⟨b21,mR f tn.length,o19,o'⟩++F) jd rfl jc (by rw[j8];exact ja) ⟨⟨b21,mR f tn.length,o19,o'⟩,⟨ok19,ok',by rw[hflen];omega,by rw[jem];omega⟩,rfl,rfl,rfl⟩
theorem eq_take {α:Type} {l m:List α} {k:Nat} (hl:l.length=m.length) (h:l.take k=m.take k) (hk:l.length<=k):l=m:=by
 rwa[List.take_of_length_le hk,List.take_of_length_le bc] at h
theorem take_eq {l m:List Int} {k:Nat} {a:Int} (h:l.take k=m.take k) (h1:l[k]?=some a) (h2:m[k]?=some a):l.take (k+1)=m.take (k+1):=by
 rw[ja6 h1,ja6 h2,h]
structure SmQ where
 k:Nat
theorem Same3_K {w0:World} {H:jb} {va vb:Value} {l m:List Int} (h1:Sli w0 H uE va l) (h2:Sli w0 H uE vb m) (hl:l.length<=4294967296):
  Cs w0 14 [va,vb] H (.bool (decide (l=m))):=by
 refine en2 26 Tryz.func14 ?_
 by_cases hlm:l.length=m.length
 ·have hne: ¬((l.length:Nat):Int)≠((m.length:Nat):Int):=by omega
  refine yr25 ?_;refine K.loopT (σ:=SmQ) [(0,_),(1,_)] (fun s kp_=>(5, .int .i64 (s.k:Nat))::kp_) (fun s=>H) (fun s=>s.k<=l.length/\l.take s.k=m.take s.k) (fun s=>l.length-s.k) (⟨0⟩) jg ja (⟨Nat.zero_le _,rfl⟩) ?_;rintro⟨k⟩ ⟨hk,he⟩;dsimp only at hk he|-
  by_cases hlt:k<l.length
  ·obtain⟨x,hx⟩:=jq hlt
   obtain⟨y,hy⟩:=jq (l:=m) (k:=k) bc
   by_cases hxy:x=y
   ·have hxy2: ¬x≠y:=fun h=>h hxy
    refine yr15 ?_;refine zS ?_;refine yr20 ?_;subst hxy;exact KE.again ⟨k+1⟩ jg ja ⟨hlt,take_eq he hx hy⟩ bQ
   ·have hne2:l≠m:=fun h=>hxy (by rw[h,hy] at hx;cases hx;rfl)
    refine yr15 ?_;refine zS ?_;refine yr23 ?_;exact KE.fin jd rfl jc ja ⟨by rw[decide_eq_false hne2];rfl,rfl⟩
  ·have heq:l=m:=eq_take hlm he bc
   refine yr21 ?_;exact KE.fin jd rfl jc ja ⟨by rw[decide_eq_true heq];rfl,rfl⟩
 ·have hne:((l.length:Nat):Int)≠((m.length:Nat):Int):=by omega
  have hne2:l≠m:=fun h=>hlm (by rw[h])
  refine yr23 ?_;exact KE.fin jd rfl jc ja ⟨by rw[decide_eq_false hne2];rfl,rfl⟩
structure RnS where
 k:Nat
 oo:Own
 R:List RwD
 N:jb
theorem rmNew_K {w0:World} {F:jb} {c:Cfg} {vc vt:Value} (hR:Jl w0 F c vc vt) (hc:cfgP c=true):
  Call Tryz.prog w0 7 [jA c vc vt] F (fun r H'=> ∃ (vr:Value) (R:List RwD) (N:jb),jaE w0 N vr R/\rwX R=mR (fun t=>wordsP c (t:Nat)) c.tn.length/\r= .agg [vr].toArray/\H'=N++F):=by
 have hok:=(jaz hc).tn
 have hB:=fun k (hk:k<c.tn.length)=>jdy hc hk
 have hreg:=fun A (k:Nat) (hk:k<c.tn.length) (hp:Part A F)=>jeI (t:=(k:Nat)) (hR.part hp)
 have hrin:=fun k (hk:k<c.tn.length)=>jf9 hc hk
 obtain⟨f,hf⟩: ∃ f:Nat->Int,f=fun i=>wordsP c (i:Nat):=⟨_,rfl⟩
 have hfi: ∀ i:Nat,wordsP c (i:Nat)=f i:=fun i=>by rw[hf]
 simp only[hfi] at hB hrin|-
 obtain⟨hS,hT',o1,o2,l1,l2⟩:=hR
 obtain⟨cl,page,tn,workers,grey,gens⟩:=c
 dsimp only at hS hT' l1 l2 hok hB hreg hrin|-;simp only[jA,jV,prV] at hreg|-;clear hf hfi hc;refine en1 28 Tryz.func7 ?_;refine yr3 ?_;intro b1;refine yr1 ?_;intro b2;refine yr5 ?_;intro b3;refine yr9 ?_;refine K.loopT (σ:=RnS) [(1,_),(2,_),(3,_)] (fun s kp_=>(4, .int .i64 (s.k:Nat))::kp_) (fun s=>(s.N++(oH rwE 66 s.R s.oo++((b3,cells [oV s.oo s.R.length] 40)::(b1,cells [vc, .int .i64 page,vt, .int .i64 workers, .int .i64 grey, .int .i64 gens] 25)::(b2,cells [.slice none 0 0] 40)::F)))) (fun s=>s.k<=tn.length/\oOk rwE s.R s.oo/\rwX s.R=mR f s.k/\ ∀ q'∈s.R,Sli w0 s.N uE (.slice q'.a q'.n q'.c) q'.x) (fun s=>tn.length-s.k) (⟨0,none,[],[]⟩) jg ja (⟨Nat.zero_le _,rfl,rfl,fun q' h=>by cases h⟩) ?_;rintro⟨k,oo,R1,N1⟩ ⟨hk,hoo,hX1,hs1⟩;dsimp only at hk hoo hX1 hs1|-
 have hR1:R1.length=k:=by have:=congrArg List.length hX1;simpa [rwX,jem] using this
 by_cases hlt:k<tn.length
 ·have hreg1:=fun A hp=>hreg A k hlt hp
  have hbk:=hB k hlt
  obtain⟨n,hn⟩: ∃ n:Nat,f k=n:=⟨(f k).toNat,by omega⟩
  simp only[hrin k hlt,hn] at hreg1;rw[hn] at hbk
  have hXs:mR f (k+1)=mR f k++ [List.replicate n 0]:=by simp[mR,List.range_succ,hn]
  clear hreg hrin hB;refine yr20 ?_;refine jj (hreg1 _ ja) ?_;refine yr7 ?_;refine zi ?_
  (repeat refine K.seq ?_)
  refine K.dr [] (od 0 [0,0,0,5,5,2,0,2]) ja ?_;refine yr3 ?_;refine KD.eM rfl rfl (Eff.makeR (E:=uE) (x0:=0) rfl rfl rfl rfl rfl rfl be) ?_;rintro _ _ ⟨o23,ok23,rfl,rfl⟩;refine⟨ja,?_⟩;refine KD.eM rfl rfl (Eff.buildS jdJ rfl rfl rfl rfl rfl jdM) ?_;rintro _ _ ⟨b24,rfl,rfl⟩;refine yr1 ?_
  --STOP before op 5
  cases o23 with
  |none=>
   have hr0:List.replicate n (0:Int)=[]:=ok23
   have hn0:n=0:=by simpa using congrArg List.length hr0
   subst hn0
   have hbd:(R1++ [(⟨none,0,0,List.replicate 0 0⟩:RwD)]).length<=4294967296:=by simp;omega
   have hS1:Sli w0 [(b24,cells (jC rwE [(⟨none,0,0,List.replicate 0 0⟩:RwD)]) 66)] rwE (.slice (some ⟨b24,0,none⟩) 1 1) [(⟨none,0,0,List.replicate 0 0⟩:RwD)]:=Sli.blk jx.head rfl bF bn rfl
   refine KD.e rfl rfl (Eff.appZ (E:=rwE) (xs:=R1) (o:=oo) (ys:=[⟨none,0,0,List.replicate 0 0⟩]) (zs:=R1++ [⟨none,0,0,List.replicate 0 0⟩]) rfl rfl rfl rfl rfl rfl jt bh ba (rfl) be rfl) ?_;rintro _ _ ⟨o',ok',rfl,rfl⟩;refine⟨ja,?_⟩;refine yr11 ?_
   exact KE.again ⟨k+1,o',R1++ [⟨none,0,0,List.replicate 0 0⟩],oH uE 67 (List.replicate 0 0) none++N1⟩ jg ja ⟨hlt,ok',by show rwX _=_;rw [hXs,<-hX1];simp[rwX],fun q2 h2=>by
    rcases List.mem_append.1 h2 with h2|h2
    ·exact(hs1 q2 h2).part ja
    ·rw[List.mem_singleton.1 h2];exact Sli.own (o:=none) jt rfl rfl⟩ Bg
  |some ob=>
   have hbd:(R1++ [(⟨some ⟨ob.b,0,none⟩,(List.replicate n (0:Int)).length,ob.c,List.replicate n 0⟩:RwD)]).length<=4294967296:=by simp;omega
   have hS1:Sli w0 [(b24,cells (jC rwE [(⟨some ⟨ob.b,0,none⟩,(List.replicate n (0:Int)).length,ob.c,List.replicate n 0⟩:RwD)]) 66)] rwE (.slice (some ⟨b24,0,none⟩) 1 1) [(⟨some ⟨ob.b,0,none⟩,(List.replicate n (0:Int)).length,ob.c,List.replicate n 0⟩:RwD)]:=Sli.blk jx.head rfl bF bn rfl
   refine KD.e rfl rfl (Eff.appZ (E:=rwE) (xs:=R1) (o:=oo) (ys:=[⟨some ⟨ob.b,0,none⟩,(List.replicate n (0:Int)).length,ob.c,List.replicate n 0⟩]) (zs:=R1++ [⟨some ⟨ob.b,0,none⟩,(List.replicate n (0:Int)).length,ob.c,List.replicate n 0⟩]) rfl rfl rfl rfl rfl rfl jt bh ba (rfl) be rfl) ?_;rintro _ _ ⟨o',ok',rfl,rfl⟩;refine⟨ja,?_⟩
   --nothing is left
   refine yr11 ?_
   exact KE.again ⟨k+1,o',R1++ [⟨some ⟨ob.b,0,none⟩,(List.replicate n (0:Int)).length,ob.c,List.replicate n 0⟩],oH uE 67 (List.replicate n 0) (some ob)++N1⟩ jg ja ⟨hlt,ok',by show rwX _=_;rw [hXs,<-hX1];simp[rwX],fun q2 h2=>by
    rcases List.mem_append.1 h2 with h2|h2
    ·exact(hs1 q2 h2).part ja
    ·rw[List.mem_singleton.1 h2];exact Sli.own jt ok23 rfl⟩ Bg
 ·have hke:k=tn.length:=by omega
  subst hke;refine yr23 ?_;exact KE.fin (H':=(N1++oH rwE 66 R1 oo)++F) jd rfl jc bz ⟨oV oo R1.length,R1,_,⟨Sli.own (H:=(N1++oH rwE 66 R1 oo)) jt hoo rfl,jJ _ _,fun q2 h2=>(hs1 q2 h2).part ja⟩,hX1,rfl,rfl⟩
section
variable {w0 : World} {F : jb} {y : CyM} {s : CyP} {g : PlG} {long : Nat}
theorem jjV (hG:ju w0) (h:CpR g long y s):
  Call Tryz.prog w0 299 [pt y.b] (cycH y++F) (fun r H'=>r= .bool (jM g long s).isSome/\CyQ g long y 0 F ((jM g long s).getD s) H'):=by
 have okg:jh g:=by rw[<-h.eg];exact h.p.bo.p.g
 have hls:=h.le.s
 have hlm:=h.le.m
 have hst:s.st<=100000000:=by omega
 have hmst:s.m.steps<=1000000000:=by omega
 by_cases h1:s.ph=1
 ·have hss:jM g long s=(JK g long s.W s.m).map fun m'=>madeC g {s with m:=m'}:=by unfold jM;rw [if_pos h1]
  have hstep:=fun A=>mkHelp_K (w0:=w0) (F:=A) hG h.p h.ok h.R (by rw[h.eg,h.el];exact h.i.m) hmst
  unfold jaV at hstep;rw[h.eg,h.el] at hstep;simp only[seenH_app] at hstep
  cases hm:JK g long s.W s.m with
  |some m'=>
   obtain⟨hk,hu,hku⟩:=jcg hm
   have hle:=h.le.help okg h.i (s':=madeC g {s with m:=m'}) (by rw[hss,hm];rfl)
   rw[hss];simp only[hm,Option.map_some,Option.isSome_some,Option.getD_some] at hstep|-
   have hmk:=fun A k' kok kto kR=>jfb (w0:=w0) (F:=A) hG (h.toCpM.mark (k':=k') (m':=m') kok kto kR) h.eg (by show CyPre g k'.g.ring.length _;rw [kto.l,h.el];exact jco okg h.i h1 hku) hst
   have hR:=fun k' kok kto kR=>h.mark (k':=k') h1 hku hle kok kto kR
   have hT:=fun k' kto=>mark_to (k':=k') (m':=m') (ph:=(madeC g {s with m:=m'}).ph) (sa:=(madeC g {s with m:=m'}).sa) h kto
   unfold CyQ
   obtain⟨s',hs'⟩: ∃ s',madeC g {s with m:=m'}=s':=⟨_,rfl⟩
   simp only[hs'] at hmk hR hT|-;refine en1 9 Tryz.func299 ?_;refine yr10 ?_;refine zbb ?_;unfold bndV;refine yr2 ?_;refine zbc ?_;rintro _ _ ⟨rfl,k',kok,kto,kR,rfl⟩;refine yr1 ?_;refine ji (hmk _ k' kok kto kR) Bn ?_;refine yr4 ?_;exact KE.fin jd rfl jc ja ⟨rfl,_,hR k' kok kto kR,hT k' kto,rfl⟩
  |none=>
   rw[hss];simp only[hm,Option.map_none,Option.isSome_none,Option.getD_none] at hstep|-
   have hR:=fun k' kok kto kR=>CpR.mk (h.toCpM.mark (k':=k') (m':=s.m) kok kto kR) h.eg (kto.l.trans h.el) h.i h.le
   have hT:=fun k' (kto:MkTo y.k k')=>(⟨rfl,(jbj h.p.bo).symm,rfl,rfl,rfl,rfl,kto.toMkAs,kto.f,rfl,rfl⟩:JI y {y with k:=k'} s.W.x 0)
   unfold CyQ;refine en1 9 Tryz.func299 ?_;refine yr10 ?_;refine zbb ?_;unfold bndV;refine yr2 ?_;refine zbc ?_;rintro _ _ ⟨rfl,k',kok,kto,kR,rfl⟩;refine yr1 ?_;refine jj jd7 ?_;refine yr4 ?_;exact zcg
 ·by_cases h2:s.ph=2
  ·obtain⟨s',b,hs,hM,hcall⟩:=jiO (w0:=w0) h h2
   have hss:jM g long s=some (madeC g s'):=by unfold jM;rw [if_neg h1,if_pos h2,hs];rfl
   have hle:=h.le.help okg h.i hss
   have hcy:=jbw okg h.i h2 hs
   rw[hss];simp only[Option.isSome_some,Option.getD_some]
   have hmk:=fun A=>jfb (w0:=w0) (F:=A) hG hM h.eg (by show CyPre g y.k.g.ring.length _;rw [h.el];exact hcy.1) Bd
   have hR:=h.sweep h2 hs hM hle
   have hT:JI y (jcr (jbA y s'.W.x b) (madeC g s').ph (madeC g s').sa) (madeC g s').W.x 0:=by rw[jhb];exact ji5
   unfold CyQ
   obtain⟨q,hq⟩: ∃ q,madeC g s'=q:=⟨_,rfl⟩
   rw[hq] at hmk hR hT|-;refine en1 9 Tryz.func299 ?_;refine yr10 ?_;refine je (jgm (h.ph.trans h2)) ja ?_;rintro _ _ ⟨bl,rfl,rfl⟩;unfold bndV;refine yr2 ?_;refine(CallV.part (CallV.bound (first:=[pt y.s.b]) (hcall _)) ja).mono ?_;rintro _ _ ⟨rfl,rfl⟩;refine yr1 ?_;refine ji (hmk _) ja ?_;refine yr4 ?_;exact KE.fin jd rfl jc ja ⟨rfl,_,hR,hT,rfl⟩
  ·have hss:jM g long s=none:=by unfold jM;rw [if_neg h1,if_neg h2]
   rw[hss];simp only[Option.isSome_none,Option.getD_none]
   have hQ:=fun A=>CpR.refl (F:=A) h
   refine en1 9 Tryz.func299 ?_;refine yr10 ?_;refine ji (jiN (by rw[h.ph];exact h1) (by rw[h.ph];exact h2)) ja ?_;refine yr2 ?_;refine jj cyw3_K ?_;refine yr1 ?_;refine jj jd7 ?_;refine yr4 ?_;exact KE.fin jd rfl jc ja ⟨rfl,hQ F⟩
structure HpS where
 n:Nat
 y:CyM
 s:CyP
theorem jlX {z:CyP} (hG:ju w0) (h:CpR g long y z) (h0:z.ph≠0):
  Call Tryz.prog w0 349 [pt y.b] (cycH y++F) (fun r H'=> ∃ (n:Nat) (s':CyP),r= .tuple [.int .i64 (n:Nat), .int .i64 0].toArray/\jaC g long z n s'/\jM g long s'=none/\s'.ph=3/\CyQ g long y 0 F s' H'):=by
 have okg:jh g:=by rw[<-h.eg];exact h.p.bo.p.g
 have h0': ¬((y.ph:Nat):Int)=0:=by rw[h.ph];omega
 have hh:=fun A (y':CyM) (s':CyP) (h:CpR g long y' s')=>jjV (w0:=w0) (F:=A) hG h
 refine en1 18 Tryz.func349 ?_;refine yr12 ?_;refine ji (jbx (y:=y)) ja ?_;simp only[cycH_app,seenH_app];refine yr20 ?_;refine K.loopT (σ:=HpS) [(0,_)] (fun s kp_=>(2, .int .i64 (s.n:Nat))::kp_) (fun s=>cycH s.y++F) (fun s=>CpR g long s.y s.s/\JI y s.y s.s.W.x 0/\jaC g long z s.n s.s) (fun s=>Jg g s.s) (⟨0,y,z⟩) jg bY (⟨h,JI.refl h.toCpM, .refl⟩) ?_;rintro⟨n,y1,z1⟩ ⟨h1,t1,hp⟩;dsimp only at h1 t1 hp|-
 have hst:=(hp.ok okg h.i).st
 have hph:=(hp.ok okg h.i).ph
 have hls:=h1.le.s
 have hn8:n<=100000000:=by omega
 have hh1:=fun A=>hh A y1 z1 h1
 rw[t1.b] at hh1
 cases hs:jM g long z1 with
 |some z2=>
  rw[hs] at hh1;simp only[Option.isSome_some,Option.getD_some] at hh1
  have hm:=jcm okg h1.i hs
  refine yr5 ?_;refine je (hh1 _) ja ?_;rintro _ _ ⟨rfl,y2,h2,t2,rfl⟩;refine yr12 ?_;exact KE.again ⟨n+1,y2,z2⟩ jg ja ⟨h2,t1.trans t2, .snoc hp hs⟩ hm
 |none=>
  rw[hs] at hh1;simp only[Option.isSome_none,Option.getD_none] at hh1
  have h3:=jgk okg h1.i bc hs
  refine yr5 ?_;refine je (hh1 _) ja ?_;rintro _ _ ⟨rfl,y2,h2,t2,rfl⟩;refine yr16 ?_;exact KE.fin jd rfl jc ja ⟨n,z1,rfl,hp,hs,h3,y2,h2,t1.trans t2,rfl⟩
end
section
variable {w0 : World} {F : jb} {y : CyM} {s : CyP} {g : PlG} {long : Nat}
theorem jp.words (h:jp g long s) {x':List Int} (hw:Jv g {s.W with x:=x'}) (hr:jaD g x') (hf: ∀ t:Nat,t<g.slots->0<refsN s.W.x (jv g (t:Nat))->refsN x' (jv g (t:Nat))=refsN s.W.x (jv g (t:Nat))):jp g long {s with W:={s.W with x:=x'}}:=
 ⟨⟨hw,hr,h.m.world rfl hf,h.i,h.A,h.D,h.p0,h.p1,h.p2,h.p3,h.ph,h.dn⟩,h.lt,fun e=>(jfY rfl).trans (h.go e)⟩
theorem CpR.putx {x':List Int} (h:CpR g long y s) (hw:Jv g {s.W with x:=x'}) (hi:jp g long {s with W:={s.W with x:=x'}}):CpR g long {y with B:=ja4 y.B x'} {s with W:={s.W with x:=x'}}:=
 ⟨⟨⟨jkv h.p.bo (by rw[hw.x,h.p.w.x,h.eg]) hw.w,h.p.tb,h.p.pi,h.p.eT,h.p.eN,h.p.bb,h.p.tbb,h.p.nb,by show Jv y.B.p.g _;rw [h.eg];exact hw⟩,h.ok,h.R,h.oka,h.A,h.oks,h.sa,h.at_,h.D,h.ab,h.bb,h.mb,h.ph,h.st,h.nw⟩,h.eg,h.el,hi,h.le.world rfl⟩
theorem CpR.tab {T':TbM} {l':List jk} (h:CpR g long y s) (ok:TbOk T') (eb:T'.b=y.T.b) (el:T'.l=l') (hl:l'.length=s.W.T.length) (hi:jp g long {s with W:={s.W with T:=l'}}):CpR g long {y with T:=T'} {s with W:={s.W with T:=l'}}:=
 ⟨⟨⟨h.p.bo,ok,h.p.pi,el,h.p.eN,h.p.bb,h.p.tbb.trans eb.symm,h.p.nb,by rw[h.eg];exact hi.w⟩,h.ok,h.R,h.oka,h.A,h.oks,h.sa,h.at_,h.D,h.ab,h.bb,h.mb,h.ph,h.st,h.nw⟩,h.eg,h.el,hi,h.le.world hl⟩
theorem CpR.pin {N':PiM} {l':List Int} (h:CpR g long y s) (ok:PiOk N') (eb:N'.b=y.N.b) (el:N'.l=l') (hi:jp g long {s with W:={s.W with N:=l'}}):CpR g long {y with N:=N'} {s with W:={s.W with N:=l'}}:=
 ⟨⟨⟨h.p.bo,h.p.tb,ok,h.p.eT,el,h.p.bb,h.p.tbb,h.p.nb.trans eb.symm,by rw[h.eg];exact hi.w⟩,h.ok,h.R,h.oka,h.A,h.oks,h.sa,h.at_,h.D,h.ab,h.bb,h.mb,h.ph,h.st,h.nw⟩,h.eg,h.el,hi,h.le.world rfl⟩
theorem CpR.take {a':ArM} {A':List Bool} (h:CpR g long y s) (ok:jag a' y.B.p) (eb:a'.b=y.a.b) (eA:a'.r.bs=A') (hl:A'.length=s.A.length):CpR g long {y with a:=a'} {s with A:=A'}:=
 ⟨⟨h.p,h.ok,h.R,ok,eA,h.oks,h.sa,h.at_,h.D,h.ab.trans eb.symm,h.bb,h.mb,h.ph,h.st,h.nw⟩,h.eg,h.el,h.i.take hl,⟨h.le.m,h.le.s⟩⟩
theorem JI.words {x':List Int}:JI y {y with B:=ja4 y.B x'} x' 0:=⟨rfl,rfl,rfl,rfl,rfl,rfl,⟨rfl,rfl,rfl,rfl,rfl,rfl⟩,rfl,rfl,rfl⟩
theorem jmh {A:List Bool} {k:Int}:(jX g A k).2.2.length=A.length:=by
 by_cases h:(jX g A k).2.1=0
 ·obtain⟨_,_,_,_,_,e,_⟩:=jdt h;rw [e];exact List.length_set
 ·unfold jX at h|-
  split
  ·rename_i h1
   rw[if_pos h1] at h
   split
   ·rename_i i hi;rw [hi] at h;exact absurd rfl h
   ·rfl
  ·rfl
theorem cTake_K {k:Int} (hG:ju w0) (h:CpR g long y s):Call Tryz.prog w0 196 [pt y.a.b, .int .i64 k] (cycH y++F)
  (fun r H'=>r= .tuple [.int .i64 (jX g s.A k).1, .int .i64 (jX g s.A k).2.1].toArray/\CyQ g long y 0 F {s with A:=(jX g s.A k).2.2} H'):=by
 have hc:=fun A=>Take_K (w0:=w0) (F:=A) (k:=k) hG h.oka
 rw[h.A,h.eg] at hc;refine z8 ?_;rintro _ _ ⟨rfl,a',ka,ab,arb,abs,rfl⟩;exact⟨_,⟨rfl,_,h.take ka ab abs jmh,⟨rfl,(jbj h.p.bo).symm,ab,rfl,rfl,rfl,⟨rfl,rfl,rfl,rfl,rfl,rfl⟩,rfl,rfl,rfl⟩,rfl⟩,by simp only[cycH_app,ab];exact ja⟩
theorem cMint_K {n:Nat} (h:CpR g long y s) (hn:n<g.slots):Call Tryz.prog w0 295 [pt y.T.b, .int .i64 (n:Nat)] (cycH y++F)
  (fun r H'=>r= .tuple [.int .i64 (JT s.W.T).1, .int .u32 (JT s.W.T).2.1, .int .i64 (JT s.W.T).2.2].toArray/\CyQ g long y 0 F {s with W:={s.W with T:=jS s.W.T (n:Nat)}} H'):=by
 have okg:=h.okg
 have hsl:=okg.slots
 have hc:=fun A=>tbMint_K (w0:=w0) (F:=A) (s:=n) h.p.tb bc
 rw[h.p.eT] at hc
 have hi:jp g long {s with W:={s.W with T:=jS s.W.T (n:Nat)}}:=by
  have:=h.i.world okg (a:=⟨4,(n:Nat),0,0,0,0⟩)
  rwa[jdY ⟨by omega,by omega⟩] at this
 refine z8 ?_;rintro _ _ ⟨T',kT,eb,eG,el,rfl,rfl⟩;exact⟨_,⟨rfl,_,h.tab kT eb el jbk hi,⟨rfl,(jbj h.p.bo).symm,rfl,eb,eG,rfl,⟨rfl,rfl,rfl,rfl,rfl,rfl⟩,rfl,rfl,rfl⟩,rfl⟩,by simp only[cycH_app,eb];exact ja⟩
theorem cDrop_K {i:Nat} {e:jk} (h:CpR g long y s) (he:s.W.T[i]?=some e) (h1:e.st=1):Call Tryz.prog w0 212 [pt y.T.b, .int .i64 (i:Nat), .int .u32 e.gen] (cycH y++F)
  (fun r H'=>r= .tuple [.int .i64 e.slot, .int .i64 0].toArray/\CyQ g long y 0 F {s with W:={s.W with T:=Jr s.W.T (i:Nat)}} H'):=by
 have okg:=h.okg
 have he':y.T.l[i]?=some e:=by rw[h.p.eT];exact he
 have hc:=fun A=>tbDrop_K (w0:=w0) (F:=A) h.p.tb he' h1
 have hb:=h.p.tb.e e (List.mem_of_getElem? he')
 have hd:Jr s.W.T (i:Nat)=s.W.T.set i ⟨2,e.slot,e.gen⟩:=by
  unfold Jr;rw [if_pos bc,Int.toNat_natCast,he];dsimp only;rw [if_pos h1]
 have hi:jp g long {s with W:={s.W with T:=Jr s.W.T (i:Nat)}}:=by
  have:=h.i.world okg (a:=⟨5,0,(i:Nat),0,0,0⟩)
  rwa[jdZ] at this
 refine z8 ?_;rintro _ _ ⟨rfl,rfl⟩;exact⟨_,⟨rfl,_,h.tab (T':=⟨y.T.b,y.T.l.set i ⟨2,e.slot,e.gen⟩,y.T.gens,y.T.o⟩) (jdK h.p.tb Bi) rfl (by rw[hd,h.p.eT]) jc3 hi,⟨rfl,(jbj h.p.bo).symm,rfl,rfl,rfl,rfl,⟨rfl,rfl,rfl,rfl,rfl,rfl⟩,rfl,rfl,rfl⟩,rfl⟩,by simp only[cycH_app];exact ja⟩
theorem cMake_K {n:Nat} {z:jn} {hd:HdP} (hG:ju w0) (h:CpR g long y s) (hz:g.L[n]?=some z):Call Tryz.prog w0 198 [pt y.B.b, .int .i64 (n:Nat),hdV hd] (cycH y++F)
  (fun r H'=>r= .int .i64 (makeP s.W.x z hd).1/\CyQ g long y 0 F {s with W:={s.W with x:=(makeP s.W.x z hd).2}} H'):=by
 have okg:=h.okg
 have hc:=fun A=>Make_K (w0:=w0) (F:=A) (h:=hd) hG h.p.bo (s:=n) bX
 have hf:=okg.fits hz
 have hw:Jv g {s.W with x:=(makeP s.W.x z hd).2}:=⟨by show(makeP s.W.x z hd).2.length=_;rw [je6 (by rw[h.i.w.x];omega)];exact h.i.w.x,jfk h.i.w.w,h.i.w.N,h.i.w.n,h.i.w.t⟩
 have hi:=h.i.words hw (jfj okg h.i.w.x h.i.rf hz hd) fun t ht hp=>jeK okg h.i.w.x hz hd ht hp
 refine z8 ?_;rintro _ _ ⟨rfl,rfl⟩;exact⟨_,⟨rfl,_,h.putx hw hi,JI.words,rfl⟩,by simp only[cycH_app,jfu];exact ja⟩
theorem cSetRef_K {n:Nat} {z:jn} {i to:Int} (hG:ju w0) (h:CpR g long y s) (hz:g.L[n]?=some z):Call Tryz.prog w0 207 [pt y.B.b, .int .i64 (n:Nat), .int .i64 i, .int .i64 to] (cycH y++F)
  (fun r H'=>r= .int .i64 (Jp s.W.x g.slots z i to).1/\CyQ g long y 0 F {s with W:={s.W with x:=(Jp s.W.x g.slots z i to).2}} H'):=by
 have okg:=h.okg
 have hsl:=okg.slots
 have hc:=fun A=>bSetRef_K (w0:=w0) (F:=A) (i:=i) (to:=to) hG h.p.bo (s:=n) bX
 rw[h.eg] at hc
 have hw:Jv g {s.W with x:=(Jp s.W.x g.slots z i to).2}:=⟨by show(Jp s.W.x _ z i to).2.length=_;rw [jhX];exact h.i.w.x,jio h.i.w.w bc,h.i.w.N,h.i.w.n,h.i.w.t⟩
 have hi:=h.i.words hw (set_rf okg h.i.w.x h.i.rf hz) fun t ht hp=>jjc okg hz ht
 refine z8 ?_;rintro _ _ ⟨rfl,rfl⟩;exact⟨_,⟨rfl,_,h.putx hw hi,JI.words,rfl⟩,by simp only[cycH_app,jfu];exact ja⟩
end
structure HpD where
 C:HpC
 c:Cfg
 oc:Own
 ot:Own
 R0:List (List Int)
 b:Nat
 yb:Nat
 qb:Nat
 mb:Nat
 Bb:Nat
 Tb:Nat
 ab:Nat
 Nb:Nat
 pb:Nat
structure HpDok (D:HpD):Prop where
 C:j6 D.C
 c:cfgP D.c=true
 g:D.C.g=gOf D.c (D.C.tn:Nat)
 t: ∃ q,D.c.tn[D.C.tn]?=some q/\q.quota=(D.C.g.q:Nat)
 oc:oOk iE D.c.cl D.oc
 ot:oOk tnE D.c.tn D.ot
 nw:D.c.workers=(D.C.nw:Nat)
def hpL (D:HpD) (h:HpP):List Value:=[oV D.oc D.c.cl.length, .int .i64 D.c.page,oV D.ot D.c.tn.length, .int .i64 D.c.workers, .int .i64 D.c.grey, .int .i64 D.c.gens, .int .i64 (D.C.tn:Nat),pt D.yb,pt D.qb, .int .i64 (h.wk:Nat)]
def hpH (D:HpD) (y:CyM) (h:HpP):jb:=(D.b,cells (hpL D h) 101)::(paceH ⟨D.qb,D.C.tr,D.C.ast,h.p⟩++(oH iE 3 D.c.cl D.oc++(oH tnE 59 D.c.tn D.ot++cycH y)))
theorem hpH_app {D:HpD} {y:CyM} {h:HpP} {F:jb}:hpH D y h++F=(D.b,cells [oV D.oc D.c.cl.length, .int .i64 D.c.page,oV D.ot D.c.tn.length, .int .i64 D.c.workers, .int .i64 D.c.grey, .int .i64 D.c.gens, .int .i64 (D.C.tn:Nat),pt D.yb,pt D.qb, .int .i64 (h.wk:Nat)] 101)::(paceH ⟨D.qb,D.C.tr,D.C.ast,h.p⟩++(oH iE 3 D.c.cl D.oc++(oH tnE 59 D.c.tn D.ot++(cycH y++F)))):=by
 unfold hpH hpL;simp only[List.cons_append,List.append_assoc]
structure HpR (D:HpD) (nf nk:Nat) (y:CyM) (h:HpP):Prop where
 p:CpR D.C.g D.C.long y h.s
 b:y.b=D.yb
 m:y.B.m.b=D.mb
 B:y.B.b=D.Bb
 T:y.T.b=D.Tb
 a:y.a.b=D.ab
 N:y.N.b=D.Nb
 pl:y.B.p.b=D.pb
 nw:y.nw=D.C.nw
 g:y.T.gens=D.C.gn
 f:y.k.c.f<=nf
 t:y.B.t=D.C.tn
 R:y.B.m.R=D.R0.set D.C.tn h.s.W.x
 pb:PaB h.p
 w:h.wk<=nk
def HpQ (D:HpD) (nf nk:Nat) (h':HpP) (F H':jb):Prop:= ∃ y',HpR D nf nk y' h'/\H'=hpH D y' h'++F
theorem JI.mb' {y y':CyM} {x:List Int} {n:Nat} (h:JI y y' x n):y'.B.m.b=y.B.m.b:=by rw[h.B];rfl
section
variable {w0 : World} {D : HpD} {nf nk n : Nat} {y y' : CyM} {h : HpP} {s' : CyP} {F A H' : jb} {f : FuncId} {args : List Value} {P : Value -> Prop}
theorem HpR.to (h1:HpR D nf nk y h) (hp:CpR D.C.g D.C.long y' s') (ht:JI y y' s'.W.x n):HpR D (nf+n) nk y' {h with s:=s'}:=
 ⟨hp,ht.b.trans h1.b,ht.mb'.trans h1.m,by rw[ht.B];exact h1.B,ht.T.trans h1.T,ht.a.trans h1.a,ht.N.trans h1.N,by rw[ht.B];exact h1.pl,ht.nw.trans h1.nw,ht.G.trans h1.g,by rw[ht.f];have:=h1.f;omega,by rw[ht.B];exact h1.t,by
  rw[ht.B]
  show y.B.m.R.set y.B.t s'.W.x=_
  rw[h1.t,h1.R,List.set_set],h1.pb,h1.w⟩
theorem HpR.lift (h1:HpR D nf nk y h) (hc: ∀ A,Call Tryz.prog w0 f args (cycH y++A) (fun r H'=>P r/\CyQ D.C.g D.C.long y n A s' H')):Call Tryz.prog w0 f args (hpH D y h++F) (fun r H'=>P r/\HpQ D (nf+n) nk {h with s:=s'} F H'):=by
 refine zch ?_;rintro r _ ⟨hP,y',h2,ht,rfl⟩;exact⟨_,⟨hP,y',h1.to h2 ht,rfl⟩,by unfold hpH;simp only[List.cons_append,List.append_assoc];exact ja⟩
theorem HpR.lift0 {R:Value->Prop} (h1:HpR D nf nk y h) (hc: ∀ A,Call Tryz.prog w0 f args (cycH y++A) (fun r H'=>R r/\H'=cycH y++A)):Call Tryz.prog w0 f args (hpH D y h++F) (fun r H'=>R r/\H'=hpH D y h++F):=by
 refine zch ?_;rintro r _ ⟨hP,rfl⟩;exact⟨_,⟨hP,rfl⟩,by unfold hpH;simp only[List.cons_append,List.append_assoc];exact ja⟩
theorem HpR.pace {p':PaP} (h1:HpR D nf nk y h) (hb:PaB p') (hc: ∀ A,Call Tryz.prog w0 f args (paceH ⟨D.qb,D.C.tr,D.C.ast,h.p⟩++A) (fun r H'=>P r/\H'=paceH ⟨D.qb,D.C.tr,D.C.ast,p'⟩++A)):Call Tryz.prog w0 f args (hpH D y h++F) (fun r H'=>P r/\HpQ D nf nk {h with p:=p'} F H'):=by
 refine zci ?_;rintro r _ ⟨hP,rfl⟩;refine⟨_,⟨hP,y,⟨h1.p,h1.b,h1.m,h1.B,h1.T,h1.a,h1.N,h1.pl,h1.nw,h1.g,h1.f,h1.t,h1.R,hb,h1.w⟩,rfl⟩,?_⟩;unfold hpH hpL;simp only[List.cons_append,List.append_assoc];exact ja
theorem HpR.pace0 {R:Value->Prop} (h1:HpR D nf nk y h) (hc: ∀ A,Call Tryz.prog w0 f args (paceH ⟨D.qb,D.C.tr,D.C.ast,h.p⟩++A) (fun r H'=>R r/\H'=paceH ⟨D.qb,D.C.tr,D.C.ast,h.p⟩++A)):Call Tryz.prog w0 f args (hpH D y h++F) (fun r H'=>R r/\H'=hpH D y h++F):=by
 refine zci ?_;rintro r _ ⟨hP,rfl⟩;exact⟨_,⟨hP,rfl⟩,by unfold hpH;simp only[List.cons_append,List.append_assoc];exact ja⟩
theorem HpR.pc (hD:HpDok D) (h1:HpR D nf nk y h):jbJ ⟨D.qb,D.C.tr,D.C.ast,h.p⟩:=⟨hD.C.tr,hD.C.ast,h1.pb⟩
theorem HpR.mono {nf' nk':Nat} (h1:HpR D nf nk y h) (hf:nf<=nf') (hk:nk<=nk'):HpR D nf' nk' y h:=⟨h1.p,h1.b,h1.m,h1.B,h1.T,h1.a,h1.N,h1.pl,h1.nw,h1.g,Nat.le_trans h1.f hf,h1.t,h1.R,h1.pb,Nat.le_trans h1.w hk⟩
theorem HpR.wk {n nk':Nat} (h1:HpR D nf nk y h) (hk:n<=nk'):HpR D nf nk' y {h with wk:=n}:=⟨h1.p,h1.b,h1.m,h1.B,h1.T,h1.a,h1.N,h1.pl,h1.nw,h1.g,h1.f,h1.t,h1.R,h1.pb,hk⟩
theorem hyPhase_K (h1:HpR D nf nk y h):Cs w0 101 [pt D.yb] (hpH D y h++F) (.int .u8 (h.s.ph:Nat)):=
 h1.lift0 fun A=>by have:=jeP (w0:=w0) (F:=A) (y:=y);rw [h1.b,h1.p.ph] at this;exact this
theorem jeM (h1:HpR D nf nk y h):Cs w0 122 [pt D.yb] (hpH D y h++F) (pt D.Tb):=
 h1.lift0 fun A=>by have:=cyTable_K (w0:=w0) (F:=A) (y:=y);rw [h1.b,h1.T] at this;exact this
theorem jgj (h1:HpR D nf nk y h):Cs w0 29 [pt D.yb] (hpH D y h++F) (pt D.ab):=
 h1.lift0 fun A=>by have:=cyArena_K (w0:=w0) (F:=A) (y:=y);rw [h1.b,h1.a] at this;exact this
theorem jdB (h1:HpR D nf nk y h):Cs w0 197 [pt D.yb] (hpH D y h++F) (pt D.Bb):=
 h1.lift0 fun A=>by have:=cyBody_K (w0:=w0) (F:=A) (y:=y);rw [h1.b,h1.B] at this;exact this
theorem jc6 (h1:HpR D nf nk y h):Cs w0 59 [pt D.yb] (hpH D y h++F) (pt D.pb):=
 h1.lift0 fun A=>by have:=cyPlan_K (w0:=w0) (F:=A) (y:=y);rw [h1.b,h1.pl] at this;exact this
theorem jgF (h1:HpR D nf nk y h):Cs w0 208 [pt D.yb] (hpH D y h++F) (pt D.Nb):=
 h1.lift0 fun A=>by have:=cyPins_K (w0:=w0) (F:=A) (y:=y);rw [h1.b,h1.N] at this;exact this
end
section
variable {w0 : World} {D : HpD} {nf nk n : Nat} {y y' : CyM} {h : HpP} {s' : CyP} {F : jb}
theorem cFree_K {g:PlG} {long:Nat} {s:CyP} (h:CpR g long y s):Cs w0 287 [pt y.T.b] (cycH y++F) (.int .i64 (cntP 0 s.W.T:Nat)):=by
 have hc:=Call.ro (w0:=w0) (A:=jF y.T) (H:=cycH y++F) (fun F=>tbFree_K (F:=F) h.p.tb) bP
 rw[h.p.eT] at hc;exact hc
theorem hyFree_K (h1:HpR D nf nk y h):Cs w0 287 [pt D.Tb] (hpH D y h++F) (.int .i64 (cntP 0 h.s.W.T:Nat)):=
 h1.lift0 fun A=>by have:=cFree_K (w0:=w0) (F:=A) h1.p;rw [h1.T] at this;exact this
theorem jgI:Cs w0 24 [pt D.b] (hpH D y h++F) (.bool false):=by
 refine en1 12 Tryz.func24 ?_;simp only[hpH_app];refine yr20 ?_;exact zQ
theorem jfa (h1:HpR D nf nk y h):Cs w0 195 [pt D.b] (hpH D y h++F) (.bool (freeB h.s)):=by
 have hTb:=fun A=>jeM (w0:=w0) (F:=A) h1
 have hF:=fun A=>hyFree_K (w0:=w0) (F:=A) h1
 have hfb:freeB h.s=decide (((cntP 0 h.s.W.T:Nat):Int)>0):=by
  unfold freeB
  by_cases c:0<cntP 0 h.s.W.T
  ·rw[decide_eq_true c,decide_eq_true bc]
  ·rw[decide_eq_false c,decide_eq_false bc]
 rw[hfb];refine en1 10 Tryz.func195 ?_;simp only[hpH_app];refine yr12 ?_;refine ji (hTb _) bd ?_;refine yr1 ?_;refine ji (hF _) bd ?_;refine yr5 ?_;exact zQ
theorem jiH (hD:HpDok D) (h1:HpR D nf nk y h) (h0:h.s.ph=0) (ha:h.p.act=false) (hf:nf<=1000000):Call Tryz.prog w0 286 [pt D.b] (hpH D y h++F) (fun r H'=>r= .tuple #[]/\HpQ D (nf+1) nk (jb4 D.C h) F H'):=by
 have hB:=fun A=>h1.lift (F:=A) (fun A=>by have:=cyBegin_K (w0:=w0) (F:=A) h1.p h0 (Nat.le_trans h1.f hf);rw [h1.b] at this;exact this)
 have hP:=fun A (y1:CyM) (h2:HpR D (nf+1) nk y1 {h with s:=beginC D.C.g h.s})=>h2.pace (F:=A) (h1.pb.turn true) (fun A=>jmI (w0:=w0) (F:=A) (h2.pc hD) ha)
 unfold HpQ at hB hP|-;refine en1 12 Tryz.func286 ?_;simp only[hpH_app];refine yr7 ?_;refine zah ?_;rintro _ _ ⟨rfl,y1,h2,rfl⟩;simp only[hpH_app];refine yr8 ?_;refine je (hP _ y1 h2) bd ?_;rintro _ _ ⟨rfl,y2,h3,rfl⟩;refine yr1 ?_;exact KE.finN jd rfl jc bd ⟨rfl,y2,h3,rfl⟩
theorem jlk {g:PlG} {long:Nat} {z:CyP} (hG:ju w0) (h:CpR g long y z) (h0:z.ph≠0):Call Tryz.prog w0 349 [pt y.b] (cycH y++F) (fun r H'=>r= .tuple [.int .i64 ((finC g long z).1:Nat), .int .i64 0].toArray/\CyQ g long y 0 F (finC g long z).2 H'):=by
 refine(jlX hG h h0).mono ?_;rintro _ _ ⟨n,s',rfl,h1,h2,h3,hq⟩;rw[fin_is h.okg h.i h1 h2];exact⟨rfl,hq⟩
theorem fin_lim {g:PlG} {long:Nat} {z:CyP} (h:CpR g long y z):(finC g long z).1<=100000000:=by
 have:=(jc8.ok h.okg h.i).mes
 have:=h.le.s
 omega
theorem jhe (hG:ju w0) (hD:HpDok D) (h1:HpR D nf nk y h) (h0:h.s.ph≠0) (ha:h.p.act=true) (hk:nk<=1000000000):Call Tryz.prog w0 285 [pt D.b] (hpH D y h++F) (fun r H'=>r= .tuple #[]/\HpQ D nf (nk+100000000) (jbr D.C h) F H'):=by
 have hw:=h1.w
 have hfl:=fin_lim h1.p
 have hF:=fun A=>h1.lift (F:=A) (fun A=>by have:=jlk (F:=A) hG h1.p h0;rw [h1.b] at this;exact this)
 have h3:=jhj h1.p.okg h1.p.i h0
 unfold jbr
 obtain⟨n,hn⟩: ∃ n,(finC D.C.g D.C.long h.s).1=n:=⟨_,rfl⟩
 obtain⟨s1,hs1⟩: ∃ s1,(finC D.C.g D.C.long h.s).2=s1:=⟨_,rfl⟩
 rw[hn] at hfl;simp only[hn,hs1] at hF h3|-
 have hwk:=fun(y1:CyM) (h2:HpR D (nf+0) nk y1 {h with s:=s1})=>h2.wk (n:=h.wk+n) (nk':=nk+100000000) bc
 have hP:=fun A (y1:CyM) (h2:HpR D (nf+0) nk y1 {h with s:=s1})=>(hwk y1 h2).lift (F:=A) (fun A=>by have:=jlj (F:=A) hG h2.p h3;rw [h2.b,h2.g] at this;exact this.mono fun r _ hh=>⟨(⟨_,_,hh.1⟩: ∃ a b:Int,r= .tuple [.int .i64 a, .int .i64 b, .int .i64 0].toArray),hh.2⟩)
 have hE:=fun A (y2:CyM) (h2:HpR D (nf+0+0) (nk+100000000) y2 ⟨publishC D.C.g D.C.gn s1,h.p,h.wk+n⟩)=>h2.pace (F:=A) (h1.pb.turn false) (fun A=>pcEnd_K (w0:=w0) (F:=A) (h2.pc hD) ha)
 have e5:((h.wk:Nat):Int)+((n:Nat):Int)=((h.wk+n:Nat):Int):=by omega
 unfold HpQ at hF hP hE|-;refine en1 30 Tryz.func285 ?_;simp only[hpH_app];refine yr7 ?_;refine je (hF _) bd ?_;rintro _ _ ⟨rfl,y1,h2,rfl⟩;simp only[hpH_app];refine yr20 ?_;rw[e5];refine yr7 ?_;refine je (hP _ y1 h2) bd ?_;rintro _ _ ⟨⟨a,b,rfl⟩,y2,h4,rfl⟩;simp only[hpH_app];refine yr8 ?_;refine je (hE _ y2 h4) bd ?_;rintro _ _ ⟨rfl,y3,h5,rfl⟩;refine yr1 ?_;exact KE.finN jd rfl jc bd ⟨rfl,y3,h5,rfl⟩
theorem jjL {is:CyP->Bool} {fv:Value} {G:jb} (hG:ju w0) (hD:HpDok D) (hI:HeI D.C h) (h1:HpR D nf nk y h) (hf:nf<=1000000) (hk:nk<=100000000)
  (his: ∀ (nf nk:Nat) (y:CyM) (h:HpP),HpR D nf nk y h->CallV Tryz.prog w0 fv [] (hpH D y h++G) (fun r H'=>r= .bool (is h.s)/\H'=hpH D y h++G)):
  Call Tryz.prog w0 193 [pt D.b,fv] (hpH D y h++G) (fun r H'=>r= .tuple #[]/\HpQ D (nf+1) (nk+200000000) (hpRoom D.C is h) G H'):=by
 have hC:=hD.C
 have hph:=fun A (nf nk:Nat) (y:CyM) (h:HpP) (h1:HpR D nf nk y h)=>hyPhase_K (w0:=w0) (F:=A) h1
 have hI1:=hI.mvs hC (jeE (wr:=true) hC hI (is:=is))
 have hend:=fun(ha:h.s.ph≠0)=>jhe (F:=G) hG hD h1 ha (by rw[hI.pa];exact decide_eq_true ha) bc
 unfold HpQ at hend|-;refine en2 24 Tryz.func193 ?_;refine K.cutT (σ:=CyM) [] jg (fun s kp_=>(0,pt D.b)::(1,fv)::kp_) (fun s=>hpH D s (hpRoom1 D.C is h)++G) (fun s=>HpR D nf (nk+100000000) s (hpRoom1 D.C is h)) ?_ ?_
 ·unfold hpRoom1
  cases hc:is h.s with
  |true=>
   have hi:=his nf nk y h h1
   rw[hc] at hi;rw[if_neg (fun q=>by cases q.1)];refine yr4 ?_;refine zaJ ?_;rintro _ _ ⟨rfl,rfl⟩;refine yr13 ?_;exact KE.meet y jg ja (h1.mono (Nat.le_refl _) bc)
  |false=>
   have hi:=his nf nk y h h1
   rw[hc] at hi
   by_cases hp:h.s.ph=0
   ·have hp':((h.s.ph:Nat):Int)=0:=by omega
    rw[if_neg (fun q=>q.2 hp)];refine yr4 ?_;refine zaJ ?_;rintro _ _ ⟨rfl,rfl⟩;simp only[hpH_app];refine yr7 ?_;refine ji (hph _ nf nk y h h1) bd ?_;refine yr6 ?_;exact KE.meet y jg bd (h1.mono (Nat.le_refl _) bc)
   ·have hp': ¬((h.s.ph:Nat):Int)=0:=by omega
    rw[if_pos ⟨rfl,hp⟩];refine yr4 ?_;refine zaJ ?_;rintro _ _ ⟨rfl,rfl⟩;simp only[hpH_app];refine yr7 ?_;refine ji (hph _ nf nk y h h1) bd ?_;refine yr8 ?_;refine je (hend hp) bd ?_;rintro _ _ ⟨rfl,y1,h2,rfl⟩;refine yr1 ?_;exact KE.meet y1 jg bd h2
 ·rintro y1 h2;unfold hpRoom
  have hi:=his _ _ y1 _ h2
  cases hc:is (hpRoom1 D.C is h).s with
  |true=>
   rw[hc] at hi;rw[if_pos rfl];refine yr4 ?_;refine zaJ ?_;rintro _ _ ⟨rfl,rfl⟩;refine yr5 ?_;exact KE.finN jd rfl jc ja ⟨rfl,y1,h2.mono bc bc,rfl⟩
  |false=>
   have h0:=jeX (C:=D.C) (h:=h) (is:=is) bD
   have hB:=jiH (w0:=w0) (F:=G) hD h2 h0 (by rw[hI1.pa,h0];rfl) hf
   have hE:=fun(y3:CyM) (h3:HpR D (nf+1) (nk+100000000) y3 (jb4 D.C (hpRoom1 D.C is h)))=>jhe (F:=G) hG hD h3 (show(1:Nat)≠0 by decide) (by
    show(jaw true (hpRoom1 D.C is h).p).act=true
    unfold jaw
    split
    ·assumption
    ·rfl) bc
   unfold HpQ at hB hE;rw[hc] at hi;rw[if_neg bn];refine yr4 ?_;refine zaJ ?_;rintro _ _ ⟨rfl,rfl⟩;refine yr8 ?_;refine je hB ja ?_;rintro _ _ ⟨rfl,y3,h3,rfl⟩;refine yr5 ?_;refine je (hE y3 h3) ja ?_;rintro _ _ ⟨rfl,y4,h4,rfl⟩;refine yr1 ?_;exact KE.finN jd rfl jc ja ⟨rfl,y4,h4.mono bc bc,rfl⟩
end
def opV (op:OpP):Value:= .agg [.int .u8 (op.c:Nat), .int .u64 (op.h:Nat), .int .i64 op.a, .int .i64 op.b, .int .u64 (op.v:Nat)].toArray
def snV (q:SnP):Value:= .agg [.int .i64 q.e, .int .u64 (q.h:Nat), .int .u64 q.w, .int .i64 q.addr, .int .i64 q.used, .int .i64 q.since, .int .i64 q.cyc, .bool q.act].toArray
theorem ja0 {w0:World} {H:jb} {e:Int}:Cs w0 27 [.int .i64 e] H (snV (told e)):=by
 refine en1 5 Tryz.func27 ?_
 (iterate 14 first|refine yS ?_|intro _)
 exact zd
section
theorem arUsed_K {w0:World} {F:jb} {a:ArM} {p:jQ}:
  Call Tryz.prog w0 30 [pt a.b] (jW a p++F) (fun r H'=>r= .int .i64 (usedL p.g.L a.r.bs:Nat)/\H'=jW a p++F):=by
 refine en1 9 Tryz.func30 ?_;refine yr10 ?_;refine jj (jdC (a:=a) (p:=p)) ?_;simp only[arenaH_app];refine yr15 ?_;exact KE.fin jd rfl jc (by first|exact ja|(simp only[arenaH_app];exact ja)) ⟨rfl,rfl⟩
end
section
variable {w0 : World} {D : HpD} {nf nk n : Nat} {y y' : CyM} {h : HpP} {s s' : CyP} {F : jb} {g : PlG} {long : Nat} {z : jn}
theorem cUsed_K (h:CpR g long y s):Cs w0 30 [pt y.a.b] (cycH y++F) (.int .i64 (usedL g.L s.A:Nat)):=by
 have hc:=Call.ro (w0:=w0) (A:=jW y.a y.B.p) (H:=cycH y++F) (fun F=>arUsed_K (F:=F)) bP
 rw[h.A,h.eg] at hc;exact hc
theorem cAddr_K (h:CpR g long y s) (hz:g.L[n]?=some z):Cs w0 60 [pt y.B.p.b, .int .i64 (n:Nat)] (cycH y++F) (.tuple [.int .i64 (z.addr:Nat), .int .i64 0].toArray):=
 Call.ro (w0:=w0) (A:=planH y.B.p) (H:=cycH y++F) (fun F=>Addr0_K (F:=F) h.p.bo.p bX) bP
theorem cWord_K {i:Int} (hG:ju w0) (h:CpR g long y s) (hz:g.L[n]?=some z):Cs w0 203 [pt y.B.b, .int .i64 (n:Nat), .int .i64 i] (cycH y++F) (.tuple [.int .u64 (wordP s.W.x z i).1, .int .i64 (wordP s.W.x z i).2].toArray):=
 Call.ro (w0:=w0) (A:=jT y.B++(jy y.B.m++planH y.B.p)) (H:=cycH y++F) (fun F=>by
  have:=bWord_K (w0:=w0) (F:=F) (i:=i) (s:=n) hG h.p.bo bX
  simpa only [List.append_assoc] using this) bP
theorem cRef_K {i:Int} (hG:ju w0) (h:CpR g long y s) (hz:g.L[n]?=some z):Cs w0 204 [pt y.B.b, .int .i64 (n:Nat), .int .i64 i] (cycH y++F) (.tuple [.int .i64 (refP s.W.x g.slots z i).1, .int .i64 (refP s.W.x g.slots z i).2].toArray):=by
 refine Call.ro (w0:=w0) (A:=jT y.B++(jy y.B.m++planH y.B.p)) (H:=cycH y++F) (fun F=>?_) bP
 have:=bRef_K (w0:=w0) (F:=F) (i:=i) (s:=n) hG h.p.bo bX
 rw[h.eg] at this
 simpa only [List.append_assoc] using this
theorem cWords_K (hG:ju w0) (h:CpR g long y s) (hz:g.L[n]?=some z):Call Tryz.prog w0 213 [pt y.B.b, .int .i64 (n:Nat)] (cycH y++F)
  (fun r H'=> ∃ (o:Own) (e:Int),oOk uE (jai s.W.x z) o/\r= .tuple [oV o (jai s.W.x z).length, .int .i64 e].toArray/\H'=oH uE 67 (jai s.W.x z) o++(cycH y++F)):=by
 refine Call.at_ (bWords_K (w0:=w0) (s:=n) hG h.p.bo bX) bL ?_;rintro _ _ ⟨o,e,ko,rfl,rfl⟩;exact⟨_,⟨o,e,ko,rfl,rfl⟩,by simp only[cycH_app];exact ja⟩
theorem cPin2_K (h:CpR g long y s) (hn:n<g.slots):Call Tryz.prog w0 209 [pt y.N.b, .int .i64 (n:Nat)] (cycH y++F)
  (fun r H'=>r= .int .i64 (if (s.W.N[n]?).getD 0<255 then 0 else 140)/\CyQ g long y 0 F {s with W:={s.W with N:=JQ s.W.N n}} H'):=by
 have okg:=h.okg
 have hc:=fun A=>Pin2_K (w0:=w0) (F:=A) (s:=n) h.p.pi (by rw[h.p.eN,h.i.w.N];exact hn)
 rw[h.p.eN] at hc
 have hi:jp g long {s with W:={s.W with N:=JQ s.W.N n}}:=by
  have:=h.i.world okg (a:=⟨6,(n:Nat),0,0,0,0⟩)
  rwa[jgR ⟨by omega,by omega⟩] at this
 refine z8 ?_;rintro _ _ ⟨hr,N',kN,eb,el,rfl⟩;exact zcj
theorem cUnpin2_K (h:CpR g long y s) (hn:n<g.slots):Call Tryz.prog w0 211 [pt y.N.b, .int .i64 (n:Nat)] (cycH y++F)
  (fun r H'=>r= .int .i64 (if 0<(s.W.N[n]?).getD 0 then 0 else 140)/\CyQ g long y 0 F {s with W:={s.W with N:=JX s.W.N n}} H'):=by
 have okg:=h.okg
 have hc:=fun A=>Unpin2_K (w0:=w0) (F:=A) (s:=n) h.p.pi (by rw[h.p.eN,h.i.w.N];exact hn)
 rw[h.p.eN] at hc
 have hi:jp g long {s with W:={s.W with N:=JX s.W.N n}}:=by
  have:=h.i.world okg (a:=⟨7,(n:Nat),0,0,0,0⟩)
  rwa[jdq ⟨by omega,by omega⟩] at this
 refine z8 ?_;rintro _ _ ⟨hr,N',kN,eb,el,rfl⟩;exact zcj
theorem jl0 {i w:Int} (hG:ju w0) (h:CpR g long y s) (hn:n<g.slots) (hz:g.L[n]?=some z) (hw:0<=w/\w<18446744073709551616):Call Tryz.prog w0 206 [pt y.B.b, .int .i64 (n:Nat), .int .i64 i, .int .u64 w] (cycH y++F)
  (fun r H'=>r= .int .i64 (J6 s.W.x z i w).1/\CyQ g long y 0 F (jcR g s (n:Nat) i w) H'):=by
 have okg:=h.okg
 have hc:=fun A=>jl6 (w0:=w0) (F:=A) (i:=i) (w:=w) hG h.p.bo (s:=n) bX
 have hi:=jkf (i:=i) okg h.i hn hw
 unfold jcR at hi|-;rw[jY hz] at hi|-;refine z8 ?_;rintro _ _ ⟨rfl,rfl⟩;exact⟨_,⟨rfl,_,h.putx hi.w hi,JI.words,rfl⟩,by simp only[cycH_app,jfu];exact ja⟩
theorem jjG (h1:HpR D nf nk y h):Cs w0 30 [pt D.ab] (hpH D y h++F) (.int .i64 (usedL D.C.g.L h.s.A:Nat)):=
 h1.lift0 fun A=>by have:=cUsed_K (w0:=w0) (F:=A) h1.p;rw [h1.a] at this;exact this
theorem jc7 (h1:HpR D nf nk y h) (hz:D.C.g.L[n]?=some z):Cs w0 60 [pt D.pb, .int .i64 (n:Nat)] (hpH D y h++F) (.tuple [.int .i64 (z.addr:Nat), .int .i64 0].toArray):=
 h1.lift0 fun A=>by have:=cAddr_K (w0:=w0) (F:=A) h1.p hz;rw [h1.pl] at this;exact this
theorem hyWord_K {i:Int} (hG:ju w0) (h1:HpR D nf nk y h) (hz:D.C.g.L[n]?=some z):Cs w0 203 [pt D.Bb, .int .i64 (n:Nat), .int .i64 i] (hpH D y h++F) (.tuple [.int .u64 (wordP h.s.W.x z i).1, .int .i64 (wordP h.s.W.x z i).2].toArray):=
 h1.lift0 fun A=>by have:=cWord_K (w0:=w0) (F:=A) (i:=i) hG h1.p hz;rw [h1.B] at this;exact this
theorem hyRef_K {i:Int} (hG:ju w0) (h1:HpR D nf nk y h) (hz:D.C.g.L[n]?=some z):Cs w0 204 [pt D.Bb, .int .i64 (n:Nat), .int .i64 i] (hpH D y h++F) (.tuple [.int .i64 (refP h.s.W.x D.C.g.slots z i).1, .int .i64 (refP h.s.W.x D.C.g.slots z i).2].toArray):=
 h1.lift0 fun A=>by have:=cRef_K (w0:=w0) (F:=A) (i:=i) hG h1.p hz;rw [h1.B] at this;exact this
theorem hyCount_K (h1:HpR D nf nk y h):Cs w0 210 [pt D.Nb, .int .i64 (n:Nat)] (hpH D y h++F) (.int .i64 ((h.s.W.N[n]?).getD 0)):=
 h1.lift0 fun A=>by have:=cCount_K (w0:=w0) (F:=A) (t:=n) h1.p;rw [h1.N] at this;exact this
theorem hyWords_K (hG:ju w0) (h1:HpR D nf nk y h) (hz:D.C.g.L[n]?=some z):Call Tryz.prog w0 213 [pt D.Bb, .int .i64 (n:Nat)] (hpH D y h++F)
  (fun r H'=> ∃ (o:Own) (e:Int),oOk uE (jai h.s.W.x z) o/\r= .tuple [oV o (jai h.s.W.x z).length, .int .i64 e].toArray/\H'=oH uE 67 (jai h.s.W.x z) o++(hpH D y h++F)):=by
 have hc:=fun A=>cWords_K (w0:=w0) (F:=A) hG h1.p hz
 rw[h1.B] at hc;refine Call.at_ (hc _) (by simp only[hpH_app];exact ja) ?_;rintro _ _ ⟨o,e,ko,rfl,rfl⟩;exact⟨_,⟨o,e,ko,rfl,rfl⟩,by simp only[hpH_app];exact ja⟩
theorem jeN (h1:HpR D nf nk y h) (hn:n<D.C.g.slots):Call Tryz.prog w0 205 [pt D.yb, .int .i64 (n:Nat)] (hpH D y h++F) (fun r H'=>r= .int .i64 0/\HpQ D nf nk {h with s:=shdC D.C.g D.C.long h.s (n:Nat)} F H'):=
 h1.lift (n:=0) fun A=>by have:=cyShade_K (w0:=w0) (F:=A) h1.p hn;rw [h1.b] at this;exact this
theorem hyBlack_K (h1:HpR D nf nk y h) (hn:n<D.C.g.slots):Call Tryz.prog w0 199 [pt D.yb, .int .i64 (n:Nat)] (hpH D y h++F) (fun r H'=>r= .int .i64 0/\HpQ D nf nk {h with s:={h.s with m:=Jd h.s.m n}} F H'):=
 h1.lift (n:=0) fun A=>by have:=cyBlack_K (w0:=w0) (F:=A) h1.p hn;rw [h1.b] at this;exact this
theorem hyPin_K (h1:HpR D nf nk y h) (hn:n<D.C.g.slots):Call Tryz.prog w0 209 [pt D.Nb, .int .i64 (n:Nat)] (hpH D y h++F) (fun r H'=>r= .int .i64 (if (h.s.W.N[n]?).getD 0<255 then 0 else 140)/\HpQ D nf nk {h with s:={h.s with W:={h.s.W with N:=JQ h.s.W.N n}}} F H'):=
 h1.lift (n:=0) fun A=>by have:=cPin2_K (w0:=w0) (F:=A) h1.p hn;rw [h1.N] at this;exact this
theorem hyUnpin_K (h1:HpR D nf nk y h) (hn:n<D.C.g.slots):Call Tryz.prog w0 211 [pt D.Nb, .int .i64 (n:Nat)] (hpH D y h++F) (fun r H'=>r= .int .i64 (if 0<(h.s.W.N[n]?).getD 0 then 0 else 140)/\HpQ D nf nk {h with s:={h.s with W:={h.s.W with N:=JX h.s.W.N n}}} F H'):=
 h1.lift (n:=0) fun A=>by have:=cUnpin2_K (w0:=w0) (F:=A) h1.p hn;rw [h1.N] at this;exact this
theorem hyDrop_K {i:Nat} {e:jk} (h1:HpR D nf nk y h) (he:h.s.W.T[i]?=some e) (h2:e.st=1):Call Tryz.prog w0 212 [pt D.Tb, .int .i64 (i:Nat), .int .u32 e.gen] (hpH D y h++F) (fun r H'=>r= .tuple [.int .i64 e.slot, .int .i64 0].toArray/\HpQ D nf nk {h with s:={h.s with W:={h.s.W with T:=Jr h.s.W.T (i:Nat)}}} F H'):=
 h1.lift (n:=0) fun A=>by have:=cDrop_K (w0:=w0) (F:=A) h1.p he h2;rw [h1.T] at this;exact this
theorem hyTake_K {k:Int} (hG:ju w0) (h1:HpR D nf nk y h):Call Tryz.prog w0 196 [pt D.ab, .int .i64 k] (hpH D y h++F) (fun r H'=>r= .tuple [.int .i64 (jX D.C.g h.s.A k).1, .int .i64 (jX D.C.g h.s.A k).2.1].toArray/\HpQ D nf nk {h with s:={h.s with A:=(jX D.C.g h.s.A k).2.2}} F H'):=
 h1.lift (n:=0) fun A=>by have:=cTake_K (w0:=w0) (F:=A) (k:=k) hG h1.p;rw [h1.a] at this;exact this
theorem hyMake_K {hd:HdP} (hG:ju w0) (h1:HpR D nf nk y h) (hz:D.C.g.L[n]?=some z):Call Tryz.prog w0 198 [pt D.Bb, .int .i64 (n:Nat),hdV hd] (hpH D y h++F) (fun r H'=>r= .int .i64 (makeP h.s.W.x z hd).1/\HpQ D nf nk {h with s:={h.s with W:={h.s.W with x:=(makeP h.s.W.x z hd).2}}} F H'):=
 h1.lift (n:=0) fun A=>by have:=cMake_K (w0:=w0) (F:=A) (hd:=hd) hG h1.p hz;rw [h1.B] at this;exact this
theorem jlO {i to:Int} (hG:ju w0) (h1:HpR D nf nk y h) (hz:D.C.g.L[n]?=some z):Call Tryz.prog w0 207 [pt D.Bb, .int .i64 (n:Nat), .int .i64 i, .int .i64 to] (hpH D y h++F) (fun r H'=>r= .int .i64 (Jp h.s.W.x D.C.g.slots z i to).1/\HpQ D nf nk {h with s:={h.s with W:={h.s.W with x:=(Jp h.s.W.x D.C.g.slots z i to).2}}} F H'):=
 h1.lift (n:=0) fun A=>by have:=cSetRef_K (w0:=w0) (F:=A) (i:=i) (to:=to) hG h1.p hz;rw [h1.B] at this;exact this
theorem jld {i w:Int} (hG:ju w0) (h1:HpR D nf nk y h) (hn:n<D.C.g.slots) (hz:D.C.g.L[n]?=some z) (hw:0<=w/\w<18446744073709551616):Call Tryz.prog w0 206 [pt D.Bb, .int .i64 (n:Nat), .int .i64 i, .int .u64 w] (hpH D y h++F) (fun r H'=>r= .int .i64 (J6 h.s.W.x z i w).1/\HpQ D nf nk {h with s:=jcR D.C.g h.s (n:Nat) i w} F H'):=
 h1.lift (n:=0) fun A=>by have:=jl0 (w0:=w0) (F:=A) (i:=i) hG h1.p hn hz hw;rw [h1.B] at this;exact this
end
section
variable {w0 : World} {D : HpD} {nf nk n : Nat} {y y' : CyM} {h : HpP} {s s' : CyP} {F : jb} {op : OpP} {z : jn}
theorem ji8 {tn:Nat} {T:List jk} {w:Nat} {sl:Int} (h:hpSlot tn T w=some sl): ∃ e,T[capI w]?=some e/\e.st=1/\e.gen=(capG w:Nat)/\e.slot=sl/\capG w≠0:=by
 unfold hpSlot at h
 split at h
 ·rename_i h0
  unfold J2 at h;rw[if_pos bc,Int.toNat_natCast] at h
  cases hT:T[capI w]? with
  |none=>rw [hT] at h;cases h
  |some e=>
   rw[hT] at h;dsimp only at h
   split at h
   ·rename_i h1;cases h;exact⟨e,rfl,h1.1,h1.2,rfl,h0.1⟩
   ·cases h
 ·cases h
theorem hproot_K (h1:HpR D nf nk y h) (hn:n<D.C.g.slots):Call Tryz.prog w0 117 [pt D.b,opV op, .int .i64 (n:Nat)] (hpH D y h++F) (fun r H'=>r=snV (jcN h (n:Nat)).1/\HpQ D nf nk (jcN h (n:Nat)).2 F H'):=by
 have hPs:=fun A=>jgF (w0:=w0) (F:=A) h1
 have hP:=fun A=>hyPin_K (w0:=w0) (F:=A) h1 hn
 have htold:=fun A (e:Int)=>ja0 (w0:=w0) (H:=A) (e:=e)
 unfold jcN;rw[Int.toNat_natCast];unfold HpQ at hP|-;refine en3 15 Tryz.func117 ?_;simp only[hpH_app]
 (iterate 15 first|refine yS ?_|intro _)
 refine zbC ?_;refine yr2 ?_;refine je (hP _) bd ?_;rintro _ _ ⟨rfl,y1,h2,rfl⟩;refine yr1 ?_;refine zl ?_;refine yr4 ?_;exact zB
theorem jlP (h1:HpR D nf nk y h) (hn:n<D.C.g.slots):Call Tryz.prog w0 118 [pt D.b,opV op, .int .i64 (n:Nat)] (hpH D y h++F) (fun r H'=>r=snV (jb0 D.C h (n:Nat)).1/\HpQ D nf nk (jb0 D.C h (n:Nat)).2 F H'):=by
 have hPs:=fun A=>jgF (w0:=w0) (F:=A) h1
 have hCt:=fun A=>hyCount_K (w0:=w0) (F:=A) (n:=n) h1
 have hS:=fun A=>jeN (w0:=w0) (F:=A) h1 hn
 have hPs2:=fun A (y1:CyM) (h2:HpR D nf nk y1 {h with s:=shdC D.C.g D.C.long h.s (n:Nat)})=>jgF (w0:=w0) (F:=A) h2
 have hU:=fun A (y1:CyM) (h2:HpR D nf nk y1 {h with s:=shdC D.C.g D.C.long h.s (n:Nat)})=>hyUnpin_K (w0:=w0) (F:=A) h2 hn
 have htold:=fun A (e:Int)=>ja0 (w0:=w0) (H:=A) (e:=e)
 have hN:(shdC D.C.g D.C.long h.s (n:Nat)).W.N=h.s.W.N:=by rw[jbo]
 have hnn:0<=(h.s.W.N[n]?).getD 0:=by
  cases hq:h.s.W.N[n]? with
  |none=>exact Int.le_refl 0
  |some v=>exact(h1.p.i.w.n v (List.mem_of_getElem? hq)).1
 unfold jb0;rw[Int.toNat_natCast];simp only[hN] at hU|-;unfold HpQ at hS hU|-
 by_cases h0:(h.s.W.N[n]?).getD 0=0
 ·rw[if_pos h0];refine en3 30 Tryz.func118 ?_;simp only[hpH_app]
  (iterate 16 first|refine yS ?_|intro _)
  refine zbC ?_;refine yr2 ?_;refine ji (hCt _) bd ?_;refine yr7 ?_;refine zl ?_;refine yr5 ?_;exact zar
 ·rw[if_neg h0]
  have h0':0<(h.s.W.N[n]?).getD 0:=by omega
  simp only[if_pos h0'] at hU;refine en3 30 Tryz.func118 ?_;simp only[hpH_app]
  (iterate 16 first|refine yS ?_|intro _)
  refine zbC ?_;refine yr2 ?_;refine ji (hCt _) bd ?_;simp only[hpH_app];refine yr14 ?_;refine zaK ?_;rintro _ _ ⟨rfl,y1,h2,rfl⟩;simp only[hpH_app];refine yr9 ?_;refine ji (hPs2 _ y1 h2) bd ?_;refine yr2 ?_;refine je (hU _ y1 h2) bd ?_;rintro _ _ ⟨rfl,y2,h3,rfl⟩;refine yr1 ?_;refine zl ?_;refine yr4 ?_;exact zbD
theorem hpdrop_K (h1:HpR D nf nk y h) (hn:n<D.C.g.slots) (hh:op.h<18446744073709551616) (hs:hpSlot D.C.tn h.s.W.T op.h=some ((n:Nat):Int)):Call Tryz.prog w0 119 [pt D.b,opV op, .int .i64 (n:Nat)] (hpH D y h++F) (fun r H'=>r=snV (jcP D.C h (n:Nat) op.h).1/\HpQ D nf nk (jcP D.C h (n:Nat) op.h).2 F H'):=by
 obtain⟨e,he,e1,eg,es,hg⟩:=ji8 hs
 have hget:=fun A=>jjY (w0:=w0) (H:=A) hh
 unfold capV at hget;simp only[if_neg hg] at hget
 have hS:=fun A=>jeN (w0:=w0) (F:=A) h1 hn
 have hTb:=fun A (y1:CyM) (h2:HpR D nf nk y1 {h with s:=shdC D.C.g D.C.long h.s (n:Nat)})=>jeM (w0:=w0) (F:=A) h2
 have hT':(shdC D.C.g D.C.long h.s (n:Nat)).W.T=h.s.W.T:=by rw[jbo]
 have hDr:=fun A (y1:CyM) (h2:HpR D nf nk y1 {h with s:=shdC D.C.g D.C.long h.s (n:Nat)})=>hyDrop_K (w0:=w0) (F:=A) (i:=capI op.h) (e:=e) h2 (by rw[hT'];exact he) e1
 rw[eg] at hDr
 have htold:=fun A (e:Int)=>ja0 (w0:=w0) (H:=A) (e:=e)
 unfold jcP;unfold HpQ at hS hDr|-;unfold opV;refine en3 38 Tryz.func119 ?_
 (iterate 13 first|refine yS ?_|intro _)
 refine zR ?_;simp only[hpH_app]
 (iterate 17 first|refine yS ?_|intro _)
 refine zaK ?_;rintro _ _ ⟨rfl,y1,h2,rfl⟩;simp only[hpH_app];refine yr2 ?_;refine zi ?_
 (repeat refine K.seq ?_)
 refine K.dr _ [(0,0),(1,0),(2,0),(3,0),(5,1),(6,1),(7,1),(8,1),(4,2),(9,4),(10,0),(11,0),(12,0),(13,0),(14,0)] Part.all ?_;refine yr9 ?_;refine je (hTb _ y1 h2) bd ?_;rintro _ _ ⟨rfl,rfl⟩;simp only[hpH_app];refine yr2 ?_;refine je (hDr _ y1 h2) bd ?_;rintro _ _ ⟨rfl,y2,h3,rfl⟩;refine yr11 ?_;refine zl ?_;refine yr4 ?_;exact zbD
theorem hpfold_K (hG:ju w0) (h1:HpR D nf nk y h) (hz:D.C.g.L[n]?=some z) (hl:(jai h.s.W.x z).length<=1000000):Call Tryz.prog w0 120 [pt D.b,opV op, .int .i64 (n:Nat)] (hpH D y h++F) (fun r H'=>r=snV (jcO D.C h (n:Nat)).1/\HpQ D nf nk (jcO D.C h (n:Nat)).2 F H'):=by
 have hB:=fun A=>jdB (w0:=w0) (F:=A) h1
 have hW:=fun A=>hyWords_K (w0:=w0) (F:=A) hG h1 hz
 unfold jcO;rw[jY hz]
 have hSum:=fun A v (hS:Sli w0 A uE v (jai h.s.W.x z))=>Sum_K (w0:=w0) hS hl
 unfold HpQ;refine en3 22 Tryz.func120 ?_;simp only[hpH_app]
 (iterate 15 first|refine yS ?_|intro _)
 refine ji (hB _) bd ?_;refine yr2 ?_;refine je (hW _) bd ?_;rintro _ _ ⟨o,e,ko,rfl,rfl⟩;refine yr11 ?_;refine jj (hSum _ _ (Sli.own jt ko rfl)) ?_;refine yr5 ?_;exact zar
end
section
variable {w0 : World} {F : jb} {c : Cfg} {vc vt : Value} {t : Nat} {m : Jy} {x : Tn}
theorem setSelf {α:Type} {l:List α} {v:α} {t:Nat} (h:l[t]?=some v):l.set t v=l:=by
 apply List.ext_getElem?
 intro i
 by_cases e:t=i
 ·subst e;rw [List.getElem?_set_self (jl h),h]
 ·rw[List.getElem?_set_ne e]
theorem pcNew_K {tr ast:Nat} {q p:Int} (h1:1<=tr/\tr<=1048576) (h2:ast<=1024):Call Tryz.prog w0 44 [.agg [.int .i64 q, .int .i64 (tr:Nat), .int .i64 p, .int .i64 (ast:Nat)].toArray] F (fun r H'=> ∃ b,r= .tuple [pt b, .int .i64 0].toArray/\H'=paceH ⟨b,tr,ast,⟨0,0,0,0,false⟩⟩++F):=by
 have e1: ¬((tr:Nat):Int)<1:=by omega
 have e2: ¬((tr:Nat):Int)>1048576:=by omega
 have e3: ¬((ast:Nat):Int)<0:=by omega
 have e4: ¬((ast:Nat):Int)>1024:=by omega
 refine en1 28 Tryz.func44 ?_
 (iterate 48 first|refine yS ?_|intro _)
 exact zX
def hC0 (c:Cfg) (t:Nat) (x:Tn):HpC:=⟨gOf c (t:Nat),c.grey.toNat,c.workers.toNat,c.gens,t,x.trigger.toNat,x.assist.toNat,x.caps.toNat⟩
theorem hC0_ok (hc:cfgP c=true) (hx:c.tn[t]?=some x):j6 (hC0 c t x):=by
 have hcfg:=jaz hc
 obtain⟨t1,t2,t3,t4⟩:=hcfg.ten x (List.mem_of_getElem? hx)
 have htl:=jl hx
 have ht:Jh c t 0=true:=jbl (i:=t) (j:=0) hc htl Bh
 have h1:=hcfg.workers
 have h2:=hcfg.grey
 have h3:=hcfg.tn
 exact⟨(g_at ht).ok,by show 1<=c.grey.toNat;omega,by show c.workers.toNat<=8;omega,hcfg.gens,by show t<8;omega,by show 1<=x.trigger.toNat/\x.trigger.toNat<=1048576;omega,by show x.assist.toNat<=1024;omega,by show 1<=x.caps.toNat/\x.caps.toNat<=1024;omega⟩
theorem gOf_q (hc:cfgP c=true) (hx:c.tn[t]?=some x):x.quota=((gOf c (t:Nat)).q:Nat):=by
 have hcfg:=jaz hc
 obtain⟨t1,t2,t3,t4⟩:=hcfg.ten x (List.mem_of_getElem? hx)
 obtain⟨y0,hy0⟩:=jq (l:=c.cl) (k:=0) Bh
 have:=hcfg.el y0 (List.mem_of_getElem? hy0)
 show x.quota=(((ja5 c ((t:Nat):Int)).toNat:Nat):Int)
 have hq:ja5 c ((t:Nat):Int)=x.quota:=by simp[ja5,hx]
 rw[hq]
 omega
def hD0 (c:Cfg) (t:Nat) (x:Tn) (R0:List (List Int)) (mb b qb:Nat) (y:CyM) (oc ot:Own):HpD:=⟨hC0 c t x,c,oc,ot,R0,b,y.b,qb,mb,y.B.b,y.T.b,y.a.b,y.N.b,y.B.p.b⟩
theorem hpNew_K (hG:ju w0) (hR:Jl w0 F c vc vt) (hc:cfgP c=true) (hx:c.tn[t]?=some x) (okm:jaB m) (hm:m.R[t]?=some (List.replicate (gOf c t).words 0)):
  Call Tryz.prog w0 19 [jA c vc vt, .int .i64 (t:Nat),pt m.b] (jy m++F)
   (fun r H'=> ∃ D y,HpDok D/\HpR D 1 0 y (jaM D.C)/\D.c=c/\D.C=hC0 c t x/\D.R0=m.R/\D.mb=m.b/\y.B.m=m/\r= .tuple [pt D.b, .int .i64 0].toArray/\H'=hpH D y (jaM D.C)++F):=by
 have hcfg:=jaz hc
 have hCk:=hC0_ok hc hx
 have hq:=gOf_q hc hx
 have hwk:=hcfg.workers
 obtain⟨t1,t2,t3,t4⟩:=hcfg.ten x (List.mem_of_getElem? hx)
 have hcl8:=hcfg.cl
 have htn8:=hcfg.tn
 have hlt:=jl hx
 have hcn:=fun A (hp:Part A F)=>cyNew_K (F:=A) (t:=t) hG (hR.part hp) hc hx okm hm
 have hOw:=fun A (hp:Part A F)=>Own_K (hR.part hp) bc bc
 have hfin: ∀ (b qb:Nat) (y:CyM) (oc ot:Own),CyNew (gOf c (t:Nat)) c.grey.toNat x.caps.toNat c.workers.toNat c.gens t m y->oOk iE c.cl oc->oOk tnE c.tn ot->HpDok (hD0 c t x m.R m.b b qb y oc ot)/\HpR (hD0 c t x m.R m.b b qb y oc ot) 1 0 y (jaM (hC0 c t x)):=fun b qb y oc ot hy k1 k2=>by
  refine⟨⟨hCk,hc,rfl,⟨x,hx,hq⟩,k1,k2,by show c.workers=((c.workers.toNat:Nat):Int);omega⟩,⟨hy.R,rfl,by rw[hy.m];rfl,rfl,rfl,rfl,rfl,rfl,hy.nw,hy.G,by rw[hy.f];exact Nat.le_refl 1,hy.t,?_,⟨Nat.zero_le _,Nat.zero_le _,Nat.zero_le _,Nat.zero_le _⟩,Nat.le_refl 0⟩⟩;rw[hy.m];exact(setSelf hm).symm
 obtain⟨tr,htr⟩: ∃ tr:Nat,x.trigger=tr:=⟨x.trigger.toNat,by omega⟩
 obtain⟨ast,has⟩: ∃ ast:Nat,x.assist=ast:=⟨x.assist.toNat,by omega⟩
 have hpc:=fun A (q p:Int)=>pcNew_K (w0:=w0) (F:=A) (tr:=tr) (ast:=ast) (q:=q) (p:=p) bc bc
 have hxc:x=⟨x.quota,(tr:Nat),x.caps,(ast:Nat)⟩:=by rw[<-htr,<-has]
 have hH: ∀ (b qb:Nat) (y:CyM) (oc ot:Own),hpH (hD0 c t x m.R m.b b qb y oc ot) y (jaM (hC0 c t x))++F=(b,cells [oV oc c.cl.length, .int .i64 c.page,oV ot c.tn.length, .int .i64 c.workers, .int .i64 c.grey, .int .i64 c.gens, .int .i64 (t:Nat),pt y.b,pt qb, .int .i64 0] 101)::(paceH ⟨qb,tr,ast,⟨0,0,0,0,false⟩⟩++(oH iE 3 c.cl oc++(oH tnE 59 c.tn ot++(cycH y++F)))):=fun b qb y oc ot=>by
  have e1:x.trigger.toNat=tr:=by omega
  have e2:x.assist.toNat=ast:=by omega
  rw[hpH_app,<-e1,<-e2]
  rfl
 obtain⟨hS,hT',o1,o2,l1,l2⟩:=hR
 have hx':c.tn[((t:Nat):Int).toNat]?=some ⟨x.quota,(tr:Nat),x.caps,(ast:Nat)⟩:=by rw[<-hxc];exact hx
 unfold jA jV at hcn hOw|-;refine en3 38 Tryz.func19 ?_;refine yr3 ?_;intro b3;refine yr10 ?_;refine je (hcn ((b3,cells [vc, .int .i64 c.page,vt, .int .i64 c.workers, .int .i64 c.grey, .int .i64 c.gens] 25)::F) ja) ja ?_;rintro _ _ ⟨y,hy,rfl,rfl⟩;refine yr25 ?_;refine Jx (hpc _ _ _) ?_;rintro _ _ ⟨qb,rfl,rfl⟩;refine yr11 ?_;refine Jx (hOw _ ja) ?_;rintro _ _ ⟨oc,ot,k1,k2,rfl,rfl⟩;refine yr5 ?_;intro b36;refine yr6 ?_;exact KE.fin jd rfl jc ja ⟨_,y,(hfin b36 qb y oc ot hy k1 k2).1,(hfin b36 qb y oc ot hy k1 k2).2,rfl,rfl,rfl,rfl,hy.m,rfl,(hH b36 qb y oc ot).symm⟩
