/-The walker and contracts, part 22.-/
import Derived.Test.YtciaccbemnpipaaGreatDoorJ20
import Derived.Test.YtciaccbemnpipaaGreatDoorJ21
set_option linter.all false
namespace Go.Proofs.YtciaccbemnpipaaGreatDoor.Sw
set_option maxHeartbeats 8000000
open Go.Proofs.YtciaccbemnpipaaGreatDoor renaming lo -> qL, hi -> qH
open Go.RowKit
set_option maxRecDepth 10000
structure RrS where
 k:Nat
theorem jeI {w0:World} {H:jb} {c:Cfg} {vc vt:Value} {t:Int} (hR:Jl w0 H c vc vt):
  Cs w0 23 [jA c vc vt, .int .i64 t] H (prV (jav c t)):=by
 have hc0:=fun A (hp:Part A H)=>jgz (t:=t) (k:=0) (hR.part hp)
 cases ht:Jh c t 0 with
 |false=>
  obtain⟨hS,hT',o1,o2,l1,l2⟩:=hR
  have he:jav c t=(0,2):=by simp[jav,ht]
  rw[ht] at hc0;rw[he]
  obtain⟨cl,page,tn,workers,grey,gens⟩:=c
  dsimp only at hS hT' l1 l2 he;simp only[jA,jV] at hc0|-;refine en2 35 Tryz.func23 ?_;refine yr3 ?_;intro b2;refine yr10 ?_;refine zu ?_;refine yr12 ?_;exact zd
 |true=>
  obtain⟨i,j,x,y,rfl,_,hx,hy,ok⟩:=jbN ht
  have hil:=jl hx
  have hcp:cfgP c=true:=by simp only[Jh,Bool.and_eq_true] at ht;exact ht.1
  have hok:=ok.cl
  have he:jav c (i:Nat)=(Jj (pwP c (i:Nat)) c.cl.length,0):=by simp[jav,ht,wordsP]
  have hpg:=fun A (hp:Part A H) (k:Nat)=>rPages_K (t:=(i:Nat)) (k:=(k:Nat)) (hR.part hp)
  have hB:=fun k (hk:k<c.cl.length)=>pw_le (jbl hcp hil hk)
  have hz:=fun k (hk:k<c.cl.length)=>(jgC (jbl hcp hil hk)).2.2
  have hpwd: ∀ k,(pagesP c (i:Nat) ((k:Nat):Int)).1*c.page=pwP c (i:Nat) k:=fun k=>rfl
  obtain⟨hS,hT',o1,o2,l1,l2⟩:=hR
  rw[ht] at hc0;rw[he]
  obtain⟨f,hf⟩: ∃ f,f=pwP c (i:Nat):=⟨_,rfl⟩
  obtain⟨g,hg⟩: ∃ g:Nat->Int × Int,g=fun k=>pagesP c (i:Nat) ((k:Nat):Int):=⟨_,rfl⟩
  have hgk: ∀ k:Nat,pagesP c (i:Nat) ((k:Nat):Int)=g k:=fun k=>by rw[hg]
  rw[<-hf] at hB hpwd|-;simp only[hgk] at hpg hz hpwd;clear hg hgk hf he
  obtain⟨cl,page,tn,workers,grey,gens⟩:=c
  dsimp only at hS hT' l1 l2 hok hB hz hpwd hil|-;simp only[jA,jV,prV] at hc0 hpg|-;refine en2 35 Tryz.func23 ?_;refine yr3 ?_;intro b2;refine yr10 ?_;refine zu ?_;refine yr18 ?_;refine K.loopT (σ:=RrS) [(1,_),(2,_)] (fun s kp_=>(7, .int .i64 (s.k:Nat))::(6, .int .i64 (Jj f s.k))::kp_) (fun s=>(b2,cells [vc, .int .i64 page,vt, .int .i64 workers, .int .i64 grey, .int .i64 gens] 25)::H) (fun s=>s.k<=cl.length) (fun s=>cl.length-s.k) (⟨0⟩) jg ja (bF) ?_;rintro⟨k⟩ hk;dsimp only at hk|-
  by_cases hlt:k<cl.length
  ·have b1':=jcF (f:=f) (n:=k) (fun i hi=>hB i bc)
   have b2':=hB k hlt
   have hzk:=hz k hlt
   have hpk:=hpwd k
   have hpgk:=fun A hp=>hpg A hp k
   obtain⟨⟨p1,p2⟩,hgp⟩: ∃ p,p=g k:=⟨_,rfl⟩
   rw[<-hgp] at hzk hpk;simp only[<-hgp] at hpgk;dsimp only at hzk hpk hpgk;subst hzk
   obtain⟨a,ha⟩: ∃ a,a=Jj f k:=⟨_,rfl⟩
   have hs:Jj f (k+1)=a+p1*page:=by rw[ha,hpk];rfl
   rw[<-hpk] at b2';rw[<-ha] at b1'|-;refine yr21 ?_;refine jj (hpgk _ ja) ?_;refine yr23 ?_;rw[<-hs];exact KE.again ⟨k+1⟩ jg ja (by show k+1<=_;omega) (by show cl.length-(k+1)<cl.length-k;omega)
  ·have hke:k=cl.length:=by omega
   subst hke;refine yr24 ?_;exact zd
structure RbS where
 k:Nat
theorem jf9 {c:Cfg} {i:Nat} (hc:cfgP c=true) (hi:i<c.tn.length):jav c ((i:Nat):Int)=(wordsP c (i:Nat),0):=by
 have h:=jbl (j:=0) hc hi (by have:=(jaz hc).cl;omega)
 have h':Jh c ((i:Nat):Int) 0=true:=h
 simp[jav,h']
theorem jho {c:Cfg} {i:Nat} (hc:cfgP c=true) (hi:i<c.tn.length):jbp c ((i:Nat):Int)=(Jj (fun i=>wordsP c (i:Nat)) i,0):=by
 have h:=jbl (j:=0) hc hi (by have:=(jaz hc).cl;omega)
 have h':Jh c ((i:Nat):Int) 0=true:=h
 simp[jbp,h']
theorem rBase_K {w0:World} {H:jb} {c:Cfg} {vc vt:Value} {t:Int} (hR:Jl w0 H c vc vt):
  Cs w0 78 [jA c vc vt, .int .i64 t] H (prV (jbp c t)):=by
 have hc0:=fun A (hp:Part A H)=>jgz (t:=t) (k:=0) (hR.part hp)
 cases ht:Jh c t 0 with
 |false=>
  obtain⟨hS,hT',o1,o2,l1,l2⟩:=hR
  have he:jbp c t=(0,2):=by simp[jbp,ht]
  rw[ht] at hc0;rw[he]
  obtain⟨cl,page,tn,workers,grey,gens⟩:=c
  dsimp only at hS hT' l1 l2 he;simp only[jA,jV] at hc0|-;refine en2 29 Tryz.func78 ?_;refine yr3 ?_;intro b2;refine yr10 ?_;refine zu ?_;refine yr12 ?_;exact zd
 |true=>
  obtain⟨i,j,x,y,rfl,_,hx,hy,ok⟩:=jbN ht
  have hil:=jl hx
  have hcp:cfgP c=true:=by simp only[Jh,Bool.and_eq_true] at ht;exact ht.1
  have hok:=ok.tn
  have he:=jho hcp hil
  have hpg:=fun A (hp:Part A H) (k:Nat) (hk:k<c.tn.length)=>(jf9 hcp hk)▸jeI (t:=(k:Nat)) (hR.part hp)
  have hB:=fun k (hk:k<c.tn.length)=>jdy hcp hk
  obtain⟨hS,hT',o1,o2,l1,l2⟩:=hR
  rw[ht] at hc0;rw[he]
  obtain⟨f,hf⟩: ∃ f:Nat->Int,f=fun i=>wordsP c (i:Nat):=⟨_,rfl⟩
  have hfi: ∀ i,wordsP c (i:Nat)=f i:=fun i=>by rw[hf]
  rw[<-hf];simp only[hfi] at hB hpg;clear hf hfi he
  obtain⟨cl,page,tn,workers,grey,gens⟩:=c
  dsimp only at hS hT' l1 l2 hok hB hil hpg|-;simp only[jA,jV,prV] at hc0 hpg|-;refine en2 29 Tryz.func78 ?_;refine yr3 ?_;intro b2;refine yr10 ?_;refine zu ?_;refine yr18 ?_;refine K.loopT (σ:=RbS) [(1,_),(2,_)] (fun s kp_=>(7, .int .i64 (s.k:Nat))::(6, .int .i64 (Jj f s.k))::kp_) (fun s=>(b2,cells [vc, .int .i64 page,vt, .int .i64 workers, .int .i64 grey, .int .i64 gens] 25)::H) (fun s=>s.k<=i) (fun s=>i-s.k) (⟨0⟩) jg ja (bF) ?_;rintro⟨k⟩ hk;dsimp only at hk|-
  by_cases hlt:k<i
  ·have b1':=jcF (f:=f) (n:=k) (fun i hi=>hB i bc)
   have b2':=hB k bc
   have hpgk:=fun A hp=>hpg A hp k bc
   obtain⟨a,ha⟩: ∃ a,a=Jj f k:=⟨_,rfl⟩
   obtain⟨b,hb⟩: ∃ b,b=f k:=⟨_,rfl⟩
   have hs:Jj f (k+1)=a+b:=by rw[ha,hb];rfl
   rw[<-hb] at b2';simp only[<-hb] at hpgk;rw[<-ha] at b1'|-;refine yr18 ?_;refine jj (hpgk _ ja) ?_;refine yr20 ?_;rw[<-hs];exact KE.again ⟨k+1⟩ jg ja (by show k+1<=_;omega) (by show i-(k+1)<i-k;omega)
  ·have hke:k=i:=by omega
   subst hke;refine yr22 ?_;exact zd
theorem rTotal_K {w0:World} {H:jb} {c:Cfg} {vc vt:Value} (hR:Jl w0 H c vc vt):
  Cs w0 38 [jA c vc vt] H (prV (totalP c)):=by
 have hb0:=fun A (hp:Part A H)=>rBase_K (t:=(c.tn.length:Nat)-1) (hR.part hp)
 have hr0:=fun A (hp:Part A H)=>jeI (t:=(c.tn.length:Nat)-1) (hR.part hp)
 cases hc:cfgP c with
 |false=>
  obtain⟨hS,hT',o1,o2,l1,l2⟩:=hR
  have he:totalP c=(0,2):=by simp[totalP,hc]
  have hb:jbp c ((c.tn.length:Nat)-1)=(0,2):=by simp[jbp,Jh,hc]
  rw[hb] at hb0;rw[he];clear hr0 hb
  obtain⟨cl,page,tn,workers,grey,gens⟩:=c
  dsimp only at hS hT' l1 l2 he hb0;simp only[jA,jV,prV] at hb0|-;refine en1 32 Tryz.func38 ?_
  (iterate 16 first|refine yS ?_|intro _)
  refine jj (hb0 _ ja) ?_;refine yr24 ?_;exact zd
 |true=>
  have hok:=(jaz hc).tn
  obtain⟨m,hm⟩: ∃ m,c.tn.length=m+1:=⟨c.tn.length-1,by omega⟩
  have hml:m<c.tn.length:=by omega
  have hmi:((c.tn.length:Nat):Int)-1=(m:Nat):=by omega
  have hb:jbp c ((c.tn.length:Nat)-1)=(Jj (fun i=>wordsP c (i:Nat)) m,0):=by rw[hmi];exact jho hc hml
  have hr:jav c ((c.tn.length:Nat)-1)=(wordsP c (m:Nat),0):=by rw[hmi];exact jf9 hc hml
  have hB:=fun k (hk:k<c.tn.length)=>jdy hc hk
  have he:totalP c=(Jj (fun i=>wordsP c (i:Nat)) m+wordsP c (m:Nat),0):=by simp only[totalP,hc,if_true,hm];rfl
  have hb1:=jcF (f:=fun i=>wordsP c (i:Nat)) (n:=m) (fun k hk=>hB k bc)
  have hb2:=hB m hml
  rw[hb] at hb0;rw[hr] at hr0;rw[he]
  obtain⟨a,ha⟩: ∃ a,a=Jj (fun i=>wordsP c (i:Nat)) m:=⟨_,rfl⟩
  obtain⟨b,hb'⟩: ∃ b,b=wordsP c (m:Nat):=⟨_,rfl⟩
  rw[<-ha] at hb0 hb1|-;rw[<-hb'] at hr0 hb2|-;clear ha hb' hb hr he hB
  obtain⟨hS,hT',o1,o2,l1,l2⟩:=hR
  obtain⟨cl,page,tn,workers,grey,gens⟩:=c
  dsimp only at hS hT' l1 l2 hok hb0 hr0 hm hml hmi|-;simp only[jA,jV,prV] at hb0 hr0|-;refine en1 32 Tryz.func38 ?_
  (iterate 16 first|refine yS ?_|intro _)
  refine jj (hb0 _ ja) ?_;refine yr25 ?_;refine jj (hr0 _ ja) ?_;refine yr17 ?_;exact zd
section
variable {g : PlG} {long nw : Nat} {s s' : CyP} {W W' : MwP} {m : MaP}
theorem jmG {G:GyP} {t:Nat} (h:t<G.ow.length):J8 (JP g long G t)=false:=by
 unfold J8 JP
 split
 ·simp
 ·have hp:0<(G.ow.set t true).count true:=List.count_pos_iff.2 (List.mem_of_getElem? (List.getElem?_set_self h))
  rw[show decide ((G.ow.set t true).count true=0)=false from decide_eq_false bc]
  simp
theorem shd_done (hm:jw g long W m) (h:JB g W m=false) (t:Int):JB g W (jZ g long m t)=false:=by
 unfold jZ ja3 Jt
 split
 ·split
  ·split
   ·rename_i hc
    have hl:=jl hc.2
    rw[hm.C,<-hm.G.ow] at hl;unfold JB;dsimp only;rw[jmG hl]
    simp
   ·exact h
  ·exact h
 ·exact h
theorem jfY (h:W'.T.length=W.T.length):JB g W' m=JB g W m:=by unfold JB;rw [h]
theorem jp.world (ok:jh g) (h:jp g long s) {a:jcu}:jp g long {s with W:=JR g s.W a}:=
 ⟨⟨actW_ok ok h.w,actW_rf ok h.w h.rf,h.m.world jgS fun t ht hq=>jiS ok h.w ht hq,h.i,h.A,h.D,h.p0,h.p1,h.p2,h.p3,h.ph,h.dn⟩,h.lt,fun e=>(jfY jgS).trans (h.go e)⟩
theorem jp.shd (ok:jh g) (h:jp g long s) (t:Int):jp g long (shdC g long s t):=by
 unfold shdC
 split
 ·rename_i h1
  obtain⟨a,b,c,d⟩:=h.p1 h1
  have z:=jcy (W':=s.W) ok h.m h.i a t
  exact⟨⟨h.w,h.rf,jfg ok h.m t,z.1,h.A,h.D,fun e=>(by rw[show s.ph=0 from e] at h1;cases h1),fun _=>⟨(jeb t).2.2.1.trans a,b,c,d⟩,fun e=>Bo,fun e=>(by rw[show s.ph=3 from e] at h1;cases h1),h.ph,fun e=>absurd (show 2<=s.ph from e) bc⟩,fun e=>Bo,fun _=>shd_done h.m (h.go h1) t⟩
 ·exact h
theorem black_ok (hm:jw g long W m) (t:Nat):jw g long W (Jd m t):=by
 unfold Jd
 split
 ·refine⟨by show(m.C.set _ _).length=_;rw [List.length_set];exact hm.C,fun v hv=>?_,hm.G,hm.hs,hm.h,hm.root⟩
  rcases List.mem_or_eq_of_mem_set hv with e|e
  ·exact hm.c v e
  ·exact .inr (.inr e)
 ·exact hm
theorem black_in (hi:jau m) (t:Nat):jau (Jd m t):=by
 unfold Jd
 split
 ·refine⟨fun q hq=>?_,fun q hq=>?_⟩
  ·by_cases e:t=q
   ·subst e
    have hl:t<m.C.length:=by have:=jl hq;simpa using this
    have hq':(m.C.set t 2)[t]?=some 1:=hq
    rw[List.getElem?_set_self hl] at hq'
    cases hq'
   ·have hq':(m.C.set t 2)[q]?=some 1:=hq
    rw[List.getElem?_set_ne e] at hq';exact hi.grey q hq'
  ·obtain⟨c,h1,h2⟩:=hi.lst q hq
   by_cases e:t=q
   ·subst e;exact⟨2,List.getElem?_set_self (jl h1),by decide⟩
   ·exact⟨c,(List.getElem?_set_ne e).trans h1,h2⟩
 ·exact hi
theorem jdS (m:MaP) (t:Nat):(Jd m t).G=m.G/\(Jd m t).hs=m.hs/\(Jd m t).root=m.root/\(Jd m t).act=m.act/\(Jd m t).steps=m.steps:=by
 unfold Jd;split<;>exact⟨rfl,rfl,rfl,rfl,rfl⟩
theorem jl5 (t:Nat):JB g W (Jd m t)=JB g W m:=by
 obtain⟨a,b,c,d,_⟩:=jdS m t
 unfold JB fullM JU;rw[a,b,c,d]
theorem jp.black (h:jp g long s) (t:Nat):jp g long {s with m:=Jd s.m t}:=by
 obtain⟨a,b,c,d,_⟩:=jdS s.m t
 refine⟨⟨h.w,h.rf,black_ok h.m t,black_in h.i t,h.A,h.D,fun e=>?_,fun e=>?_,fun e=>?_,fun e=>?_,h.ph,fun e q hq=>h.dn e q ?_⟩,h.lt,fun e=>(jl5 t).trans (h.go e)⟩
 ·exact⟨d.trans (h.p0 e).1,(h.p0 e).2⟩
 ·exact⟨d.trans (h.p1 e).1,(h.p1 e).2⟩
 ·exact⟨d.trans (h.p2 e).1,(h.p2 e).2⟩
 ·exact⟨d.trans (h.p3 e).1,(h.p3 e).2⟩
 ·unfold Lst at hq|-;rw[show(({s with m:=Jd s.m t}:CyP).m)=Jd s.m t from rfl,a,b] at hq;exact hq
theorem jp.take (h:jp g long s) {A':List Bool} (hA:A'.length=s.A.length):jp g long {s with A:=A'}:=
 ⟨⟨h.w,h.rf,h.m,h.i,hA.trans h.A,h.D,h.p0,h.p1,h.p2,h.p3,h.ph,h.dn⟩,h.lt,h.go⟩
end
section
variable {g : PlG} {long nw : Nat} {s s' : CyP} {W W' : MwP} {m : MaP} {sl r i to : Int}
theorem actW_make (hin:inS g sl):JR g W ⟨0,sl,0,0,r,0⟩={W with x:=(makeP W.x (jv g sl) (hdM (jv g sl) r)).2}:=by
 unfold JR;dsimp only;rw [if_pos bn,if_pos hin]
theorem jj8 (hin:inS g sl) (h0:(refP W.x g.slots (jv g sl) i).2=0):JR g W ⟨2,sl,i,to,0,0⟩={W with x:=(Jp W.x g.slots (jv g sl) i to).2}:=by
 unfold JR;dsimp only;rw [if_neg bn,if_pos bn,if_pos ⟨hin,h0⟩]
theorem jdY (hin:inS g sl):JR g W ⟨4,sl,0,0,0,0⟩={W with T:=jS W.T sl}:=by
 unfold JR;dsimp only;rw [if_neg bn,if_neg bn,if_pos bn,if_pos hin]
theorem jdZ:JR g W ⟨5,0,i,0,0,0⟩={W with T:=Jr W.T i}:=by
 unfold JR;dsimp only;rw [if_neg bn,if_neg bn,if_neg bn,if_pos bn]
theorem jgR (hin:inS g sl):JR g W ⟨6,sl,0,0,0,0⟩={W with N:=JQ W.N sl.toNat}:=by
 unfold JR;dsimp only;rw [if_neg bn,if_neg bn,if_neg bn,if_neg bn,if_pos bn,if_pos hin]
theorem jdq (hin:inS g sl):JR g W ⟨7,sl,0,0,0,0⟩={W with N:=JX W.N sl.toNat}:=by
 unfold JR;dsimp only;rw [if_neg bn,if_neg bn,if_neg bn,if_neg bn,if_neg bn,if_pos bn,if_pos hin]
theorem jaT (hW:Jv g W) {n:Int} (h:Ji W.T n=some sl):inS g sl:=by
 unfold Ji at h
 split at h
 ·split at h
  ·rename_i e he
   split at h
   ·rename_i h1
    cases h
    exact hW.t e (List.mem_of_getElem? he) h1
   ·cases h
  ·cases h
 ·cases h
theorem makes_cy (ok:jh g) (h:jp g long s) {a:jaW}:jp g long (makesC g s a):=by
 unfold makesC
 split
 ·rename_i hc
  obtain⟨k,j,_,_,hf,ht,_⟩:=jdt hc.1
  obtain⟨_,_,h3,_⟩:=jcA hf
  have hl:=jl h3
  rw[h.A] at hl;rw[ht];dsimp only
  have hin:inS g (j:Nat):=⟨by omega,by omega⟩
  have h1:=(h.world ok (a:=⟨4,(j:Nat),0,0,0,0⟩)).world ok (a:=⟨0,(j:Nat),0,0,a.i,0⟩)
  dsimp only at h1;rw[jdY hin,actW_make hin] at h1;exact(h1.black _).take (by show(s.A.set _ _).length=_;rw [List.length_set])
 ·exact h
theorem jbo (t:Int):(shdC g long s t).W=s.W:=by unfold shdC;split<;>rfl
theorem jdL (t:Int):(shdO g long s t).W=s.W:=by
 unfold shdO;split
 ·exact jbo _
 ·rfl
theorem jku (ok:jh g) (h:jp g long s) (t:Int):jp g long (shdO g long s t):=by
 unfold shdO;split
 ·exact h.shd ok t
 ·exact h
theorem put_cy (ok:jh g) (h:jp g long s) (hin:inS g sl) (h0:(refP s.W.x g.slots (jv g sl) i).2=0) (to:Int):jp g long (putC g s sl i to):=by
 have h1:=h.world ok (a:=⟨2,sl,i,to,0,0⟩)
 rw[jj8 hin h0] at h1;exact h1
theorem sets_cy (ok:jh g) (h:jp g long s) {a:jaW}:jp g long (jbR g long s a):=by
 unfold jbR
 split
 ·exact h
 ·rename_i sl hs
  have hin:=jaT h.w hs
  split
  ·exact h
  ·split
   ·exact h
   ·rename_i _ h0
    refine put_cy ok (jku ok (jku ok h _) _) hin ?_ _;rw[jdL,jdL];exact Classical.byContradiction h0
theorem does_cy (ok:jh g) (h:jp g long s) {a:jaW}:jp g long (doesC g long s a):=by
 unfold doesC
 split
 ·exact makes_cy ok h
 ·split
  ·exact sets_cy ok h
  ·split
   ·exact h
   ·rename_i sl hs
    have hin:=jaT h.w hs
    split
    ·have h1:=(h.shd ok sl).world ok (a:=⟨5,0,a.n,0,0,0⟩)
     rwa[jdZ] at h1
    ·split
     ·have h1:=h.world ok (a:=⟨6,sl,0,0,0,0⟩)
      rwa[jgR hin] at h1
     ·have h1:=(h.shd ok sl).world ok (a:=⟨7,sl,0,0,0,0⟩)
      rwa[jdq hin] at h1
theorem jiv {gens:Int} {e:jk} (h:(JZ gens e).st=1):JZ gens e=e:=by
 unfold JZ at h|-
 split
 ·rename_i h2
  rw[if_pos h2] at h
  split at h<;>cases h
 ·rfl
theorem jfR (h:jp g long s) (h3:s.ph=3) (gens:Int):jp g long (publishC g gens s):=by
 refine⟨⟨⟨h.w.x,h.w.w,h.w.N,h.w.n,fun e he h1=>?_⟩,h.rf,⟨h.m.C,h.m.c,h.m.G,h.m.hs,h.m.h,by show s.m.root<=(Jq gens s.W.T).length+_;unfold Jq;rw [List.length_map];exact h.m.root⟩,⟨h.i.grey,h.i.lst⟩,(jlf _ _).trans h.A,List.length_replicate ..,fun _=>⟨rfl,rfl,rfl,rfl⟩,fun e=>bO,fun e=>bO,fun e=>bO,by show 0<=3;decide,fun e=>absurd (show 2<=0 from e) bn⟩,fun e=>bO,fun e=>bO⟩
 have he':e∈s.W.T.map (JZ gens):=he
 obtain⟨q,hq,rfl⟩:=List.mem_map.1 he'
 have e:=jiv h1
 rw[e] at h1|-;exact h.w.t q hq h1
end
structure j0 (g:PlG) (s:CyP):Prop where
 m:s.m.steps+jH g s.W s.m<=100000000
 s:s.st+Jg g s<=100000000
section
variable {g : PlG} {long nw : Nat} {s s' : CyP}
theorem goes_left:(jP g s).m.steps+jH g (jP g s).W (jP g s).m=s.m.steps+jH g s.W s.m:=by
 obtain⟨a,b,_⟩:=jc2 (g:=g) (s:=s)
 rw[a,b]
theorem jeL:(madeC g s).m.steps+jH g (madeC g s).W (madeC g s).m=s.m.steps+jH g s.W s.m:=goes_left (s:={s with st:=s.st+1})
theorem jhU (h:sweepC g s=some s'):s'.m.steps+jH g s'.W s'.m=s.m.steps+jH g s.W s.m:=by
 unfold sweepC at h
 split at h
 ·split at h
  ·cases h;dsimp only;rw [jfU (W':={s.W with x:=JH s.W.x (jv g (s.at_:Nat))}) (W:=s.W) rfl]
  ·cases h;rfl
 ·cases h
theorem j0.step (ok:jh g) (hi:jp g long s) (h:j0 g s) {k u:Int} (hs:stepC g long nw s k u=some s'):j0 g s':=by
 refine⟨?_,Nat.le_trans (step_sum ok hi hs) h.s⟩
 have h1:=h.m
 unfold stepC at hs
 split at hs
 ·cases hm:stepM g long s.W s.m k u with
  |none=>rw [hm] at hs;cases hs
  |some m'=>
   rw[hm] at hs;cases hs;rw[jeL]
   obtain⟨_,h2,h3,_⟩:=jdE ok hi.m hm
   dsimp only;omega
 ·split at hs
  ·cases hm:sweepC g s with
   |none=>rw [hm] at hs;cases hs
   |some q=>rw [hm] at hs;cases hs;rw [jeL,jhU hm];exact h1
  ·cases hs
theorem j0.help (ok:jh g) (hi:jp g long s) (h:j0 g s) (hs:jM g long s=some s'):j0 g s':=by
 refine⟨?_,Nat.le_trans (help_sum ok hi hs) h.s⟩
 have h1:=h.m
 unfold jM at hs
 split at hs
 ·cases hm:JK g long s.W s.m with
  |none=>rw [hm] at hs;cases hs
  |some m'=>
   rw[hm] at hs;cases hs;rw[jeL]
   obtain⟨k,u,hk⟩:=jcg hm
   obtain⟨_,h2,h3,_⟩:=jdE ok hi.m hk
   dsimp only;omega
 ·split at hs
  ·cases hm:sweepC g s with
   |none=>rw [hm] at hs;cases hs
   |some q=>rw [hm] at hs;cases hs;rw [jeL,jhU hm];exact h1
  ·cases hs
theorem j0.begin (ok:jh g) (hT:s.W.T.length<=1024):j0 g (beginC g s):=by
 have h1:=begin_sum (s:=s) ok
 have h2:=ok.words
 have h3:=ok.slots
 refine⟨?_,by omega⟩
 have:=jfN (W:=s.W) ok (s.m.hs.length-1)
 show 0+jH g s.W (jcK g s.m)<=_
 unfold jcK
 omega
theorem jjD (h:s.ph=0\/s.ph=3):Jg g s=0:=by
 unfold Jg;rw [if_neg bc,if_neg bc]
theorem j0.publish (h:j0 g s) (gens:Int):j0 g (publishC g gens s):=by
 have h1:=h.m
 have h2:=h.s
 refine⟨?_,?_⟩
 ·show s.m.steps+jH g {s.W with T:=Jq gens s.W.T} {s.m with act:=false}<=_
  have:jH g {s.W with T:=Jq gens s.W.T} {s.m with act:=false}=jH g s.W s.m:=by
   unfold jH Jq;dsimp only;rw [List.length_map]
  omega
 ·rw[jjD (.inl rfl)];show s.st+0<=_;omega
theorem mes_m {m':MaP} (h:jH g s.W m'<=jH g s.W s.m):Jg g {s with m:=m'}<=Jg g s:=by
 unfold Jg;dsimp only
 split
 ·omega
 ·exact Nat.le_refl _
theorem mes_W {W':MwP} (h:W'.T.length=s.W.T.length):Jg g {s with W:=W'}=Jg g s:=by
 unfold Jg;dsimp only;rw [jfU h]
theorem j0.shd (ok:jh g) (hi:jp g long s) (h:j0 g s) (t:Int):j0 g (shdC g long s t):=by
 unfold shdC
 split
 ·have h1:=h.m
  have h2:=h.s
  have h3:=jim ok hi.m t
  have h4:=(jeb (g:=g) (long:=long) (m:=s.m) t).2.2.2
  have h5:=mes_m (s:=s) h3
  exact⟨by dsimp only;omega,by dsimp only at h5|-;omega⟩
 ·exact h
theorem jl3 (hm:jw g long s.W s.m) (t:Nat):jH g s.W (Jd s.m t)<=jH g s.W s.m:=by
 obtain⟨a,b,c,d,e⟩:=jdS s.m t
 unfold jH;rw[a,b,c];refine Nat.add_le_add_right ?_ _;unfold Jd
 split
 ·by_cases ht:t<g.slots
  ·have:=jgU (g:=g) (C:=s.m.C) (c:=2) ht bn
   dsimp only;omega
  ·dsimp only;rw[List.set_eq_of_length_le (by rw[hm.C];omega)];exact Nat.le_refl _
 ·exact Nat.le_refl _
theorem j0.black (hi:jp g long s) (h:j0 g s) (t:Nat):j0 g {s with m:=Jd s.m t}:=by
 have h1:=h.m
 have h2:=h.s
 have h3:=jl3 hi.m t
 have h4:=(jdS s.m t).2.2.2.2
 have h5:=mes_m (s:=s) h3
 exact⟨by dsimp only;omega,by dsimp only at h5|-;omega⟩
theorem j0.world (h:j0 g s) {W':MwP} (hT:W'.T.length=s.W.T.length):j0 g {s with W:=W'}:=by
 have h1:=h.m
 have h2:=h.s
 exact⟨by dsimp only;rw [jfU hT];exact h1,by rw[mes_W hT];exact h2⟩
end
def jaI (g:PlG) (x x':List Int) (t:Nat):Prop:= ∀ y,g.L[t]?=some y-> ∀ j,j<y.size->wAt x' (y.addr+j)=wAt x (y.addr+j)
def jbT (g:PlG) (x:List Int) (t:Nat):Prop:= ∀ y,g.L[t]?=some y-> ∀ j,j<y.size->wAt x (y.addr+j)=0
section
variable {g : PlG} {x x' x'' : List Int} {s t : Nat} {y : jn}
theorem jaI.refl:jaI g x x t:=fun _ _ _ _=>rfl
theorem jaI.trans (h:jaI g x x' t) (h':jaI g x' x'' t):jaI g x x'' t:=fun y hy j hj=>(h' y hy j hj).trans (h y hy j hj)
theorem jaI.zero (h:jaI g x x' t) (hz:jbT g x t):jbT g x' t:=fun y hy j hj=>(h y hy j hj).trans (hz y hy j hj)
theorem jf0 (ok:jh g) (hx:x.length=g.words) (hy:g.L[s]?=some y) (h:s≠t):jaI g x (JH x y) t:=fun z hz j hj=>by
 have:=ok.apart hy hz h
 have f:=ok.fits hy
 rw[jbM bc,if_neg bc]
theorem jid (ok:jh g) (hx:x.length=g.words) (hy:g.L[s]?=some y):jbT g (JH x y) s:=fun z hz j hj=>by
 rw[hy] at hz;cases hz
 have f:=ok.fits hy
 rw[jbM bc,if_pos bc]
theorem jgh (ok:jh g) (hx:x.length=g.words) (hy:g.L[s]?=some y) (hd:HdP) (h:s≠t):jaI g x (makeP x y hd).2 t:=fun z hz j hj=>by
 have f1:=ok.fits hy
 have:=ok.apart hy hz h
 unfold makeP
 split
 ·split
  ·rfl
  ·dsimp only;rw[jaP bc,jbM bc,if_neg bc]
 ·rfl
theorem jhM (ok:jh g) (hy:g.L[s]?=some y) {i v:Int} (h:s≠t):jaI g x (Jp x g.slots y i v).2 t:=fun z hz j hj=>by
 have f1:=ok.fits hy
 have:=ok.apart hy hz h
 unfold Jp
 split
 ·rfl
 ·split
  ·rename_i hf
   have:=J7 hf
   dsimp only;rw[jaP bc]
  ·rfl
theorem jji (h: ¬t<g.slots) {i:Int}:refO g x (t:Nat) i=none:=by
 cases hr:refO g x (t:Nat) i with
 |none=>rfl
 |some v=>exact absurd (jdT hr).1 h
theorem jeF (ok:jh g) (h:jaI g x x' t) {i:Int}:refO g x' (t:Nat) i=refO g x (t:Nat) i:=by
 by_cases ht:t<g.slots
 ·obtain⟨z,hz⟩:=Je ht
  have hf:=ok.fits hz
  have e:=jY hz
  have h0:wAt x' z.addr=wAt x z.addr:=h z hz 0 bc
  by_cases hfl:fldP x z true i=0
  ·have hin:=J7 hfl
   obtain⟨j,hj⟩: ∃ j,fAt z i=z.addr+j:=⟨fAt z i-z.addr,by omega⟩
   refine jfQ (by rw[e];exact h0) ?_;rw[e,hj];exact h z hz j bc
  ·have hfl': ¬fldP x' z true i=0:=by rw[jch h0];exact hfl
   unfold refO refP;rw[e,if_neg hfl,if_neg hfl',jch h0]
 ·rw[jji ht,jji ht]
theorem jiu (ok:jh g) (h: ∀ y,g.L[t]?=some y-> ∀ j,1<=j->j<y.size->wAt x (y.addr+j)=0) {i:Int}:refO g x (t:Nat) i=none:=by
 cases hr:refO g x (t:Nat) i with
 |none=>rfl
 |some v=>
  obtain⟨ht,hf⟩:=jdT hr
  obtain⟨z,hz⟩:=Je ht
  have e:=jY hz
  rw[e] at hf
  have hin:=J7 hf
  obtain⟨j,hj⟩: ∃ j,fAt z i=z.addr+j:=⟨fAt z i-z.addr,by omega⟩
  have h0:=h z hz j bc bc
  unfold refO refP at hr
  have hn: ¬((0:Int)>((g.slots:Nat):Int)):=by omega
  rw[e,if_pos hf,hj,h0] at hr;simp only[if_neg hn] at hr;rw[if_neg bc] at hr
  cases hr
theorem jbT.refO (ok:jh g) (h:jbT g x t) {i:Int}:refO g x (t:Nat) i=none:=jiu ok fun y hy j _ hj=>h y hy j hj
theorem jiE (ok:jh g) (hx:x.length=g.words) (hy:g.L[s]?=some y) {hd:HdP} {i u:Int} (h:refO g (makeP x y hd).2 (t:Nat) i=some u):refO g x (t:Nat) i=some u:=by
 by_cases e:s=t
 ·subst e;unfold makeP at h
  split at h
  ·split at h
   ·exact h
   ·have f1:=ok.fits hy
    rw[jiu ok (fun z hz j h1 hj=>by
     rw[hy] at hz;cases hz;dsimp only
     rw[jaP bc,jbM bc,if_pos bc])] at h
    cases h
  ·exact h
 ·rw[jeF ok (jgh ok hx hy hd e)] at h;exact h
theorem jmb (ok:jh g) (hx:x.length=g.words) (hy:g.L[s]?=some y) {i u:Int} (h:refO g (JH x y) (t:Nat) i=some u):refO g x (t:Nat) i=some u:=by
 by_cases e:s=t
 ·subst e;rw [(jid ok hx hy).refO ok] at h;cases h
 ·rw[jeF ok (jf0 ok hx hy e)] at h;exact h
theorem set_refN (ok:jh g) (hx:x.length=g.words) (hy:g.L[s]?=some y) {i0 v i u:Int} (h:refO g (Jp x g.slots y i0 v).2 (t:Nat) i=some u):refO g x (t:Nat) i=some u\/(t=s/\u=v):=by
 by_cases e:s=t
 ·subst e
  have f1:=ok.fits hy
  have ey:=jY hy
  unfold Jp at h
  split at h
  ·exact .inl h
  ·split at h
   ·rename_i hv hf
    have hin:=J7 hf
    dsimp only at h
    obtain⟨_,hf2⟩:=jdT h
    rw[ey] at hf2
    have hhd:wAt (x.set (fAt y i0) (v+1)) y.addr=wAt x y.addr:=jaP bc
    rw[jch hhd] at hf2
    have hin2:=J7 hf2
    by_cases hi:fAt y i0=fAt y i
    ·right
     refine⟨rfl,?_⟩
     have hn: ¬(v+1>((g.slots:Nat):Int)):=by omega
     have e:refP (x.set (fAt y i0) (v+1)) g.slots y i=(v+1-1,0):=by
      unfold refP;rw[jch hhd,if_pos hf2,<-hi,jiZ bc,if_neg hn]
     unfold refO at h;rw[ey,e] at h;dsimp only at h
     split at h
     ·have:=Option.some.inj h;omega
     ·cases h
    ·left
     rw[<-h];exact(jfQ (by rw[ey];exact hhd) (by rw[ey];exact jaP hi)).symm
   ·exact .inl h
 ·rw[jeF ok (jhM ok hy e)] at h;exact .inl h
end
section
variable {g : PlG} {W : MwP} {P Q : Nat -> Prop} {x' : List Int}
theorem jlt {n sl:Int} (h:Ji W.T n=some sl): ∃ r,r<W.T.length/\jL g W r=some sl:=by
 unfold Ji at h
 split at h
 ·cases hT:W.T[n.toNat]? with
  |none=>rw [hT] at h;cases h
  |some e=>
   rw[hT] at h;dsimp only at h
   split at h
   ·rename_i h1
    cases h
    exact⟨n.toNat,jl hT,by unfold jL;rw [hT];dsimp only;rw [if_pos h1]⟩
   ·cases h
 ·cases h
theorem Cls.slot (h:Cls g W P) {n:Int} {s:Nat} (hs:Ji W.T n=some (s:Nat)):P s:=by
 obtain⟨r,h1,h2⟩:=jlt (g:=g) hs
 exact h.root bc h2
theorem Cls.iff (h:Cls g W P) (hq: ∀ t,P t↔Q t):Cls g W Q:=⟨fun a b=>(hq _).1 (h.root a b),fun a b=>(hq _).1 (h.edge ((hq _).2 a) b)⟩
theorem jk8 {W':MwP} (hl:W'.T.length=W.T.length) (hN:W'.N=W.N) (hT: ∀ (r:Nat) (e:jk),W'.T[r]?=some e->e.st=1-> ∃ e',W.T[r]?=some e'/\e'.st=1/\e'.slot=e.slot) {r:Nat} {s:Int} (h:jL g W' r=some s):jL g W r=some s:=by
 unfold jL at h|-
 cases he:W'.T[r]? with
 |some e=>
  rw[he] at h;dsimp only at h
  split at h
  ·rename_i h1
   obtain⟨e',a,b,c⟩:=hT r e he h1
   rw[a];dsimp only;rw[if_pos b,c];exact h
  ·cases h
 |none=>
  rw[he] at h
  have:=List.getElem?_eq_none_iff.1 he
  rw[List.getElem?_eq_none bc,<-hN,<-hl];exact h
theorem root_mint {sl:Int} {r:Nat} {s:Int} (h:jL g {W with T:=jS W.T sl} r=some s):jL g W r=some s\/s=sl:=by
 unfold jL at h|-;dsimp only at h
 cases he:(jS W.T sl)[r]? with
 |some e=>
  rw[he] at h;dsimp only at h
  split at h
  ·rename_i h1
   rcases mint_at he with h2|⟨_,h2⟩
   ·left;rw [h2];dsimp only;rw [if_pos h1];exact h
   ·right;rw [<-h2];exact(Option.some.inj h).symm
  ·cases h
 |none=>
  rw[he] at h
  have:=List.getElem?_eq_none_iff.1 he
  rw[jbk] at this h
  left;rw [List.getElem?_eq_none this];exact h
theorem jmr {i:Int} {r:Nat} {s:Int} (h:jL g {W with T:=Jr W.T i} r=some s):jL g W r=some s:=by
 refine jk8 (W':={W with T:=Jr W.T i}) jc3 rfl (fun r e he h1=>?_) h
 rcases drop_at he with h2|h2
 ·exact⟨e,h2,h1,rfl⟩
 ·omega
theorem root_pin {sl r:Nat} {s:Int} (h:jL g {W with N:=JQ W.N sl} r=some s):jL g W r=some s\/s=(sl:Nat):=by
 unfold jL at h|-;dsimp only at h
 cases he:W.T[r]? with
 |some e=>rw [he] at h;exact .inl h
 |none=>
  rw[he] at h;dsimp only at h|-
  split at h
  ·rename_i h1
   by_cases e:r-W.T.length=sl
   ·right;rw [<-e];exact(Option.some.inj h).symm
   ·left
    have:(JQ W.N sl)[r-W.T.length]?=W.N[r-W.T.length]? :=by
     unfold JQ;split
     ·rw[List.getElem?_set_ne bc]
     ·rfl
    rw[this] at h1;rw[if_pos h1];exact h
  ·cases h
theorem jlz {sl r:Nat} {s:Int} (h:jL g {W with N:=JX W.N sl} r=some s):jL g W r=some s:=by
 unfold jL at h|-;dsimp only at h
 cases he:W.T[r]? with
 |some e=>rw [he] at h;exact h
 |none=>
  rw[he] at h;dsimp only at h|-
  split at h
  ·rename_i h1
   rw[if_pos]
   ·exact h
   ·by_cases e:r-W.T.length=sl
    ·unfold JX at h1
     split at h1
     ·rename_i hp;rw [e];exact hp
     ·exact h1
    ·rw[jii e] at h1;exact h1
  ·cases h
theorem jmq {gens:Int} {r:Nat}:jL g {W with T:=Jq gens W.T} r=jL g W r:=by
 unfold jL Jq;dsimp only;rw[List.getElem?_map,List.length_map]
 cases he:W.T[r]? with
 |none=>rfl
 |some e=>
  simp only[Option.map_some]
  by_cases h1:e.st=1
  ·have:JZ gens e=e:=by unfold JZ;rw [if_neg bc]
   rw[this]
  ·rw[if_neg h1,if_neg];intro h2
   have:=jiv h2
   rw[this] at h2;exact h1 h2
theorem Cls.words (h:Cls g W P) (hr: ∀ {s t:Nat} {i:Int},P s->refO g x' (s:Nat) i=some (t:Nat)->P t):Cls g {W with x:=x'} P:=⟨h.root,hr⟩
theorem Cls.recy (h:Cls g W P) (gens:Int):Cls g {W with T:=Jq gens W.T} P:=
 ⟨fun a b=>by
  rw[jmq] at b
  exact h.root (by unfold Jq at a;dsimp only at a;rw [List.length_map] at a;exact a) b,h.edge⟩
theorem Cls.drop (h:Cls g W P) (i:Int):Cls g {W with T:=Jr W.T i} P:=⟨fun a b=>h.root (by dsimp only at a;rw [jc3] at a;exact a) (jmr b),h.edge⟩
theorem Cls.unpin (h:Cls g W P) (sl:Nat):Cls g {W with N:=JX W.N sl} P:=⟨fun a b=>h.root a (jlz b),h.edge⟩
theorem Cls.pin (h:Cls g W P) {sl:Nat} (hs:P sl):Cls g {W with N:=JQ W.N sl} P:=⟨fun a b=>by
  rcases root_pin b with c|c
  ·exact h.root a c
  ·rw[show _=sl from Int.ofNat_inj.1 c];exact hs,h.edge⟩
theorem Cls.mint (h:Cls g W P) {sl:Nat} (hs:P sl):Cls g {W with T:=jS W.T (sl:Nat)} P:=⟨fun a b=>by
  rcases root_mint b with c|c
  ·exact h.root (by dsimp only at a;rw [jbk] at a;exact a) c
  ·rw[show _=sl from Int.ofNat_inj.1 c];exact hs,h.edge⟩
theorem Cls.wipe (ok:jh g) (hx:W.x.length=g.words) (h:Cls g W P) {s:Nat} {y:jn} (hy:g.L[s]?=some y):Cls g {W with x:=JH W.x y} P:=h.words fun a b=>h.edge a (jmb ok hx hy b)
theorem Cls.set (ok:jh g) (hx:W.x.length=g.words) (h:Cls g W P) {s:Nat} {y:jn} (hy:g.L[s]?=some y) {i v:Int} (hv: ∀ u:Nat,v=(u:Nat)->P u):Cls g {W with x:=(Jp W.x g.slots y i v).2} P:=h.words fun{a t} {k} ha b=>by
 rcases set_refN ok hx hy b with c|⟨_,c⟩
 ·exact h.edge ha c
 ·exact hv t c.symm
theorem Cls.make (ok:jh g) (hx:W.x.length=g.words) (h:Cls g W P) {s:Nat} {y:jn} (hy:g.L[s]?=some y) {hd:HdP}:Cls g {W with x:=(makeP W.x y hd).2} P:=h.words fun a b=>h.edge a (jiE ok hx hy b)
theorem Cls.new (ok:jh g) (h:Cls g W P) {j:Nat} (hz:jbT g W.x j):Cls g W (fun t=>P t\/t=j):=
 ⟨fun a b=> .inl (h.root a b),fun a b=>by
  rcases a with a|rfl
  ·exact .inl (h.edge a b)
  ·rw[hz.refO ok] at b;cases b⟩
end
structure CyT (g:PlG) (s:CyP):Prop where
 tk:Cls g s.W (fun t=>s.A[t]?=some true)
 zr: ∀ t:Nat,s.A[t]?=some false->jbT g s.W.x t
def NwP (S0:Nat->Prop) (A0 A:List Bool) (t:Nat):Prop:=S0 t\/(A[t]?=some true/\A0[t]?=some false)
structure CyI (g:PlG) (S0:Nat->Prop) (A0:List Bool) (s:CyP):Prop where
 len:A0.length=s.A.length
 sA: ∀ t:Nat,S0 t->A0[t]?=some true
 up: ∀ t:Nat,A0[t]?=some true->s.A[t]?=some true
 cl:Cls g s.W (NwP S0 A0 s.A)
 nP:jbe (NwP S0 A0 s.A) s.m
 nw: ∀ t:Nat,s.A[t]?=some true->A0[t]?=some false->NW s.m t
 p1:s.ph=1-> ∀ t,S0 t->Prot g s.W s.m t
 p2:2<=s.ph-> ∀ t,S0 t->NW s.m t
 D: ∀ t:Nat,s.D[t]?=some true↔(2<=s.ph/\t<s.at_/\A0[t]?=some true/\ ¬S0 t)
 zr: ∀ t:Nat,s.A[t]?=some false->jbT g s.W.x t
 dz: ∀ t:Nat,s.D[t]?=some true->jbT g s.W.x t
theorem bit_some {l:List Bool} {t:Nat} (h:t<l.length):l[t]?=some true\/l[t]?=some false:=by
 obtain⟨b,hb⟩:=jq h
 cases b
 ·exact .inr hb
 ·exact .inl hb
section
variable {g : PlG} {long nw : Nat} {s s' : CyP} {S0 : Nat -> Prop} {A0 : List Bool} {P : Nat -> Prop}
theorem CyI.pA (h:CyI g S0 A0 s) {t:Nat} (hp:NwP S0 A0 s.A t):s.A[t]?=some true:=by
 rcases hp with a|a
 ·exact h.up t (h.sA t a)
 ·exact a.1
theorem CyI.mark (ok:jh g) (h:jp g long s) (hI:CyI g S0 A0 s) (h1:s.ph=1) {m':MaP} {k u:Int} (hm:stepM g long s.W s.m k u=some m'):CyI g S0 A0 {s with m:=m'}:=by
 have z5:=jeU ok h.m h.w h.i hm
 exact⟨hI.len,hI.sA,hI.up,hI.cl,z5.o _ hI.cl hI.nP,fun t a b=>z5.k.nw t (hI.nw t a b),fun _ t ht=>(hI.p1 h1 t ht).keep z5.k,fun e=>absurd (show 2<=s.ph from e) bc,hI.D,hI.zr,hI.dz⟩
theorem CyI.goes (h:CyPre g long s) (hI:CyI g S0 A0 s):CyI g S0 A0 (jP g s):=by
 unfold jP
 split
 ·rename_i h1
  obtain⟨a,b,c,d⟩:=h.p1 h1.1
  refine⟨hI.len,hI.sA,hI.up,hI.cl,hI.nP,hI.nw,fun e=>?_,fun _ t ht=>done_prot h1.2 (hI.p1 h1.1 t ht),fun t=>?_,hI.zr,hI.dz⟩
  ·have e':(if s.at_=g.slots then 3 else 2)=1:=e
   split at e'<;>cases e'
  ·show s.D[t]?=some true↔(_/\t<s.at_/\_)
   rw[hI.D t]
   constructor
   ·rintro⟨e,_⟩;omega
   ·rintro⟨_,e,_⟩;omega
 ·split
  ·rename_i h2
   refine⟨hI.len,hI.sA,hI.up,hI.cl,hI.nP,hI.nw,fun e=>bO,fun _=>hI.p2 bc,fun t=>?_,hI.zr,hI.dz⟩
   show s.D[t]?=some true↔(2<=3/\t<s.at_/\_)
   rw[hI.D t,h2.1]
   constructor
   ·rintro⟨_,e⟩;exact⟨by decide,e⟩
   ·rintro⟨_,e⟩;exact⟨by decide,e⟩
  ·exact hI
theorem CyI.made (h:CyPre g long s) (hI:CyI g S0 A0 s):CyI g S0 A0 (madeC g s):=
 CyI.goes (s:={s with st:=s.st+1}) ⟨h.w,h.rf,h.m,h.i,h.A,h.D,h.p0,h.p1,h.p2,h.p3,h.ph,h.dn⟩ ⟨hI.len,hI.sA,hI.up,hI.cl,hI.nP,hI.nw,hI.p1,hI.p2,hI.D,hI.zr,hI.dz⟩
theorem CyI.doom (h:jp g long s) (hI:CyI g S0 A0 s) (h2:s.ph=2) {t:Nat} (ht:t<g.slots):(s.A[t]?=some true/\s.m.C[t]?=some 0)↔(A0[t]?=some true/\ ¬S0 t):=by
 constructor
 ·rintro⟨a,c⟩
  have hn: ¬NW s.m t:=fun hn=>hn.not c
  have hS: ¬S0 t:=fun hS=>hn (hI.p2 bc t hS)
  refine⟨?_,hS⟩
  rcases bit_some (l:=A0) (t:=t) (by rw[hI.len,h.A];exact ht) with e|e
  ·exact e
  ·exact absurd (hI.nw t a e) hn
 ·rintro⟨a,hS⟩;refine⟨hI.up t a,?_⟩
  rcases nw_or h.m.C ht with e|e
  ·exact e
  ·rcases hI.nP t e with c|⟨_,c⟩
   ·exact absurd c hS
   ·rw[a] at c;cases c
theorem CyI.sweep (ok:jh g) (h:jp g long s) (hI:CyI g S0 A0 s) (h2:s.ph=2) (hs:sweepC g s=some s'):CyI g S0 A0 s':=by
 have hlt:=h.lt h2
 obtain⟨a,b,_⟩:=h.p2 h2
 have hd:=hI.doom h h2 hlt
 obtain⟨y,hy⟩:=Je hlt
 have hyA:=jY hy
 unfold sweepC at hs;rw[if_pos ⟨b,hlt⟩] at hs
 split at hs
 ·rename_i hg
  cases hs
  rw[hyA]
  obtain⟨d1,d2⟩:=hd.1 hg
  refine⟨hI.len,hI.sA,hI.up,hI.cl.wipe ok h.w.x hy,hI.nP,hI.nw,fun e=>(by rw[show s.ph=1 from e] at h2;cases h2),fun e=>hI.p2 e,fun t=>?_,fun t ht=>?_,fun t ht=>?_⟩
  ·show(s.D.set s.at_ true)[t]?=some true↔(_/\t<s.at_+1/\_)
   by_cases e:t=s.at_
   ·subst e;rw[List.getElem?_set_self (by rw[h.D];exact hlt)];exact⟨fun _=>⟨by show 2<=s.ph;omega,by omega,d1,d2⟩,fun _=>rfl⟩
   ·rw[List.getElem?_set_ne bc,hI.D t]
    constructor
    ·rintro⟨q1,q2,q3⟩;exact⟨q1,by omega,q3⟩
    ·rintro⟨q1,q2,q3⟩;exact⟨q1,by omega,q3⟩
  ·have hne:s.at_≠t:=fun e=>by subst e;rw [show s.A[s.at_]?=some false from ht] at hg;cases hg.1
   exact(jf0 ok h.w.x hy hne).zero (hI.zr t ht)
  ·by_cases e:s.at_=t
   ·subst e;exact jid ok h.w.x hy
   ·have ht':(s.D.set s.at_ true)[t]?=some true:=ht
    rw[List.getElem?_set_ne e] at ht';exact(jf0 ok h.w.x hy e).zero (hI.dz t ht')
 ·rename_i hg
  cases hs
  refine⟨hI.len,hI.sA,hI.up,hI.cl,hI.nP,hI.nw,fun e=>(by rw[show s.ph=1 from e] at h2;cases h2),fun e=>hI.p2 e,fun t=>?_,hI.zr,hI.dz⟩
  show s.D[t]?=some true↔(2<=s.ph/\t<s.at_+1/\_)
  rw[hI.D t]
  constructor
  ·rintro⟨q1,q2,q3⟩;exact⟨q1,by omega,q3⟩
  ·rintro⟨q1,q2,q3⟩;refine⟨q1,?_,q3⟩
   rcases Nat.lt_or_ge t s.at_ with e|e
   ·exact e
   ·have:t=s.at_:=by omega
    subst this;exact absurd (hd.2 q3) hg
theorem CyI.step (ok:jh g) (h:jp g long s) (hI:CyI g S0 A0 s) {k u:Int} (hs:stepC g long nw s k u=some s'):CyI g S0 A0 s':=by
 unfold stepC at hs
 split at hs
 ·rename_i h1
  cases hm:stepM g long s.W s.m k u with
  |none=>rw [hm] at hs;cases hs
  |some m'=>rw [hm] at hs;cases hs;exact CyI.made (jco ok h h1 hm) (hI.mark ok h h1 hm)
 ·split at hs
  ·rename_i h2
   cases hm:sweepC g s with
   |none=>rw [hm] at hs;cases hs
   |some q=>rw [hm] at hs;cases hs;exact CyI.made (jbw ok h h2.1 hm).1 (hI.sweep ok h h2.1 hm)
  ·cases hs
theorem CyI.help (ok:jh g) (h:jp g long s) (hI:CyI g S0 A0 s) (hs:jM g long s=some s'):CyI g S0 A0 s':=by
 unfold jM at hs
 split at hs
 ·rename_i h1
  cases hm:JK g long s.W s.m with
  |none=>rw [hm] at hs;cases hs
  |some m'=>
   rw[hm] at hs;cases hs
   obtain⟨k,u,hk⟩:=jcg hm
   exact CyI.made (jco ok h h1 hk) (hI.mark ok h h1 hk)
 ·split at hs
  ·rename_i h2
   cases hm:sweepC g s with
   |none=>rw [hm] at hs;cases hs
   |some q=>rw [hm] at hs;cases hs;exact CyI.made (jbw ok h h2 hm).1 (hI.sweep ok h h2 hm)
  ·cases hs
theorem CyI.begin (h:jp g long s) (h0:s.ph=0) (hT:CyT g s):CyI g (RchM g s.W) s.A (beginC g s):=by
 obtain⟨a,b,c,d⟩:=h.p0 h0
 have hP: ∀ t,NwP (RchM g s.W) s.A s.A t↔RchM g s.W t:=fun t=>by
  constructor
  ·rintro(e|⟨e1,e2⟩)
   ·exact e
   ·rw[e1] at e2;cases e2
  ·exact .inl
 refine⟨rfl,fun t ht=>hT.tk.rch ht,fun t ht=>ht,rch_cls.iff fun t=>(hP t).symm,new_only,fun t e1 e2=>?_,fun _ t ht=>new_prot h.w ht,fun e=>absurd (show 2<=1 from e) bn,fun t=>?_,hT.zr,fun t ht=>?_⟩
 ·rw[show s.A[t]?=some true from e1] at e2;cases e2
 ·show s.D[t]?=some true↔(2<=1/\_)
  rw[d,List.getElem?_replicate]
  constructor
  ·intro e;split at e<;>cases e
  ·rintro⟨e,_⟩;omega
 ·have ht':s.D[t]?=some true:=ht
  rw[d,List.getElem?_replicate] at ht'
  split at ht'<;>cases ht'
theorem CyI.publish (h:jp g long s) (hI:CyI g S0 A0 s) (h3:s.ph=3) (gens:Int):(∀ t:Nat,(publishC g gens s).A[t]?=some true↔NwP S0 A0 s.A t)/\CyT g (publishC g gens s):=by
  obtain⟨a,b,c⟩:=h.p3 h3
  have hD: ∀ t:Nat,s.D[t]?=some true↔(A0[t]?=some true/\ ¬S0 t):=fun t=>by
    rw[hI.D t,h3,c]
    constructor
    ·rintro⟨_,_,q⟩;exact q
    · intro q
      refine⟨by decide,?_,q⟩
      have:=jl q.1
      rwa[hI.len,h.A] at this
  have hga:(jah s.A s.D).2=ja1 s.A s.D:=by
    unfold jah;rw[if_pos (h.D.trans h.A.symm),if_pos (jfA fun i hi=>hI.up i ((hD i).1 hi).1)]
  have hget: ∀ t:Nat,(ja1 s.A s.D)[t]?=(s.A[t]?).map fun a=>a&&!((s.D[t]?).getD false):=fun t=>jd4 t (h.A.trans h.D.symm)
  have hA: ∀ t:Nat,(publishC g gens s).A[t]?=some true↔NwP S0 A0 s.A t:=fun t=>by
    show(jah s.A s.D).2[t]?=some true↔_
    rw[hga,hget]
    constructor
    · intro e
      cases hAt:s.A[t]? with
      |none=>rw [hAt] at e;cases e
      |some v=>
        rw[hAt] at e;simp only[Option.map_some,Option.some.injEq,Bool.and_eq_true,Bool.not_eq_true'] at e
        obtain⟨rfl,e2⟩:=e
        have hnd: ¬s.D[t]?=some true:=fun hd=>by rw[hd] at e2;cases e2
        rw[hD] at hnd
        rcases bit_some (l:=A0) (t:=t) (by rw[hI.len];exact jl hAt) with q|q
        · left
          exact Classical.byContradiction fun hS=>hnd ⟨q,hS⟩
        ·exact .inr ⟨hAt,q⟩
    · intro hp
      have hAt:=hI.pA hp
      have hnd: ¬s.D[t]?=some true:=fun hd=>by
        obtain⟨q1,q2⟩:=(hD t).1 hd
        rcases hp with q|q
        ·exact q2 q
        ·rw[q1] at q;cases q.2
      rw[hAt];simp only[Option.map_some,Option.some.injEq,Bool.true_and,Bool.not_eq_true']
      cases hd:s.D[t]? with
      |none=>rfl
      | some v => cases v
                  ·rfl
                  ·exact absurd hd hnd
  refine⟨hA,⟨(hI.cl.recy gens).iff fun t=>(hA t).symm,fun t ht=>?_⟩⟩
  have ht':(jah s.A s.D).2[t]?=some false:=ht
  rw[hga,hget] at ht'
  cases hAt:s.A[t]? with
  |none=>rw [hAt] at ht';cases ht'
  |some v=>
    rw[hAt] at ht'
    cases v with
    |false=>exact hI.zr t hAt
    |true=>
      refine hI.dz t ?_
      cases hd:s.D[t]? with
      |none=>rw [hd] at ht';cases ht'
      | some v => cases v
                  ·rw[hd] at ht';cases ht'
                  ·rfl
end
section
variable {g : PlG} {long nw : Nat} {s s' : CyP} {S0 : Nat -> Prop} {A0 : List Bool} {P : Nat -> Prop} {W : MwP} {m : MaP}
theorem jg2 (t:Int):shdC g long s t={s with m:=if s.ph=1 then jZ g long s.m t else s.m}:=by
 unfold shdC;split<;>rfl
theorem shdS_neg {t:Int} (h: ¬t>=0):jZ g long m t=m:=by unfold jZ;rw [if_neg];rintro⟨a,_⟩;omega
theorem jkt (t:Int):shdO g long s t={s with m:=if s.ph=1 then jZ g long s.m t else s.m}:=by
 unfold shdO
 split
 ·exact jg2 t
 ·rename_i h;rw [shdS_neg h,ite_self]
structure ActN (g:PlG) (P:Nat->Prop) (s s':CyP):Prop where
 A:s'.A=s.A
 D:s'.D=s.D
 ph:s'.ph=s.ph
 at_:s'.at_=s.at_
 cl:Cls g s'.W P
 nP:jbe P s.m->jbe P s'.m
 nw: ∀ t,NW s.m t->NW s'.m t
 kp:s.ph=1->JM g s.W s'.W s.m s'.m
 w: ∀ t,¬P t->jaI g s.W.x s'.W.x t
theorem ActN.refl (h:Cls g s.W P):ActN g P s s:=⟨rfl,rfl,rfl,rfl,h,fun h=>h,fun _ h=>h,fun _=>JM.refl,fun _ _=>jaI.refl⟩
theorem jex (ok:jh g) (hm:jw g long W m) (hi:jau m) {t:Int} (ht: ∀ n:Nat,t=n->P n) (h:jbe P m):jbe P (jZ g long m t):=fun n hn=>by
 cases ha:m.act with
 |false=>rw [jf4 ha] at hn;exact h n hn
 |true=>
  rw[jja hm ha] at hn
  rcases(shade_keep (W':=W) ok hm hi t).2.2.2 n hn with e|e
  ·exact h n e
  ·exact ht n e
theorem jhp (ok:jh g) (h:jp g long s) {a:jcu} (h2: ¬a.w%10<2) (hm':s'={s with W:=JR g s.W a,m:=if s.ph=1 then jas g long s.W s.m a else s.m}) (hcl:Cls g (JR g s.W a) P)
  (hn:jbe P s.m->jbe P (jas g long s.W s.m a)) (hw: ∀ t,¬P t->jaI g s.W.x (JR g s.W a).x t):ActN g P s s':=by
 subst hm';refine⟨rfl,rfl,rfl,rfl,hcl,fun e=>?_,fun t ht=>?_,fun e=>?_,hw⟩
 ·show jbe P (if s.ph=1 then _ else _)
  split
  ·exact hn e
  ·exact e
 ·show NW (if s.ph=1 then _ else _) t
  split
  ·rename_i h1
   exact(jj7 ok h.m h.w h.i (h.p1 h1).1 h2).2.nw t ht
  ·exact ht
 ·show JM g _ _ _ (if s.ph=1 then _ else _)
  rw[if_pos (show s.ph=1 from e)];exact(jj7 ok h.m h.w h.i (h.p1 e).1 h2).2
theorem jbP {sl:Int} (h:inS g sl): ∃ n:Nat,sl=n/\n<g.slots:=⟨sl.toNat,by have:=h.1;omega,by have:=h.1;have:=h.2;omega⟩
theorem refO_of {x:List Int} {n:Nat} {i:Int} (h0:(refP x g.slots (jv g (n:Nat)) i).2=0) {u:Nat} (hu:(refP x g.slots (jv g (n:Nat)) i).1=(u:Nat)):refO g x (n:Nat) i=some (u:Nat):=by
 unfold refO;rw [if_pos ⟨h0,by omega⟩,hu];rfl
theorem sets_N (ok:jh g) (h:jp g long s) (hcl:Cls g s.W P) {a:jaW}:ActN g P s (jbR g long s a):=by
 unfold jbR
 cases hs:Ji s.W.T a.n with
 |none=>exact ActN.refl hcl
 |some sl=>
  dsimp only
  have hin:=jaT h.w hs
  split
  ·exact ActN.refl hcl
  ·rename_i hto
   split
   ·exact ActN.refl hcl
   ·rename_i h0
    have h0:(refP s.W.x g.slots (jv g sl) a.i).2=0:=Classical.byContradiction h0
    obtain⟨n,rfl,hn⟩:=jbP hin
    obtain⟨y,hy⟩:=Je hn
    have hPn:P n:=hcl.slot hs
    have hPo: ∀ u:Nat,(refP s.W.x g.slots (jv g (n:Nat)) a.i).1=(u:Nat)->P u:=fun u hu=>hcl.edge hPn (refO_of h0 hu)
    have hPt: ∀ u:Nat,toC s.W.T a.t=(u:Nat)->P u:=fun u hu=>by
     unfold toC at hu
     split at hu
     ·omega
     ·rename_i hge
      cases ht:Ji s.W.T a.t with
      |none=>exact absurd ⟨by omega,by rw[ht];rfl⟩ hto
      |some v=>rw [ht] at hu;simp only[Option.getD_some] at hu;subst hu;exact hcl.slot ht
    have hA:JR g s.W ⟨2,(n:Nat),a.i,toC s.W.T a.t,0,0⟩={s.W with x:=(Jp s.W.x g.slots (jv g (n:Nat)) a.i (toC s.W.T a.t)).2}:=jj8 hin h0
    have hK:jas g long s.W s.m ⟨2,(n:Nat),a.i,toC s.W.T a.t,0,0⟩=jZ g long (jZ g long s.m (refP s.W.x g.slots (jv g (n:Nat)) a.i).1) (toC s.W.T a.t):=by
     unfold jas oldS;dsimp only;rw [if_neg bn,if_pos bn,if_pos ⟨hin,h0⟩]
    refine jhp (a:=⟨2,(n:Nat),a.i,toC s.W.T a.t,0,0⟩) ok h (by show ¬2%10<2;decide) ?_ ?_ ?_ ?_
    ·rw[hA,hK,jkt,jkt];unfold putC;dsimp only
     split<;>rfl
    ·rw[hA,jY hy];exact hcl.set ok h.w.x hy hPt
    ·rw[hK];intro e
     have m1:=jfg ok h.m (refP s.W.x g.slots (jv g (n:Nat)) a.i).1
     have e1:=jex ok h.m h.i hPo e
     cases ha:s.m.act with
     |false=>rw [jf4 ha,jf4 ha];exact e
     |true=>exact jex ok m1 (jcy (W':=s.W) ok h.m h.i ha _).1 hPt e1
    ·intro t ht;rw[hA,jY hy]
     exact jhM ok hy fun e=>ht (e▸hPn)
theorem acts_N (ok:jh g) (h:jp g long s) (hcl:Cls g s.W P) {a:jaW} (ha: ¬a.w%6<2):ActN g P s (doesC g long s a):=by
 unfold doesC;rw[if_neg ha]
 split
 ·exact sets_N ok h hcl
 ·cases hs:Ji s.W.T a.n with
  |none=>exact ActN.refl hcl
  |some sl=>
   dsimp only
   have hin:=jaT h.w hs
   obtain⟨n,rfl,hn⟩:=jbP hin
   have hPn:P n:=hcl.slot hs
   have hPu: ∀ u:Nat,((n:Nat):Int)=(u:Nat)->P u:=fun u hu=>by rw[<-Int.ofNat_inj.1 hu];exact hPn
   split
   ·refine jhp (a:=⟨5,0,a.n,0,0,0⟩) ok h (by show ¬5%10<2;decide) ?_ ?_ ?_ ?_
    ·have hK:jas g long s.W s.m ⟨5,0,a.n,0,0,0⟩=jZ g long s.m (n:Nat):=by
      unfold jas;dsimp only;rw[if_neg bn,if_neg bn,if_pos bn,hs]
     rw[jdZ,jg2,hK]
    ·rw[jdZ];exact hcl.drop _
    ·unfold jas;dsimp only;rw[if_neg bn,if_neg bn,if_pos bn,hs];exact jex ok h.m h.i hPu
    ·rw[jdZ]
     exact fun t _=>jaI.refl
   ·split
    ·refine⟨rfl,rfl,rfl,rfl,hcl.pin hPn,fun e=>e,fun _ e=>e,fun _=>?_,fun _ _=>jaI.refl⟩
     refine jcY (W':={s.W with N:=JQ s.W.N n}) rfl (fun r t hr=> .inr ?_) fun t u i hr=> .inr hr
     unfold jL at hr|-;dsimp only
     cases he:s.W.T[r]? with
     |some e=>rw [he] at hr;exact hr
     |none=>
      rw[he] at hr;dsimp only at hr|-
      split at hr
      ·rename_i hp;rw [if_pos (jjv hp)];exact hr
      ·cases hr
    ·refine jhp (a:=⟨7,(n:Nat),0,0,0,0⟩) ok h (by show ¬7%10<2;decide) ?_ ?_ ?_ ?_
     ·have hK:jas g long s.W s.m ⟨7,(n:Nat),0,0,0,0⟩=jZ g long s.m (n:Nat):=by
       unfold jas;dsimp only;rw[if_neg bn,if_neg bn,if_neg bn,if_pos bn]
      rw[jdq hin,jg2,hK]
     ·rw[jdq hin];exact hcl.unpin _
     ·unfold jas;dsimp only;rw[if_neg bn,if_neg bn,if_neg bn,if_pos bn];exact jex ok h.m h.i hPu
     ·rw[jdq hin]
      exact fun t _=>jaI.refl
theorem CyT.act (hT:CyT g s) (h:ActN g (fun t=>s.A[t]?=some true) s s'):CyT g s':=by
 refine⟨h.cl.iff fun t=>by rw[h.A],fun t ht=>?_⟩;rw[h.A] at ht;exact(h.w t (fun e=>by rw[ht] at e;cases e)).zero (hT.zr t ht)
theorem CyI.act (hI:CyI g S0 A0 s) (h:ActN g (NwP S0 A0 s.A) s s'):CyI g S0 A0 s':=by
 refine⟨by rw[h.A];exact hI.len,hI.sA,by rw[h.A];exact hI.up,by rw[h.A];exact h.cl,by rw[h.A];exact h.nP hI.nP,fun t a b=>h.nw t (hI.nw t (by rw[<-h.A];exact a) b),fun e t ht=>?_,fun e t ht=>h.nw t (hI.p2 (by rw[<-h.ph];exact e) t ht),fun t=>by rw[h.D,h.ph,h.at_];exact hI.D t,fun t ht=>?_,fun t ht=>?_⟩
 ·rw[h.ph] at e;exact(hI.p1 e t ht).keep (h.kp e)
 ·rw[h.A] at ht;exact(h.w t (fun e=>by rw[hI.pA e] at ht;cases ht)).zero (hI.zr t ht)
 ·rw[h.D] at ht;refine(h.w t fun e=>?_).zero (hI.dz t ht)
  obtain⟨_,_,q1,q2⟩:=(hI.D t).1 ht
  rcases e with e|e
  ·exact q2 e
  ·rw[q1] at e;cases e.2
theorem jl4 {j:Nat} (hz: ∀ i,refO g W.x (j:Nat) i=none):JM g W W m (Jd m j):=by
 unfold Jd
 split
 ·refine⟨fun t ⟨c,h1,h2⟩=>?_,fun r t a b c=> .inr ⟨a,b,c⟩,fun t u i a b=> .inr ⟨.inl ?_,b⟩,fun t u i a b=> .inr ⟨a,b⟩⟩
  ·by_cases e:t=j
   ·subst e;exact⟨2,List.getElem?_set_self (jl h1),by decide⟩
   ·exact⟨c,by show(m.C.set j 2)[t]?=_;rw [List.getElem?_set_ne bc];exact h1,h2⟩
  ·have e:t≠j:=fun e=>by rw[e,hz] at b;cases b
   show(m.C.set j 2)[t]?=_
   rw[List.getElem?_set_ne bc];exact a
 ·exact JM.refl
theorem jl2 {j:Nat} (h:jbe P m):jbe (fun t=>P t\/t=j) (Jd m j):=fun t ht=>by
 unfold Jd at ht
 split at ht
 ·by_cases e:t=j
  ·exact .inr e
  ·obtain⟨c,h1,h2⟩:=ht
   have h1':(m.C.set j 2)[t]?=some c:=h1
   rw[List.getElem?_set_ne bc] at h1';exact .inl (h t ⟨c,h1',h2⟩)
 ·exact .inl (h t ht)
theorem jl1 {j:Nat} (ha:m.act=true) (hj:j<m.C.length):NW (Jd m j) j:=by
 unfold Jd;rw [if_pos ha];exact⟨2,List.getElem?_set_self hj,by decide⟩
theorem mint_old {sl:Int} {r:Nat} {u:Nat} (h:jL g W r=some (u:Nat)):jL g {W with T:=jS W.T sl} r=some (u:Nat):=by
 refine jhv (W:=W) (W':={W with T:=jS W.T sl}) jbk rfl h fun hr=>?_
 dsimp only;unfold jS
 split
 ·rename_i j hj
  obtain⟨⟨e,g1,g2⟩,_⟩:=jbK hj
  by_cases hjr:j=r
  ·subst hjr
   exfalso
   unfold jL at h;rw[g1] at h;dsimp only at h;rw[if_neg bc] at h;cases h
  ·rw[List.getElem?_set_ne hjr]
 ·rfl
structure MakeN (g:PlG) (s s':CyP) (j:Nat):Prop where
 jf:s.A[j]?=some false
 A:s'.A=s.A.set j true
 m:s'.m=Jd s.m j
 D:s'.D=s.D
 ph:s'.ph=s.ph
 at_:s'.at_=s.at_
 cl: ∀ P,Cls g s.W P->jbT g s.W.x j->Cls g s'.W (fun t=>P t\/t=j)
 w: ∀ t:Nat,t≠j->jaI g s.W.x s'.W.x t
 kp:jbT g s.W.x j->JM g s.W s'.W s.m (Jd s.m j)
theorem makes_N (ok:jh g) (h:jp g long s) {a:jaW}:makesC g s a=s\/ ∃ j,MakeN g s (makesC g s a) j:=by
 unfold makesC
 split
 ·rename_i hc
  right
  obtain⟨k,j,_,_,hf,ht,_⟩:=jdt hc.1
  obtain⟨_,_,h3,_⟩:=jcA hf
  have hl:=jl h3
  rw[h.A] at hl
  obtain⟨y,hy⟩:=Je hl
  rw[ht];dsimp only;rw[jY hy,Int.toNat_natCast];refine⟨j,h3,rfl,rfl,rfl,rfl,rfl,fun P hP hz=>?_,fun t ht=>jgh ok h.w.x hy _ (fun e=>ht e.symm),fun hz=>?_⟩
  ·exact((hP.new ok hz).mint (.inr rfl)).make (W:={s.W with T:=jS s.W.T (j:Nat)}) ok h.w.x hy
  ·refine(jcY (W':={s.W with T:=jS s.W.T (j:Nat),x:=(makeP s.W.x y (hdM y a.i)).2}) jbk (fun r u hr=> .inr (mint_old hr)) fun t u i hr=> .inr ?_).trans (jl4 fun i=>?_)
   ·have e:j≠t:=fun e=>by rw[<-e,hz.refO ok] at hr;cases hr
    show refO g (makeP s.W.x y _).2 _ _=_
    rw[jeF ok (jgh ok h.w.x hy _ e)];exact hr
   ·cases hr:refO g (makeP s.W.x y (hdM y a.i)).2 (j:Nat) i with
    |none=>rfl
    |some u=>have:=jiE ok h.w.x hy hr;rw [hz.refO ok] at this;cases this
 ·exact .inl rfl
theorem jeV {A:List Bool} {j t:Nat} (hj:j<A.length):(A.set j true)[t]?=some true↔A[t]?=some true\/t=j:=by
 by_cases e:t=j
 ·subst e;rw [List.getElem?_set_self hj];exact⟨fun _=> .inr rfl,fun _=>rfl⟩
 ·rw[List.getElem?_set_ne bc];exact⟨.inl,fun q=>q.resolve_right e⟩
theorem jin {A:List Bool} {j t:Nat} (hj:j<A.length):(A.set j true)[t]?=some false↔A[t]?=some false/\t≠j:=by
 by_cases e:t=j
 ·subst e;rw [List.getElem?_set_self hj];exact⟨fun q=>(by cases q),fun q=>absurd rfl q.2⟩
 ·rw[List.getElem?_set_ne bc];exact⟨fun q=>⟨q,e⟩,fun q=>q.1⟩
theorem CyT.make {j:Nat} (hT:CyT g s) (h:MakeN g s s' j):CyT g s':=by
 have hj:=jl h.jf
 refine⟨(h.cl _ hT.tk (hT.zr j h.jf)).iff fun t=>by rw[h.A,jeV hj],fun t ht=>?_⟩;rw[h.A,jin hj] at ht;exact(h.w t ht.2).zero (hT.zr t ht.1)
theorem CyI.make {j:Nat} (ok:jh g) (hk:jp g long s) (h1:1<=s.ph) (hI:CyI g S0 A0 s) (h:MakeN g s s' j):CyI g S0 A0 s':=by
 have hj:=jl h.jf
 have hz:=hI.zr j h.jf
 have hk':=h.kp hz
 have ha:s.m.act=true:=by
  have:=hk.ph
  rcases(show s.ph=1\/s.ph=2\/s.ph=3 by omega) with e|e|e
  ·exact(hk.p1 e).1
  ·exact(hk.p2 e).1
  ·exact(hk.p3 e).1
 have hj0:A0[j]?=some false:=by
  rcases bit_some (l:=A0) (t:=j) (by rw[hI.len];exact hj) with e|e
  ·have:=hI.up j e;rw [h.jf] at this;cases this
  ·exact e
 have hP: ∀ t,(NwP S0 A0 s.A t\/t=j)↔NwP S0 A0 s'.A t:=fun t=>by
  unfold NwP;rw[h.A,jeV hj]
  constructor
  ·rintro((e|⟨e1,e2⟩)|e)
   ·exact .inl e
   ·exact .inr ⟨.inl e1,e2⟩
   ·exact .inr ⟨.inr e,by rw[e];exact hj0⟩
  ·rintro(e|⟨e1|e1,e2⟩)
   ·exact .inl (.inl e)
   ·exact .inl (.inr ⟨e1,e2⟩)
   ·exact .inr e1
 refine⟨by rw[h.A,List.length_set];exact hI.len,hI.sA,fun t ht=>?_,(h.cl _ hI.cl hz).iff hP,fun t ht=>?_,fun t a b=>?_,fun e t ht=>?_,fun e t ht=>?_,fun t=>by rw[h.D,h.ph,h.at_];exact hI.D t,fun t ht=>?_,fun t ht=>?_⟩
 ·rw[h.A,jeV hj];exact .inl (hI.up t ht)
 ·rw[h.m] at ht;exact(hP t).1 (jl2 hI.nP t ht)
 ·rw[h.A,jeV hj] at a;rw[h.m]
  rcases a with a|a
  ·exact hk'.nw t (hI.nw t a b)
  ·rw[a];exact jl1 ha (by rw[hk.m.C,<-hk.A];exact hj)
 ·rw[h.ph] at e;rw[h.m];exact(hI.p1 e t ht).keep hk'
 ·rw[h.ph] at e;rw[h.m];exact hk'.nw t (hI.p2 e t ht)
 ·rw[h.A,jin hj] at ht;exact(h.w t ht.2).zero (hI.zr t ht.1)
 ·rw[h.D] at ht;refine(h.w t fun e=>?_).zero (hI.dz t ht)
  obtain⟨_,_,q1,_⟩:=(hI.D t).1 ht
  rw[e,hj0] at q1;cases q1
theorem CyT.does (ok:jh g) (h:jp g long s) (hT:CyT g s) {a:jaW}:CyT g (doesC g long s a):=by
 by_cases ha:a.w%6<2
 ·have e:doesC g long s a=makesC g s a:=by unfold doesC;rw [if_pos ha]
  rw[e]
  rcases makes_N ok h (a:=a) with e|⟨j,e⟩
  ·rw[e];exact hT
  ·exact hT.make e
 ·exact hT.act (acts_N ok h hT.tk ha)
theorem CyI.does (ok:jh g) (h:jp g long s) (h1:1<=s.ph) (hI:CyI g S0 A0 s) {a:jaW}:CyI g S0 A0 (doesC g long s a):=by
 by_cases ha:a.w%6<2
 ·have e:doesC g long s a=makesC g s a:=by unfold doesC;rw [if_pos ha]
  rw[e]
  rcases makes_N ok h (a:=a) with e|⟨j,e⟩
  ·rw[e];exact hI
  ·exact hI.make ok h h1 e
 ·exact hI.act (acts_N ok h hI.cl ha)
