/-The walker and the contracts that the law needs,part 24. -/
import Derived.Test.YtldomapkmopomaaGreatDoorD1
import Derived.ArgAppend
import Derived.ChangeMaps5
import Derived.Deep.Fields
import Derived.Deep.LoopGhost
import Derived.Deep.OwnRows
import Derived.Deep.Quiet
import Derived.Deep.Slices
import Derived.IntWalk
import Derived.Laws.Cells
import Derived.Laws.CopyOwn
import Derived.Laws.Externs
import Derived.Laws.FloatArith
import Derived.Laws.IdiomStrings
import Derived.Laws.NewFold
import Derived.Laws.StructEq
import Derived.Lib.BitFns
import Derived.Lib.Hide
import Derived.Lib.SmallJoins
import Derived.Lib.TrailingZeros
import Derived.Maps.RangeRun
import Derived.OrdersIn
import Derived.ProofKit
import Derived.RangeFuncBound
import Derived.RangeFuncCalls
import Derived.RangeFuncLeaves
import Derived.RangeFuncNested
import Derived.RecoverIn
import Derived.Shelf.Bits.Mul64
import Derived.Shelf.Slices.Turned
import Derived.Shelf.Spec.TrailingZeros
import Derived.Shelf.Strconv.Itoa0
import Derived.SizedLaws
import Derived.Sort.BigQuietIn
import Derived.StillTailTactics
import Derived.Test.YtldomapkmopomaaGreatDoorProg
import Derived.WalkKit
import Derived.Test.YtldomapkmopomaaGreatDoorJ21
import Derived.Test.YtldomapkmopomaaGreatDoorJ22
import Derived.Test.YtldomapkmopomaaGreatDoorJ23
set_option linter.unusedVariables false set_option linter.unusedSimpArgs false namespace Go.Proofs.YtldomapkmopomaaGreatDoor.Sw
set_option maxHeartbeats 8000000
open Go.Proofs.YtldomapkmopomaaGreatDoor renaming lo → qL, hi → qH
open Go.RowKit
set_option linter.unusedVariables false
set_option linter.unusedSimpArgs false
set_option maxRecDepth 10000
theorem Base_K {w0:World} {H:jb} {c:Cfg} {vc vt:Value} {t:Int} (hR:j1 w0 H c vc vt):
  Call Tryz.prog w0 99 [jt c vc vt, .int .i64 t] H (fun r H'=>r=prV (jaU c t)∧H'=H):=by
 have hc0:=fun A (hp:Part A H)=>jfS (t:=t) (k:=0) (hR.part hp)
 cases ht:thereP c t 0 with
 |false=>
  have he:jaU c t=(0,2):=by simp[jaU,ht]
  rw[ht] at hc0;rw[he]
  obtain⟨hS,hT',o1,o2,l1,l2⟩:=hR
  obtain⟨cl,page,tn,workers,grey,gens⟩:=c
  dsimp only at hS hT' l1 l2 he;simp only[jt,jJ] at hc0⊢;refine Call.enter2 (n:=16) (by kernel_rfl) Tryz.func99 rfl rfl rfl ?_;refine yr2 ?_;refine ze ?_;intro b2;refine yq9 fun T hT=>?_;refine zD ?_;rintro _ _ ⟨rfl,rfl⟩;refine za ?_;clear hT T;refine yr12 ?_;exact zd
 |true=>
  obtain⟨i,j,x,y,rfl,_,hx,hy,ok⟩:=ja9 ht
  have hil:=jl hx
  have hok:=ok.tn
  have hcp:jT c=true:=by simp only[thereP,Bool.and_eq_true] at ht;exact ht.1
  have he:jaU c (i:Nat)=(sumN (fun i=>wordsP c (i:Nat)) i,0):=by simp[jaU,ht]
  have hc1:=fun k b1 (hk:k<c.tn.length)=>base1_K (b1:=b1) hR hcp hk
  have hB:=fun k (hk:k<c.tn.length)=>jcJ hcp hk
  rw[ht] at hc0;rw[he]
  obtain⟨f,hf⟩: ∃ f:Nat→Int,f=fun i=>wordsP c (i:Nat):=⟨_,rfl⟩
  have hfi: ∀ i,wordsP c (i:Nat)=f i:=fun i=>by rw[hf]
  rw[←hf];simp only[hfi] at hB hc1
  obtain⟨hS,hT',o1,o2,l1,l2⟩:=hR
  obtain⟨cl,page,tn,workers,grey,gens⟩:=c
  dsimp only at hS hT' l1 l2 he hok hB hc1 hil hx hy⊢;simp only[jt,jJ] at hc0 hc1⊢
  have htl:(tn.take i).length=i:=by rw[List.length_take];omega
  have hT2:Sli w0 H tnE (j5 vt 0 i tnE.sz) (tn.take i):=hT'.sub (Nat.zero_le _) (by omega)
  refine Call.enter2 (n:=16) (by kernel_rfl) Tryz.func99 rfl rfl rfl ?_;refine yr2 ?_;refine ze ?_;intro b2;refine yq9 fun T hT=>?_;refine zD ?_;rintro _ _ ⟨rfl,rfl⟩;refine za ?_;clear hT T;refine yq13 fun T hT=>?_;refine(CallV.part (CallV.fn (sumT_K (H:=(b2,cells [vc, .int .i64 page,vt, .int .i64 workers, .int .i64 grey, .int .i64 gens] 25)::H) (l:=tn.take i) (f:=f) (hT2.part ja) (by omega) (fun k hk=>hB k (by omega)) ?_)) ja).mono ?_
  ·intro k hk;exact CallV.clo (cap:=[_]) (hc1 k _ (by omega))
  ·refine zq ?_;rw[htl];refine za ?_;clear hT T;refine yr5 ?_;exact zd
set_option maxRecDepth 10000
theorem jfx {w0:World} {H:jb} {c:Cfg} {vc vt:Value} {t k:Int} (hR:j1 w0 H c vc vt):
  Call Tryz.prog w0 64 [jt c vc vt, .int .i64 t, .int .i64 k] H (fun r H'=>r= .bool (thereP c t k)∧H'=H):=by
 have hc0:=fun A (hp:Part A H)=>jeK (hR.part hp)
 obtain⟨hS,hT',o1,o2,l1,l2⟩:=hR
 have he:thereP c t k=(jT c&&(rnP t 0 ((c.tn.length:Nat)-1)&&rnP k 0 ((c.cl.length:Nat)-1))):=by
  simp only[thereP,JX,rnP,Bool.and_true,Bool.and_assoc]
 obtain⟨cl,page,tn,workers,grey,gens⟩:=c
 dsimp only at hS hT' l1 l2 he;simp only[jt,jJ] at hc0⊢;refine Call.enter3 (n:=26) (by kernel_rfl) Tryz.func64 rfl rfl rfl ?_;refine yr2 ?_;refine ze ?_;intro b3;refine yq6 fun T hT=>?_;refine zD ?_;rintro _ _ ⟨rfl,rfl⟩
 cases hc:jT ⟨cl,page,tn,workers,grey,gens⟩ with
 |false=>
  rw[hc,Bool.false_and] at he;refine zd2 ?_;clear hT T;refine yr21 ?_;exact zaM
 |true=>
  rw[hc,Bool.true_and] at he;simp only[errB,if_true];refine za ?_;clear hT T;refine yq13 fun T hT=>?_;refine zaQ ?_
  cases g1:rnP t 0 ((tn.length:Nat)-1) with
  |false=>
   rw[g1,Bool.false_and] at he;refine za ?_;clear hT T;refine yr13 ?_;exact zaM
  |true=>
   rw[g1,Bool.true_and] at he;refine za ?_;clear hT T;refine yq13 fun T hT=>?_;refine zfh ?_;refine zc ?_;clear hT T;refine yr5 ?_;exact zaM
theorem rSlots_K {w0:World} {H:jb} {c:Cfg} {vc vt:Value} {t k:Int} (hR:j1 w0 H c vc vt):
  Call Tryz.prog w0 131 [jt c vc vt, .int .i64 t, .int .i64 k] H (fun r H'=>r=prV (J9 c t k)∧H'=H):=by
 have hc0:=fun A (hp:Part A H)=>jfx (t:=t) (k:=k) (hR.part hp)
 obtain⟨hS,hT',o1,o2,l1,l2⟩:=hR
 cases ht:thereP c t k with
 |false=>
  have he:J9 c t k=(0,2):=by simp[J9,ht]
  rw[ht] at hc0;rw[he]
  obtain⟨cl,page,tn,workers,grey,gens⟩:=c
  dsimp only at hS hT' l1 l2 he;simp only[jt,jJ] at hc0⊢;refine Call.enter3 (n:=25) (by kernel_rfl) Tryz.func131 rfl rfl rfl ?_;refine yr2 ?_;refine ze ?_;intro b3;refine yq10 fun T hT=>?_;refine zD ?_;rintro _ _ ⟨rfl,rfl⟩;refine za ?_;clear hT T;refine yr12 ?_;exact zd
 |true=>
  obtain⟨i,j,x,y,rfl,rfl,hx,hy,ok⟩:=ja9 ht
  have he:J9 c (i:Nat) (j:Nat)=(x.quota/y,0):=by simp[J9,ht,jaK,cfgQ,cfgC,hx,hy]
  have hb:=(ok.ten x (List.mem_of_getElem? hx)).1
  have hb2:=ok.el y (List.mem_of_getElem? hy)
  have hil:=jl hx
  have hjl:=jl hy
  rw[ht] at hc0;rw[he]
  obtain⟨q,tr,cp,ax⟩:=x
  obtain⟨cl,page,tn,workers,grey,gens⟩:=c
  dsimp only at hS hT' l1 l2 he hx hy hb hb2 hil hjl;simp only[jt,jJ] at hc0⊢;refine Call.enter3 (n:=25) (by kernel_rfl) Tryz.func131 rfl rfl rfl ?_;refine yr2 ?_;refine ze ?_;intro b3;refine yq10 fun T hT=>?_;refine zD ?_;rintro _ _ ⟨rfl,rfl⟩;refine za ?_;clear hT T;refine yr7 ?_;refine zbG ?_;refine z8 ?_;refine zaD ?_;refine zcy ?_;refine zJ ?_;refine zQ ?_;refine zcn ?_;refine zaZ ?_;refine zab ?_;refine yr2 ?_;exact zd
set_option maxRecDepth 10000
theorem ceil_of {n p k:Int} (hp:1≤p) (h1:n≤k*p) (h2:k=0∨(k-1)*p<n) (hn:1≤n):(n+p-1)/p=k:=by
 have hk:k≠0:=by
  rintro rfl;rw[Int.zero_mul] at h1
  omega
 have h2':(k-1)*p<n:=by rcases h2 with h|h;exact absurd h hk;exact h
 rw[Int.sub_mul,Int.one_mul] at h2'
 obtain⟨q,hq⟩: ∃ q,q=k*p:=⟨_,rfl⟩
 rw[←hq] at h1 h2'
 have e:n+p-1=(n+p-1-q)+k*p:=by rw[←hq];omega
 rw[e,Int.add_mul_ediv_right _ _ (by omega),Int.ediv_eq_zero_of_lt (by omega) (by omega)]
 omega
structure RpS where
 k:Nat
set_option maxHeartbeats 1000000 in
theorem rPages_K {w0:World} {H:jb} {c:Cfg} {vc vt:Value} {t k:Int} (hR:j1 w0 H c vc vt):
  Call Tryz.prog w0 65 [jt c vc vt, .int .i64 t, .int .i64 k] H (fun r H'=>r=prV (pagesP c t k)∧H'=H):=by
 have hc0:=fun A (hp:Part A H)=>rSlots_K (t:=t) (k:=k) (hR.part hp)
 obtain⟨hS,hT',o1,o2,l1,l2⟩:=hR
 cases ht:thereP c t k with
 |false=>
  have he:pagesP c t k=(0,2):=by simp[pagesP,ht]
  have he2:J9 c t k=(0,2):=by simp[J9,ht]
  rw[he2] at hc0;rw[he]
  obtain⟨cl,page,tn,workers,grey,gens⟩:=c
  dsimp only at hS hT' l1 l2 he;simp only[jt,jJ] at hc0⊢;refine Call.enter3 (n:=36) (by kernel_rfl) Tryz.func65 rfl rfl rfl ?_;refine yr2 ?_;refine ze ?_;intro b3;refine yq9 fun T hT=>?_;refine zD ?_;rintro _ _ ⟨rfl,rfl⟩;simp only[prV];refine za ?_;clear hT T;refine yr24 ?_;exact zd
 |true=>
  obtain⟨i,j,x,y,rfl,rfl,hx,hy,ok⟩:=ja9 ht
  have he:pagesP c (i:Nat) (j:Nat)=(jb9 c.page x.quota y,0):=by simp[pagesP,ht,cfgQ,cfgC,hx,hy]
  have hb:=(ok.ten x (List.mem_of_getElem? hx)).1
  have hb2:=ok.el y (List.mem_of_getElem? hy)
  have hpg:=ok.page
  have hn:J9 c (i:Nat) (j:Nat)=(jaK x.quota y,0):=by simp[J9,ht,cfgQ,cfgC,hx,hy]
  have hsl:=jfs (q:=x.quota) (y:=y) (by omega) (by omega) hb.2
  have hper:1≤c.page/y∧c.page/y≤64:=⟨(Int.le_ediv_iff_mul_le (by omega)).2 (by omega),Int.le_trans (Int.ediv_le_self _ (by omega)) hpg.2⟩
  have hil:=jl hx
  have hjl:=jl hy
  rw[hn] at hc0;rw[he]
  have hpn:jb9 c.page x.quota y=(jaK x.quota y+c.page/y-1)/(c.page/y):=rfl
  rw[hpn]
  obtain⟨n,hn'⟩: ∃ n,n=jaK x.quota y:=⟨_,rfl⟩
  rw[←hn'] at hc0 hsl⊢
  obtain⟨q,tr,cp,ax⟩:=x
  obtain⟨cl,page,tn,workers,grey,gens⟩:=c
  dsimp only at hS hT' l1 l2 he hx hy hb hb2 hil hjl hpg hper;simp only[jt,jJ] at hc0⊢
  obtain⟨pr,hpr⟩: ∃ p,p=page/y:=⟨_,rfl⟩
  rw[←hpr] at hper⊢;refine Call.enter3 (n:=36) (by kernel_rfl) Tryz.func65 rfl rfl rfl ?_;refine yr2 ?_;refine ze ?_;intro b3;refine yq9 fun T hT=>?_;refine zD ?_;rintro _ _ ⟨rfl,rfl⟩;simp only[prV];refine za ?_;clear hT T;refine yr24 ?_;refine K.loopT (σ:=RpS) [(2,_),(3,_),(8,_)] (fun s kp_=>(10, .int .i64 (s.k:Nat))::kp_) (fun s=>(b3,cells [vc, .int .i64 page,vt, .int .i64 workers, .int .i64 grey, .int .i64 gens] 25)::H) (fun s=>s.k≤4096∧(s.k=0∨((s.k:Int)-1)*pr<n)) (fun s=>4096-s.k) (⟨0⟩) jg ja (⟨by simp,by simp⟩) ?_;rintro⟨u⟩ ⟨hu,hr⟩;dsimp only at hu hr⊢
  have hum:0≤(u:Int)*(page/y):=Int.mul_nonneg (by omega) (by rw[←hpr];omega)
  have hum1:(u:Int)≤(u:Int)*(page/y):=by
   have:(u:Int)*1≤(u:Int)*(page/y):=Int.mul_le_mul_of_nonneg_left (by rw[←hpr];exact hper.1) (by omega)
   omega
  have hum2:(u:Int)*(page/y)≤262144:=by
   have:(u:Int)*(page/y)≤(u:Int)*64:=Int.mul_le_mul_of_nonneg_left (by rw[←hpr];exact hper.2) (by omega)
   omega
  by_cases hlt:(u:Int)*(page/y)<n
  ·have hu4:u+1≤4096:=by omega
   have hnx:(((u+1:Nat):Int)-1)*pr<n:=by rw[show(((u+1:Nat):Int)-1)=(u:Int) by omega,hpr];exact hlt
   refine yr2 ?_;refine zfp ?_;refine zg ?_;refine zB ?_;refine zQ ?_;refine zcn ?_;refine zaZ ?_;refine zbF ?_;refine zg ?_;refine KD.v0 rfl rfl (Val.isT (Val.lss rfl rfl) jr) ?_;refine zp ?_;refine yr11 ?_;exact KE.again ⟨u+1⟩ jg ja ⟨hu4, .inr hnx⟩ (by show 4096-(u+1)<4096-u;omega)
  ·have hcl:(n+pr-1)/pr=(u:Int):=ceil_of hper.1 (by rw[hpr];omega) (by rcases hr with h|h;exact .inl (by omega);exact .inr h) (by omega)
   rw[hcl];refine yr2 ?_;refine zfp ?_;refine zg ?_;refine zB ?_;refine zQ ?_;refine zcn ?_;refine zaZ ?_;refine zbF ?_;refine zg ?_;refine zbg ?_;refine zp ?_;refine yr15 ?_;exact zd
set_option maxRecDepth 10000
section
variable {g : PlG} {long nw : Nat} {s s' : CyP} {W W' : MwP} {m : MaP}
theorem put_empty {G:GyP} {t:Nat} (h:t<G.ow.length):JU (JC g long G t)=false:=by
 unfold JU JC
 split
 ·simp
 ·have hp:0<(G.ow.set t true).count true:=List.count_pos_iff.2 (List.mem_of_getElem? (List.getElem?_set_self h))
  rw[show decide ((G.ow.set t true).count true=0)=false from decide_eq_false (by omega)]
  simp
theorem shd_done (hm:jv g long W m) (h:Jl g W m=false) (t:Int):Jl g W (jU g long m t)=false:=by
 unfold jU jaF Jh
 split
 ·split
  ·split
   ·rename_i hc
    have hl:=jl hc.2
    rw[hm.C,←hm.G.ow] at hl;unfold Jl;dsimp only;rw[put_empty hl]
    simp
   ·exact h
  ·exact h
 ·exact h
theorem jgH (h:W'.T.length=W.T.length):Jl g W' m=Jl g W m:=by unfold Jl;rw [h]
theorem jp.world (ok:je g) (h:jp g long s) {a:jbL}:jp g long {s with W:=JD g s.W a}:=
 ⟨⟨actW_ok ok h.w,actW_rf ok h.w h.rf,h.m.world jfM fun t ht hq=>jho ok h.w ht hq,h.i,h.A,h.D,h.p0,h.p1,h.p2,h.p3,h.ph,h.dn⟩,h.lt,fun e=>(jgH jfM).trans (h.go e)⟩
theorem jp.shd (ok:je g) (h:jp g long s) (t:Int):jp g long (shdC g long s t):=by
 unfold shdC
 split
 ·rename_i h1
  obtain⟨a,b,c,d⟩:=h.p1 h1
  have z:=jbO (W':=s.W) ok h.m h.i a t
  exact⟨⟨h.w,h.rf,jev ok h.m t,z.1,h.A,h.D,fun e=>(by rw[show s.ph=0 from e] at h1;cases h1),fun _=>⟨(jdA t).2.2.1.trans a,b,c,d⟩,fun e=>(by rw[show s.ph=2 from e] at h1;cases h1),fun e=>(by rw[show s.ph=3 from e] at h1;cases h1),h.ph,fun e=>absurd (show 2≤s.ph from e) (by omega)⟩,fun e=>(by rw[show s.ph=2 from e] at h1;cases h1),fun _=>shd_done h.m (h.go h1) t⟩
 ·exact h
theorem black_ok (hm:jv g long W m) (t:Nat):jv g long W (j2 m t):=by
 unfold j2
 split
 ·refine⟨by show(m.C.set _ _).length=_;rw [List.length_set];exact hm.C,fun v hv=>?_,hm.G,hm.hs,hm.h,hm.root⟩
  rcases List.mem_or_eq_of_mem_set hv with e|e
  ·exact hm.c v e
  ·exact .inr (.inr e)
 ·exact hm
theorem black_in (hi:jac m) (t:Nat):jac (j2 m t):=by
 unfold j2
 split
 ·refine⟨fun q hq=>?_,fun q hq=>?_⟩
  ·by_cases e:t=q
   ·subst e
    have hl:t<m.C.length:=by have:=jl hq;simpa using this
    have hq':(m.C.set t 2)[t]?=some 1:=hq
    rw[List.getElem?_set_self hl] at hq'
    cases hq'
   ·have hq':(m.C.set t 2)[q]?=some 1:=hq
    rw[List.getElem?_set_ne e] at hq';exact hi.grey q hq'
  ·obtain⟨c,h1,h2⟩:=hi.lst q hq
   by_cases e:t=q
   ·subst e;exact⟨2,List.getElem?_set_self (jl h1),by decide⟩
   ·exact⟨c,(List.getElem?_set_ne e).trans h1,h2⟩
 ·exact hi
theorem jda (m:MaP) (t:Nat):(j2 m t).G=m.G∧(j2 m t).hs=m.hs∧(j2 m t).root=m.root∧(j2 m t).act=m.act∧(j2 m t).steps=m.steps:=by
 unfold j2;split<;>exact⟨rfl,rfl,rfl,rfl,rfl⟩
theorem black_done (t:Nat):Jl g W (j2 m t)=Jl g W m:=by
 obtain⟨a,b,c,d,_⟩:=jda m t
 unfold Jl fullM JH;rw[a,b,c,d]
theorem jp.black (h:jp g long s) (t:Nat):jp g long {s with m:=j2 s.m t}:=by
 obtain⟨a,b,c,d,_⟩:=jda s.m t
 refine⟨⟨h.w,h.rf,black_ok h.m t,black_in h.i t,h.A,h.D,fun e=>?_,fun e=>?_,fun e=>?_,fun e=>?_,h.ph,fun e q hq=>h.dn e q ?_⟩,h.lt,fun e=>(black_done t).trans (h.go e)⟩
 ·exact⟨d.trans (h.p0 e).1,(h.p0 e).2⟩
 ·exact⟨d.trans (h.p1 e).1,(h.p1 e).2⟩
 ·exact⟨d.trans (h.p2 e).1,(h.p2 e).2⟩
 ·exact⟨d.trans (h.p3 e).1,(h.p3 e).2⟩
 ·unfold Lst at hq⊢;rw[show(({s with m:=j2 s.m t}:CyP).m)=j2 s.m t from rfl,a,b] at hq;exact hq
theorem jp.take (h:jp g long s) {A':List Bool} (hA:A'.length=s.A.length):jp g long {s with A:=A'}:=
 ⟨⟨h.w,h.rf,h.m,h.i,hA.trans h.A,h.D,h.p0,h.p1,h.p2,h.p3,h.ph,h.dn⟩,h.lt,h.go⟩
end
open Go.RowKit
set_option maxRecDepth 10000
section
variable {g : PlG} {long nw : Nat} {s s' : CyP}
theorem jdB:(goesC g s).st=s.st:=by
 unfold goesC;split
 ·rfl
 ·split<;>rfl
theorem jeC:s.ph≤(goesC g s).ph:=by
 unfold goesC;split
 ·rename_i h
  show s.ph≤if s.at_=g.slots then 3 else 2
  split<;>omega
 ·split
  ·rename_i h
   show s.ph≤3
   omega
  ·exact zO
theorem jbQ:(goesC g s).W=s.W∧(goesC g s).m=s.m∧(goesC g s).A=s.A∧(goesC g s).at_=s.at_∧(goesC g s).D=s.D:=by
 unfold goesC;split
 ·exact⟨rfl,rfl,rfl,rfl,rfl⟩
 ·split<;>exact⟨rfl,rfl,rfl,rfl,rfl⟩
theorem jfo (hs:sweepC g s=some s'):s'.st=s.st∧s'.ph=s.ph∧s'.at_=s.at_+1:=by
 unfold sweepC at hs
 split at hs
 ·split at hs<;>cases hs<;>exact⟨rfl,rfl,rfl⟩
 ·cases hs
theorem help_st (hs:helpC g long s=some s'):s'.st=s.st+1∧s.ph≤s'.ph:=by
 unfold helpC at hs
 split at hs
 ·rename_i h1
  cases hm:Jq g long s.W s.m with
  |none=>rw [hm] at hs;cases hs
  |some m'=>rw [hm] at hs;cases hs;exact⟨jdB,jeC (s:={s with m:=m',st:=s.st+1})⟩
 ·split at hs
  ·cases hm:sweepC g s with
   |none=>rw [hm] at hs;cases hs
   |some q=>
    rw[hm] at hs;cases hs
    obtain⟨a,b,_⟩:=jfo hm
    refine⟨jdB.trans (by show q.st+1=_;rw [a]),?_⟩
    have:=jeC (g:=g) (s:={q with st:=q.st+1})
    exact Nat.le_trans (Nat.le_of_eq b.symm) this
  ·cases hs
theorem step_st {k u:Int} (hs:stepC g long nw s k u=some s'):s'.st=s.st+1∧s.ph≤s'.ph:=by
 unfold stepC at hs
 split at hs
 ·cases hm:stepM g long s.W s.m k u with
  |none=>rw [hm] at hs;cases hs
  |some m'=>rw [hm] at hs;cases hs;exact⟨jdB,jeC (s:={s with m:=m',st:=s.st+1})⟩
 ·split at hs
  ·cases hm:sweepC g s with
   |none=>rw [hm] at hs;cases hs
   |some q=>
    rw[hm] at hs;cases hs
    obtain⟨a,b,_⟩:=jfo hm
    refine⟨jdB.trans (by show q.st+1=_;rw [a]),?_⟩
    have:=jeC (g:=g) (s:={q with st:=q.st+1})
    exact Nat.le_trans (Nat.le_of_eq b.symm) this
  ·cases hs
theorem step_mes (ok:je g) (h:jp g long s) {k u:Int} (hh:stepC g long nw s k u=some s'):jY g s'<jY g s:=by
 have hsl:=ok.slots
 unfold stepC at hh
 split at hh
 ·rename_i h1
  cases hm:stepM g long s.W s.m k u with
  |none=>rw [hm] at hh;cases hh
  |some m'=>
   rw[hm] at hh
   cases hh
   obtain⟨_,h2,_,_,_⟩:=jcR ok h.m hm
   refine zdj ?_;unfold jY;dsimp only;rw[if_pos h1,if_pos h1]
   omega
 ·split at hh
  ·rename_i h1 h2
   cases hm:sweepC g s with
   |none=>rw [hm] at hh;cases hh
   |some q=>
    rw[hm] at hh
    cases hh
    obtain⟨a,b,c⟩:=jfo hm
    have hlt:=h.lt h2.1
    refine zdj ?_;unfold jY;dsimp only;rw[b,c,if_neg h1,if_pos h2.1,if_neg h1,if_pos h2.1]
    omega
  ·cases hh
theorem help_sum (ok:je g) (h:jp g long s) (hs:helpC g long s=some s'):s'.st+jY g s'≤s.st+jY g s:=by
 have h1:=(help_st hs).1
 have h2:=jcM ok h hs
 omega
theorem step_sum (ok:je g) (h:jp g long s) {k u:Int} (hs:stepC g long nw s k u=some s'):s'.st+jY g s'≤s.st+jY g s:=by
 have h1:=(step_st hs).1
 have h2:=step_mes ok h hs
 omega
theorem jhk (ok:je g):(beginC g s).st+jY g (beginC g s)≤18*g.words+s.W.T.length+g.slots+1:=by
 have:=jeO (W:=s.W) ok (s.m.hs.length-1)
 show 0+(if (1:Nat)=1 then jI g s.W (jb1 g s.m)+g.slots+1 else _)≤_
 rw[if_pos rfl];unfold jb1
 omega
end
open Go.RowKit
set_option maxRecDepth 10000
structure Jz (g:PlG) (s:CyP):Prop where
 m:s.m.steps+jI g s.W s.m≤100000000
 s:s.st+jY g s≤100000000
section
variable {g : PlG} {long nw : Nat} {s s' : CyP}
theorem goes_left:(goesC g s).m.steps+jI g (goesC g s).W (goesC g s).m=s.m.steps+jI g s.W s.m:=by
 obtain⟨a,b,_⟩:=jbQ (g:=g) (s:=s)
 rw[a,b]
theorem jd8:(madeC g s).m.steps+jI g (madeC g s).W (madeC g s).m=s.m.steps+jI g s.W s.m:=goes_left (s:={s with st:=s.st+1})
theorem jgu (h:sweepC g s=some s'):s'.m.steps+jI g s'.W s'.m=s.m.steps+jI g s.W s.m:=by
 unfold sweepC at h
 split at h
 ·split at h
  ·cases h;dsimp only;rw [jeT (W':={s.W with x:=Jo s.W.x (jC g (s.at_:Nat))}) (W:=s.W) rfl]
  ·cases h;rfl
 ·cases h
theorem Jz.step (ok:je g) (hi:jp g long s) (h:Jz g s) {k u:Int} (hs:stepC g long nw s k u=some s'):Jz g s':=by
 refine⟨?_,Nat.le_trans (step_sum ok hi hs) h.s⟩
 have h1:=h.m
 unfold stepC at hs
 split at hs
 ·cases hm:stepM g long s.W s.m k u with
  |none=>rw [hm] at hs;cases hs
  |some m'=>
   rw[hm] at hs;cases hs;rw[jd8]
   obtain⟨_,h2,h3,_⟩:=jcR ok hi.m hm
   dsimp only;omega
 ·split at hs
  ·cases hm:sweepC g s with
   |none=>rw [hm] at hs;cases hs
   |some q=>rw [hm] at hs;cases hs;rw [jd8,jgu hm];exact h1
  ·cases hs
theorem Jz.help (ok:je g) (hi:jp g long s) (h:Jz g s) (hs:helpC g long s=some s'):Jz g s':=by
 refine⟨?_,Nat.le_trans (help_sum ok hi hs) h.s⟩
 have h1:=h.m
 unfold helpC at hs
 split at hs
 ·cases hm:Jq g long s.W s.m with
  |none=>rw [hm] at hs;cases hs
  |some m'=>
   rw[hm] at hs;cases hs;rw[jd8]
   obtain⟨k,u,hk⟩:=jbv hm
   obtain⟨_,h2,h3,_⟩:=jcR ok hi.m hk
   dsimp only;omega
 ·split at hs
  ·cases hm:sweepC g s with
   |none=>rw [hm] at hs;cases hs
   |some q=>rw [hm] at hs;cases hs;rw [jd8,jgu hm];exact h1
  ·cases hs
theorem Jz.begin (ok:je g) (hT:s.W.T.length≤1024):Jz g (beginC g s):=by
 have h1:=jhk (s:=s) ok
 have h2:=ok.words
 have h3:=ok.slots
 refine⟨?_,by omega⟩
 have:=jeO (W:=s.W) ok (s.m.hs.length-1)
 show 0+jI g s.W (jb1 g s.m)≤_
 unfold jb1
 omega
theorem mes_zero (h:s.ph=0∨s.ph=3):jY g s=0:=by
 unfold jY;rw [if_neg (by omega),if_neg (by omega)]
theorem Jz.publish (h:Jz g s) (gens:Int):Jz g (publishC g gens s):=by
 have h1:=h.m
 have h2:=h.s
 refine⟨?_,?_⟩
 ·show s.m.steps+jI g {s.W with T:=j9 gens s.W.T} {s.m with act:=false}≤_
  have:jI g {s.W with T:=j9 gens s.W.T} {s.m with act:=false}=jI g s.W s.m:=by
   unfold jI j9;dsimp only;rw [List.length_map]
  omega
 ·rw[mes_zero (.inl rfl)];show s.st+0≤_;omega
theorem mes_m {m':MaP} (h:jI g s.W m'≤jI g s.W s.m):jY g {s with m:=m'}≤jY g s:=by
 unfold jY;dsimp only
 split
 ·omega
 ·exact zO
theorem mes_W {W':MwP} (h:W'.T.length=s.W.T.length):jY g {s with W:=W'}=jY g s:=by
 unfold jY;dsimp only;rw [jeT h]
theorem Jz.shd (ok:je g) (hi:jp g long s) (h:Jz g s) (t:Int):Jz g (shdC g long s t):=by
 unfold shdC
 split
 ·have h1:=h.m
  have h2:=h.s
  have h3:=je2 ok hi.m t
  have h4:=(jdA (g:=g) (long:=long) (m:=s.m) t).2.2.2
  have h5:=mes_m (s:=s) h3
  exact⟨by dsimp only;omega,by dsimp only at h5⊢;omega⟩
 ·exact h
theorem jgN (hm:jv g long s.W s.m) (t:Nat):jI g s.W (j2 s.m t)≤jI g s.W s.m:=by
 obtain⟨a,b,c,d,e⟩:=jda s.m t
 unfold jI;rw[a,b,c];refine Nat.add_le_add_right ?_ _;unfold j2
 split
 ·by_cases ht:t<g.slots
  ·have:=jfO (g:=g) (C:=s.m.C) (c:=2) ht (by decide)
   dsimp only;omega
  ·dsimp only;rw[List.set_eq_of_length_le (by rw[hm.C];omega)];exact zO
 ·exact zO
theorem Jz.black (hi:jp g long s) (h:Jz g s) (t:Nat):Jz g {s with m:=j2 s.m t}:=by
 have h1:=h.m
 have h2:=h.s
 have h3:=jgN hi.m t
 have h4:=(jda s.m t).2.2.2.2
 have h5:=mes_m (s:=s) h3
 exact⟨by dsimp only;omega,by dsimp only at h5⊢;omega⟩
theorem Jz.world (h:Jz g s) {W':MwP} (hT:W'.T.length=s.W.T.length):Jz g {s with W:=W'}:=by
 have h1:=h.m
 have h2:=h.s
 exact⟨by dsimp only;rw [jeT hT];exact h1,by rw[mes_W hT];exact h2⟩
end
open Go.RowKit
set_option maxRecDepth 10000
section
variable {w0 : World} {F : jb} {t : TbM}
theorem tbturn20_K {i:Nat} {e:jj} (ok:TbOk t) (he:t.l[i]?=some e) (h0:e.st=2):
  Call Tryz.prog w0 109 [.pointer (some ⟨t.b,0,none⟩), .pointer (some (adr (oV t.o t.l.length) (i*enE.sz))), .int .i64 0] (jL t++F) (fun r H'=>r= .tuple #[]∧H'=jL ⟨t.b,t.l.set i ⟨0,e.slot,e.gen⟩,t.gens,t.o⟩++F):=by
 have ho:=ok.o
 have hn:=ok.n
 obtain⟨st,sl,ge⟩:=e
 dsimp only at h0;subst h0
 have c0:=jam he ⟨0,sl,ge⟩ 0
 have c1:=jam he ⟨0,sl,ge⟩ 1
 have c2:=jam he ⟨0,sl,ge⟩ 2
 have c3:=jam he ⟨0,sl,ge⟩ 3
 have p0:1≤j6 2 t.l:=jeG he
 have p1:=jb4 0 t.l
 have p2:=jb4 2 t.l
 simp at c0 c1 c2 c3
 have e0:((j6 2 t.l:Nat):Int)-1=((j6 2 (t.l.set i ⟨0,sl,ge⟩):Nat):Int):=by omega
 have e1:((j6 0 t.l:Nat):Int)+1=((j6 0 (t.l.set i ⟨0,sl,ge⟩):Nat):Int):=by omega
 refine zdq ?_;simp only[Jf];refine yr1 ?_;refine zbW ?_;refine zg ?_;refine zaJ ?_;refine zax ?_;dsimp only;refine zP ?_;refine zo ?_;refine zbH ?_;refine zax ?_;refine zP ?_;refine zU ?_;refine yr2 ?_;refine zbL ?_;refine zg ?_;refine zu ?_;refine zbh ?_;refine zP ?_;refine zo ?_;refine zK ?_;refine zax ?_;refine zP ?_;refine zU ?_;refine yr1 ?_;refine zk ?_;refine yr4 ?_;refine KL.eN (Eff.stSl0 (x1:=(⟨0,sl,ge⟩:jj)) rfl rfl rfl rfl jh ho he rfl rfl) ?_;rintro _ _ rfl;refine yr1 ?_;rw[e0,e1];exact KE.finN (H':=jL ⟨t.b,t.l.set i ⟨0,sl,ge⟩,t.gens,t.o⟩++F) jd rfl jc (by simp only[Jf,List.length_set,c1,c3];exact ja) ⟨rfl,rfl⟩
theorem tbturn23_K {i:Nat} {e:jj} (ok:TbOk t) (he:t.l[i]?=some e) (h0:e.st=2):
  Call Tryz.prog w0 109 [.pointer (some ⟨t.b,0,none⟩), .pointer (some (adr (oV t.o t.l.length) (i*enE.sz))), .int .i64 3] (jL t++F) (fun r H'=>r= .tuple #[]∧H'=jL ⟨t.b,t.l.set i ⟨3,e.slot,e.gen⟩,t.gens,t.o⟩++F):=by
 have ho:=ok.o
 have hn:=ok.n
 obtain⟨st,sl,ge⟩:=e
 dsimp only at h0;subst h0
 have c0:=jam he ⟨3,sl,ge⟩ 0
 have c1:=jam he ⟨3,sl,ge⟩ 1
 have c2:=jam he ⟨3,sl,ge⟩ 2
 have c3:=jam he ⟨3,sl,ge⟩ 3
 have p0:1≤j6 2 t.l:=jeG he
 have p1:=jb4 3 t.l
 have p2:=jb4 2 t.l
 simp at c0 c1 c2 c3
 have e0:((j6 2 t.l:Nat):Int)-1=((j6 2 (t.l.set i ⟨3,sl,ge⟩):Nat):Int):=by omega
 have e1:((j6 3 t.l:Nat):Int)+1=((j6 3 (t.l.set i ⟨3,sl,ge⟩):Nat):Int):=by omega
 refine zdq ?_;simp only[Jf];refine yr1 ?_;refine zbW ?_;refine zg ?_;refine zaJ ?_;refine zax ?_;dsimp only;refine zP ?_;refine zo ?_;refine zbH ?_;refine zax ?_;refine zP ?_;refine zU ?_;refine yr2 ?_;refine zbL ?_;refine zg ?_;refine zu ?_;refine zbh ?_;refine zP ?_;refine zo ?_;refine zK ?_;refine zax ?_;refine zP ?_;refine zU ?_;refine yr1 ?_;refine zk ?_;refine yr4 ?_;refine KL.eN (Eff.stSl0 (x1:=(⟨3,sl,ge⟩:jj)) rfl rfl rfl rfl jh ho he rfl rfl) ?_;rintro _ _ rfl;refine yr1 ?_;rw[e0,e1];exact KE.finN (H':=jL ⟨t.b,t.l.set i ⟨3,sl,ge⟩,t.gens,t.o⟩++F) jd rfl jc (by simp only[Jf,List.length_set,c0,c1];exact ja) ⟨rfl,rfl⟩
structure TbJ where
 i:Nat
theorem tbin2_K {st:Int} {q1 q2:Nat} {yv:Value} (ok:TbOk t) (A:Nat→jb) (R:Nat→TbM)
  (h0:R 0=t) (hb: ∀ i,(R i).b=t.b∧(R i).o=t.o∧(R i).l.length=t.l.length∧TbOk (R i)∧(R i).l[i]?=t.l[i]?)
  (hn: ∀ (i:Nat) (e:jj),t.l[i]?=some e→e.st≠st→A (i+1)=A i∧R (i+1)=R i)
  (hy: ∀ (i:Nat) (e:jj),t.l[i]?=some e→e.st=st→CallV Tryz.prog w0 yv [.int .i64 (i:Nat), .pointer (some (adr (oV t.o t.l.length) (i*enE.sz)))] (A i++((q1,cells [.pointer (some ⟨t.b,0,none⟩)] 75)::(q2,cells [.int .i64 st] 3)::(jL (R i)++F))) (fun u H'=>u= .bool true∧H'=A (i+1)++((q1,cells [.pointer (some ⟨t.b,0,none⟩)] 75)::(q2,cells [.int .i64 st] 3)::(jL (R (i+1))++F)))):
  Call Tryz.prog w0 183 [yv, .pointer (some ⟨q1,0,none⟩), .pointer (some ⟨q2,0,none⟩)] (A 0++((q1,cells [.pointer (some ⟨t.b,0,none⟩)] 75)::(q2,cells [.int .i64 st] 3)::(jL t++F)))
   (fun _ H'=>H'=A t.l.length++((q1,cells [.pointer (some ⟨t.b,0,none⟩)] 75)::(q2,cells [.int .i64 st] 3)::(jL (R t.l.length)++F))):=by
 have ho:=ok.o
 have hn0:=ok.n
 refine Call.enter3 (n:=34) (by kernel_rfl) Tryz.func183 rfl rfl rfl ?_;simp only[Jf];refine yr11 ?_;refine K.loopT (σ:=TbJ) [(0,_),(1,_),(2,_),(10,_)] (fun s kp_=>(11, .int .i64 (s.i:Nat))::kp_) (fun s=>A s.i++((q1,cells [.pointer (some ⟨t.b,0,none⟩)] 75)::(q2,cells [.int .i64 st] 3)::(jL (R s.i)++F))) (fun s=>s.i≤t.l.length) (fun s=>t.l.length-s.i) (⟨0⟩) jg (by dsimp only;rw [h0];exact(by first|exact ja|(simp only[Jf];exact ja))) (Nat.zero_le _) ?_;rintro⟨i⟩ hi;dsimp only at hi⊢
 obtain⟨b1,b2,b3,b4,b5⟩:=hb i
 have ho':=b4.o
 rw[b2] at ho'
 by_cases hlt:i<t.l.length
 ·obtain⟨e,he⟩:=jn hlt
  have he':(R i).l[i]?=some e:=b5.trans he
  by_cases hst:e.st=st
  ·have hyi:=hy i e he hst
   simp only[Jf,b1,b2,b3] at hyi⊢;refine yr29 ?_;refine zdr ?_;refine zaJ ?_;refine zo ?_;refine zaC ?_;refine zA ?_;refine zaF ?_;refine zv fun T hT=>?_;refine(CallV.part hyi ja).mono ?_;rintro _ H' ⟨rfl,rfl⟩;refine zh ?_;clear hT T;refine zfq ?_;refine zaE ?_;refine yr9 ?_;exact KE.again ⟨i+1⟩ jg (by first|exact ja|(simp only[Jf];exact ja)) hlt (by show t.l.length-(i+1)<t.l.length-i;omega)
  ·obtain⟨ha,hr⟩:=hn i e he hst
   simp only[Jf,b1,b2,b3];refine yr29 ?_;refine zdr ?_;refine zaJ ?_;refine zo ?_;refine za4 ?_;refine zg ?_;refine zba ?_;refine zbc ?_;refine zI ?_;refine yr9 ?_;exact KE.again ⟨i+1⟩ jg (by dsimp only;rw [ha,hr];simp only[Jf,b1,b2,b3];exact ja) hlt (by show t.l.length-(i+1)<t.l.length-i;omega)
 ·have hie:i=t.l.length:=by omega
  subst hie;simp only[Jf,b1,b2,b3];refine yr11 ?_;exact KE.finN (H':=A t.l.length++((q1,cells [.pointer (some ⟨t.b,0,none⟩)] 75)::(q2,cells [.int .i64 st] 3)::(jL (R t.l.length)++F))) jd rfl jc (by simp only[Jf,b1,b2,b3];exact ja) (by simp only[Jf,b1,b2,b3])
def recTo (gens:Int) (T:List jj) (k:Nat):List jj:=j9 gens (T.take k)++T.drop k
theorem je9 (gens:Int) (T:List jj) (k:Nat):(recTo gens T k).length=T.length:=by
 unfold recTo j9;rw [List.length_append,List.length_map,List.length_take,List.length_drop];omega
theorem jfa (gens:Int) (T:List jj):recTo gens T T.length=j9 gens T:=by unfold recTo;rw [List.take_length,List.drop_length,List.append_nil]
theorem jei (gens:Int) (T:List jj) (k:Nat):(recTo gens T k)[k]?=T[k]? :=by
 unfold recTo j9
 by_cases h:k≤T.length
 ·have hl:((T.take k).map (JV gens)).length=k:=by rw[List.length_map,List.length_take];omega
  rw[List.getElem?_append_right (by omega),hl,Nat.sub_self,List.getElem?_drop];rfl
 ·rw[List.getElem?_eq_none (by rw[List.length_append,List.length_map,List.length_take,List.length_drop];omega),List.getElem?_eq_none (by omega)]
theorem jdT {gens:Int} {T:List jj} {k:Nat} {e:jj} (h:T[k]?=some e):recTo gens T (k+1)=(recTo gens T k).set k (JV gens e):=by
 have hlt:=jl h
 unfold recTo j9
 have hl:((T.take k).map (JV gens)).length=k:=by rw[List.length_map,List.length_take];omega
 rw[List.set_append,if_neg (by omega),hl,Nat.sub_self,jaP h,List.map_append,List.append_assoc]
 congr 1
 rw[List.drop_eq_getElem_cons hlt]
 have:T[k]=e:=by rw[List.getElem?_eq_getElem hlt] at h;exact Option.some.inj h
 rw[this];rfl
theorem jfb {gens:Int} {T:List jj} {k:Nat} {e:jj} (h:T[k]?=some e):recyN gens (T.take (k+1))=recyN gens (T.take k)+(if e.st=2∧ ¬e.gen≥gens then 1 else 0):=by
 unfold recyN;rw[jaP h,List.countP_append]
 by_cases hc:e.st=2∧ ¬e.gen≥gens
 ·rw[if_pos hc,List.countP_cons_of_pos (by exact decide_eq_true hc)];rfl
 ·rw[if_neg hc,List.countP_cons_of_neg (by rw[decide_eq_false hc];exact Bool.false_ne_true)];rfl
theorem jgA {gens:Int} {T:List jj} {k:Nat} {e:jj} (h:T[k]?=some e) (hn:e.st≠2):recTo gens T (k+1)=recTo gens T k∧recyN gens (T.take (k+1))=recyN gens (T.take k):=by
 constructor
 ·rw[jdT h];unfold JV;rw[if_neg hn]
  obtain⟨hl,he⟩:=List.getElem?_eq_some_iff.1 ((jei gens T k).trans h)
  rw[←he,List.set_getElem_self]
 ·rw[jfb h,if_neg (fun h=>hn h.1)];rfl
theorem jfz (ok:TbOk t) (k:Nat):TbOk ⟨t.b,recTo t.gens t.l k,t.gens,t.o⟩:=by
 induction k with
 |zero=>exact ok
 |succ k ih=>
  cases h:t.l[k]? with
  |none=>
   have hl:=List.getElem?_eq_none_iff.1 h
   have:recTo t.gens t.l (k+1)=recTo t.gens t.l k:=by
    unfold recTo;rw[List.take_of_length_le (by omega),List.take_of_length_le hl,List.drop_of_length_le (by omega),List.drop_of_length_le hl]
   rw[this];exact ih
  |some e=>
   rw[jdT h]
   have hb:=ok.e e (List.mem_of_getElem? h)
   have hg:=ok.g
   refine jc2 (t:=⟨t.b,recTo t.gens t.l k,t.gens,t.o⟩) ih ?_;unfold JV
   split
   ·split
    ·dsimp only;omega
    ·dsimp only;omega
   ·exact hb
theorem recyN_le (gens:Int) (T:List jj):recyN gens T≤T.length:=List.countP_le_length
set_option maxHeartbeats 2000000 in
theorem jhH (ok:TbOk t):Call Tryz.prog w0 73 [.pointer (some ⟨t.b,0,none⟩)] (jL t++F)
  (fun r H'=>r= .int .i64 (recyN t.gens t.l:Nat)∧TbOk ⟨t.b,j9 t.gens t.l,t.gens,t.o⟩∧H'=jL ⟨t.b,j9 t.gens t.l,t.gens,t.o⟩++F):=by
 have ho:=ok.o
 have hn:=ok.n
 have hg:=ok.g
 have okE:=jfz ok t.l.length
 rw[jfa] at okE;refine Call.enter1 (n:=41) (by kernel_rfl) Tryz.func73 rfl rfl rfl ?_;refine yr2 ?_;refine ze ?_;intro b1;refine yq7 fun T hT=>?_;refine zca ?_;refine zc ?_;clear hT T;refine yr7 ?_;refine zf ?_;intro b3;refine yq7 fun T hT=>?_;refine(CallV.fn (tbin_K (b:=t.b) (st:=2))).mono ?_;rintro _ _ ⟨c1,c2,rfl,rfl⟩;refine za ?_;clear hT T;refine yr3 ?_;refine K.rangeFunc (lb:=[.pointer (some ⟨c1,0,none⟩), .pointer (some ⟨c2,0,none⟩)]) rfl
  (fun D G=>G=(D, .deferred (some []))::(b3,cells [.int .i64 (recyN t.gens t.l:Nat)] 3)::(b1,cells [.pointer (some ⟨t.b,0,none⟩)] 75)::(jL ⟨t.b,j9 t.gens t.l,t.gens,t.o⟩++F))
  (fun D c G=>False) ?_ ?_ ?_
 ·intro l D rc hyl
  refine(Call.part (tbin2_K (F:=F) (st:=2) (q1:=c1) (q2:=c2) ok
   (fun k=>(l, .loop (rc .ready none))::(D, .deferred (some []))::(b3,cells [.int .i64 (recyN t.gens (t.l.take k):Nat)] 3)::(b1,cells [.pointer (some ⟨t.b,0,none⟩)] 75)::[])
   (fun k=>⟨t.b,recTo t.gens t.l k,t.gens,t.o⟩) rfl
   (fun k=>⟨rfl,rfl,je9 _ _ _,jfz ok k,jei _ _ _⟩)
   (fun i e he hn=>by
    obtain⟨q1,q2⟩:=jgA (gens:=t.gens) he hn
    rw[q1,q2];exact⟨rfl,rfl⟩) ?_) (by simp only[List.cons_append,List.nil_append];exact ja)).mono ?_
  ·intro i e he hst
   obtain⟨st,sl,ge⟩:=e
   dsimp only at hst;subst hst
   have hb:=ok.e _ (List.mem_of_getElem? he)
   dsimp only at hb
   have hlt:=jl he
   have okL:=jfz ok i
   have heL:=(jei t.gens t.l i).trans he
   have hll:=je9 t.gens t.l i
   have hnx:=jdT (gens:=t.gens) he
   have hn2:=jfb (gens:=t.gens) he
   have hnl:=recyN_le t.gens (t.l.take i)
   rw[List.length_take] at hnl
   obtain⟨n,hn'⟩: ∃ n,recyN t.gens (t.l.take i)=n:=⟨_,rfl⟩
   rw[hn'] at hn2 hnl
   obtain⟨L,hL⟩: ∃ L,recTo t.gens t.l i=L:=⟨_,rfl⟩
   rw[hL] at okL heL hll hnx
   obtain⟨n1,hn1⟩: ∃ n1,recyN t.gens (t.l.take (i+1))=n1:=⟨_,rfl⟩
   rw[hn1] at hn2;rw[hL,hn',hnx,hn1]
   have okL1:TbOk ⟨t.b,L.set i ⟨2,0,ge⟩,t.gens,t.o⟩:=jc2 okL (by dsimp only;omega)
   have heL1:(L.set i (⟨2,0,ge⟩:jj))[i]?=some ⟨2,0,ge⟩:=List.getElem?_set_self (by omega)
   have hll1:(L.set i (⟨2,0,ge⟩:jj)).length=t.l.length:=by rw[List.length_set];exact hll
   have hcs: ∀ q:Int,j6 q (L.set i ⟨2,0,ge⟩)=j6 q L:=fun q=>by
    have:=jam heL ⟨2,0,ge⟩ q
    dsimp only at this
    omega
   have hoL:=okL.o
   have hoL1:=okL1.o
   dsimp only at hoL hoL1;simp only[List.cons_append,List.nil_append];refine zd6 ?_;refine zk ?_;refine yr4 ?_;simp only[Jf,hll]
   skip
   refine zk ?_;refine yr3 ?_;refine KL.eN (Eff.stSl (j:=1) (x1:=(⟨2,0,ge⟩:jj)) rfl rfl rfl rfl jh hoL heL rfl rfl) ?_;rintro _ _ rfl;refine yr1 ?_
   by_cases hge:ge≥t.gens
   ·have hre:JV t.gens ⟨2,sl,ge⟩=⟨3,0,ge⟩:=by unfold JV;rw [if_pos rfl,if_pos hge]
    have hn1':n1=n:=by rw[hn2,if_neg (fun h=>h.2 hge)];rfl
    subst hn1'
    have ht:=fun A=>tbturn23_K (w0:=w0) (F:=A) okL1 heL1 rfl
    simp only[hll1,List.set_set,hre] at ht⊢;refine yr3 ?_;refine zbE ?_;refine zu ?_;refine zcC ?_;refine zbj ?_;refine KD.v0 rfl rfl (Val.conv rfl rfl rfl (by simp only[qL,qH];omega)) ?_;refine zaa ?_;refine zB ?_;refine KD.v0 rfl rfl (Val.isT (Val.geq rfl rfl) jr) ?_;refine zp ?_;refine yq6 fun T hT=>?_;refine(CallV.part (CallV.fn (ht _)) (by simp only[Jf,hll1,hcs];exact ja)).mono ?_;refine zc ?_;clear hT T;refine yr5 ?_;refine KE.part ((l, .loop (rc .busy none))::((D, .deferred (some []))::(b3,cells [.int .i64 (n1:Nat)] 3)::(b1,cells [.pointer (some ⟨t.b,0,none⟩)] 75)::(c1,cells [.pointer (some ⟨t.b,0,none⟩)] 75)::(c2,cells [.int .i64 2] 3)::(jL ⟨t.b,L.set i ⟨3,0,ge⟩,t.gens,t.o⟩++F))) (by exact ja) ?_;exact KE.roundN jH.head ⟨rfl,rfl⟩
   ·have hre:JV t.gens ⟨2,sl,ge⟩=⟨0,0,ge+1⟩:=by unfold JV;rw [if_pos rfl,if_neg hge]
    have okL2:TbOk ⟨t.b,L.set i ⟨2,0,ge+1⟩,t.gens,t.o⟩:=jc2 okL (by dsimp only;omega)
    have heL2:(L.set i (⟨2,0,ge+1⟩:jj))[i]?=some ⟨2,0,ge+1⟩:=List.getElem?_set_self (by omega)
    have hll2:(L.set i (⟨2,0,ge+1⟩:jj)).length=t.l.length:=by rw[List.length_set];exact hll
    have hcs2: ∀ q:Int,j6 q (L.set i ⟨2,0,ge+1⟩)=j6 q L:=fun q=>by
     have:=jam heL ⟨2,0,ge+1⟩ q
     dsimp only at this
     omega
    have hn1':n1=n+1:=by rw[hn2,if_pos (show(⟨2,sl,ge⟩:jj).st=2∧ ¬(⟨2,sl,ge⟩:jj).gen≥t.gens from⟨rfl,hge⟩)]
    subst hn1'
    have ht:=fun A=>tbturn20_K (w0:=w0) (F:=A) okL2 heL2 rfl
    simp only[hll2,List.set_set,hre] at ht⊢;refine yr3 ?_;refine zbE ?_;refine zu ?_;refine zcC ?_;refine zbj ?_;refine KD.v0 rfl rfl (Val.conv rfl rfl rfl (by simp only[qL,qH];omega)) ?_;refine zaa ?_;refine zB ?_;refine zcb ?_;refine zp ?_;refine yr4 ?_;refine zk ?_;refine yr7 ?_;refine KL.eN (Eff.stSl (j:=2) (x1:=(⟨2,0,ge+1⟩:jj)) rfl rfl rfl rfl jh hoL1 heL1 rfl rfl) ?_;rintro _ _ rfl;refine yr1 ?_;simp only[List.set_set];refine yq5 fun T hT=>?_;refine(CallV.part (CallV.fn (ht _)) (by simp only[Jf,hll2,hcs2];exact ja)).mono ?_;refine zc ?_;clear hT T;refine yr8 ?_;refine KE.part ((l, .loop (rc .busy none))::((D, .deferred (some []))::(b3,cells [.int .i64 ((n+1:Nat):Int)] 3)::(b1,cells [.pointer (some ⟨t.b,0,none⟩)] 75)::(c1,cells [.pointer (some ⟨t.b,0,none⟩)] 75)::(c2,cells [.int .i64 2] 3)::(jL ⟨t.b,L.set i ⟨0,0,ge+1⟩,t.gens,t.o⟩++F))) (by exact ja) ?_;exact KE.roundN jH.head ⟨rfl,rfl⟩
  ·rintro u H' rfl;rw[List.take_length,jfa];refine .inl ⟨_,?_,rfl⟩;exact zco
 ·rintro D G rfl;refine yr9 ?_;exact KE.fin jd rfl jc ja ⟨rfl,okE,rfl⟩
 ·rintro D c G hf;exact hf.elim
end
open Go.RowKit
set_option maxRecDepth 10000
def ksL (ka:Bool) (kat:Nat) (vd:Value):List Value:=[.bool ka, .int .i64 (kat:Nat),vd]
theorem rsStart_K {w0:World} {F:jb} {n:Nat} (hn:n≤65536):
  Call Tryz.prog w0 282 [.int .i64 (n:Nat)] F (fun r H'=> ∃ (vd:Value) (N:jb),Sli w0 N boE vd (List.replicate n false)∧vd.oneCell'=true∧r= .agg (ksL true 0 vd).toArray∧H'=N++F):=by
 refine Call.enter1 (n:=6) (by kernel_rfl) Tryz.func282 rfl rfl rfl ?_;refine yr2 ?_;refine zf ?_;intro b2;refine yr5 ?_;refine KL.e rfl (Eff.makeR (E:=boE) (x0:=false) rfl rfl rfl rfl rfl rfl (by first|assumption|omega|(simp<;>fail)|(simp;omega))) ?_;rintro _ _ ⟨o4,ok4,rfl,rfl⟩;refine yr5 ?_;exact KE.fin (H':=oH boE 4 (List.replicate n false) o4++F) jd rfl jc ja ⟨oV o4 (List.replicate n false).length,_,Sli.own jh ok4 rfl,jK _ _,rfl,rfl⟩
structure SkA where
 b11:Nat
 o:Own
theorem jhP {bs:List Bool} {k:Nat} (h:bs[k]?=some false):idxTo bs (k+1)=idxTo bs k:=by
 unfold idxTo;rw[List.range_succ,List.filter_append]
 simp[h]
theorem jhO {bs:List Bool} {k:Nat} (h:bs[k]?=some true):idxTo bs k++ [((k:Nat):Int)]=idxTo bs (k+1):=by
 unfold idxTo;rw[List.range_succ,List.filter_append]
 simp[h]
theorem count_take {bs:List Bool} {k:Nat} {b:Bool} (h:bs[k]?=some b):(bs.take (k+1)).count true=(bs.take k).count true+(if b then 1 else 0):=by
 rw[jaP h,List.count_append];cases b<;>simp
structure LsS where
 i:Nat
 o:Own
theorem rsList_K {w0:World} {F:jb} {ka:Bool} {kat:Nat} {vd:Value} {Ds:List Bool} (hd:Sli w0 F boE vd Ds) (ho:vd.oneCell'=true) (hl:Ds.length≤65536):
  Call Tryz.prog w0 90 [.agg (ksL ka kat vd).toArray] F (fun r H'=> ∃ o,oOk iE (idxP Ds) o∧r=oV o (idxP Ds).length∧H'=oH iE 3 (idxP Ds) o++F):=by
 unfold ksL;refine Call.enter1 (n:=22) (by kernel_rfl) Tryz.func90 rfl rfl rfl ?_;refine yr2 ?_;refine ze ?_;intro b1;refine yr15 ?_;refine K.loopT (σ:=LsS) [(1,_)] (fun s kp_=>(4, .int .i64 (s.i:Nat))::(3,oV s.o (idxTo Ds s.i).length)::kp_) (fun s=>oH iE 3 (idxTo Ds s.i) s.o++((b1,cells [.bool ka, .int .i64 (kat:Nat),vd] 53)::F)) (fun s=>s.i≤Ds.length∧oOk iE (idxTo Ds s.i) s.o) (fun s=>Ds.length-s.i) (⟨0,none⟩) jg ja (⟨Nat.zero_le _,rfl⟩) ?_;rintro⟨i,o⟩ ⟨hi,ko⟩;dsimp only at hi ko⊢
 have hln:=jdh Ds i
 by_cases hlt:i<Ds.length
 ·obtain⟨b,hb⟩:=jn hlt
  cases b with
  |true=>
   have hst:=jhO hb
   have hbd:(idxTo Ds (i+1)).length≤4294967296:=by have:=jdh Ds (i+1);omega
   refine yr25 ?_;refine zk ?_;refine yr2 ?_;refine zt ?_;intro b19;refine KL.e rfl (Eff.appZ (E:=iE) (xs:=idxTo Ds i) (o:=o) (ys:=[((i:Nat):Int)]) (zs:=idxTo Ds (i+1)) rfl rfl rfl rfl rfl rfl jh (by assumption) (by first|exact Sli.blk jq rfl (by first|decide|simp) (by first|decide|(unfold maxLen;omega)) rfl|exact Sli.old (by assumption)|exact Sli.own jh (by assumption) jG|assumption|exact Sli.part (by assumption) ja) (hst) (by first|assumption|omega|(simp<;>fail)|(simp;omega)) rfl) ?_;rintro _ _ ⟨o',ok',rfl,rfl⟩;refine yr9 ?_;exact KE.again ⟨i+1,o'⟩ jg ja ⟨hlt,ok'⟩ (by show Ds.length-(i+1)<Ds.length-i;omega)
  |false=>
   have hst:=jhP hb
   refine yr33 ?_;rw[←hst] at ko;exact KE.again ⟨i+1,o⟩ (by dsimp only;rw [hst];exact jg) (by dsimp only;rw [hst];exact ja) ⟨hlt,ko⟩ (by show Ds.length-(i+1)<Ds.length-i;omega)
 ·have hie:i=Ds.length:=by omega
  subst hie
  have he:idxTo Ds Ds.length=idxP Ds:=jeU (Nat.le_refl _)
  rw[he] at ko⊢;refine yr23 ?_;exact zb1
structure SpQ where
 i:Nat
theorem rsStop_K {w0:World} {D F:jb} {v:PlV} {va vd:Value} {g:PlG} {A R:List Bool} {ka:Bool} {kat:Nat} (hA:ArD w0 D v va g A) (hR:Sli w0 D boE vd R) (hd1:vd.oneCell'=true) (hl:R.length=A.length) (hb:A.length≤65536):
  Call Tryz.prog w0 93 [.agg (ksL ka kat vd).toArray, .agg (arL v g va).toArray] (D++F) (fun r H'=> ∃ (va':Value) (N:jb),ArD w0 (N++D) v va' g (J0 A R).2∧r= .tuple [.agg (ksL false 0 (.slice none 0 0)).toArray, .agg (arL v g va').toArray, .int .i64 (R.count true:Nat)].toArray∧H'=N++(D++F)):=by
 have haA:=hA.a
 have hRR:=hR
 have q1:=hA.p.oL
 have q2:=hA.p.oF
 have q3:=hA.p.oM
 have q4:=hA.p.oC
 have q5:=hA.o
 have hga:=fun F'=>rGiveAll_K (w0:=w0) (F:=F') (vd:=vd) hA (fun H hp=>(hR.part (H:=D++F') ja).part hp) hd1 hl hb
 unfold ksL arL;unfold arL at hga;refine Call.enter2 (n:=33) (by kernel_rfl) Tryz.func93 rfl rfl rfl ?_;refine yr2 ?_;refine zn ?_;intro b2 b3 b4;refine zf ?_;intro b5;refine yr15 ?_;refine K.loopT (σ:=SpQ) [(2,_),(3,_),(4,_),(5,_)] (fun s kp_=>(8, .int .i64 (s.i:Nat))::(7, .int .i64 ((R.take s.i).count true:Nat))::kp_) (fun s=>(b2,cells [.bool ka, .int .i64 (kat:Nat),vd] 53)::(b3,cells [v.L,v.F,v.M, .int .i64 (g.words:Nat),v.C,va] 35)::(b4,cells [.bool false, .int .i64 0, .slice none 0 0] 53)::(b5,cells [.slice none 0 0, .slice none 0 0, .slice none 0 0, .int .i64 0, .slice none 0 0, .slice none 0 0] 35)::(D++F)) (fun s=>s.i≤R.length) (fun s=>R.length-s.i) (⟨0⟩) jg ja (Nat.zero_le _) ?_;rintro⟨i⟩ hi;dsimp only at hi⊢
 by_cases hlt:i<R.length
 ·obtain⟨b,hb⟩:=jn hlt
  have hct:=count_take hb
  have hcl:(R.take i).count true≤R.length:=Nat.le_trans List.count_le_length (by rw[List.length_take];omega)
  cases b with
  |true=>
   simp only[if_true] at hct;refine yr37 ?_;exact zfr
  |false=>
   simp only[Bool.false_eq_true,if_false,Nat.add_zero] at hct;refine yr33 ?_;exact zfr
 ·have hie:i=R.length:=by omega
  subst hie;rw[List.take_length];refine yq21 fun T hT=>?_;refine(CallV.part (CallV.fn (hga _)) ja).mono ?_;rintro _ _ ⟨va',N,hA',rfl,rfl⟩
  have q6:=hA'.o
  refine za ?_;clear hT T;refine yr7 ?_;refine K.drawn _ [(0,0),(1,1),(2,1),(3,2),(4,2),(5,0)] (by kernel_rfl) (by kernel_rfl) (by kernel_rfl) (by kernel_rfl) (by kernel_rfl) (by kernel_rfl) (Part.take jH.head (Part.takeA jP.head (Part.takeA jP.head (Part.take jH.head (Part.drop (Part.drop Part.all)))))) ?_;refine zay ?_;refine zaO ?_;refine zm ?_;refine zM ?_;refine zW ?_;refine zM ?_;refine zaK ?_;refine yr2 ?_;exact KE.fin (H':=N++(D++F)) jd rfl jc ja ⟨va',N,hA',rfl,rfl⟩
section
variable {w0 : World} {D F : jb} {v : PlV} {vr va vd vc : Value} {g : PlG} {R : List RwD} {A Ds : List Bool} {C : List Int} {t s : Nat} {x : List Int} {y : ju} {ka : Bool} {kat : Nat}
set_option maxHeartbeats 4000000 in
theorem rsStep_K {a:Bool} {c:Int} (hB:BoD w0 D v vr g R) (hf:BoF g R t x) (hy:g.L[kat]?=some y) (hA:ArD w0 D v va g A) (hC:Sli w0 D bE vc C) (hd:Sli w0 D boE vd Ds) (hvc:vc.oneCell'=true) (hvd:vd.oneCell'=true) (ha:A[kat]?=some a) (hc:C[kat]?=some c) (hl:Ds.length=g.slots):
  Call Tryz.prog w0 243 [.agg (ksL true kat vd).toArray, .agg (arL v g va).toArray, .agg (boL v g vr t).toArray,vc] (D++F)
   (fun r H'=> ∃ (vd' vr':Value) (R':List RwD) (N:jb),BoD w0 (N++D) v vr' g R'∧rwX R'=(if (a&&decide (c=0))=true then(rwX R).set t (Jo x y) else rwX R)∧Sli w0 (N++D) boE vd' (if (a&&decide (c=0))=true then Ds.set kat true else Ds)∧vd'.oneCell'=true∧r= .tuple [.agg (ksL true (kat+1) vd').toArray, .agg (boL v g vr' t).toArray, .bool true].toArray∧H'=N++(D++F)):=by
 have hil:kat<g.slots:=by rw[←jah];exact jl hy
 have hs16:=hf.ok.slots.2
 have hself:=hf.self
 have ho:=hB.m.o
 have haA:=hA.a
 have q1:=hB.p.oL
 have q2:=hB.p.oF
 have q3:=hB.p.oM
 have q4:=hB.p.oC
 have q5:=hA.o
 have hlt: ¬((kat:Nat):Int)≥((Ds.length:Nat):Int):=by omega
 have he:((kat:Nat):Int)+1=((kat+1:Nat):Int):=by omega
 have hwipe:=fun A=>rbWipe_K (w0:=w0) (D:=D) (F:=A) hB hf hy
 unfold ksL arL boL at*
 have hsl:(List.set Ds kat true).length=Ds.length:=List.length_set
 have hal:=jl ha
 have hcl:=jl hc
 obtain⟨dk,hdk⟩:=jn (l:=Ds) (k:=kat) (by omega)
 refine Call.enter4 (n:=61) (by kernel_rfl) Tryz.func243 rfl rfl rfl ?_;refine yr2 ?_;refine ze ?_;intro b4;refine zn ?_;intro b5 b6 b8;refine zf ?_;intro b9;refine yr28 ?_;refine K.cutT (σ:=SkA) [(3,_),(4,_),(5,_),(6,_),(8,_),(9,_)] jg (fun s kp_=>(11, .pointer (some ⟨s.b11,0,none⟩))::kp_) (fun s=>oH boE 4 Ds s.o++((s.b11,cells [.bool true, .int .i64 ((kat+1:Nat):Int),oV s.o Ds.length] 53)::(b4,cells [.bool true, .int .i64 (kat:Nat),vd] 53)::(b5,cells [v.L,v.F,v.M, .int .i64 (g.words:Nat),v.C,va] 35)::(b6,cells [vr, .int .i64 (t:Nat),v.L,v.F,v.M, .int .i64 (g.words:Nat),v.C] 40)::(b8,cells [.bool false, .int .i64 0, .slice none 0 0] 53)::(b9,cells [.slice none 0 0, .int .i64 0, .slice none 0 0, .slice none 0 0, .slice none 0 0, .int .i64 0, .slice none 0 0] 40)::(D++F))) (fun s=>oOk boE Ds s.o) ?_ ?_
 ·skip
  refine zw ?_;refine K.drawn ((b4,cells [.bool true, .int .i64 (kat:Nat),vd] 53)::D) [(0,1),(1,1),(2,1),(4,1),(5,1),(3,3),(6,3),(7,1),(8,2),(9,2)] (by kernel_rfl) (by kernel_rfl) (by kernel_rfl) (by kernel_rfl) (by kernel_rfl) (by kernel_rfl) ja ?_;refine zbm ?_;refine zF ?_;refine zep ?_;refine zaj ?_;refine zF ?_;refine KD.fork2 (x:=3) (y:=8) (o1:=[(6,3),(7,1),(8,2),(9,2)]) (o2:=[(3,2),(6,2),(7,0),(9,2)]) (by kernel_rfl) rfl rfl (by kernel_rfl) (by kernel_rfl) ?_ ?_
  ·(refine j3.e rfl (Eff.buildS jbZ rfl rfl rfl rfl rfl jb5) ?_; rintro _ _ ⟨b28, rfl, rfl⟩; refine ⟨ja, ?_⟩)
   refine KD.fork2 (x:=6) (y:=8) (o1:=[(7,1),(8,2),(9,2)]) (o2:=[(6,2),(7,0),(9,2)]) (by kernel_rfl) rfl rfl (by kernel_rfl) (by kernel_rfl) ?_ ?_
   ·(refine j3.e rfl (Eff.appLit (E:=boE) (ys:=Ds) rfl rfl rfl rfl rfl rfl rfl jq (by first|exact Sli.blk jq rfl (by first|decide|simp) (by first|decide|(unfold maxLen;omega)) rfl|exact Sli.old (by assumption)|exact Sli.own jh (by assumption) jG|assumption|exact Sli.part (by assumption) ja) (by first|assumption|omega|(simp<;>fail)|(simp;omega)) rfl) ?_;rintro _ _ ⟨oa,oka,rfl,rfl⟩;refine⟨ja,?_⟩)
    refine zcx ?_;refine zad ?_;intro b11;refine zbT ?_;exact KE.meet ⟨b11,oa⟩ jg ja oka
   ·(refine j3.e rfl (Eff.alloc rfl) ?_;rintro _ _ ⟨b11,rfl,rfl⟩;refine⟨ja,?_⟩)
    refine KD.e rfl rfl (Eff.appLit (E:=boE) (ys:=Ds) rfl rfl rfl rfl rfl rfl rfl jq (by first|exact Sli.blk jq rfl (by first|decide|simp) (by first|decide|(unfold maxLen;omega)) rfl|exact Sli.old (by assumption)|exact Sli.own jh (by assumption) jG|assumption|exact Sli.part (by assumption) ja) (by first|assumption|omega|(simp<;>fail)|(simp;omega)) rfl) ?_;rintro _ _ ⟨oa,oka,rfl,rfl⟩;refine⟨ja,?_⟩;refine zd1 ?_;exact KE.meet ⟨b11,oa⟩ jg ja oka
  ·(refine j3.e rfl (Eff.alloc rfl) ?_;rintro _ _ ⟨b11,rfl,rfl⟩;refine⟨ja,?_⟩)
   refine zdh ?_;intro b28;refine zW ?_;refine KD.e rfl rfl (Eff.appLit (E:=boE) (ys:=Ds) rfl rfl rfl rfl rfl rfl rfl jq (by first|exact Sli.blk jq rfl (by first|decide|simp) (by first|decide|(unfold maxLen;omega)) rfl|exact Sli.old (by assumption)|exact Sli.own jh (by assumption) jG|assumption|exact Sli.part (by assumption) ja) (by first|assumption|omega|(simp<;>fail)|(simp;omega)) rfl) ?_;rintro _ _ ⟨oa,oka,rfl,rfl⟩;refine⟨ja,?_⟩;refine zd1 ?_;exact KE.meet ⟨b11,oa⟩ jg ja oka
 ·rintro⟨b11,o⟩ ko;dsimp only at ko⊢
  cases a with
  |false=>
   refine yr23 ?_;refine zfs ?_;refine zai ?_;refine zaO ?_;refine zM ?_;refine zW ?_;refine zM ?_;refine zaK ?_;refine yr2 ?_;exact KE.fin (H':=oH boE 4 Ds o++(D++F)) jd rfl jc ja ⟨oV o Ds.length,vr,R,_,hB.part ja,rfl,Sli.own jh ko rfl,jK _ _,rfl,rfl⟩
  |true=>
   by_cases h0:c=0
   ·subst h0;refine yq40 fun T hT=>?_;refine(CallV.part (CallV.fn (hwipe _)) ja).mono ?_;rintro _ _ ⟨vr',R',N,hM',hX,rfl,rfl⟩
    have ho':=hM'.m.o
    refine za ?_;clear hT T;refine yr7 ?_;refine K.drawn _ [(0,0),(1,1),(2,2),(3,2),(4,0)] (by kernel_rfl) (by kernel_rfl) (by kernel_rfl) (by kernel_rfl) (by kernel_rfl) (by kernel_rfl) (Part.take jH.head (Part.takeA jP.head (Part.takeA jP.head (Part.takeA jP.head (Part.take jH.head (Part.take jH.head (Part.take jH.head (Part.drop (Part.drop Part.all))))))))) ?_;refine zai ?_;refine zaO ?_;refine zM ?_;refine zW ?_;refine zM ?_;refine zaK ?_;refine yr2 ?_;exact KE.fin (H':=(oH boE 4 (Ds.set kat true) o++N)++(D++F)) jd rfl jc (by rw[List.append_assoc];exact ja) ⟨oV o Ds.length,vr',R',_,hM'.part (by rw[List.append_assoc];exact ja),hX,Sli.own (H:=(oH boE 4 (Ds.set kat true) o++N)++D) (by rw[List.append_assoc];exact jh) (ko.set kat true) hsl.symm,jK _ _,rfl,rfl⟩
   ·have hd0:(true&&decide (c=0))=false:=by rw[decide_eq_false h0];rfl
    refine yr29 ?_;refine zfs ?_;refine zai ?_;refine zaO ?_;refine zM ?_;refine zW ?_;refine zM ?_;refine zaK ?_;refine yr2 ?_;exact KE.fin (H':=oH boE 4 Ds o++(D++F)) jd rfl jc ja ⟨oV o Ds.length,vr,R,_,hB.part ja,by rw[hd0];rfl,by rw[hd0];exact Sli.own jh ko rfl,jK _ _,rfl,rfl⟩
end
end Go.Proofs.YtldomapkmopomaaGreatDoor.Sw
