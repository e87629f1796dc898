/-The walker and the contracts that the law needs,part 26. -/
import Derived.Test.YtpcgafhgfjlkmaaGreatDoorD1
import Derived.ArgAppend
import Derived.ChangeMaps5
import Derived.Deep.Fields
import Derived.Deep.LoopGhost
import Derived.Deep.OwnRows
import Derived.Deep.Quiet
import Derived.Deep.Slices
import Derived.IntWalk
import Derived.Laws.Cells
import Derived.Laws.CopyOwn
import Derived.Laws.Externs
import Derived.Laws.FloatArith
import Derived.Laws.IdiomStrings
import Derived.Laws.NewFold
import Derived.Laws.StructEq
import Derived.Lib.BitFns
import Derived.Lib.Hide
import Derived.Lib.SmallJoins
import Derived.Lib.TrailingZeros
import Derived.Maps.RangeRun
import Derived.OrdersIn
import Derived.ProofKit
import Derived.RangeFuncBound
import Derived.RangeFuncCalls
import Derived.RangeFuncLeaves
import Derived.RangeFuncNested
import Derived.RecoverIn
import Derived.Shelf.Bits.Mul64
import Derived.Shelf.Slices.Turned
import Derived.Shelf.Spec.TrailingZeros
import Derived.Shelf.Strconv.Itoa0
import Derived.SizedLaws
import Derived.Sort.BigQuietIn
import Derived.StillTailTactics
import Derived.Test.YtpcgafhgfjlkmaaGreatDoorProg
import Derived.WalkKit
import Derived.Test.YtpcgafhgfjlkmaaGreatDoorJ25
set_option linter.unusedVariables false set_option linter.unusedSimpArgs false set_option linter.unusedVariables false
set_option linter.unusedSimpArgs false
namespace Go.Proofs.YtpcgafhgfjlkmaaGreatDoor.Sw
set_option maxHeartbeats 8000000
open Go.Proofs.YtpcgafhgfjlkmaaGreatDoor renaming lo → qL, hi → qH
open Go.RowKit
set_option maxRecDepth 10000
theorem jhZ {w0:World} {H:jb} {c:Cfg} {vc vt:Value} {i:Nat} (hR:Jo w0 H c vc vt) (hc:jX c=true) (hi:i<c.tn.length):
  Call Tryz.prog w0 122 [jw c vc vt, .int .i64 (i:Nat)] H (fun r H'=>r= .int .i64 (wordsP c (i:Nat))∧H'=H):=by
 have hc1:=fun k b1 b2 (hk:k<c.cl.length)=>words1_K (b1:=b1) (b2:=b2) hR hc hi hk
 have hok:=ja2 hc
 have hB:=fun k (hk:k<c.cl.length)=>pw_le (jb4 hc hi hk)
 obtain⟨hS,hT',o1,o2,l1,l2⟩:=hR
 have e1:wordsP c (i:Nat)=sumN (pwP c (i:Nat)) c.cl.length:=rfl
 rw[e1]
 obtain⟨f,hf⟩: ∃ f,f=pwP c (i:Nat):=⟨_,rfl⟩
 rw[←hf] at hB hc1⊢
 obtain⟨cl,page,tn,workers,grey,gens⟩:=c
 have hcl:=hok.cl
 dsimp only at hS hT' l1 l2 hcl hc1 hB⊢;simp only[jw,jT] at hc1⊢;refine Call.enter2 (n:=9) (by rfl) Tryz.func122 rfl rfl rfl ?_;refine zaU ?_;intro b2 b3;refine zu ?_;refine zB ?_;refine zaJ fun T hT=>?_;refine(CallV.part (CallV.fn (sumI_K (H:=(b2,cells [vc, .int .i64 page,vt, .int .i64 workers, .int .i64 grey, .int .i64 gens] 25)::(b3,cells [.int .i64 (i:Nat)] 3)::H) (l:=cl) (f:=f) (hS.part ja) hcl.2 ?_ ?_)) ja).mono ?_
 ·grind
 ·grind[CallV.clo]
 ·rintro _ _ ⟨rfl,rfl⟩;refine zd ?_;clear hT T;exact zt
set_option maxRecDepth 10000
theorem jhs {w0:World} {H:jb} {c:Cfg} {vc vt:Value} {t k:Int} (hR:Jo w0 H c vc vt):
  Call Tryz.prog w0 92 [jw c vc vt, .int .i64 t, .int .i64 k] H (fun r H'=>r= .bool (j9 c t k)∧H'=H):=by
 have hc0:=fun A (hp:Part A H)=>jiG (hR.part hp)
 obtain⟨hS,hT',o1,o2,l1,l2⟩:=hR
 have he:j9 c t k=(jX c&&(rnP t 0 ((c.tn.length:Nat)-1)&&rnP k 0 ((c.cl.length:Nat)-1))):=by
  grind[j9,jao,rnP]
 obtain⟨cl,page,tn,workers,grey,gens⟩:=c
 dsimp only at hS hT' l1 l2 he;simp only[jw,jT] at hc0⊢;refine Call.enter3 (n:=26) (by rfl) Tryz.func92 rfl rfl rfl ?_;refine zcN ?_;intro b3;refine zc2 fun T hT=>?_;refine zg1 ?_;rintro _ _ ⟨rfl,rfl⟩
 cases hc:jX ⟨cl,page,tn,workers,grey,gens⟩ with
 |false=>
  rw[hc,Bool.false_and] at he;refine ziB ?_;clear hT T;refine zG ?_;refine zfh ?_;refine zfh ?_;refine zf ?_;exact zep
 |true=>
  rw[hc,Bool.true_and] at he;simp only[jbe,if_true];refine zd ?_;clear hT T;refine zd8 ?_;refine zga ?_;refine zfo ?_;refine zq fun T hT=>?_;refine zeq ?_;rintro _ _ ⟨rfl,rfl⟩
  cases g1:rnP t 0 ((tn.length:Nat)-1) with
  |false=>
   rw[g1,Bool.false_and] at he;refine zd ?_;clear hT T;refine zw ?_;refine zfh ?_;refine zf ?_;exact zep
  |true=>
   rw[g1,Bool.true_and] at he;refine zd ?_;clear hT T;refine zb1 ?_;refine zaq ?_;refine zcx ?_;refine zdM ?_;refine zdk ?_;refine jq rfrom_K ?_;refine zcE ?_;exact zep
theorem jhx {w0:World} {H:jb} {c:Cfg} {vc vt:Value} {t k:Int} (hR:Jo w0 H c vc vt):
  Call Tryz.prog w0 58 [jw c vc vt, .int .i64 t, .int .i64 k] H (fun r H'=>r=prV (jap c t k)∧H'=H):=by
 have hc0:=fun A (hp:Part A H)=>jhs (t:=t) (k:=k) (hR.part hp)
 obtain⟨hS,hT',o1,o2,l1,l2⟩:=hR
 cases ht:j9 c t k with
 |false=>
  have he:jap c t k=(0,2):=by grind[jap]
  rw[ht] at hc0;rw[he]
  obtain⟨cl,page,tn,workers,grey,gens⟩:=c
  dsimp only at hS hT' l1 l2 he;simp only[jw,jT] at hc0⊢;refine Call.enter3 (n:=25) (by rfl) Tryz.func58 rfl rfl rfl ?_;refine zcj ?_;intro b3;refine zcG ?_;refine zbJ ?_;exact zfB
 |true=>
  obtain⟨i,j,x,y,rfl,rfl,hx,hy,ok⟩:=jbQ ht
  have he:jap c (i:Nat) (j:Nat)=(x.quota/y,0):=by grind[jap,jbp,jbf,cfgC]
  have hb:=(ok.ten x (List.mem_of_getElem? hx)).1
  have hb2:=ok.el y (List.mem_of_getElem? hy)
  have hil:=jx hx
  have hjl:=jx hy
  rw[ht] at hc0;rw[he]
  obtain⟨q,tr,cp,ax⟩:=x
  obtain⟨cl,page,tn,workers,grey,gens⟩:=c
  dsimp only at hS hT' l1 l2 he hx hy hb hb2 hil hjl;simp only[jw,jT] at hc0⊢;refine Call.enter3 (n:=25) (by rfl) Tryz.func58 rfl rfl rfl ?_;refine zcj ?_;intro b3;refine zcG ?_;refine zbJ ?_;refine zE ?_;refine zbU ?_;refine ziX ?_;refine ziC ?_;refine zcC ?_;refine zkq ?_;refine zaF ?_;refine zdf ?_;refine zcC ?_;refine zaF ?_;refine zgr ?_;refine zfL ?_;exact zZ
set_option maxRecDepth 10000
theorem ceil_of {n p k:Int} (hp:1≤p) (h1:n≤k*p) (h2:k=0∨(k-1)*p<n) (hn:1≤n):(n+p-1)/p=k:=by
 have hk:k≠0:=by
  grind
 have h2':(k-1)*p<n:=by omega
 rw[Int.sub_mul,Int.one_mul] at h2'
 obtain⟨q,hq⟩: ∃ q,q=k*p:=⟨_,rfl⟩
 have e:n+p-1=(n+p-1-q)+k*p:=by omega
 rw[e,Int.add_mul_ediv_right _ _ (by omega),Int.ediv_eq_zero_of_lt (by omega) (by omega)]
 omega
structure RpS where
 k:Nat
set_option maxHeartbeats 1000000 in
theorem rPages_K {w0:World} {H:jb} {c:Cfg} {vc vt:Value} {t k:Int} (hR:Jo w0 H c vc vt):
  Call Tryz.prog w0 93 [jw c vc vt, .int .i64 t, .int .i64 k] H (fun r H'=>r=prV (pagesP c t k)∧H'=H):=by
 have hc0:=fun A (hp:Part A H)=>jhx (t:=t) (k:=k) (hR.part hp)
 obtain⟨hS,hT',o1,o2,l1,l2⟩:=hR
 cases ht:j9 c t k with
 |false=>
  have he:pagesP c t k=(0,2):=by simp[pagesP,ht]
  have he2:jap c t k=(0,2):=by simp[jap,ht]
  rw[he2] at hc0;rw[he]
  obtain⟨cl,page,tn,workers,grey,gens⟩:=c
  dsimp only at hS hT' l1 l2 he;simp only[jw,jT] at hc0⊢;refine Call.enter3 (n:=36) (by kernel_rfl) Tryz.func93 rfl rfl rfl ?_;refine zeh ?_;intro b3;refine z3 ?_;refine zaC fun T hT=>?_;refine zg1 ?_;rintro _ _ ⟨rfl,rfl⟩;simp only[prV];refine zd ?_;clear hT T;refine zaM ?_;refine zdy ?_;exact zaT
 |true=>
  obtain⟨i,j,x,y,rfl,rfl,hx,hy,ok⟩:=jbQ ht
  have he:pagesP c (i:Nat) (j:Nat)=(jda c.page x.quota y,0):=by simp[pagesP,ht,jbf,cfgC,hx,hy]
  have hb:=(ok.ten x (List.mem_of_getElem? hx)).1
  have hb2:=ok.el y (List.mem_of_getElem? hy)
  have hpg:=ok.page
  have hn:jap c (i:Nat) (j:Nat)=(jbp x.quota y,0):=by simp[jap,ht,jbf,cfgC,hx,hy]
  have hsl:=jhp (q:=x.quota) (y:=y) (by omega) (by omega) hb.2
  have hper:1≤c.page/y∧c.page/y≤64:=⟨(Int.le_ediv_iff_mul_le (by omega)).2 (by omega),Int.le_trans (Int.ediv_le_self _ (by omega)) hpg.2⟩
  have hil:=jx hx
  have hjl:=jx hy
  rw[hn] at hc0;rw[he]
  have hpn:jda c.page x.quota y=(jbp x.quota y+c.page/y-1)/(c.page/y):=rfl
  rw[hpn]
  obtain⟨n,hn'⟩: ∃ n,n=jbp x.quota y:=⟨_,rfl⟩
  rw[←hn'] at hc0 hsl⊢
  obtain⟨q,tr,cp,ax⟩:=x
  obtain⟨cl,page,tn,workers,grey,gens⟩:=c
  dsimp only at hS hT' l1 l2 he hx hy hb hb2 hil hjl hpg hper;simp only[jw,jT] at hc0⊢
  obtain⟨pr,hpr⟩: ∃ p,p=page/y:=⟨_,rfl⟩
  rw[←hpr] at hper⊢;refine Call.enter3 (n:=36) (by kernel_rfl) Tryz.func93 rfl rfl rfl ?_;refine zeh ?_;intro b3;refine z3 ?_;refine zaC fun T hT=>?_;refine zg1 ?_;rintro _ _ ⟨rfl,rfl⟩;simp only[prV];refine zd ?_;clear hT T;refine zbA ?_;refine zz ?_;refine zk ?_;refine KL.nil (KE.next (K.seq (K.block ?_)));refine K.loopT (σ:=RpS) [(2,_),(3,_),(8,_)] (fun s kp_=>(10, .int .i64 (s.k:Nat))::kp_) (fun s=>(b3,cells [vc, .int .i64 page,vt, .int .i64 workers, .int .i64 grey, .int .i64 gens] 25)::H) (fun s=>s.k≤4096∧(s.k=0∨((s.k:Int)-1)*pr<n)) (fun s=>4096-s.k) (⟨0⟩) jj ja (⟨by simp,by simp⟩) ?_;rintro⟨u⟩ ⟨hu,hr⟩;dsimp only at hu hr⊢
  have hum:0≤(u:Int)*(page/y):=Int.mul_nonneg (by omega) (by rw[←hpr];omega)
  have hum1:(u:Int)≤(u:Int)*(page/y):=by
   have:(u:Int)*1≤(u:Int)*(page/y):=Int.mul_le_mul_of_nonneg_left (by rw[←hpr];exact hper.1) (by omega)
   omega
  have hum2:(u:Int)*(page/y)≤262144:=by
   have:(u:Int)*(page/y)≤(u:Int)*64:=Int.mul_le_mul_of_nonneg_left (by rw[←hpr];exact hper.2) (by omega)
   omega
  by_cases hlt:(u:Int)*(page/y)<n
  ·have hu4:u+1≤4096:=by omega
   have hnx:(((u+1:Nat):Int)-1)*pr<n:=by rw[show(((u+1:Nat):Int)-1)=(u:Int) by omega,hpr];exact hlt
   refine zdR ?_;refine zlJ ?_;refine zj ?_;refine zd1 ?_;refine zdf ?_;refine zcC ?_;refine zaF ?_;refine KD.v0 rfl rfl (Val.quoN rfl rfl (by simp only[qH];omega)) ?_;refine KD.v0 rfl rfl (Val.mul rfl rfl (by simp only[qL,qH];omega)) ?_;refine zj ?_;refine zhL ?_;refine zD ?_;refine KE.next (K.condT rfl (K.skip (KE.next (K.block (K.region ?_)))));refine zdY ?_;refine zbD ?_;exact KE.again ⟨u+1⟩ jj ja ⟨hu4, .inr hnx⟩ (by show 4096-(u+1)<4096-u;omega)
  ·have hcl:(n+pr-1)/pr=(u:Int):=ceil_of hper.1 (by rw[hpr];omega) (by rcases hr with h|h;exact .inl (by omega);exact .inr h) (by omega)
   rw[hcl];refine zdR ?_;refine zlJ ?_;refine zj ?_;refine zd1 ?_;refine zdf ?_;refine zcC ?_;refine zaF ?_;refine KD.v0 rfl rfl (Val.quoN rfl rfl (by simp only[qH];omega)) ?_;refine KD.v0 rfl rfl (Val.mul rfl rfl (by simp only[qL,qH];omega)) ?_;refine zj ?_;refine ziR ?_;refine zD ?_;refine ziE ?_;refine zaf ?_;refine zbe ?_;exact zt
set_option maxRecDepth 10000
def gOf (c:Cfg) (t:Int):PlG:=⟨c.cl.map Int.toNat,c.page.toNat,(jbf c t).toNat⟩
section
variable {c : Cfg} {t : Int}
theorem gOf_m:(gOf c t).m=c.cl.length:=by simp[PlG.m,gOf]
theorem gOf_y {k:Nat} {y:Int} (h:c.cl[k]?=some y):(gOf c t).y k=y.toNat:=by
 grind[PlG.y,gOf]
structure GAt (c:Cfg) (t:Int) (g:PlG):Prop where
 ok:jc g
 m:g.m=c.cl.length
 page:c.page=(g.pg:Nat)
 y: ∀ (k:Nat) (y:Int),c.cl[k]?=some y→y=(g.y k:Nat)
 slots: ∀ k:Nat,k<g.m→jap c t (k:Nat)=(((g.n k:Nat):Int),0)
 pages: ∀ k:Nat,k<g.m→pagesP c t (k:Nat)=(((g.pgs k:Nat):Int),0)
 region:jaw c t=(((g.words:Nat):Int),0)
theorem jk8 {f:Nat→Int} {n:Nat→Nat} {p:Nat}: ∀ {m:Nat},(∀ k,k<m→f k=((n k*p:Nat):Int))→sumN f m=((jz n m*p:Nat):Int)
 |0,_=>by simp[sumN,jz]
 |m+1,h=>by
  have h1:=jk8 (m:=m) (fun k hk=>h k (by omega))
  have h2:=h m (by omega)
  simp only[sumN,jz,h1,h2,Nat.add_mul];omega
theorem g_at (h:j9 c t 0=true):GAt c t (gOf c t):=by
 obtain⟨i,j,x,y0,rfl,_,hx,_,ok⟩:=jbQ h
 have hil:=jx hx
 have hcp:jX c=true:=by simp only[j9,Bool.and_eq_true] at h;exact h.1
 have hq:jbf c (i:Nat)=x.quota:=by simp[jbf,hx]
 obtain⟨⟨q1,q2⟩,_⟩:=ok.ten x (List.mem_of_getElem? hx)
 have hpg:=ok.page
 have key: ∀ k,k<c.cl.length→ ∃ y:Nat,c.cl[k]?=some (y:Int)∧2≤y∧(y:Int)≤jbL c.cl∧(gOf c (i:Nat)).y k=y:=by
  intro k hk
  obtain⟨y,hy⟩:=jA hk
  have h1:=ok.el y (List.mem_of_getElem? hy)
  refine⟨y.toNat,by rw[hy];congr 1;omega,by omega,by omega,gOf_y hy⟩
 obtain⟨q,hqn⟩: ∃ q:Nat,x.quota=q:=⟨x.quota.toNat,by obtain⟨y,_,h2,h3,_⟩:=key 0 (by have:=ok.cl;omega);omega⟩
 obtain⟨p,hpn⟩: ∃ p:Nat,c.page=p:=⟨c.page.toNat,by obtain⟨y,_,h2,h3,_⟩:=key 0 (by have:=ok.cl;omega);omega⟩
 have hgq:(gOf c (i:Nat)).q=q:=by simp[gOf,hq,hqn]
 have hgp:(gOf c (i:Nat)).pg=p:=by simp[gOf,hpn]
 have hgm:(gOf c (i:Nat)).m=c.cl.length:=gOf_m
 have hth: ∀ k,k<c.cl.length→j9 c (i:Nat) (k:Nat)=true:=fun k hk=>jb4 hcp hil hk
 have hok:jc (gOf c (i:Nat)):=by
  refine⟨by rw[hgm];exact ok.cl,fun k hk=>?_,by rw[hgp];omega,by rw[hgq];omega⟩;rw[hgm] at hk
  obtain⟨y,_,h2,h3,h4⟩:=key k hk
  rw[h4,hgp,hgq];omega
 have hsl: ∀ k:Nat,k<(gOf c (i:Nat)).m→jap c (i:Nat) (k:Nat)=((((gOf c (i:Nat)).n k:Nat):Int),0):=by
  intro k hk;rw[hgm] at hk
  obtain⟨y,h1,h2,h3,h4⟩:=key k hk
  simp only[jap,hth k hk,if_true,jbp,hq,cfgC,Int.toNat_natCast,h1,Option.getD_some,PlG.n,h4,hgq,hqn]
  rfl
 have hpp: ∀ k:Nat,k<(gOf c (i:Nat)).m→pagesP c (i:Nat) (k:Nat)=((((gOf c (i:Nat)).pgs k:Nat):Int),0):=by
  intro k hk
  have b1:=hok.n hk
  have b2:=hok.per hk
  rw[hgm] at hk
  obtain⟨y,h1,h2,h3,h4⟩:=key k hk
  have e1:((gOf c (i:Nat)).n k:Int)=(q:Int)/(y:Int):=by simp only[PlG.n,h4,hgq];rfl
  have e2:((gOf c (i:Nat)).per k:Int)=(p:Int)/(y:Int):=by simp only[PlG.per,h4,hgp];rfl
  simp only[pagesP,hth k hk,if_true,jda,hq,cfgC,Int.toNat_natCast,h1,Option.getD_some,hqn,hpn,←e1,←e2]
  congr 1
  unfold PlG.pgs
  have e3:(((gOf c (i:Nat)).n k:Nat):Int)+((gOf c (i:Nat)).per k:Nat)-1=(((gOf c (i:Nat)).n k+(gOf c (i:Nat)).per k-1:Nat):Int):=by omega
  rw[e3];rfl
 refine⟨hok,hgm,by rw[hgp,hpn],?_,hsl,hpp,?_⟩
 ·intro k y hy
  obtain⟨y',h1,h2,h3,h4⟩:=key k (jx hy)
  rw[h4,hy] at*
  cases h1;rfl
 ·simp only[jaw,h,if_true,wordsP]
  congr 1
  rw[←hgm]
  refine jk8 fun k hk=>?_
  simp only[pwP,hpp k hk,hpn,hgp]
  rfl
end
open Go.RowKit
set_option maxRecDepth 10000
inductive jaK (g:PlG) (long:Nat):CyP→Nat→CyP→Prop
 |refl {s:CyP}:jaK g long s 0 s
 |snoc {s s1 s2:CyP} {n:Nat}:jaK g long s n s1→jZ g long s1=some s2→jaK g long s (n+1) s2
def jcg (g:PlG) (long:Nat):Nat→CyP→Nat × CyP
 |0,s=>(0,s)
 |f+1,s=>match jZ g long s with
  |none=>(0,s)
  |some s1=>((jcg g long f s1).1+1,(jcg g long f s1).2)
def finC (g:PlG) (long:Nat) (s:CyP):Nat × CyP:=jcg g long (Jj g s) s
section
variable {g : PlG} {long long' nw : Nat} {s s' s1 s2 : CyP} {S0 : Nat → Prop} {A0 : List Bool} {P : Nat → Prop} {n : Nat}
theorem jaK.cons (h0:jZ g long s=some s1) (h:jaK g long s1 n s2):jaK g long s (n+1) s2:=by
 induction h with
 |refl=>exact .snoc .refl h0
 |snoc _ h2 ih=>exact .snoc ih h2
theorem jaK.un (h:jaK g long s n s'):n=0∧s=s'∨ ∃ m s1,n=m+1∧jZ g long s=some s1∧jaK g long s1 m s':=by
 induction h with
 |refl=>grind
 |snoc _ h2 ih=>
  right
  rcases ih with⟨rfl,rfl⟩|⟨m,s1,rfl,a,b⟩
  ·exact⟨0,_,rfl,h2, .refl⟩
  ·exact⟨m+1,s1,rfl,a, .snoc b h2⟩
theorem helps_is {f:Nat} (hf:n≤f) (h:jaK g long s n s') (hn:jZ g long s'=none):jcg g long f s=(n,s'):=by
 induction f generalizing n s with
 |zero=>
  rcases h.un with⟨rfl,rfl⟩|⟨m,s1,rfl,_⟩
  ·rfl
  omega
 |succ f ih=>
  unfold jcg
  rcases h.un with⟨rfl,rfl⟩|⟨m,s1,rfl,a,b⟩
  ·grind
  grind
structure HelpsOk (g:PlG) (long:Nat) (s s':CyP) (n:Nat):Prop where
 ok:jr g long s'
 mes:n+Jj g s'≤Jj g s
 st:s'.st=s.st+n
 ph:s.ph≤s'.ph
 I: ∀ {S0 A0},CyI g S0 A0 s→CyI g S0 A0 s'
 A:s'.A=s.A
 T:s'.W.T=s.W.T
 N:s'.W.N=s.W.N
 le:JY g s→JY g s'
theorem jfw (h:jr g long s) (ok:jc g) (hs:jZ g long s=some s'):s'.A=s.A∧s'.W.T=s.W.T∧s'.W.N=s.W.N:=by
 unfold jZ at hs
 split at hs
 ·cases hm:jae g long s.W s.m with
  |none=>grind
  |some m'=>
   rw[hm] at hs;cases hs
   obtain⟨a,b,c,_⟩:=jcO (g:=g) (s:={s with m:=m',st:=s.st+1})
   exact⟨c,by show(Jb g {s with m:=m',st:=s.st+1}).W.T=_;rw [a],by show(Jb g {s with m:=m',st:=s.st+1}).W.N=_;rw [a]⟩
 ·split at hs
  ·rename_i h2
   cases hm:sweepC g s with
   |none=>grind
   |some q=>
    rw[hm] at hs;cases hs
    obtain⟨_,_,_,_,e1,e2,e3,_⟩:=jcu ok h h2 hm
    obtain⟨a,b,c,_⟩:=jcO (g:=g) (s:={q with st:=q.st+1})
    exact⟨c.trans e1,by show(Jb g {q with st:=q.st+1}).W.T=_;grind,by show(Jb g {q with st:=q.st+1}).W.N=_;grind⟩
  grind
theorem jaK.ok (ok:jc g) (h0:jr g long s) (h:jaK g long s n s'):HelpsOk g long s s' n:=by
 induction h with
 |refl=>exact⟨h0,by omega,rfl,Nat.le_refl _,fun h=>h,rfl,rfl,rfl,fun h=>h⟩
 |snoc _ h2 ih=>
  have a:=jdr ok ih.ok h2
  have b:=jf5 h2
  obtain⟨c,d,e⟩:=jfw ih.ok ok h2
  have f:=ih.mes
  have g1:=ih.st
  have g2:=ih.ph
  exact⟨jf6 ok ih.ok h2,by omega,by omega,by omega,fun hI=>(ih.I hI).help ok ih.ok h2,c.trans ih.A,d.trans ih.T,e.trans ih.N,fun hl=>(ih.le hl).help ok ih.ok h2⟩
theorem fin_is (ok:jc g) (h0:jr g long s) (h:jaK g long s n s') (hn:jZ g long s'=none):finC g long s=(n,s'):=by
 have:=(h.ok ok h0).mes
 exact helps_is (by omega) h hn
theorem jmj (f:Nat) (s:CyP):jaK g long s (jcg g long f s).1 (jcg g long f s).2:=by
 induction f generalizing s with
 |zero=>exact .refl
 |succ f ih=>
  unfold jcg
  cases h:jZ g long s with
  |none=>exact .refl
  |some s1=>exact(ih s1).cons h
theorem jmk (ok:jc g) {f:Nat} {s:CyP} (h0:jr g long s) (hf:Jj g s≤f):jZ g long (jcg g long f s).2=none:=by
 induction f generalizing s with
 |zero=>
  cases h:jZ g long s with
  |none=>exact h
  |some s1=>have:=jdr ok h0 h;omega
 |succ f ih=>
  unfold jcg
  cases h:jZ g long s with
  |none=>omega
  |some s1=>
   have:=jdr ok h0 h
   grind[jf6]
theorem jds:jaK g long s (finC g long s).1 (finC g long s).2:=jmj _ _
theorem finC_end (ok:jc g) (h0:jr g long s):jZ g long (finC g long s).2=none:=jmk ok h0 (Nat.le_refl _)
theorem jeY (ok:jc g) (h0:jr g long s) (hp:s.ph≠0):(finC g long s).2.ph=3:=by
 have h1:=(jds (g:=g) (long:=long) (s:=s)).ok ok h0
 have h2:=h1.ph
 exact jjE ok h1.ok (by omega) (finC_end ok h0)
end
structure EqW (g:PlG) (P:Nat→Prop) (s s':CyP):Prop where
 A:s'.A=s.A
 T:s'.W.T=s.W.T
 N:s'.W.N=s.W.N
 x: ∀ t,P t→jJ g s.W.x s'.W.x t
 out: ∀ a,(∀ (t:Nat) (y:jg),g.L[t]?=some y→ ¬(y.addr≤a∧a<y.addr+y.size))→wAt s'.W.x a=wAt s.W.x a
section
variable {g : PlG} {x x' : List Int} {t : Nat} {y : jg}
theorem jeK {a b:Nat} {v:Int} (h:a<x.length):wAt (x.set a v) b=if a=b then v else wAt x b:=by
 grind[jd4,jaj]
theorem jcN (ok:jc g) (h:jJ g x x' t) (hy:g.L[t]?=some y):headP x' y=headP x y:=jdg (h y hy 0 (by have:=ok.fits hy;omega))
theorem jeP (ok:jc g) (h:jJ g x x' t) (hy:g.L[t]?=some y) {r:Bool} {i:Int}:fldP x' y r i=fldP x y r i:=jcQ (h y hy 0 (by have:=ok.fits hy;omega))
theorem jkF (ok:jc g) (h:jJ g x x' t) (hy:g.L[t]?=some y) {r:Bool} {i:Int} (hf:fldP x y r i=0):wAt x' (fAt y i)=wAt x (fAt y i):=by
 have hin:=JQ hf
 obtain⟨j,hj⟩: ∃ j,fAt y i=y.addr+j:=⟨fAt y i-y.addr,by omega⟩
 rw[hj];exact h y hy j (by omega)
theorem jg3 (ok:jc g) (h:jJ g x x' t) (hy:g.L[t]?=some y) {n:Nat} {i:Int}:refP x' n y i=refP x n y i:=by
 grind[refP,jeP,jkF]
theorem jly (ok:jc g) (hx:x.length=g.words) (hx':x'.length=g.words) (h:jJ g x x' t) (hy:g.L[t]?=some y) {i v:Int}:jJ g (Jl x g.slots y i v).2 (Jl x' g.slots y i v).2 t:=fun z hz j hj=>by
 rw[hy] at hz;cases hz
 have f:=ok.fits hy
 unfold Jl;rw[jeP ok h hy]
 split
 ·exact h y hy j hj
 ·split
  ·rename_i hf
   have hin:=JQ hf
   rw[jeK (by omega),jeK (by omega),h y hy j hj]
  ·exact h y hy j hj
theorem make_cong (ok:jc g) (hx:x.length=g.words) (hx':x'.length=g.words) (h:jJ g x x' t) (hy:g.L[t]?=some y) {hd:HdP}:(makeP x' y hd).1=(makeP x y hd).1∧jJ g (makeP x y hd).2 (makeP x' y hd).2 t:=by
 have f:=ok.fits hy
 unfold makeP;rw[jcN ok h hy]
 split
 ·split
  ·grind
  ·refine⟨rfl,fun z hz j hj=>?_⟩
   grind[jeK,jcR,ja8]
 grind
end
open Go.RowKit
set_option maxRecDepth 10000
def M62:Nat:=4611686018427387904
def satA (a b:Nat):Nat:=min (a+b) M62
structure PaP where
 since:Nat
 total:Nat
 debt:Nat
 cyc:Nat
 act:Bool
structure PaB (p:PaP):Prop where
 s:p.since≤M62
 t:p.total≤M62
 d:p.debt≤M62
 c:p.cyc≤M62
def Ja (tr ast n:Nat) (p:PaP):Nat × PaP:=
  (if satA p.since n<tr then 0 else if p.act then 2 else 1,
   ⟨if satA p.since n<tr then satA p.since n else 0,satA p.total n,if p.act then satA p.debt (n*ast) else p.debt,p.cyc,p.act⟩)
def jaH (a:Bool) (p:PaP):PaP:=if p.act=a then p else⟨0,p.total,0,if a then p.cyc else satA p.cyc 1,a⟩
theorem jfZ (a b:Nat):satA a b≤M62:=Nat.min_le_right ..
theorem PaB.ask {p:PaP} (h:PaB p) (tr ast n:Nat):PaB (Ja tr ast n p).2:=by
 refine⟨?_,jfZ _ _,?_,h.c⟩
 ·show(if _ then _ else _)≤_
  grind[jfZ]
 ·show(if _ then _ else _)≤_
  split
  ·grind[jfZ]
  ·exact h.d
theorem PaB.turn {p:PaP} (h:PaB p) (a:Bool):PaB (jaH a p):=by
 unfold jaH
 split
 ·omega
 ·refine⟨Nat.zero_le _,h.t,Nat.zero_le _,?_⟩
  show(if _ then _ else _)≤_
  split
  ·exact h.c
  grind[jfZ]
def capG (w:Nat):Nat:=w%4294967296
def capI (w:Nat):Nat:=w/4294967296%16777216
def capT (w:Nat):Nat:=w/72057594037927936
def capW (t i n:Nat):Nat:=n+i*4294967296+t*72057594037927936
structure HpC where
 g:PlG
 long:Nat
 nw:Nat
 gn:Int
 tn:Nat
 tr:Nat
 ast:Nat
 caps:Nat
structure jk (C:HpC):Prop where
 g:jc C.g
 long:1≤C.long
 nw:C.nw≤8
 gn:1≤C.gn∧C.gn≤2147483648
 tn:C.tn<8
 tr:1≤C.tr∧C.tr≤1048576
 ast:C.ast≤1024
 caps:1≤C.caps∧C.caps≤1024
structure HpP where
 s:CyP
 p:PaP
 wk:Nat
structure OpP where
 c:Nat
 h:Nat
 a:Int
 b:Int
 v:Nat
structure SnP where
 e:Int
 h:Nat
 w:Int
 addr:Int
 used:Int
 since:Int
 cyc:Int
 act:Bool
def told (e:Int):SnP:=⟨e,0,0,0,0,0,0,false⟩
def newH (C:HpC):HpP:=⟨⟨⟨List.replicate C.g.words 0,List.replicate C.caps ⟨0,0,1⟩,List.replicate C.g.slots 0⟩,J5 C.g C.nw false,List.replicate C.g.slots false,false,0,List.replicate C.g.slots false,0,0⟩,⟨0,0,0,0,false⟩,0⟩
def jaE (C:HpC) (h:HpP):HpP:=⟨beginC C.g h.s,jaH true h.p,h.wk⟩
def jas (C:HpC) (h:HpP):HpP:=⟨publishC C.g C.gn (finC C.g C.long h.s).2,jaH false h.p,h.wk+(finC C.g C.long h.s).1⟩
def JC (C:HpC) (is:CyP→Bool) (h:HpP):HpP:=if is h.s=false∧h.s.ph≠0 then jas C h else h
def Jz (C:HpC) (is:CyP→Bool) (h:HpP):HpP:=if is (JC C is h).s=true then JC C is h else jas C (jaE C (JC C is h))
def j5 (s:CyP):Bool:=decide (0<cntP 0 s.W.T)
def fitsB (g:PlG) (sz:Nat) (s:CyP):Bool:=decide (usedL g.L s.A+sz≤g.q)
def hpSlot (tn:Nat) (T:List jh) (w:Nat):Option Int:=
 if capG w≠0∧capT w=tn then(namedT T (capI w:Nat) (capG w:Nat)).map (·.slot) else none
def JG (tn:Nat) (T:List jh):Nat:=capW tn (jar T).1.toNat (jar T).2.1.toNat
def jaa (C:HpC):Nat→HpP→HpP
 |0,h=>h
 |d+1,h=>match jZ C.g C.long h.s with
  |none=>h
  |some s'=>jaa C d ⟨s',{h.p with debt:=d},h.wk+1⟩
def jcE (C:HpC) (due:Nat) (h:HpP):HpP:=if due=1 then jaE C h else if due=2 then jas C h else h
def jaS (C:HpC) (n:Nat) (h:HpP):HpP:=
 jcE C (Ja C.tr C.ast n h.p).1 (jaa C (Ja C.tr C.ast n h.p).2.debt {h with p:=(Ja C.tr C.ast n h.p).2})
def mkC (g:PlG) (s:CyP) (k:Int) (hd:HdP):CyP:=
  {s with A:=(takeP g s.A k).2.2,m:=Jt s.m (takeP g s.A k).1.toNat,
           W:={s.W with T:=jK s.W.T (takeP g s.A k).1,x:=(makeP s.W.x (ju g (takeP g s.A k).1) hd).2}}
def classI (g:PlG) (need:Int):Nat:=g.cl.findIdx fun(y:Nat)=>decide (need≤(y:Nat))
def allocR (C:HpC) (h:HpP) (k:Nat):HpP:=Jz C (fun s=>fitsB C.g (C.g.y k) s&&j5 s) h
def jE (C:HpC) (h:HpP) (a b:Int):SnP × HpP:=
  if Jd ⟨0,a,b⟩=false then(told 50,h)
  else if classI C.g (a+b+1)=C.g.cl.length then(told 50,h)
  else if fitsB C.g (C.g.y (classI C.g (a+b+1))) (allocR C h (classI C.g (a+b+1))).s=false then(told 100,allocR C h (classI C.g (a+b+1)))
  else if j5 (allocR C h (classI C.g (a+b+1))).s=false then(told 131,allocR C h (classI C.g (a+b+1)))
  else
    ({told 0 with h:=JG C.tn (allocR C h (classI C.g (a+b+1))).s.W.T,addr:=((ju C.g (takeP C.g (allocR C h (classI C.g (a+b+1))).s.A (classI C.g (a+b+1):Nat)).1).addr:Nat)},
     jaS C (C.g.y (classI C.g (a+b+1))) {allocR C h (classI C.g (a+b+1)) with s:=mkC C.g (allocR C h (classI C.g (a+b+1))).s (classI C.g (a+b+1):Nat) ⟨(classI C.g (a+b+1):Nat),a,b⟩})
def JR (x:List Int) (y:jg) (i:Int):Bool × Int:=jaO ((headP x y).getD ⟨0,0,0⟩) i
def jbJ (g:PlG) (long:Nat) (s:CyP) (t:Int):CyP:={shdC g long s t with W:={(shdC g long s t).W with T:=jK (shdC g long s t).W.T t}}
def JF (C:HpC) (h:HpP) (sl a:Int):SnP × HpP:=
 if (JR h.s.W.x (ju C.g sl) a).2≠0 then(told (JR h.s.W.x (ju C.g sl) a).2,h)
 else if (JR h.s.W.x (ju C.g sl) a).1=false then({told 0 with w:=(wordP h.s.W.x (ju C.g sl) a).1},h)
 else if (refP h.s.W.x C.g.slots (ju C.g sl) a).1<0 then(told 0,h)
 else if j5 (Jz C j5 h).s=false then(told 131,Jz C j5 h)
 else({told 0 with h:=JG C.tn (Jz C j5 h).s.W.T},{Jz C j5 h with s:=jbJ C.g C.long (Jz C j5 h).s (refP h.s.W.x C.g.slots (ju C.g sl) a).1})
def JT (g:PlG) (s:CyP) (sl i w:Int):CyP:={s with W:={s.W with x:=(Jk s.W.x (ju g sl) i w).2}}
def toW (C:HpC) (h:HpP) (v:Nat):Int:=if v=0 then-1 else(hpSlot C.tn h.s.W.T v).getD (-1)
def JZ (C:HpC) (h:HpP) (sl a:Int) (v:Nat):SnP × HpP:=
 if (JR h.s.W.x (ju C.g sl) a).2≠0 then(told (JR h.s.W.x (ju C.g sl) a).2,h)
 else if (JR h.s.W.x (ju C.g sl) a).1=false then(told (Jk h.s.W.x (ju C.g sl) a (v:Nat)).1,{h with s:=JT C.g h.s sl a (v:Nat)})
 else if v≠0∧(hpSlot C.tn h.s.W.T v).isNone=true then(told 130,h)
 else(told 0,{h with s:=jbZ C.g (jM C.g C.long (jM C.g C.long h.s (refP h.s.W.x C.g.slots (ju C.g sl) a).1) (toW C h v)) sl a (toW C h v)})
def jc6 (h:HpP) (sl:Int):SnP × HpP:=(told (if (h.s.W.N[sl.toNat]?).getD 0<255 then 0 else 140),{h with s:={h.s with W:={h.s.W with N:=JA h.s.W.N sl.toNat}}})
def jbj (C:HpC) (h:HpP) (sl:Int):SnP × HpP:=
 if (h.s.W.N[sl.toNat]?).getD 0=0 then(told 140,h)
 else(told 0,{h with s:={shdC C.g C.long h.s sl with W:={(shdC C.g C.long h.s sl).W with N:=J0 (shdC C.g C.long h.s sl).W.N sl.toNat}}})
def jdK (C:HpC) (h:HpP) (sl:Int) (w:Nat):SnP × HpP:=
 (told 0,{h with s:={shdC C.g C.long h.s sl with W:={(shdC C.g C.long h.s sl).W with T:=Jm (shdC C.g C.long h.s sl).W.T (capI w:Nat)}}})
def jaG (x:List Int) (y:jg):List Int:=match headP x y with
 |some h=>(List.range h.w.toNat).map fun i=>(wordP x y (h.r+((i:Nat):Int))).1
 |none=> []
def jdJ (C:HpC) (h:HpP) (sl:Int):SnP × HpP:=({told 0 with w:=Go.Proofs.YtpcgafhgfjlkmaaGreatDoor.sumP (jaG h.s.W.x (ju C.g sl))},h)
def hpOp (C:HpC) (h:HpP) (op:OpP) (sl:Int):SnP × HpP:=
 if op.c=2 then JF C h sl op.a
 else if op.c=3 then JZ C h sl op.a op.v
 else if op.c=4 then jc6 h sl
 else if op.c=5 then jbj C h sl
 else if op.c=6 then jdK C h sl op.h
 else jdJ C h sl
def jt (C:HpC) (h:HpP) (op:OpP):SnP × HpP:=
 if op.c<1∨7<op.c then(told 250,h)
 else if op.c=1 then jE C h op.a op.b
 else match hpSlot C.tn h.s.W.T op.h with
  |none=>(told 130,h)
  |some sl=>({(hpOp C h op sl).1 with addr:=((ju C.g sl).addr:Nat)},(hpOp C h op sl).2)
def ja1 (C:HpC) (h:HpP) (q:SnP):SnP:=
 {q with used:=(usedL C.g.L h.s.A:Nat),since:=(min h.p.since 2147483647:Nat),cyc:=(min h.p.cyc 2147483647:Nat),act:=h.p.act}
def hpDo (C:HpC) (h:HpP) (op:OpP):SnP × HpP:=
 (ja1 C (jt C {h with wk:=0} op).2 (if (jt C {h with wk:=0} op).1.e=0 then(jt C {h with wk:=0} op).1 else told (jt C {h with wk:=0} op).1.e),(jt C {h with wk:=0} op).2)
def jay (C:HpC) (h:HpP) (k u:Int):Bool × HpP:=
 if 0≤k∧k<(C.nw:Nat) then(match stepC C.g C.long C.nw h.s k u with
  |some s'=>(true,{h with s:=s'})
  |none=>(false,h)) else(false,h)
end Go.Proofs.YtpcgafhgfjlkmaaGreatDoor.Sw
namespace Go.Proofs.YtpcgafhgfjlkmaaGreatDoor
open Go.RowKit
section
variable {P : Program} {w0 : World} {ro : Option Nat} {n : Nat} {Q : Exit → Act → World → Prop} {ds : List Deferred} {m : jl} {H R : jb} {ops : Array Oper} {ord : Ord}
variable {ty : TypeId} {pos : String} {af : Array Edge}
theorem KD.callcM {i d:Nat} {f:Operand} {as0:List Operand} {ts:Array TypeId} {fv:Value} {vs:List Value} (hi:ops[i]?=some ⟨some d, .call {callee:= .value f,args:=as0.toArray,argTypes:=ts},ty,pos,af,none⟩) (hd:Nat.blt d n=true) (hf:evO m f=some fv) (ha:EvL m as0 vs)
  (h: ∀ T:Je,(∀ v H',Part H' H→KD P w0 ro n ops R ord Q ds ((d,v)::m) H'→T v H')→CallV P w0 fv vs H T):KD P w0 ro n ops R ((i,5)::ord) Q ds m H:=
 KD.eM hi hd (Eff.call hf ha (h (fun v H'=>Part H' H∧KD P w0 ro n ops R ord Q ds ((d,v)::m) H') fun _ _ p k=>⟨p,k⟩)) fun _ _ k=>k
end
end Go.Proofs.YtpcgafhgfjlkmaaGreatDoor
namespace Go.Proofs.YtpcgafhgfjlkmaaGreatDoor.Sw
open Go.Proofs.YtpcgafhgfjlkmaaGreatDoor renaming lo → qL, hi → qH
set_option maxRecDepth 10000
section
variable {g : PlG} {long nw : Nat} {s s' : CyP} {x x' : List Int} {P : Nat → Prop} {n t : Nat} {y : jg} {i j w : Int}
theorem fAt_inj {i j:Int} (hi:0≤i) (hj:0≤j) (h:fAt y i=fAt y j):i=j:=by grind[fAt]
theorem jev (ok:jc g) (hy:g.L[n]?=some y) {z:jg} (hz:g.L[t]?=some z):wAt (Jk x y i w).2 z.addr=wAt x z.addr:=by
 have f1:=ok.fits hy
 have f2:=ok.fits hz
 unfold Jk
 split
 ·rename_i hf
  have hin:=JQ hf
  dsimp only;refine jaj ?_
  by_cases e:n=t
  ·grind
  ·have:=ok.apart hy hz e;omega
 ·rfl
theorem jiN (ok:jc g) (hy:g.L[n]?=some y) {z:jg} (hz:g.L[t]?=some z) {r:Bool}:fldP (Jk x y i w).2 z r j=fldP x z r j:=jcQ (jev ok hy hz)
theorem jiZ (ok:jc g) (hy:g.L[n]?=some y) {z:jg} (hz:g.L[t]?=some z) (hj:fldP x z true j=0):wAt (Jk x y i w).2 (fAt z j)=wAt x (fAt z j):=by
 have f1:=ok.fits hy
 have f2:=ok.fits hz
 have hin2:=JQ hj
 unfold Jk
 split
 ·rename_i hf
  have hin:=JQ hf
  dsimp only
  refine jaj fun e=>?_
  by_cases e2:n=t
  ·subst e2;rw[hy] at hz;cases hz
   have:=fAt_inj hin.1 hin2.1 e
   subst this;unfold fldP at hf hj
   cases hh:headP x y with
   |none=>grind
   |some q=>
    grind
  ·have:=ok.apart hy hz e2;omega
 ·rfl
theorem jiF (ok:jc g) (hy:g.L[n]?=some y):refO g (Jk x y i w).2 (t:Nat) j=refO g x (t:Nat) j:=by
 by_cases ht:t<g.slots
 ·grind[refO,refP,fldP,jY,jC,jiN,jiZ]
 grind[jkc]
theorem jlU (ok:jc g) (hy:g.L[n]?=some y) (h:ja6 g x):ja6 g (Jk x y i w).2:=fun t z hz j hf=>by
 rw[jiN ok hy hz] at hf;rw[jiZ ok hy hz hf];exact h t z hz j hf
theorem jgx (ok:jc g) (hy:g.L[n]?=some y) (h:n≠t):jJ g x (Jk x y i w).2 t:=fun z hz j hj=>by
 have f1:=ok.fits hy
 have f2:=ok.fits hz
 have:=ok.apart hy hz h
 unfold Jk
 split
 ·rename_i hf
  have hin:=JQ hf
  grind[jaj]
 ·rfl
theorem jli (ok:jc g) (hy:g.L[n]?=some y) (ht:t<g.slots):refsN (Jk x y i w).2 (ju g (t:Nat))=refsN x (ju g (t:Nat)):=by
 grind[jY,jC,jgI,jev]
theorem jr.putx (h:jr g long s) {x':List Int} (hw:JX g {s.W with x:=x'}) (hr:ja6 g x') (hf: ∀ t:Nat,t<g.slots→0<refsN s.W.x (ju g (t:Nat))→refsN x' (ju g (t:Nat))=refsN s.W.x (ju g (t:Nat))):jr g long {s with W:={s.W with x:=x'}}:=
 ⟨⟨hw,hr,h.m.world rfl hf,h.i,h.A,h.D,h.p0,h.p1,h.p2,h.p3,h.ph,h.dn⟩,h.lt,fun e=>(jgP rfl).trans (h.go e)⟩
theorem jfV (ok:jc g) (h:jr g long s) (hn:n<g.slots) (hw:0≤w∧w<18446744073709551616):jr g long (JT g s (n:Nat) i w):=by
 obtain⟨y,hy⟩:=jY hn
 unfold JT;rw[jC hy]
 exact h.putx ⟨by rw[jlv];exact h.w.x,jlV h.w.w hw,h.w.N,h.w.n,h.w.t⟩ (jlU ok hy h.rf) fun t ht _=>jli ok hy ht
theorem jgf (ok:jc g) (h:jr g long s) (hcl:Cls g s.W P) {k:Int} (hs:slotT s.W.T k=some ((n:Nat):Int)):jbx g P s (JT g s (n:Nat) i w):=by
 have hP:=hcl.slot hs
 obtain⟨_,hn⟩:0≤((n:Nat):Int)∧n<g.slots:=by have:=J8 h.w hs;exact⟨this.1,by have:=this.2;omega⟩
 obtain⟨y,hy⟩:=jY hn
 unfold JT;rw[jC hy];refine⟨rfl,rfl,rfl,rfl,hcl.words fun a b=>hcl.edge a (by rw[jiF ok hy] at b;exact b),fun h=>h,fun _ h=>h,fun _=>?_,fun t ht=>jgx ok hy fun e=>ht (e▸hP)⟩
 exact jcp (W':={s.W with x:=(Jk s.W.x y i w).2}) rfl (fun r u hr=> .inr hr) fun t u i hr=> .inr (by grind[jiF])
theorem read_eq (hi:inS g (n:Nat)):jbJ g long s (n:Nat)={s with W:=JI g s.W ⟨4,(n:Nat),0,0,0,0⟩,m:=if s.ph=1 then jaL g long s.W s.m ⟨4,(n:Nat),0,0,0,0⟩ else s.m}:=by
 unfold jbJ;rw[jdm hi,jfY]
 rfl
theorem jh9 (ok:jc g) (h:jr g long s) (hn:n<g.slots):jr g long (jbJ g long s (n:Nat)):=by
 have hi:inS g (n:Nat):=⟨by omega,by omega⟩
 have h1:=(h.shd ok (n:Nat)).world ok (a:=⟨4,(n:Nat),0,0,0,0⟩)
 rw[jdm hi] at h1;exact h1
theorem jgk (ok:jc g) (h:jr g long s) (hcl:Cls g s.W P) (hn:n<g.slots) (hP:P n):jbx g P s (jbJ g long s (n:Nat)):=by
 have hi:inS g (n:Nat):=⟨by omega,by omega⟩
 refine jge ok h (a:=⟨4,(n:Nat),0,0,0,0⟩) (by grind) (read_eq hi) ?_ (fun ho=>?_) fun t _=>?_
 ·rw[jdm hi];exact hcl.mint hP
 ·show jbu P (j7 g long s.m (n:Nat))
  exact jeA ok h.m h.i (fun k e=>by grind) ho
 grind[jdm,jJ.refl]
theorem mk_cy (ok:jc g) (h:jr g long s) {k:Int} {hd:HdP} (ht:(takeP g s.A k).2.1=0):jr g long (mkC g s k hd):=by
 obtain⟨k',j,_,_,hf,e,_⟩:=jdh ht
 obtain⟨_,_,h3,_⟩:=jcP hf
 have hl:=jx h3
 rw[h.A] at hl
 obtain⟨y,hy⟩:=jY hl
 have hfit:=ok.fits hy
 unfold mkC;rw[e];rw[jC hy,Int.toNat_natCast]
 have h1:=(h.black j).take (A':=s.A.set j true) (by grind)
 have h2:=h1.putx (x':=(makeP s.W.x y hd).2) ⟨by rw[jhC (by rw[h.w.x];omega)];exact h.w.x,jif h.w.w,h.w.N,h.w.n,h.w.t⟩ (jie ok h.w.x h.rf hy hd) fun t ht hp=>jg9 ok h.w.x hy hd ht hp
 have h3:=h2.world ok (a:=⟨4,(j:Nat),0,0,0,0⟩)
 rw[jdm ⟨by omega,by omega⟩] at h3
 omega
theorem mk_N (ok:jc g) (h:jr g long s) {k:Int} {hd:HdP} (ht:(takeP g s.A k).2.1=0): ∃ j,(takeP g s.A k).1=(j:Nat)∧MakeN g s (mkC g s k hd) j:=by
 obtain⟨k',j,_,_,hf,e,_⟩:=jdh ht
 obtain⟨_,_,h3,_⟩:=jcP hf
 have hl:=jx h3
 rw[h.A] at hl
 obtain⟨y,hy⟩:=jY hl
 unfold mkC;rw[e];dsimp only;rw[jC hy,Int.toNat_natCast];refine⟨j,rfl,h3,rfl,rfl,rfl,rfl,rfl,fun P hP hz=>?_,fun t ht=>jcM ok h.w.x hy _ (fun e=>ht e.symm),fun hz=>?_⟩
 ·exact((hP.new ok hz).mint (.inr rfl)).make (W:={s.W with T:=jK s.W.T (j:Nat)}) ok h.w.x hy
 ·refine(jcp (W':={s.W with T:=jK s.W.T (j:Nat),x:=(makeP s.W.x y hd).2}) jbB (fun r u hr=> .inr (jkq hr)) fun t u i hr=> .inr ?_).trans (ji8 fun i=>?_)
  ·have e:j≠t:=fun e=>by rw[←e,hz.refO ok] at hr;grind
   rw[jbA ok (jcM ok h.w.x hy _ e)];omega
  ·cases hr:refO g (makeP s.W.x y hd).2 (j:Nat) i with
   |none=>rfl
   |some u=>have:=jha ok h.w.x hy hr;rw [hz.refO ok] at this;grind
theorem jhN {a:jaB}:(doesC g long s a).ph=s.ph:=by
 have h1: ∀ (z:CyP) (t:Int),(shdC g long z t).ph=z.ph:=fun z t=>by grind[shdC]
 have h2: ∀ (z:CyP) (t:Int),(jM g long z t).ph=z.ph:=fun z t=>by
  grind[jM]
 unfold doesC
 split
 ·grind[makesC]
 ·split
  ·unfold jaU
   split
   ·rfl
   ·split
    ·rfl
    ·split
     ·rfl
     ·show(jM g long (jM g long s _) _).ph=_
      grind
  grind
theorem jkt:(madeC g s).W=s.W:=(jcO (g:=g) (s:={s with st:=s.st+1})).1
theorem jf0 {t u:Nat} (h:refO g x (t:Nat) i=some (u:Nat)):u<g.slots:=by
 grind[refO,refP]
theorem step_T (ok:jc g) (h:jr g long s) {k u:Int} (h1:stepC g long nw s k u=some s'):s'.W.T=s.W.T:=by
 unfold stepC at h1
 split at h1
 ·cases hm:j1 g long s.W s.m k u with
  |none=>grind
  |some m'=>
   grind[h1,jkt]
 grind[sweepC,h1,h2,jcu,jkt]
theorem step_A (ok:jc g) (h:jr g long s) {k u:Int} (h1:stepC g long nw s k u=some s'):s'.A=s.A:=by
 have hm: ∀ q:CyP,(madeC g q).A=q.A:=fun q=>(jcO (g:=g) (s:={q with st:=q.st+1})).2.2.1
 unfold stepC at h1
 split at h1
 ·cases hm':j1 g long s.W s.m k u with
  |none=>grind
  |some m'=>grind
 grind[sweepC]
theorem does_A {a:jaB} (ha:2≤a.w%6):(doesC g long s a).A=s.A:=by
 have h1: ∀ (z:CyP) (t:Int),(shdC g long z t).A=z.A:=fun z t=>by grind[shdC]
 have h2: ∀ (z:CyP) (t:Int),(jM g long z t).A=z.A:=fun z t=>by
  grind[jM]
 unfold doesC;rw[if_neg (by omega)]
 split
 ·unfold jaU
  split
  ·rfl
  ·split
   ·rfl
   ·split
    ·rfl
    ·show(jM g long (jM g long s _) _).A=_
     grind
 grind
theorem jdA (h0:s.ph=0):jZ g long s=none:=by grind[jZ]
theorem jed (h0:s.ph=0) {k u:Int}:stepC g long nw s k u=none:=by grind[stepC]
end
inductive HpMv (C:HpC) (wr:Bool):HpP→HpP→Prop
 |free {h:HpP} {p:PaP} {wk:Nat}:p.act=h.p.act→(PaB h.p→PaB p)→HpMv C wr h ⟨h.s,p,wk⟩
 |help {h:HpP} {s':CyP}:jZ C.g C.long h.s=some s'→HpMv C wr h {h with s:=s'}
 |step {h:HpP} {s':CyP} {k u:Int}:stepC C.g C.long C.nw h.s k u=some s'→HpMv C wr h {h with s:=s'}
 |begin {h:HpP}:h.s.ph=0→HpMv C wr h (jaE C h)
 |publish {h:HpP} {wk:Nat}:h.s.ph=3→HpMv C wr h ⟨publishC C.g C.gn h.s,jaH false h.p,wk⟩
 |acts {h:HpP} {a:jaB}:2≤a.w%6→(wr=false→a.w%6=3∨a.w%6=4)→HpMv C wr h {h with s:=doesC C.g C.long h.s a}
 |word {h:HpP} {n:Nat} {k i w:Int}:wr=true→slotT h.s.W.T k=some ((n:Nat):Int)→0≤w∧w<18446744073709551616→HpMv C wr h {h with s:=JT C.g h.s (n:Nat) i w}
 |read {h:HpP} {n t:Nat} {k i:Int}:slotT h.s.W.T k=some ((n:Nat):Int)→refO C.g h.s.W.x ((n:Nat):Int) i=some ((t:Nat):Int)→(Ju h.s.W.T).isSome=true→HpMv C wr h {h with s:=jbJ C.g C.long h.s (t:Nat)}
 |make {h:HpP} {k:Int} {hd:HdP}:(takeP C.g h.s.A k).2.1=0→(Ju h.s.W.T).isSome=true→usedL C.g.L (takeP C.g h.s.A k).2.2≤C.g.q→jad (ju C.g (takeP C.g h.s.A k).1) hd=true→HpMv C wr h {h with s:=mkC C.g h.s k hd}
inductive j8 (C:HpC) (wr:Bool):HpP→HpP→Prop
 |refl {h:HpP}:j8 C wr h h
 |tail {h h1 h2:HpP}:j8 C wr h h1→HpMv C wr h1 h2→j8 C wr h h2
theorem j8.trans {C:HpC} {wr:Bool} {h h1 h2:HpP} (a:j8 C wr h h1) (b:j8 C wr h1 h2):j8 C wr h h2:=by
 induction b with
 |refl=>omega
 |tail _ c ih=>exact ih.tail c
theorem HpMv.one {C:HpC} {wr:Bool} {h h1:HpP} (a:HpMv C wr h h1):j8 C wr h h1:= .tail .refl a
theorem j8.ind {C:HpC} {wr:Bool} {I:HpP→Prop} (hI: ∀ h h',HpMv C wr h h'→I h→I h') {h h':HpP} (a:j8 C wr h h') (h0:I h):I h':=by
 induction a with
 |refl=>omega
 |tail _ c ih=>grind
structure HeI (C:HpC) (h:HpP):Prop where
 ok:jr C.g C.long h.s
 t0:h.s.ph=0→CyT C.g h.s
 i1:h.s.ph≠0→ ∃ S0 A0,CyI C.g S0 A0 h.s
 pa:h.p.act=decide (h.s.ph≠0)
 pb:PaB h.p
 e: ∀ e∈h.s.W.T,1≤e.gen∧e.gen≤C.gn
 n:h.s.W.T.length=C.caps
section
variable {C : HpC} {wr : Bool} {h h' : HpP} {s s' : CyP}
theorem HeI.act (hI:HeI C h) (hc:jr C.g C.long s') (ha: ∀ P,Cls C.g h.s.W P→jbx C.g P h.s s') (he: ∀ e∈s'.W.T,1≤e.gen∧e.gen≤C.gn) (hn:s'.W.T.length=h.s.W.T.length):HeI C {h with s:=s'}:=by
 have hp:s'.ph=h.s.ph:=by
  by_cases e:h.s.ph=0
  ·exact(ha _ (hI.t0 e).tk).ph
  ·obtain⟨S0,A0,hi⟩:=hI.i1 e;exact(ha _ hi.cl).ph
 refine⟨hc,fun e=>?_,fun e=>?_,?_,hI.pb,he,hn.trans hI.n⟩
 ·have e':h.s.ph=0:=hp▸e
  exact(hI.t0 e').act (ha _ (hI.t0 e').tk)
 ·have e':h.s.ph≠0:=hp▸e
  obtain⟨S0,A0,hi⟩:=hI.i1 e'
  exact⟨S0,A0,hi.act (ha _ hi.cl)⟩
 ·rw[hp];exact hI.pa
theorem jkr {T:List jh} {t gn:Int} (h: ∀ e∈T,1≤e.gen∧e.gen≤gn): ∀ e∈jK T t,1≤e.gen∧e.gen≤gn:=fun e he=>by
 grind[jK,Ju,g1,genA,h1,ja7]
theorem drop_gen {T:List jh} {i gn:Int} (h: ∀ e∈T,1≤e.gen∧e.gen≤gn): ∀ e∈Jm T i,1≤e.gen∧e.gen≤gn:=fun e he=>by
 grind[Jm]
theorem recy_gen {T:List jh} {gn:Int} (h: ∀ e∈T,1≤e.gen∧e.gen≤gn): ∀ e∈Ji gn T,1≤e.gen∧e.gen≤gn:=fun e he=>by
 grind[Ji,jaz]
theorem does_TN {a:jaB} (ha:2≤a.w%6):(doesC C.g C.long s a).W.T=s.W.T∨ ∃ i,(doesC C.g C.long s a).W.T=Jm s.W.T i:=by
 unfold doesC;rw[if_neg (by omega)]
 split
 ·left
  unfold jaU
  split
  ·rfl
  ·split
   ·rfl
   ·split
    ·rfl
    ·show(jM _ _ (jM _ _ s _) _).W.T=_
     grind[jb6]
 grind[Jm,shdC]
theorem HeI.mv (hC:jk C) (m:HpMv C wr h h') (hI:HeI C h):HeI C h':=by
 have ok:=hC.g
 cases m with
 |free h1 h2=>exact⟨hI.ok,hI.t0,hI.i1,h1.trans hI.pa,h2 hI.pb,hI.e,hI.n⟩
 | @help s' h1=>
  have hs:=jfw hI.ok ok h1
  have h0:h.s.ph≠0:=fun e=>by grind[jdA,e,h1]
  have hph:=(jf5 h1).2
  refine⟨jf6 ok hI.ok h1,fun e=>absurd (show s'.ph=0 from e) (by omega),fun _=>?_,?_,hI.pb,by rw[hs.2.1];exact hI.e,by rw[hs.2.1];exact hI.n⟩
  ·obtain⟨S0,A0,hi⟩:=hI.i1 h0
   exact⟨S0,A0,hi.help ok hI.ok h1⟩
  ·rw[hI.pa,decide_eq_true h0]
   grind
 | @step s' k u h1=>
  have h0:h.s.ph≠0:=fun e=>by grind[jed,e,h1]
  have hph:=(jh4 h1).2
  have hT:s'.W.T=h.s.W.T:=step_T ok hI.ok h1
  refine⟨jla ok hI.ok h1,fun e=>absurd (show s'.ph=0 from e) (by omega),fun _=>?_,?_,hI.pb,by rw[hT];exact hI.e,by rw[hT];exact hI.n⟩
  ·obtain⟨S0,A0,hi⟩:=hI.i1 h0
   exact⟨S0,A0,hi.step ok hI.ok h1⟩
  ·rw[hI.pa,decide_eq_true h0]
   grind
 |begin h0=>
  refine⟨jhP ok hC.long hI.ok h0,fun e=>(by cases e),fun _=>⟨_,_,CyI.begin hI.ok h0 (hI.t0 h0)⟩,?_,hI.pb.turn _,hI.e,hI.n⟩
  show(jaH true h.p).act=true
  grind[jaH]
 |publish h3=>
  obtain⟨S0,A0,hi⟩:=hI.i1 (by omega)
  refine⟨jfi hI.ok h3 C.gn,fun _=>(hi.publish hI.ok h3 C.gn).2,fun e=>absurd rfl e,?_,hI.pb.turn _,recy_gen hI.e,?_⟩
  ·show(jaH false h.p).act=false
   grind[jaH]
  ·show(Ji C.gn h.s.W.T).length=_
   unfold Ji;rw [List.length_map];exact hI.n
 | @acts a h2 _=>
  refine hI.act (jim ok hI.ok) (fun P hP=>jgt ok hI.ok hP (by omega)) ?_ ?_
  ·rcases does_TN (C:=C) (s:=h.s) h2 with e|⟨i,e⟩
   ·rw[e];exact hI.e
   ·rw[e];exact drop_gen hI.e
  grind[does_TN,h2,e,jd1]
 | @word n k i w _ h1 h2=>
  have hin:=J8 hI.ok.w h1
  exact hI.act (jfV ok hI.ok (by have:=hin.2;omega) h2) (fun P hP=>jgf ok hI.ok hP h1) hI.e rfl
 | @read n t k i h1 h2 _=>
  obtain⟨hn,hf⟩:=jeD h2
  have ht:t<C.g.slots:=jf0 h2
  refine hI.act (jh9 ok hI.ok ht) (fun P hP=>jgk ok hI.ok hP ht (hP.edge (hP.slot h1) h2)) ?_ ?_
  ·show ∀ e∈jK (shdC _ _ h.s _).W.T _,_
   rw[Jh];exact jkr hI.e
  ·show(jK (shdC _ _ h.s _).W.T _).length=_
   grind[Jh,jbB]
 | @make k hd h1 _ _ _=>
  obtain⟨j,_,hm⟩:=mk_N ok hI.ok (hd:=hd) h1
  refine⟨mk_cy ok hI.ok h1,fun e=>?_,fun e=>?_,?_,hI.pb,jkr hI.e,jbB.trans hI.n⟩
  ·exact(hI.t0 (hm.ph▸e)).make hm
  ·have e':h.s.ph≠0:=hm.ph▸e
   obtain⟨S0,A0,hi⟩:=hI.i1 e'
   exact⟨S0,A0,hi.make ok hI.ok (by omega) hm⟩
  ·exact hI.pa
end
open Go.RowKit
set_option maxRecDepth 10000
section
variable {C : HpC} {wr : Bool} {h h' : HpP} {s s' : CyP} {n : Nat}
theorem HeI.wk0 (hI:HeI C h):HeI C {h with wk:=0}:=⟨hI.ok,hI.t0,hI.i1,hI.pa,hI.pb,hI.e,hI.n⟩
theorem HeI.zr (hI:HeI C h) {t:Nat} (ht:h.s.A[t]?=some false):jbt C.g h.s.W.x t:=by
 by_cases e:h.s.ph=0
 ·exact(hI.t0 e).zr t ht
 ·obtain⟨S0,A0,hi⟩:=hI.i1 e;exact hi.zr t ht
theorem HeI.rch (hI:HeI C h) {t:Nat} (ht:RchM C.g h.s.W t):h.s.A[t]?=some true:=by
 by_cases e:h.s.ph=0
 ·exact(hI.t0 e).tk.rch ht
 ·obtain⟨S0,A0,hi⟩:=hI.i1 e;exact hi.pA (hi.cl.rch ht)
end
end Go.Proofs.YtpcgafhgfjlkmaaGreatDoor.Sw
