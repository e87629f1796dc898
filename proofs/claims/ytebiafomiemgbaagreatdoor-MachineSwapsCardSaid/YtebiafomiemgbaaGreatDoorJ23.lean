/-The walker and the contracts that the law needs,part 23. -/
import Derived.Test.YtebiafomiemgbaaGreatDoorJ21
import Derived.Test.YtebiafomiemgbaaGreatDoorJ22
set_option linter.unusedVariables false set_option linter.unusedSimpArgs false set_option linter.unusedVariables false
set_option linter.unusedSimpArgs false
namespace Go.Proofs.YtebiafomiemgbaaGreatDoor.Sw
set_option maxHeartbeats 8000000
open Go.Proofs.YtebiafomiemgbaaGreatDoor renaming lo → qL, hi → qH
open Go.RowKit
set_option maxRecDepth 10000
theorem jiX {w0:World} {H:jb} {c:Cfg} {vc vt:Value} {i:Nat} (hR:Jc w0 H c vc vt) (hc:jz c=true) (hi:i<c.tn.length):
  Call Tryz.prog w0 104 [jr c vc vt, .int .i64 (i:Nat)] H (fun r H'=>r= .int .i64 (wordsP c (i:Nat))∧H'=H):=by
 have hc1:=fun k b1 b2 (hk:k<c.cl.length)=>words1_K (b1:=b1) (b2:=b2) hR hc hi hk
 have hok:=Jf hc
 have hB:=fun k (hk:k<c.cl.length)=>pw_le (jcH hc hi hk)
 obtain⟨hS,hT',o1,o2,l1,l2⟩:=hR
 have e1:wordsP c (i:Nat)=Jq (pwP c (i:Nat)) c.cl.length:=rfl
 rw[e1]
 obtain⟨f,hf⟩: ∃ f,f=pwP c (i:Nat):=⟨_,rfl⟩
 rw[←hf] at hB hc1⊢
 obtain⟨cl,page,tn,workers,grey,gens⟩:=c
 have hcl:=hok.cl
 dsimp only at hS hT' l1 l2 hcl hc1 hB⊢;simp only[jr,jG] at hc1⊢;refine Call.enter2 (n:=9) (by rfl) Tryz.func104 rfl rfl rfl ?_;refine zew ?_;intro b2 b3;refine zah ?_;refine zN ?_;refine zbk fun T hT=>?_;refine(CallV.part (CallV.fn (sumI_K (H:=(b2,cells [vc, .int .i64 page,vt, .int .i64 workers, .int .i64 grey, .int .i64 gens] 25)::(b3,cells [.int .i64 (i:Nat)] 3)::H) (l:=cl) (f:=f) (hS.part ja) hcl.2 ?_ ?_)) ja).mono ?_
 ·grind
 ·grind[CallV.clo]
 ·rintro _ _ ⟨rfl,rfl⟩;refine ze ?_;clear hT T;exact zq
set_option maxRecDepth 10000
theorem tot1_K {w0:World} {F:jb} {c:Cfg} {vc vt:Value} {b1 i:Nat} (hR:Jc w0 F c vc vt) (hc:jz c=true) (hi:i<c.tn.length):
  Call Tryz.prog w0 103 [.int .i64 (i:Nat), .pointer (some ⟨b1,0,none⟩)] ((b1,cells (jG c vc vt) 25)::F)
   (fun r H'=>r= .int .i64 (wordsP c (i:Nat))∧H'=(b1,cells (jG c vc vt) 25)::F):=by
 have hc0:=fun A (hp:Part A F)=>jiX (hR.part hp) hc hi
 obtain⟨hS,hT',o1,o2,l1,l2⟩:=hR
 obtain⟨p,hp⟩: ∃ p,p=wordsP c (i:Nat):=⟨_,rfl⟩
 rw[←hp] at hc0⊢
 obtain⟨cl,page,tn,workers,grey,gens⟩:=c
 dsimp only at hS hT' l1 l2 hc0⊢;simp only[jr,jG] at hc0⊢;refine Call.enter2 (n:=7) (by rfl) Tryz.func103 rfl rfl rfl ?_;refine zav ?_;refine zgB ?_;exact zq
theorem base1_K {w0:World} {F:jb} {c:Cfg} {vc vt:Value} {b1 i:Nat} (hR:Jc w0 F c vc vt) (hc:jz c=true) (hi:i<c.tn.length):
  Call Tryz.prog w0 106 [.int .i64 (i:Nat), .pointer (some ⟨b1,0,none⟩)] ((b1,cells (jG c vc vt) 25)::F)
   (fun r H'=>r= .int .i64 (wordsP c (i:Nat))∧H'=(b1,cells (jG c vc vt) 25)::F):=by
 have hc0:=fun A (hp:Part A F)=>jiX (hR.part hp) hc hi
 obtain⟨hS,hT',o1,o2,l1,l2⟩:=hR
 obtain⟨p,hp⟩: ∃ p,p=wordsP c (i:Nat):=⟨_,rfl⟩
 rw[←hp] at hc0⊢
 obtain⟨cl,page,tn,workers,grey,gens⟩:=c
 dsimp only at hS hT' l1 l2 hc0⊢;simp only[jr,jG] at hc0⊢;refine Call.enter2 (n:=7) (by rfl) Tryz.func106 rfl rfl rfl ?_;refine zav ?_;refine zgB ?_;exact zq
theorem jlT {w0:World} {H:jb} {c:Cfg} {vc vt:Value} {t:Int} (hR:Jc w0 H c vc vt):
  Call Tryz.prog w0 107 [jr c vc vt, .int .i64 t] H (fun r H'=>r=prV (ja4 c t)∧H'=H):=by
 have hc0:=fun A (hp:Part A H)=>jiZ (t:=t) (k:=0) (hR.part hp)
 have hw:=fun A (hp:Part A H) (i:Nat) (hc:jz c=true) (hi:i<c.tn.length)=>jiX (hR.part hp) hc hi
 obtain⟨hS,hT',o1,o2,l1,l2⟩:=hR
 cases ht:JB c t 0 with
 |false=>
  have he:ja4 c t=(0,2):=by grind[ja4]
  rw[ht] at hc0;rw[he];clear hw
  obtain⟨cl,page,tn,workers,grey,gens⟩:=c
  dsimp only at hS hT' l1 l2 he;simp only[jr,jG] at hc0⊢;refine Call.enter2 (n:=13) (by rfl) Tryz.func107 rfl rfl rfl ?_;refine zb7 ?_;intro b2;refine zgB ?_;refine zaQ ?_;exact zfq
 |true=>
  obtain⟨i,j,x,y,rfl,_,hx,hy,ok⟩:=jcQ ht
  have hil:=jv hx
  have hcp:jz c=true:=by grind[JB]
  have he:ja4 c (i:Nat)=(wordsP c (i:Nat),0):=by grind[ja4]
  have hw':=fun A hp=>hw A hp i hcp hil
  clear hw;rw[ht] at hc0;rw[he]
  obtain⟨p,hp⟩: ∃ p,p=wordsP c (i:Nat):=⟨_,rfl⟩
  rw[←hp] at hw'⊢
  obtain⟨cl,page,tn,workers,grey,gens⟩:=c
  dsimp only at hS hT' l1 l2 he hx hy hil;simp only[jr,jG] at hc0 hw'⊢;refine Call.enter2 (n:=13) (by rfl) Tryz.func107 rfl rfl rfl ?_;refine zb7 ?_;intro b2;refine zgB ?_;refine zy ?_;refine zig ?_;refine zn ?_;refine jp (hw' _ ja) ?_;exact zb5
theorem Total_K {w0:World} {H:jb} {c:Cfg} {vc vt:Value} (hR:Jc w0 H c vc vt):
  Call Tryz.prog w0 78 [jr c vc vt] H (fun r H'=>r=prV (totalP c)∧H'=H):=by
 have hc0:=fun A (hp:Part A H)=>jjD (hR.part hp)
 cases hc:jz c with
 |false=>
  have he:totalP c=(0,2):=by grind[totalP]
  rw[hc] at hc0;rw[he];simp only[jbL,Bool.false_eq_true,if_false] at hc0
  obtain⟨hS,hT',o1,o2,l1,l2⟩:=hR
  obtain⟨cl,page,tn,workers,grey,gens⟩:=c
  dsimp only at hS hT' l1 l2 he;simp only[jr,jG] at hc0⊢;refine Call.enter1 (n:=14) (by rfl) Tryz.func78 rfl rfl rfl ?_;refine zes ?_;intro b1;refine zpB ?_;refine zhQ ?_;refine zap ?_;refine zM ?_;refine zbP ?_;exact zfq
 |true=>
  have hok:=(Jf hc).tn
  have he:totalP c=(Jq (fun i=>wordsP c (i:Nat)) c.tn.length,0):=by grind[totalP]
  have hc1:=fun k b1 (hk:k<c.tn.length)=>tot1_K (b1:=b1) hR hc hk
  have hB:=fun k (hk:k<c.tn.length)=>jfV hc hk
  rw[hc] at hc0;rw[he];simp only[jbL,if_true] at hc0
  obtain⟨f,hf⟩: ∃ f:Nat→Int,f=fun i=>wordsP c (i:Nat):=⟨_,rfl⟩
  have hfi: ∀ i,wordsP c (i:Nat)=f i:=fun i=>by grind
  rw[←hf];simp only[hfi] at hB hc1
  obtain⟨hS,hT',o1,o2,l1,l2⟩:=hR
  obtain⟨cl,page,tn,workers,grey,gens⟩:=c
  dsimp only at hS hT' l1 l2 he hok hB hc1⊢;simp only[jr,jG] at hc0 hc1⊢;refine Call.enter1 (n:=14) (by rfl) Tryz.func78 rfl rfl rfl ?_;refine zes ?_;intro b1;refine zpB ?_;refine zhQ ?_;refine zbR ?_;refine zK ?_;refine zaa ?_;refine zbk fun T hT=>?_;refine(CallV.part (CallV.fn (sumT_K (H:=(b1,cells [vc, .int .i64 page,vt, .int .i64 workers, .int .i64 grey, .int .i64 gens] 25)::H) (l:=tn) (f:=f) (hT'.part ja) hok.2 (fun k hk=>hB k hk) ?_)) ja).mono ?_
  ·grind[CallV.clo]
  ·rintro _ _ ⟨rfl,rfl⟩;refine ze ?_;clear hT T;exact zb5
set_option maxRecDepth 10000
def gOf (c:Cfg) (t:Int):PlG:=⟨c.cl.map Int.toNat,c.page.toNat,(jbM c t).toNat⟩
section
variable {c : Cfg} {t : Int}
theorem gOf_m:(gOf c t).m=c.cl.length:=by simp[PlG.m,gOf]
theorem gOf_y {k:Nat} {y:Int} (h:c.cl[k]?=some y):(gOf c t).y k=y.toNat:=by
 grind[PlG.y,gOf]
structure GAt (c:Cfg) (t:Int) (g:PlG):Prop where
 ok:jg g
 m:g.m=c.cl.length
 page:c.page=(g.pg:Nat)
 y: ∀ (k:Nat) (y:Int),c.cl[k]?=some y→y=(g.y k:Nat)
 slots: ∀ k:Nat,k<g.m→jaP c t (k:Nat)=(((g.n k:Nat):Int),0)
 pages: ∀ k:Nat,k<g.m→pagesP c t (k:Nat)=(((g.pgs k:Nat):Int),0)
 region:ja4 c t=(((g.words:Nat):Int),0)
theorem sum_cum {f:Nat→Int} {n:Nat→Nat} {p:Nat}: ∀ {m:Nat},(∀ k,k<m→f k=((n k*p:Nat):Int))→Jq f m=((jE n m*p:Nat):Int)
 |0,_=>by simp[Jq,jE]
 |m+1,h=>by
  have h1:=sum_cum (m:=m) (fun k hk=>h k (by omega))
  have h2:=h m (by omega)
  simp only[Jq,jE,h1,h2,Nat.add_mul];omega
theorem g_at (h:JB c t 0=true):GAt c t (gOf c t):=by
 obtain⟨i,j,x,y0,rfl,_,hx,_,ok⟩:=jcQ h
 have hil:=jv hx
 have hcp:jz c=true:=by simp only[JB,Bool.and_eq_true] at h;exact h.1
 have hq:jbM c (i:Nat)=x.quota:=by simp[jbM,hx]
 obtain⟨⟨q1,q2⟩,_⟩:=ok.ten x (List.mem_of_getElem? hx)
 have hpg:=ok.page
 have key: ∀ k,k<c.cl.length→ ∃ y:Nat,c.cl[k]?=some (y:Int)∧2≤y∧(y:Int)≤topP c.cl∧(gOf c (i:Nat)).y k=y:=by
  intro k hk
  obtain⟨y,hy⟩:=jh hk
  have h1:=ok.el y (List.mem_of_getElem? hy)
  refine⟨y.toNat,by rw[hy];congr 1;omega,by omega,by omega,gOf_y hy⟩
 obtain⟨q,hqn⟩: ∃ q:Nat,x.quota=q:=⟨x.quota.toNat,by obtain⟨y,_,h2,h3,_⟩:=key 0 (by have:=ok.cl;omega);omega⟩
 obtain⟨p,hpn⟩: ∃ p:Nat,c.page=p:=⟨c.page.toNat,by obtain⟨y,_,h2,h3,_⟩:=key 0 (by have:=ok.cl;omega);omega⟩
 have hgq:(gOf c (i:Nat)).q=q:=by simp[gOf,hq,hqn]
 have hgp:(gOf c (i:Nat)).pg=p:=by simp[gOf,hpn]
 have hgm:(gOf c (i:Nat)).m=c.cl.length:=gOf_m
 have hth: ∀ k,k<c.cl.length→JB c (i:Nat) (k:Nat)=true:=fun k hk=>jcH hcp hil hk
 have hok:jg (gOf c (i:Nat)):=by
  refine⟨by rw[hgm];exact ok.cl,fun k hk=>?_,by rw[hgp];omega,by rw[hgq];omega⟩;rw[hgm] at hk
  obtain⟨y,_,h2,h3,h4⟩:=key k hk
  rw[h4,hgp,hgq];omega
 have hsl: ∀ k:Nat,k<(gOf c (i:Nat)).m→jaP c (i:Nat) (k:Nat)=((((gOf c (i:Nat)).n k:Nat):Int),0):=by
  intro k hk;rw[hgm] at hk
  obtain⟨y,h1,h2,h3,h4⟩:=key k hk
  simp only[jaP,hth k hk,if_true,jb4,hq,cfgC,Int.toNat_natCast,h1,Option.getD_some,PlG.n,h4,hgq,hqn]
  rfl
 have hpp: ∀ k:Nat,k<(gOf c (i:Nat)).m→pagesP c (i:Nat) (k:Nat)=((((gOf c (i:Nat)).pgs k:Nat):Int),0):=by
  intro k hk
  have b1:=hok.n hk
  have b2:=hok.per hk
  rw[hgm] at hk
  obtain⟨y,h1,h2,h3,h4⟩:=key k hk
  have e1:((gOf c (i:Nat)).n k:Int)=(q:Int)/(y:Int):=by simp only[PlG.n,h4,hgq];rfl
  have e2:((gOf c (i:Nat)).per k:Int)=(p:Int)/(y:Int):=by simp only[PlG.per,h4,hgp];rfl
  simp only[pagesP,hth k hk,if_true,jep,hq,cfgC,Int.toNat_natCast,h1,Option.getD_some,hqn,hpn,←e1,←e2]
  congr 1
  unfold PlG.pgs
  have e3:(((gOf c (i:Nat)).n k:Nat):Int)+((gOf c (i:Nat)).per k:Nat)-1=(((gOf c (i:Nat)).n k+(gOf c (i:Nat)).per k-1:Nat):Int):=by omega
  rw[e3];rfl
 refine⟨hok,hgm,by rw[hgp,hpn],?_,hsl,hpp,?_⟩
 ·intro k y hy
  obtain⟨y',h1,h2,h3,h4⟩:=key k (jv hy)
  rw[h4,hy] at*
  cases h1;rfl
 ·simp only[ja4,h,if_true,wordsP]
  congr 1
  rw[←hgm]
  refine sum_cum fun k hk=>?_
  simp only[pwP,hpp k hk,hpn,hgp]
  rfl
end
open Go.RowKit
set_option maxRecDepth 10000
section
variable {g : PlG} {long nw : Nat} {s s' : CyP}
theorem goes_cy (ok:jg g) (h:CyPre g long s):jw g long (Js g s):=by
 have hsl:=ok.slots
 unfold Js
 split
 ·rename_i h1
  obtain⟨a,b,c,d⟩:=h.p1 h1.1
  rw[if_neg (by omega)];exact⟨⟨h.w,h.rf,h.m,h.i,h.A,h.D,fun e=>(by grind),fun e=>(by grind),fun _=>⟨a,rfl,by grind⟩,fun e=>(by grind),by grind,fun _ t=>jlB h1.2 t⟩,fun _=>by grind,fun e=>(by grind)⟩
 ·rename_i h1
  split
  ·rename_i h2
   obtain⟨a,b,c⟩:=h.p2 h2.1
   exact⟨⟨h.w,h.rf,h.m,h.i,h.A,h.D,fun e=>(by grind),fun e=>(by grind),fun e=>(by grind),fun _=>⟨a,b,h2.2⟩,by grind,fun _=>h.dn (by omega)⟩,fun e=>(by grind),fun e=>(by grind)⟩
  ·rename_i h2
   refine⟨h,fun e=>?_,fun e=>?_⟩
   ·have:=(h.p2 e).2.2
    omega
   grind
theorem jfs (ok:jg g) (h:CyPre g long s):jw g long (madeC g s):=
 goes_cy ok ⟨h.w,h.rf,h.m,h.i,h.A,h.D,h.p0,h.p1,h.p2,h.p3,h.ph,h.dn⟩
theorem wipe_rf (ok:jg g) {x:List Int} (hx:x.length=g.words) (h:jbA g x) {t:Nat} {y:jq} (hy:g.L[t]?=some y):jbA g (J6 x y):=fun q z hz j hj=>by
 have f1:=ok.fits hy
 have f2:=ok.fits hz
 have h1:=jaq hj
 by_cases e:t=q
 ·grind[jbC]
 ·have:=ok.apart hy hz e
  rw[jdZ (x:=x) (by grind[jbC])] at hj;rw[jbC (by omega),if_neg (by omega)];exact h q z hz j hj
theorem CyPre.wipe (ok:jg g) (h:CyPre g long s) (h2:s.ph=2) {t:Nat} (ht:t<g.slots):jad g {s.W with x:=J6 s.W.x (jA g (t:Nat))}∧jbA g (J6 s.W.x (jA g (t:Nat)))∧jL g long {s.W with x:=J6 s.W.x (jA g (t:Nat))} s.m:=by
 obtain⟨y,hy⟩:=j9 ht
 rw[jW hy]
 have hf:=ok.fits hy
 have hx:=h.w.x
 refine⟨⟨(jd0 (by omega)).trans hx,jac.cleared h.w.w,h.w.N,h.w.n,h.w.t⟩,wipe_rf ok hx h.rf hy,⟨h.m.C,h.m.c,h.m.G,h.m.hs,fun k q hk=>?_,h.m.root⟩⟩
 rcases h.m.h k q hk with⟨e1,e2,e3,_⟩|e
 ·exact absurd (.inr (.inr ⟨k,q,hk,e1,by omega⟩)) (h.dn (by omega) q.slot.toNat)
 grind
theorem jdw (ok:jg g) (h:jw g long s) (h2:s.ph=2) (hs:sweepC g s=some s'):CyPre g long s'∧s'.ph=2∧s'.at_=s.at_+1∧s'.m=s.m∧s'.A=s.A∧s'.W.T=s.W.T∧s'.W.N=s.W.N∧s'.st=s.st:=by
 have hlt:=h.lt h2
 obtain⟨a,b,_⟩:=h.p2 h2
 unfold sweepC at hs;rw[if_pos ⟨b,hlt⟩] at hs
 have hdn:=h.dn (by omega)
 split at hs
 ·cases hs
  obtain⟨w1,w2,w3⟩:=h.toCyPre.wipe ok h2 hlt
  exact⟨⟨w1,w2,w3,h.i,h.A,by show(s.D.set _ _).length=_;rw [List.length_set];exact h.D,fun e=>(by grind),fun e=>(by grind),fun _=>⟨a,b,hlt⟩,fun e=>(by grind),by grind,fun _=>hdn⟩,h2,rfl,rfl,rfl,rfl,rfl,rfl⟩
 ·cases hs
  exact⟨⟨h.w,h.rf,h.m,h.i,h.A,h.D,fun e=>(by grind),fun e=>(by grind),fun _=>⟨a,b,hlt⟩,fun e=>(by grind),by grind,fun _=>hdn⟩,h2,rfl,rfl,rfl,rfl,rfl,rfl⟩
theorem jeN (ok:jg g) (h:jw g long s) (h1:s.ph=1) {m':MaP} {k u:Int} (hm:j0 g long s.W s.m k u=some m'):CyPre g long {s with m:=m'}:=by
 obtain⟨a,b,c,d⟩:=h.p1 h1
 obtain⟨z1,_,_,z4,_⟩:=jfp ok h.m hm
 have z5:=jgP ok h.m h.w h.i hm
 exact⟨h.w,h.rf,z1,z5.i,h.A,h.D,fun e=>(by grind),fun _=>⟨z4.trans a,b,c,d⟩,fun e=>(by grind),fun e=>(by grind),h.ph,fun e=>absurd (show 2≤s.ph from e) (by omega)⟩
theorem step_cy (ok:jg g) (h:jw g long s) {k u:Int} (hs:stepC g long nw s k u=some s'):jw g long s':=by
 unfold stepC at hs
 split at hs
 ·rename_i h1
  cases hm:j0 g long s.W s.m k u with
  |none=>grind
  |some m'=>grind[jfs,jeN,h1]
 grind[sweepC,h2,jfs,jdw]
theorem jhe (ok:jg g) (h:jw g long s) (hs:j8 g long s=some s'):jw g long s':=by
 unfold j8 at hs
 split at hs
 ·rename_i h1
  cases hm:jaA g long s.W s.m with
  |none=>grind
  |some m'=>
   grind[jeA,jfs,jeN,h1]
 grind[sweepC,h2,jfs,jdw]
theorem jiT (ok:jg g) (hl:1≤long) (h:jw g long s) (h0:s.ph=0):jw g long (beginC g s):=by
 obtain⟨a,b,c,d⟩:=h.p0 h0
 have h9:=h.m.hs
 have hsl:=ok.slots
 refine⟨⟨h.w,h.rf,new_ok hl (by omega),new_in,h.A,h.D,fun e=>(by cases e),fun _=>⟨rfl,b,c,d⟩,fun e=>(by cases e),fun e=>(by cases e),by show 1≤3;decide,fun e=>absurd (show 2≤1 from e) (by decide)⟩,fun e=>(by cases e),fun _=>?_⟩
 show jaa g s.W (jam g _ true)=false
 grind[jaa,jam]
end
open Go.RowKit
set_option maxRecDepth 10000
section
variable {g : PlG} {long nw : Nat} {s s' : CyP} {W W' : MwP} {m : MaP} {sl r i to : Int}
theorem actW_make (hin:inS g sl):J5 g W ⟨0,sl,0,0,r,0⟩={W with x:=(makeP W.x (jA g sl) (hdM (jA g sl) r)).2}:=by
 grind[J5]
theorem jlP (hin:inS g sl) (h0:(refP W.x g.slots (jA g sl) i).2=0):J5 g W ⟨2,sl,i,to,0,0⟩={W with x:=(Jy W.x g.slots (jA g sl) i to).2}:=by
 unfold J5;dsimp only;rw [if_neg (by decide),if_pos (by decide),if_pos ⟨hin,h0⟩]
theorem jeB (hin:inS g sl):J5 g W ⟨4,sl,0,0,0,0⟩={W with T:=jH W.T sl}:=by
 grind[J5]
theorem jfU:J5 g W ⟨5,0,i,0,0,0⟩={W with T:=Jk W.T i}:=by
 rfl
theorem jlQ (hin:inS g sl):J5 g W ⟨6,sl,0,0,0,0⟩={W with N:=jav W.N sl.toNat}:=by
 grind[J5]
theorem jfK (hin:inS g sl):J5 g W ⟨7,sl,0,0,0,0⟩={W with N:=jax W.N sl.toNat}:=by
 grind[J5]
theorem jaG (hW:jad g W) {n:Int} (h:slotT W.T n=some sl):inS g sl:=by
 unfold slotT at h
 split at h
 ·split at h
  ·rename_i e he
   split at h
   ·rename_i h1
    cases h
    exact hW.t e (List.mem_of_getElem? he) h1
   grind
  grind
 grind
theorem makes_cy (ok:jg g) (h:jw g long s) {a:ja0}:jw g long (makesC g s a):=by
 unfold makesC
 split
 ·rename_i hc
  obtain⟨k,j,_,_,hf,ht,_⟩:=jew hc.1
  obtain⟨_,_,h3,_⟩:=jdY hf
  have hl:=jv h3
  rw[h.A] at hl;rw[ht];dsimp only
  have hin:inS g (j:Nat):=⟨by omega,by omega⟩
  have h1:=(h.world ok (a:=⟨4,(j:Nat),0,0,0,0⟩)).world ok (a:=⟨0,(j:Nat),0,0,a.i,0⟩)
  dsimp only at h1;rw[jeB hin,actW_make hin] at h1;exact(h1.black _).take (by grind)
 omega
theorem shdC_W (t:Int):(shdC g long s t).W=s.W:=by grind[shdC]
theorem jei (t:Int):(Jd g long s t).W=s.W:=by
 grind[Jd,shdC_W]
theorem shdO_cy (ok:jg g) (h:jw g long s) (t:Int):jw g long (Jd g long s t):=by
 unfold Jd;split
 ·exact h.shd ok t
 omega
theorem put_cy (ok:jg g) (h:jw g long s) (hin:inS g sl) (h0:(refP s.W.x g.slots (jA g sl) i).2=0) (to:Int):jw g long (jcD g s sl i to):=by
 have h1:=h.world ok (a:=⟨2,sl,i,to,0,0⟩)
 rw[jlP hin h0] at h1;exact h1
theorem sets_cy (ok:jg g) (h:jw g long s) {a:ja0}:jw g long (jbj g long s a):=by
 unfold jbj
 split
 ·omega
 ·rename_i sl hs
  have hin:=jaG h.w hs
  grind[put_cy,shdO_cy,jei]
theorem jjj (ok:jg g) (h:jw g long s) {a:ja0}:jw g long (doesC g long s a):=by
 unfold doesC
 split
 ·grind[makes_cy]
 ·split
  ·grind[sets_cy]
  ·split
   ·omega
   ·rename_i sl hs
    have hin:=jaG h.w hs
    split
    ·have h1:=(h.shd ok sl).world ok (a:=⟨5,0,a.n,0,0,0⟩)
     rwa[jfU] at h1
    ·split
     ·have h1:=h.world ok (a:=⟨6,sl,0,0,0,0⟩)
      grind[jlQ,h1]
     ·have h1:=(h.shd ok sl).world ok (a:=⟨7,sl,0,0,0,0⟩)
      grind[jfK,h1]
theorem recy_live {gens:Int} {e:jl} (h:(jah gens e).st=1):jah gens e=e:=by
 grind[jah]
theorem jgy (h:jw g long s) (h3:s.ph=3) (gens:Int):jw g long (publishC g gens s):=by
 refine⟨⟨⟨h.w.x,h.w.w,h.w.N,h.w.n,fun e he h1=>?_⟩,h.rf,⟨h.m.C,h.m.c,h.m.G,h.m.hs,h.m.h,by show s.m.root≤(j5 gens s.W.T).length+_;unfold j5;rw [List.length_map];exact h.m.root⟩,⟨h.i.grey,h.i.lst⟩,(jml _ _).trans h.A,List.length_replicate ..,fun _=>⟨rfl,rfl,rfl,rfl⟩,fun e=>(by cases e),fun e=>(by cases e),fun e=>(by cases e),by show 0≤3;decide,fun e=>absurd (show 2≤0 from e) (by decide)⟩,fun e=>(by cases e),fun e=>(by rfl)⟩
 have he':e∈s.W.T.map (jah gens):=he
 obtain⟨q,hq,rfl⟩:=List.mem_map.1 he'
 have e:=recy_live h1
 rw[e] at h1⊢;exact h.w.t q hq h1
end
open Go.RowKit
set_option maxRecDepth 10000
section
variable {w0 : World} {F : jb} {B : BoM} {x : List Int} {s : Nat} {y : jq}
theorem bload_K {ref:Bool} {i:Int} (hG:ji w0) (ok:jaD B x) (hy:B.p.g.L[s]?=some y):
  Call Tryz.prog w0 265 [.pointer (some ⟨B.b,0,none⟩), .bool ref, .int .i64 (s:Nat), .int .i64 i] (jT B++(jy B.m++(planH B.p++F)))
   (fun r H'=>r= .tuple [.int .u64 (if fldP x y ref i=0 then wAt x (fAt y i) else 0), .int .i64 (fldP x y ref i)].toArray∧H'=jT B++(jy B.m++(planH B.p++F))):=by
 have okm:=ok.m
 have hr:=ok.r
 obtain⟨f1,f2,f3,_⟩:=ok.p.g.fits hy
 have hin:=fun(e:fldP x y ref i=0)=>jaq e
 have hn:=ok.n
 refine Call.enter4 (n:=18) (by rfl) Tryz.func265 rfl rfl rfl ?_;refine zbc ?_;intro b4 b8;refine zgs ?_;refine zB ?_;refine zj ?_;refine zbk fun T hT=>?_
 refine(CallV.part (CallV.fn (bat_K (F:=(b4,cells [.pointer (some ⟨B.b,0,none⟩)] 122)::(b8,cells [.int .u64 0] 34)::F) (ref:=ref) (i:=i) (g:=310) (cap:=[.pointer (some ⟨b4,0,none⟩), .pointer (some ⟨b8,0,none⟩)])
  (B1:=jT B++(jy B.m++(planH B.p++((b4,cells [.pointer (some ⟨B.b,0,none⟩)] 122)::(b8,cells [.int .u64 (wAt x (fAt y i))] 34)::F)))) hG ok hy ?_)) ja).mono ?_
 ·intro e A
  obtain⟨q1,q2,q3⟩:=hin e
  have hwx:=wAt_get (x:=x) (a:=fAt y i) (by omega)
  refine CallV.clo (cap:=[.pointer (some ⟨b4,0,none⟩), .pointer (some ⟨b8,0,none⟩)]) ?_;refine Call.enter3 (n:=17) (by rfl) Tryz.func310 rfl rfl rfl ?_;rw[jbn];refine K.drawn _ [(0,0),(1,0),(2,0),(3,0),(4,0),(5,0),(6,0),(7,0),(8,0),(9,2),(10,0),(11,0),(12,1),(13,2)] (by rfl) (by rfl) (by kernel_rfl) (by rfl) (by rfl) (by rfl) (Part.takeA JA.head (Part.takeA JA.head (Part.takeA JA.head (Part.takeA JA.head (Part.take jI.head (Part.drop Part.all)))))) ?_;refine zcG ?_;refine zet ?_;refine zcG ?_;refine zdA ?_;refine zd9 fun T hT=>?_;refine(CallV.part (CallV.fn (Load_K okm hr hwx)) ja).mono ?_;rintro _ _ ⟨rfl,rfl⟩;refine zi ?_;clear hT T;refine zlf ?_;refine zcl ?_;exact KE.finN je rfl jd (by rw[jbn];exact ja) ⟨rfl,rfl⟩
 ·rintro _ _ ⟨rfl,rfl⟩
  by_cases e:fldP x y ref i=0
  ·rw[if_pos e];refine ze ?_;clear hT T;simp only[if_pos e];refine zgs ?_;refine zj ?_;refine zaq ?_;exact zq
  ·rw[if_neg e];refine ze ?_;clear hT T;simp only[if_neg e];refine zgs ?_;refine zj ?_;refine zaq ?_;exact zq
theorem bRef_K {i:Int} (hG:ji w0) (ok:jaD B x) (hy:B.p.g.L[s]?=some y):
  Call Tryz.prog w0 203 [.pointer (some ⟨B.b,0,none⟩), .int .i64 (s:Nat), .int .i64 i] (jT B++(jy B.m++(planH B.p++F)))
   (fun r H'=>r= .tuple [.int .i64 (refP x B.p.g.slots y i).1, .int .i64 (refP x B.p.g.slots y i).2].toArray∧H'=jT B++(jy B.m++(planH B.p++F))):=by
 have okp:=ok.p
 have hs:=okp.g.slots
 have hw:=ok.w.at_ (fAt y i)
 obtain⟨e,he⟩: ∃ e,fldP x y true i=e:=⟨_,rfl⟩
 obtain⟨v,hv⟩: ∃ v,wAt x (fAt y i)=v:=⟨_,rfl⟩
 have hl:=fun A=>bload_K (w0:=w0) (F:=A) (ref:=true) (i:=i) hG ok hy
 unfold refP;rw[he] at hl⊢;rw[hv] at hw hl⊢
 by_cases h0:e=0
 ·subst h0;simp only[if_true] at hl⊢
  by_cases hgt:v>(B.p.g.slots:Nat)
  ·rw[if_pos hgt]
   have hgt':((B.p.g.slots:Nat):Int)<v:=hgt
   refine zqr ?_;refine zlu ?_;refine zn ?_;refine jn (hl _) ja ?_;refine zeI ?_;refine zcw ?_;refine zb6 ?_;refine zrO ?_;refine zfG ?_;refine zaT ?_;refine zaG ?_;refine zd5 ?_;refine zab ?_;refine zbG ?_;exact zH
  ·rw[if_neg hgt]
   have hgt': ¬v>((B.p.g.slots:Nat):Int):=hgt
   refine zqr ?_;refine zlu ?_;refine zn ?_;refine jn (hl _) ja ?_;refine zeI ?_;refine zcw ?_;refine zb6 ?_;refine zrO ?_;refine zfG ?_;refine zaT ?_;refine zaA ?_;refine zhh ?_;refine zaT ?_;refine zc0 ?_;exact zb5
 ·simp only[if_neg h0] at hl⊢;refine zqr ?_;refine zlu ?_;refine zn ?_;refine jn (hl _) ja ?_;refine znz ?_;refine zM ?_;refine zt ?_;refine zbP ?_;refine zab ?_;refine zbG ?_;exact zH
theorem bSetRef_K {i to:Int} (hG:ji w0) (ok:jaD B x) (hy:B.p.g.L[s]?=some y):
  Call Tryz.prog w0 206 [.pointer (some ⟨B.b,0,none⟩), .int .i64 (s:Nat), .int .i64 i, .int .i64 to] (jT B++(jy B.m++(planH B.p++F)))
   (fun r H'=>r= .int .i64 (Jy x B.p.g.slots y i to).1∧H'=jT B++(jy (jaB B.m B.t (Jy x B.p.g.slots y i to).2)++(planH B.p++F))):=by
 have okp:=ok.p
 have hs:=okp.g.slots
 have hself:=jgF ok.r
 have hst:=fun A=>jlH (w0:=w0) (F:=A) (ref:=true) (i:=i) (w:=to+1) hG ok hy
 unfold Jy
 by_cases h1:to< -1
 ·rw[if_pos (.inl h1)];dsimp only;rw[hself];refine zqs ?_;refine zhA ?_;refine zbq ?_;refine zi7 ?_;refine zil ?_;refine zbR ?_;refine zez ?_;refine zI ?_;refine zdJ ?_;refine zbh ?_;exact zaL
 ·by_cases h2:to≥(B.p.g.slots:Nat)
  ·rw[if_pos (.inr h2)];dsimp only;rw[hself]
   have h2':to≥((B.p.g.slots:Nat):Int):=h2
   refine zqs ?_;refine zhA ?_;refine zbq ?_;refine zi7 ?_;refine zil ?_;refine zbR ?_;refine zez ?_;refine zW ?_;refine zc9 ?_;refine zc8 ?_;refine zp ?_;refine zfG ?_;refine zl ?_;refine zcE ?_;exact zaL
  ·rw[if_neg (by omega)]
   have h2': ¬to≥((B.p.g.slots:Nat):Int):=h2
   refine zqs ?_;refine zhA ?_;refine zbq ?_;refine zi7 ?_;refine zil ?_;refine zbR ?_;refine zez ?_;refine zW ?_;refine zc9 ?_;refine zc8 ?_;refine zp ?_;refine zfG ?_;refine zl ?_;refine zhm ?_;refine zB ?_;refine zB ?_;refine zaB ?_;refine zaT ?_;refine zp ?_;refine jn (hst _) ja ?_
   by_cases e:fldP x y true i=0
   ·simp only[e,if_true];exact zq
   ·simp only[if_neg e];exact zq
end
set_option maxRecDepth 10000
section
variable {w0 : World} {F : jb} {q : PiM}
theorem pi_set {s:Nat} {n:Int} (ok:PiOk q) (hs:s<q.l.length) (hn:0≤n∧n≤255):PiOk ⟨q.b,JR q.r s (decide (0<n)),q.l.set s n,q.o⟩:=by
 refine⟨jeL ok.r _ _,ok.o.set _ _,?_,by simpa using ok.m,fun v hv=>?_⟩
 ·show q.r.bs.set s (decide (0<n))=_
  rw[ok.n,List.map_set]
 ·rcases List.mem_or_eq_of_mem_set hv with h|rfl
  ·exact ok.v v h
  omega
theorem jkj {s:Int} (ok:PiOk q):
  Call Tryz.prog w0 209 [.pointer (some ⟨q.b,0,none⟩), .int .i64 s] (JX q++F) (fun r H'=>r= .int .i64 (if 0≤s then(q.l[s.toNat]?).getD 0 else 0)∧H'=JX q++F):=by
 have ho:=ok.o
 have hm:=ok.m
 by_cases h0:s<0
 ·rw[if_neg (by omega)];refine zqt ?_;refine zaf ?_;refine zkH ?_;simp only[jbP];refine zgq ?_;refine zdJ ?_;refine zgv ?_;exact zlV
 ·rw[if_pos (by omega)]
  by_cases h1:s<(q.l.length:Nat)
  ·obtain⟨k,rfl⟩: ∃ k:Nat,s=(k:Nat):=⟨s.toNat,by omega⟩
   obtain⟨v,hv⟩:=jh (l:=q.l) (k:=k) (by omega)
   have hvb:=ok.v v (List.mem_of_getElem? hv)
   have hk:k<q.l.length:=by omega
   have hge: ¬((k:Nat):Int)≥(q.l.length:Nat):=by omega
   rw[show((k:Nat):Int).toNat=k by omega,hv];dsimp only[Option.getD];refine zqt ?_;refine zaf ?_;refine zkH ?_;simp only[jbP];refine zeN ?_;refine zbK ?_;refine zfo ?_;refine zas ?_;refine zae ?_;refine zj ?_;refine zcc ?_;refine zdp ?_;refine zaT ?_;refine zm ?_;exact zlV
  ·have hge:s≥((q.l.length:Nat):Int):=by omega
   rw[List.getElem?_eq_none (by omega)];dsimp only[Option.getD];refine zqt ?_;refine zaf ?_;refine zkH ?_;simp only[jbP];refine zeN ?_;refine zbK ?_;refine ze9 ?_;refine zcE ?_;refine zaE ?_;exact zlV
theorem more_K {b:Value} {n:Int} (hn:0≤n∧n≤255):
  Call Tryz.prog w0 269 [b, .int .u8 n] F (fun r H'=>r= .tuple [.int .u8 ((n+1)%256), .bool (decide (n<255))].toArray∧H'=F):=by
 by_cases h:n<255
 ·rw[decide_eq_true h];rw[show(n+1)%256=n+1 by omega];refine Call.enter2 (n:=10) (by rfl) Tryz.func269 rfl rfl rfl ?_;refine zL ?_;refine zap ?_;refine zaB ?_;refine zj ?_;refine zI ?_;exact zb5
 ·rw[decide_eq_false h];refine Call.enter2 (n:=10) (by rfl) Tryz.func269 rfl rfl rfl ?_;refine zL ?_;refine zap ?_;refine KL.v rfl (Val.addW rfl rfl) ?_;refine zj ?_;refine zW ?_;exact zb5
theorem less_K {b:Value} {n:Int} (hn:0≤n∧n≤255):
  Call Tryz.prog w0 270 [b, .int .u8 n] F (fun r H'=>r= .tuple [.int .u8 ((n-1)%256), .bool (decide (0<n))].toArray∧H'=F):=by
 by_cases h:0<n
 ·rw[decide_eq_true h,show(n-1)%256=n-1 by omega];refine Call.enter2 (n:=10) (by rfl) Tryz.func270 rfl rfl rfl ?_;refine zL ?_;refine zap ?_;refine zc0 ?_;refine zj ?_;refine zaG ?_;exact zb5
 ·rw[decide_eq_false h];refine Call.enter2 (n:=10) (by rfl) Tryz.func270 rfl rfl rfl ?_;refine zL ?_;refine zap ?_;refine KL.v rfl (Val.subW rfl rfl) ?_;refine zj ?_;refine zaA ?_;exact zb5
theorem jlf {s:Nat} {v n:Int} {is:Bool} {yv:FuncId} {cap:List Value} (ok:PiOk q) (hv:q.l[s]?=some v) (hn:is=true→0≤n∧n≤255)
  (hby: ∀ A,CallV Tryz.prog w0 (.func (.func yv) cap.toArray #[]) [.int .u8 v] A (fun r H'=>r= .tuple [.int .u8 n, .bool is].toArray∧H'=A)):
  Call Tryz.prog w0 268 [.pointer (some ⟨q.b,0,none⟩), .int .i64 (s:Nat), .func (.func yv) cap.toArray #[]] (JX q++F) (fun r H'=>r= .int .i64 (if is=true then 0 else 140)∧ ∃ q',PiOk q'∧q'.b=q.b∧q'.l=(if is=true then q.l.set s n else q.l)∧H'=JX q'++F):=by
 have ho:=ok.o
 have hr:=ok.r
 have hm:=ok.m
 have hs:=jv hv
 have hvb:=ok.v v (List.mem_of_getElem? hv)
 have hge: ¬((s:Nat):Int)≥(q.l.length:Nat):=by omega
 have hrs:s<q.r.bs.length:=by rw[ok.n,List.length_map];omega
 refine Call.enter3 (n:=53) (by rfl) Tryz.func268 rfl rfl rfl ?_;refine zL ?_;refine zdl ?_;refine zn ?_;refine zkH ?_;simp only[jbP];refine zck ?_;refine zc9 ?_;refine zbK ?_;refine zfo ?_;refine zbA ?_;refine zb6 ?_;refine zae ?_;refine zj ?_;refine zcc ?_;refine zdp ?_;refine zu fun T hT=>?_;refine(hby _).mono ?_;rintro _ _ ⟨rfl,rfl⟩;refine ze ?_;clear hT T
 cases is with
 |false=>
  simp only[Bool.false_eq_true,if_false];refine zbi ?_;refine zaQ ?_;refine zaE ?_;exact KE.fin je rfl jd (by first|exact ja|(simp only[jbP];exact ja)) ⟨rfl,q,ok,rfl,rfl,rfl⟩
 |true=>
  have hnb:=hn rfl
  simp only[if_true];refine zbi ?_;refine zy ?_;refine zas ?_;refine zae ?_;refine zB ?_;refine zcc ?_;refine KL.eN (Eff.stSl0 rfl rfl rfl rfl jj (by omega) (by assumption) rfl rfl) ?_;rintro _ _ rfl;refine zal ?_;refine zF ?_;refine zN ?_;refine zB ?_;refine KL.v rfl (Val.gtr rfl rfl) ?_;refine zp ?_;refine jn (je5 (v:=decide (0<n)) hr hrs) ja ?_;refine zm ?_;exact KE.fin (H':=JX ⟨q.b,JR q.r s (decide (0<n)),q.l.set s n,q.o⟩++F) je rfl jd (by simp only[jbP,List.length_set];exact ja) ⟨rfl,⟨q.b,JR q.r s (decide (0<n)),q.l.set s n,q.o⟩,pi_set ok hs hnb,rfl,rfl,by grind[jbP]⟩
theorem Pin2_K {s:Nat} (ok:PiOk q) (hs:s<q.l.length):
  Call Tryz.prog w0 208 [.pointer (some ⟨q.b,0,none⟩), .int .i64 (s:Nat)] (JX q++F) (fun r H'=>r= .int .i64 (if (q.l[s]?).getD 0<255 then 0 else 140)∧ ∃ q',PiOk q'∧q'.b=q.b∧q'.l=jav q.l s∧H'=JX q'++F):=by
 obtain⟨v,hv⟩:=jh hs
 have hvb:=ok.v v (List.mem_of_getElem? hv)
 have hp:jav q.l s=if decide (v<255)=true then q.l.set s ((v+1)%256) else q.l:=by
  grind[jav]
 have he:(if (q.l[s]?).getD 0<255 then(0:Int) else 140)=if decide (v<255)=true then 0 else 140:=by
  grind
 rw[hp,he];refine Call.enter2 (n:=10) (by rfl) Tryz.func208 rfl rfl rfl ?_;refine zc6 ?_;refine zj ?_;refine za5 ?_;refine zp ?_;refine jB (jlf (cap:=[.pointer (some ⟨q.b,0,none⟩)]) ok hv (fun h=>by omega) fun A=>CallV.bound (first:=[.pointer (some ⟨q.b,0,none⟩)]) (more_K hvb)) ja ?_;rintro _ _ ⟨rfl,q',h1,h2,h3,rfl⟩;refine zm ?_;exact KE.fin je rfl jd ja ⟨rfl,q',h1,h2,h3,rfl⟩
theorem Unpin2_K {s:Nat} (ok:PiOk q) (hs:s<q.l.length):
  Call Tryz.prog w0 210 [.pointer (some ⟨q.b,0,none⟩), .int .i64 (s:Nat)] (JX q++F) (fun r H'=>r= .int .i64 (if 0<(q.l[s]?).getD 0 then 0 else 140)∧ ∃ q',PiOk q'∧q'.b=q.b∧q'.l=jax q.l s∧H'=JX q'++F):=by
 obtain⟨v,hv⟩:=jh hs
 have hvb:=ok.v v (List.mem_of_getElem? hv)
 have hp:jax q.l s=if decide (0<v)=true then q.l.set s ((v-1)%256) else q.l:=by
  grind[jax]
 have he:(if 0<(q.l[s]?).getD 0 then(0:Int) else 140)=if decide (0<v)=true then 0 else 140:=by
  grind
 rw[hp,he];refine Call.enter2 (n:=10) (by rfl) Tryz.func210 rfl rfl rfl ?_;refine zc6 ?_;refine zj ?_;refine za5 ?_;refine zp ?_;refine jB (jlf (cap:=[.pointer (some ⟨q.b,0,none⟩)]) ok hv (fun h=>by omega) fun A=>CallV.bound (first:=[.pointer (some ⟨q.b,0,none⟩)]) (less_K hvb)) ja ?_;rintro _ _ ⟨rfl,q',h1,h2,h3,rfl⟩;refine zm ?_;exact KE.fin je rfl jd ja ⟨rfl,q',h1,h2,h3,rfl⟩
end
open Go.RowKit
set_option maxRecDepth 10000
structure MkR (k:MkM) (p:jZ) (m:MaP):Prop where
 C:tiC k.c=m.C
 G:GrR k.g p.g m.G
 hs:k.hs=m.hs
 root:k.root=m.root
 act:k.act=m.act
 steps:k.steps=m.steps
structure MkTo (k k':MkM):Prop extends MkAs k k' where
 f:k'.c.f=k.c.f
 cb:k'.c.b=k.c.b
 gb:k'.g.b=k.g.b
 o:k'.o=k.o
theorem MkTo.refl (k:MkM):MkTo k k:=⟨⟨rfl,rfl,rfl,rfl,rfl,rfl⟩,rfl,rfl,rfl,rfl⟩
theorem MkTo.trans {a b c:MkM} (h:MkTo a b) (h':MkTo b c):MkTo a c:=
 ⟨⟨h'.b.trans h.b,h'.bb.trans h.bb,h'.tb.trans h.tb,h'.nb.trans h.nb,h'.n.trans h.n,h'.l.trans h.l⟩,h'.f.trans h.f,h'.cb.trans h.cb,h'.gb.trans h.gb,h'.o.trans h.o⟩
section
variable {w0 : World} {F : jb} {t : TiM}
theorem jj2 {s:Nat} {c:Int} (ok:TiOk t) (hc:(tiC t)[s]?=some c):Call Tryz.prog w0 317 [.pointer (some ⟨t.b,0,none⟩), .int .i64 (s:Nat)] (jaK t++F)
  (fun r H'=>r= .tuple [.bool (decide (c=0)), .int .i64 0].toArray∧ ∃ t',TiOk t'∧t'.b=t.b∧t'.f=t.f∧tiC t'=(if c=0 then(tiC t).set s 1 else tiC t)∧H'=jaK t'++F):=by
 have ho:=ok.o
 have hf:=ok.f
 have hs:s<t.l.length:=by grind[jv,jbD]
 obtain⟨v,hv⟩:=jh hs
 by_cases h0:c=0
 ·rw[decide_eq_true h0,if_pos h0];refine Call.enter2 (n:=32) (by rfl) Tryz.func317 rfl rfl rfl ?_;refine zlA ?_;refine jp (tiOf_K ok hc) ?_;simp only[jbc];refine zbM ?_;refine zX ?_;refine zcz ?_;refine zb8 ?_;refine zsf ?_;refine zhC ?_;refine zgE ?_;refine zlQ ?_;refine zcI ?_;refine zlF ?_;refine zfU ?_;refine zV ?_;refine zab ?_
  have hle:(t.l.set s (2*(t.f:Int))).length=t.l.length:=List.length_set
  refine KE.fin (H':=jaK ⟨t.b,t.l.set s (2*(t.f:Int)),t.f,t.o⟩++F) je rfl jd (by simp only[jbc,hle];exact ja) ⟨rfl,⟨t.b,t.l.set s (2*(t.f:Int)),t.f,t.o⟩,⟨ho.set s _,by rw[hle];exact ok.n,hf,?_⟩,rfl,rfl,?_,rfl⟩
  ·intro u hu
   rcases List.mem_or_eq_of_mem_set hu with h|rfl
   ·exact ok.v u h
   grind
  simp[tiC,colP]
 ·rw[decide_eq_false h0,if_neg h0];refine Call.enter2 (n:=32) (by rfl) Tryz.func317 rfl rfl rfl ?_;refine zlA ?_;refine jp (tiOf_K ok hc) ?_;simp only[jbc];refine zbM ?_;refine zX ?_;refine zM ?_;refine za8 ?_;refine zj ?_;refine zcW ?_;exact KE.fin je rfl jd (by first|exact ja|(simp only[jbc];exact ja)) ⟨rfl,t,ok,rfl,rfl,rfl,rfl⟩
end
section
variable {w0 : World} {F : jb} {k : MkM} {p : jZ} {m : MaP}
theorem jia {s:Nat} (ok:MkOk k p) (hR:MkR k p m) (hs:s<p.g.slots):Call Tryz.prog w0 286 [.pointer (some ⟨k.b,0,none⟩), .int .i64 (s:Nat)] (jt k p++(planH p++F))
  (fun r H'=>r= .tuple #[]∧ ∃ k',MkOk k' p∧MkTo k k'∧MkR k' p (J9 p.g k.g.ring.length m (s:Nat))∧H'=jt k' p++(planH p++F)):=by
 obtain⟨c,hc⟩:=jfo ok hs
 have okc:=ok.c
 have okg:=ok.g
 have hmc:m.C[s]?=some c:=by rw[←hR.C];omega
 by_cases h0:c=0
 ·have hsm:J9 p.g k.g.ring.length m (s:Nat)={m with C:=m.C.set s 1,G:=jaL p.g k.g.ring.length m.G s}:=by
   grind[J9]
  subst h0;refine Call.enter2 (n:=22) (by rfl) Tryz.func286 rfl rfl rfl ?_;simp only[js];refine zG ?_;refine zF ?_;refine zdg ?_;refine zn ?_;refine jB (jj2 okc hc) ja ?_;rintro _ _ ⟨rfl,c',kc,cb,cf,cc,rfl⟩;refine zY ?_;refine zap ?_;refine zak ?_;refine zF ?_;refine zdi ?_;refine zn ?_;refine jB (grPut_K okg hR.G hs) ja ?_;rintro _ _ ⟨rfl,g',kg,gb,gl,gR,rfl⟩;refine zR ?_;rw[←cb,←gb]
  have hcn:c'.l.length=p.g.slots:=by have:=congrArg List.length cc;rw [jbD,if_pos rfl,List.length_set,jbD,ok.n] at this;omega
  exact KE.finN (H':=jt {k with c:=c',g:=g'} p++(planH p++F)) je rfl jd (by simp only[js];exact ja)
   ⟨rfl,{k with c:=c',g:=g'},⟨kc,kg,hcn,ok.o,ok.hs⟩,⟨⟨rfl,rfl,rfl,rfl,rfl,gl⟩,cf,cb,gb,rfl⟩,by rw[hsm];exact⟨by show tiC c'=_;rw [cc,if_pos rfl,hR.C],gR,hR.hs,hR.root,hR.act,hR.steps⟩,by grind[js]⟩
 ·have hsm:J9 p.g k.g.ring.length m (s:Nat)=m:=by
   grind[J9]
  have hd:decide (c=0)=false:=decide_eq_false h0
  refine Call.enter2 (n:=22) (by rfl) Tryz.func286 rfl rfl rfl ?_;simp only[js];refine zG ?_;refine zF ?_;refine zdg ?_;refine zz fun T hT=>?_;refine(CallV.part (CallV.fn (jj2 okc hc)) ja).mono ?_;rw[hd];rintro _ _ ⟨rfl,c',kc,cb,cf,cc,rfl⟩;rw[if_neg h0] at cc;refine ze ?_;clear hT T;refine zY ?_;refine zap ?_;refine zat ?_;rw[←cb]
  have hcn:c'.l.length=p.g.slots:=by have:=congrArg List.length cc;rw [jbD,jbD,ok.n] at this;omega
  exact KE.finN (H':=jt {k with c:=c'} p++(planH p++F)) je rfl jd (by simp only[js];exact ja)
   ⟨rfl,{k with c:=c'},⟨kc,ok.g,hcn,ok.o,ok.hs⟩,⟨⟨rfl,rfl,rfl,rfl,rfl,rfl⟩,cf,cb,rfl,rfl⟩,by rw[hsm];exact⟨by show tiC c'=_;rw [cc,hR.C],hR.G,hR.hs,hR.root,hR.act,hR.steps⟩,by grind[js]⟩
end
end Go.Proofs.YtebiafomiemgbaaGreatDoor.Sw
namespace Go.Proofs.YtebiafomiemgbaaGreatDoor
open Go.RowKit
section
variable {P : Program} {w0 : World} {ro : Option Nat} {n : Nat} {Q : Exit → Act → World → Prop} {ds : List Deferred} {m : jk} {H : jb}
theorem K.cutE {σ:Type} {x y:Code} (keep:jk) (hk:jen m keep) (M:σ→jk→jk) (Hs:σ→jb) (I:σ→Prop) (h1:K P w0 ro n x (Exit.then (jhA w0 n ds (fun s=>M s keep) Hs I) Q) ds m H) (h2: ∀ s,I s→K P w0 ro n y Q ds (M s keep) (Hs s)):K P w0 ro n x (Exit.then (Code.wpIn (fen ro) 0 P y Q) Q) ds m H:=
 .mk fun a w ha hw=>wpIn_mono (h1.out a w ha hw) fun e a w q=>by
  cases e with
  |normal=>obtain⟨s,hf,hh,hi⟩:=q;exact(h2 s hi).out a w hf hh
  |_=>exact q
end
end Go.Proofs.YtebiafomiemgbaaGreatDoor
namespace Go.Proofs.YtebiafomiemgbaaGreatDoor.Sw
open Go.Proofs.YtebiafomiemgbaaGreatDoor renaming lo → qL, hi → qH
set_option maxRecDepth 10000
section
variable {w0 : World} {H : jb}
variable {b : Nat}
end
open Go.RowKit
set_option maxRecDepth 10000
section
variable {w0 : World} {H : jb} {l : List UInt8}
end
set_option maxRecDepth 10000
section
variable {w0 : World} {H : jb} {t c h : Nat}
end
set_option maxRecDepth 10000
section
variable {w0 : World} {H : jb}
variable {b : Nat}
end
end Go.Proofs.YtebiafomiemgbaaGreatDoor.Sw
