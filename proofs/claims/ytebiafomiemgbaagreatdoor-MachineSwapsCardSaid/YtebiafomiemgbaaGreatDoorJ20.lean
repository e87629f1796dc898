/-The walker and the contracts that the law needs,part 20. -/
import Derived.Test.YtebiafomiemgbaaGreatDoorJ16
import Derived.Test.YtebiafomiemgbaaGreatDoorJ18
set_option linter.unusedVariables false set_option linter.unusedSimpArgs false set_option linter.unusedVariables false
set_option linter.unusedSimpArgs false
namespace Go.Proofs.YtebiafomiemgbaaGreatDoor.Sw
set_option maxHeartbeats 8000000
open Go.Proofs.YtebiafomiemgbaaGreatDoor renaming lo → qL, hi → qH
open Go.RowKit
set_option maxRecDepth 10000
def pwP (c:Cfg) (t:Int) (k:Nat):Int:=(pagesP c t (k:Nat)).1*c.page
def wordsP (c:Cfg) (t:Int):Int:=Jq (pwP c t) c.cl.length
def ja4 (c:Cfg) (t:Int):Int × Int:=if JB c t 0 then(wordsP c t,0) else(0,2)
def jcy (c:Cfg) (t:Int):Int × Int:=if JB c t 0 then(Jq (fun i=>wordsP c (i:Nat)) t.toNat,0) else(0,2)
def totalP (c:Cfg):Int × Int:=if jz c then(Jq (fun i=>wordsP c (i:Nat)) c.tn.length,0) else(0,2)
theorem jcH {c:Cfg} {i j:Nat} (hc:jz c=true) (hi:i<c.tn.length) (hj:j<c.cl.length):JB c (i:Nat) (j:Nat)=true:=by
 grind[JB,jag]
theorem jiC {c:Cfg} {t k:Int} (h:JB c t k=true):1≤(pagesP c t k).1∧(pagesP c t k).1≤2048∧(pagesP c t k).2=0:=by
 have h':=h
 obtain⟨i,j,x,y,rfl,rfl,hx,hy,ok⟩:=jcQ h
 have hb:=(ok.ten x (List.mem_of_getElem? hx)).1
 have hb2:=ok.el y (List.mem_of_getElem? hy)
 have hpg:=ok.page
 have he:pagesP c (i:Nat) (j:Nat)=(jep c.page x.quota y,0):=by grind[pagesP,jbM,cfgC]
 have hsl:=jit (q:=x.quota) (y:=y) (by omega) (by omega) hb.2
 have hper:1≤c.page/y∧c.page/y≤64:=⟨(Int.le_ediv_iff_mul_le (by omega)).2 (by omega),Int.le_trans (Int.ediv_le_self _ (by omega)) hpg.2⟩
 rw[he];unfold jep;unfold jb4 at hsl
 obtain⟨n,hn⟩: ∃ n,n=x.quota/y:=⟨_,rfl⟩
 obtain⟨p,hp⟩: ∃ p,p=c.page/y:=⟨_,rfl⟩
 rw[←hn] at hsl⊢;rw[←hp] at hper⊢;refine⟨(Int.le_ediv_iff_mul_le (by omega)).2 (by omega),?_,rfl⟩
 have h1:(n+p-1)/p<n+1:=(Int.ediv_lt_iff_lt_mul (by omega)).2 (by
  have e:(n+1)*p=n*p+p:=by grind
  have:n*1≤n*p:=Int.mul_le_mul_of_nonneg_left hper.1 (by omega)
  omega)
 omega
theorem pw_le {c:Cfg} {t:Int} {k:Nat} (h:JB c t (k:Nat)=true):0≤pwP c t k∧pwP c t k≤131072:=by
 obtain⟨h1,h2,_⟩:=jiC h
 obtain⟨i,j,x,y,_,_,hx,hy,ok⟩:=jcQ h
 have hb2:=ok.el y (List.mem_of_getElem? hy)
 have hpg:=ok.page
 unfold pwP;refine⟨Int.mul_nonneg (by omega) (by omega),?_⟩
 have h3:(pagesP c t (k:Nat)).1*c.page≤2048*c.page:=Int.mul_le_mul_of_nonneg_right h2 (by omega)
 omega
theorem jfV {c:Cfg} {i:Nat} (hc:jz c=true) (hi:i<c.tn.length):0≤wordsP c (i:Nat)∧wordsP c (i:Nat)≤1048576:=by
 have ok:=Jf hc
 have h:=jd8 (f:=pwP c (i:Nat)) (B:=131072) (n:=c.cl.length) (fun k hk=>pw_le (jcH hc hi hk))
 have:=ok.cl.2
 grind[wordsP]
set_option maxHeartbeats 2000000 in
theorem words1_K {w0:World} {F:jb} {c:Cfg} {vc vt:Value} {b1 b2 i k:Nat} (hR:Jc w0 F c vc vt) (hc:jz c=true) (hi:i<c.tn.length) (hk:k<c.cl.length):
  Call Tryz.prog w0 130 [.int .i64 (k:Nat), .pointer (some ⟨b1,0,none⟩), .pointer (some ⟨b2,0,none⟩)] ((b1,cells (jG c vc vt) 25)::(b2,cells [.int .i64 (i:Nat)] 3)::F)
   (fun r H'=>r= .int .i64 (pwP c (i:Nat) k)∧H'=(b1,cells (jG c vc vt) 25)::(b2,cells [.int .i64 (i:Nat)] 3)::F):=by
 have hth:=jcH hc hi hk
 have hc0:=fun A (hp:Part A F)=>Pages_K (t:=(i:Nat)) (k:=(k:Nat)) (hR.part hp)
 have hpl:=jiC hth
 have hpw:=pw_le hth
 have hok:=Jf hc
 have e1:pwP c (i:Nat) k=(pagesP c (i:Nat) (k:Nat)).1*c.page:=rfl
 rw[e1] at hpw⊢
 obtain⟨p,hp⟩: ∃ p,p=(pagesP c (i:Nat) (k:Nat)):=⟨_,rfl⟩
 rw[←hp] at hc0 hpl hpw⊢
 obtain⟨p1,p2⟩:=p
 obtain⟨hS,hT',o1,o2,l1,l2⟩:=hR
 obtain⟨cl,page,tn,workers,grey,gens⟩:=c
 dsimp only at hS hT' l1 l2 hpl hpw hc0⊢
 obtain⟨_,_,rfl⟩:=hpl
 simp only[jr,jG,prV] at hc0⊢;refine Call.enter3 (n:=18) (by kernel_rfl) Tryz.func130 rfl rfl rfl ?_;refine zav ?_;refine zau ?_;refine zw ?_;refine zn ?_;refine zhQ ?_;refine zY ?_;refine zap ?_;refine zae ?_;refine KL.v rfl (Val.mul rfl rfl (by simp only[qL,qH];omega)) ?_;exact zq
set_option maxRecDepth 10000
theorem jiw {w0:World} {H:jb} {c:Cfg} {vc vt:Value} {t k:Int} (hR:Jc w0 H c vc vt):
  Call Tryz.prog w0 99 [jr c vc vt, .int .i64 t, .int .i64 k] H (fun r H'=>r= .bool (JB c t k)∧H'=H):=by
 have hc0:=fun A (hp:Part A H)=>jhG (hR.part hp)
 obtain⟨hS,hT',o1,o2,l1,l2⟩:=hR
 have he:JB c t k=(jz c&&(rnP t 0 ((c.tn.length:Nat)-1)&&rnP k 0 ((c.cl.length:Nat)-1))):=by
  grind[JB,jag,rnP]
 obtain⟨cl,page,tn,workers,grey,gens⟩:=c
 dsimp only at hS hT' l1 l2 he;simp only[jr,jG] at hc0⊢;refine Call.enter3 (n:=26) (by rfl) Tryz.func99 rfl rfl rfl ?_;refine zbN ?_;intro b3;refine zcY fun T hT=>?_;refine zkC ?_;rintro _ _ ⟨rfl,rfl⟩
 cases hc:jz ⟨cl,page,tn,workers,grey,gens⟩ with
 |false=>
  rw[hc,Bool.false_and] at he;refine znB ?_;clear hT T;refine zC ?_;refine zhi ?_;refine zdZ ?_;refine zcA ?_;exact zfD
 |true=>
  rw[hc,Bool.true_and] at he;simp only[jbL,if_true];refine ze ?_;clear hT T;refine zg7 ?_;refine ziD ?_;refine ziO ?_;refine zu fun T hT=>?_;refine zfE ?_;rintro _ _ ⟨rfl,rfl⟩
  cases g1:rnP t 0 ((tn.length:Nat)-1) with
  |false=>
   rw[g1,Bool.false_and] at he;refine ze ?_;clear hT T;refine zA ?_;refine zdZ ?_;refine zcA ?_;exact zfD
  |true=>
   rw[g1,Bool.true_and] at he;refine ze ?_;clear hT T;refine zcx ?_;refine zbI ?_;refine zjV ?_;refine zc0 ?_;refine zis ?_;refine jp rfrom_K ?_;refine zdh ?_;exact zfD
theorem rSlots_K {w0:World} {H:jb} {c:Cfg} {vc vt:Value} {t k:Int} (hR:Jc w0 H c vc vt):
  Call Tryz.prog w0 125 [jr c vc vt, .int .i64 t, .int .i64 k] H (fun r H'=>r=prV (jaP c t k)∧H'=H):=by
 have hc0:=fun A (hp:Part A H)=>jiw (t:=t) (k:=k) (hR.part hp)
 obtain⟨hS,hT',o1,o2,l1,l2⟩:=hR
 cases ht:JB c t k with
 |false=>
  have he:jaP c t k=(0,2):=by grind[jaP]
  rw[ht] at hc0;rw[he]
  obtain⟨cl,page,tn,workers,grey,gens⟩:=c
  dsimp only at hS hT' l1 l2 he;simp only[jr,jG] at hc0⊢;refine Call.enter3 (n:=25) (by rfl) Tryz.func125 rfl rfl rfl ?_;refine zb7 ?_;intro b3;refine zgz ?_;refine zhQ ?_;refine zaQ ?_;exact zfq
 |true=>
  obtain⟨i,j,x,y,rfl,rfl,hx,hy,ok⟩:=jcQ ht
  have he:jaP c (i:Nat) (j:Nat)=(x.quota/y,0):=by grind[jaP,jb4,jbM,cfgC]
  have hb:=(ok.ten x (List.mem_of_getElem? hx)).1
  have hb2:=ok.el y (List.mem_of_getElem? hy)
  have hil:=jv hx
  have hjl:=jv hy
  rw[ht] at hc0;rw[he]
  obtain⟨q,tr,cp,ax⟩:=x
  obtain⟨cl,page,tn,workers,grey,gens⟩:=c
  dsimp only at hS hT' l1 l2 he hx hy hb hb2 hil hjl;simp only[jr,jG] at hc0⊢;refine Call.enter3 (n:=25) (by rfl) Tryz.func125 rfl rfl rfl ?_;refine zb7 ?_;intro b3;refine zgz ?_;refine zhQ ?_;refine zy ?_;refine zb8 ?_;refine zn9 ?_;refine znC ?_;refine zo ?_;refine zfB ?_;refine zqh ?_;refine zi3 ?_;refine zet ?_;refine zo ?_;refine zj1 ?_;refine ziX ?_;refine zgF ?_;exact zH
open Go.RowKit
set_option maxRecDepth 10000
theorem ceil_of {n p k:Int} (hp:1≤p) (h1:n≤k*p) (h2:k=0∨(k-1)*p<n) (hn:1≤n):(n+p-1)/p=k:=by
 have hk:k≠0:=by
  grind
 have h2':(k-1)*p<n:=by omega
 rw[Int.sub_mul,Int.one_mul] at h2'
 obtain⟨q,hq⟩: ∃ q,q=k*p:=⟨_,rfl⟩
 rw[←hq] at h1 h2'
 have e:n+p-1=(n+p-1-q)+k*p:=by omega
 rw[e,Int.add_mul_ediv_right _ _ (by omega),Int.ediv_eq_zero_of_lt (by omega) (by omega)]
 omega
structure RpS where
 k:Nat
set_option maxHeartbeats 1000000 in
theorem rPages_K {w0:World} {H:jb} {c:Cfg} {vc vt:Value} {t k:Int} (hR:Jc w0 H c vc vt):
  Call Tryz.prog w0 100 [jr c vc vt, .int .i64 t, .int .i64 k] H (fun r H'=>r=prV (pagesP c t k)∧H'=H):=by
 have hc0:=fun A (hp:Part A H)=>rSlots_K (t:=t) (k:=k) (hR.part hp)
 obtain⟨hS,hT',o1,o2,l1,l2⟩:=hR
 cases ht:JB c t k with
 |false=>
  have he:pagesP c t k=(0,2):=by simp[pagesP,ht]
  have he2:jaP c t k=(0,2):=by simp[jaP,ht]
  rw[he2] at hc0;rw[he]
  obtain⟨cl,page,tn,workers,grey,gens⟩:=c
  dsimp only at hS hT' l1 l2 he;simp only[jr,jG] at hc0⊢;refine Call.enter3 (n:=36) (by kernel_rfl) Tryz.func100 rfl rfl rfl ?_;refine zdN ?_;intro b3;refine zau ?_;refine za9 fun T hT=>?_;refine zkC ?_;rintro _ _ ⟨rfl,rfl⟩;simp only[prV];refine ze ?_;clear hT T;refine zbi ?_;refine zM ?_;refine zbP ?_;exact zfq
 |true=>
  obtain⟨i,j,x,y,rfl,rfl,hx,hy,ok⟩:=jcQ ht
  have he:pagesP c (i:Nat) (j:Nat)=(jep c.page x.quota y,0):=by simp[pagesP,ht,jbM,cfgC,hx,hy]
  have hb:=(ok.ten x (List.mem_of_getElem? hx)).1
  have hb2:=ok.el y (List.mem_of_getElem? hy)
  have hpg:=ok.page
  have hn:jaP c (i:Nat) (j:Nat)=(jb4 x.quota y,0):=by simp[jaP,ht,jbM,cfgC,hx,hy]
  have hsl:=jit (q:=x.quota) (y:=y) (by omega) (by omega) hb.2
  have hper:1≤c.page/y∧c.page/y≤64:=⟨(Int.le_ediv_iff_mul_le (by omega)).2 (by omega),Int.le_trans (Int.ediv_le_self _ (by omega)) hpg.2⟩
  have hil:=jv hx
  have hjl:=jv hy
  rw[hn] at hc0;rw[he]
  have hpn:jep c.page x.quota y=(jb4 x.quota y+c.page/y-1)/(c.page/y):=rfl
  rw[hpn]
  obtain⟨n,hn'⟩: ∃ n,n=jb4 x.quota y:=⟨_,rfl⟩
  rw[←hn'] at hc0 hsl⊢
  obtain⟨q,tr,cp,ax⟩:=x
  obtain⟨cl,page,tn,workers,grey,gens⟩:=c
  dsimp only at hS hT' l1 l2 he hx hy hb hb2 hil hjl hpg hper;simp only[jr,jG] at hc0⊢
  obtain⟨pr,hpr⟩: ∃ p,p=page/y:=⟨_,rfl⟩
  rw[←hpr] at hper⊢;refine Call.enter3 (n:=36) (by kernel_rfl) Tryz.func100 rfl rfl rfl ?_;refine zdN ?_;intro b3;refine zau ?_;refine za9 fun T hT=>?_;refine zkC ?_;rintro _ _ ⟨rfl,rfl⟩;simp only[prV];refine ze ?_;clear hT T;refine zbM ?_;refine zK ?_;refine zt ?_;refine KL.nil (KE.next (K.seq (K.block ?_)));refine K.loopT (σ:=RpS) [(2,_),(3,_),(8,_)] (fun s kp_=>(10, .int .i64 (s.k:Nat))::kp_) (fun s=>(b3,cells [vc, .int .i64 page,vt, .int .i64 workers, .int .i64 grey, .int .i64 gens] 25)::H) (fun s=>s.k≤4096∧(s.k=0∨((s.k:Int)-1)*pr<n)) (fun s=>4096-s.k) (⟨0⟩) jc ja (⟨by simp,by simp⟩) ?_;rintro⟨u⟩ ⟨hu,hr⟩;dsimp only at hu hr⊢
  have hum:0≤(u:Int)*(page/y):=Int.mul_nonneg (by omega) (by rw[←hpr];omega)
  have hum1:(u:Int)≤(u:Int)*(page/y):=by
   have:(u:Int)*1≤(u:Int)*(page/y):=Int.mul_le_mul_of_nonneg_left (by rw[←hpr];exact hper.1) (by omega)
   omega
  have hum2:(u:Int)*(page/y)≤262144:=by
   have:(u:Int)*(page/y)≤(u:Int)*64:=Int.mul_le_mul_of_nonneg_left (by rw[←hpr];exact hper.2) (by omega)
   omega
  by_cases hlt:(u:Int)*(page/y)<n
  ·have hu4:u+1≤4096:=by omega
   have hnx:(((u+1:Nat):Int)-1)*pr<n:=by rw[show(((u+1:Nat):Int)-1)=(u:Int) by omega,hpr];exact hlt
   refine zlT ?_;refine zsc ?_;refine zo ?_;refine zdA ?_;refine zet ?_;refine zo ?_;refine zj1 ?_;refine KD.v0 rfl rfl (Val.quoN rfl rfl (by simp only[qH];omega)) ?_;refine KD.v0 rfl rfl (Val.mul rfl rfl (by simp only[qL,qH];omega)) ?_;refine zo ?_;refine zlL ?_;refine zam ?_;refine KE.next (K.condT rfl (K.skip (KE.next (K.block (K.region ?_)))));refine zpx ?_;refine zaw ?_;exact KE.again ⟨u+1⟩ jc ja ⟨hu4, .inr hnx⟩ (by show 4096-(u+1)<4096-u;omega)
  ·have hcl:(n+pr-1)/pr=(u:Int):=ceil_of hper.1 (by rw[hpr];omega) (by rcases hr with h|h;exact .inl (by omega);exact .inr h) (by omega)
   rw[hcl];refine zlT ?_;refine zsc ?_;refine zo ?_;refine zdA ?_;refine zet ?_;refine zo ?_;refine zj1 ?_;refine KD.v0 rfl rfl (Val.quoN rfl rfl (by simp only[qH];omega)) ?_;refine KD.v0 rfl rfl (Val.mul rfl rfl (by simp only[qL,qH];omega)) ?_;refine zo ?_;refine zn6 ?_;refine zam ?_;refine KE.next (K.condF rfl ?_);refine zpv ?_;refine zbw ?_;exact zb5
set_option maxRecDepth 10000
structure RrS where
 k:Nat
theorem jki {w0:World} {H:jb} {c:Cfg} {vc vt:Value} {t:Int} (hR:Jc w0 H c vc vt):
  Call Tryz.prog w0 77 [jr c vc vt, .int .i64 t] H (fun r H'=>r=prV (ja4 c t)∧H'=H):=by
 have hc0:=fun A (hp:Part A H)=>jiw (t:=t) (k:=0) (hR.part hp)
 cases ht:JB c t 0 with
 |false=>
  obtain⟨hS,hT',o1,o2,l1,l2⟩:=hR
  have he:ja4 c t=(0,2):=by grind[ja4]
  rw[ht] at hc0;rw[he]
  obtain⟨cl,page,tn,workers,grey,gens⟩:=c
  dsimp only at hS hT' l1 l2 he;simp only[jr,jG] at hc0⊢;refine Call.enter2 (n:=35) (by rfl) Tryz.func77 rfl rfl rfl ?_;refine zb7 ?_;intro b2;refine zgB ?_;refine zaQ ?_;exact zfq
 |true=>
  obtain⟨i,j,x,y,rfl,_,hx,hy,ok⟩:=jcQ ht
  have hil:=jv hx
  have hcp:jz c=true:=by grind[JB]
  have hok:=ok.cl
  have he:ja4 c (i:Nat)=(Jq (pwP c (i:Nat)) c.cl.length,0):=by grind[ja4,wordsP]
  have hpg:=fun A (hp:Part A H) (k:Nat)=>rPages_K (t:=(i:Nat)) (k:=(k:Nat)) (hR.part hp)
  have hB:=fun k (hk:k<c.cl.length)=>pw_le (jcH hcp hil hk)
  have hz:=fun k (hk:k<c.cl.length)=>(jiC (jcH hcp hil hk)).2.2
  have hpwd: ∀ k,(pagesP c (i:Nat) ((k:Nat):Int)).1*c.page=pwP c (i:Nat) k:=fun k=>rfl
  obtain⟨hS,hT',o1,o2,l1,l2⟩:=hR
  rw[ht] at hc0;rw[he]
  obtain⟨f,hf⟩: ∃ f,f=pwP c (i:Nat):=⟨_,rfl⟩
  obtain⟨g,hg⟩: ∃ g:Nat→Int × Int,g=fun k=>pagesP c (i:Nat) ((k:Nat):Int):=⟨_,rfl⟩
  have hgk: ∀ k:Nat,pagesP c (i:Nat) ((k:Nat):Int)=g k:=fun k=>by grind
  rw[←hf] at hB hpwd⊢;simp only[hgk] at hpg hz hpwd;clear hg hgk hf he
  obtain⟨cl,page,tn,workers,grey,gens⟩:=c
  dsimp only at hS hT' l1 l2 hok hB hz hpwd hil⊢;simp only[jr,jG,prV] at hc0 hpg⊢;refine Call.enter2 (n:=35) (by rfl) Tryz.func77 rfl rfl rfl ?_;refine zb7 ?_;intro b2;refine zgB ?_;refine zy ?_;refine zK ?_;refine zbs ?_;refine K.loopT (σ:=RrS) [(1,_),(2,_)] (fun s kp_=>(7, .int .i64 (s.k:Nat))::(6, .int .i64 (Jq f s.k))::kp_) (fun s=>(b2,cells [vc, .int .i64 page,vt, .int .i64 workers, .int .i64 grey, .int .i64 gens] 25)::H) (fun s=>s.k≤cl.length) (fun s=>cl.length-s.k) (⟨0⟩) jc ja ((by simp)) ?_;rintro⟨k⟩ hk;dsimp only at hk⊢
  by_cases hlt:k<cl.length
  ·have b1':=jd8 (f:=f) (n:=k) (fun i hi=>hB i (by omega))
   have b2':=hB k hlt
   have hzk:=hz k hlt
   have hpk:=hpwd k
   have hpgk:=fun A hp=>hpg A hp k
   obtain⟨⟨p1,p2⟩,hgp⟩: ∃ p,p=g k:=⟨_,rfl⟩
   rw[←hgp] at hzk hpk;simp only[←hgp] at hpgk;dsimp only at hzk hpk hpgk;subst hzk
   obtain⟨a,ha⟩: ∃ a,a=Jq f k:=⟨_,rfl⟩
   have hs:Jq f (k+1)=a+p1*page:=by rw[ha,hpk];rfl
   rw[←hpk] at b2';rw[←ha] at b1'⊢;refine zaF ?_;refine zN ?_;refine zen ?_;refine zfF ?_;refine zgz ?_;refine jp (hpgk _ ja) ?_;refine zY ?_;refine zfi ?_;refine zB ?_;refine zae ?_;refine zgR ?_;refine zaB ?_;refine zaK ?_;refine zcj ?_;rw[←hs];exact zoa
  ·have hke:k=cl.length:=by omega
   subst hke;refine zaF ?_;refine zN ?_;refine zno ?_;refine zbw ?_;exact zb5
set_option maxRecDepth 10000
structure SwP where
 A:List Bool
 R:List (List Int)
 C:List Int
 act:Bool
 at_:Nat
 D:List Bool
def SwP.x (s:SwP):List Int:=(s.R[0]?).getD []
structure SwOk (g:PlG) (s:SwP):Prop where
 A:s.A.length=g.slots
 C:s.C.length=g.slots
 D:s.D.length=g.slots
 R:s.R[0]?=some s.x
 x:s.x.length=g.words
 w:jac s.x
 c: ∀ v∈s.C,v=0∨v=2
 at_:s.at_≤g.slots
 idle:s.act=false→s.at_=0∧s.D=List.replicate g.slots false
def stepS (g:PlG) (s:SwP):SwP × Bool:=
 if s.act=true∧s.at_<g.slots then
  match g.L[s.at_]? with
  |some p=>if s.A[s.at_]?=some true∧s.C[s.at_]?=some 0 then(⟨s.A,s.R.set 0 (J6 s.x p),s.C,s.act,s.at_+1,s.D.set s.at_ true⟩,true) else(⟨s.A,s.R,s.C,s.act,s.at_+1,s.D⟩,true)
  |none=>(s,true)
 else(s,false)
theorem x_set {R:List (List Int)} {x y:List Int} (h:R[0]?=some x):(R.set 0 y)[0]?=some y:=by
 grind
theorem SwOk.putx {g:PlG} {s:SwP} (ok:SwOk g s) {y:List Int} (h1:y.length=g.words) (h2:jac y) {A:List Bool} (hA:A.length=g.slots):SwOk g ⟨A,s.R.set 0 y,s.C,s.act,s.at_,s.D⟩:=by
 have e:SwP.x ⟨A,s.R.set 0 y,s.C,s.act,s.at_,s.D⟩=y:=by unfold SwP.x;rw [x_set ok.R];rfl
 exact⟨hA,ok.C,ok.D,by rw[e];exact x_set ok.R,by grind,by grind,ok.c,ok.at_,ok.idle⟩
theorem j9 {g:PlG} {i:Nat} (h:i<g.slots): ∃ p,g.L[i]?=some p:=jh (by grind[jdU])
theorem jiI: ∀ A D:List Bool,(jc0 A D).length=A.length
 | [],D=>by rfl
 |a::A,[]=>rfl
 |a::A,d::D=>by simp[jc0,jiI A D]
theorem jml (A D:List Bool):(jbp A D).2.length=A.length:=by
 grind[jbp,jiI]
theorem jew {g:PlG} {A:List Bool} {n:Int} (h:(takeP g A n).2.1=0): ∃ (k i:Nat),n=k∧k<g.m∧jb8 A (g.first k) (g.n k)=some i∧takeP g A n=((i:Int),0,A.set i true)∧i<A.length:=by
 grind[takeP,jb8]
def je2 (s:SwP) (i:Nat):Bool:=(s.A[i]?).getD false&&decide (s.C[i]?=some 0)
structure Run (g:PlG) (s:SwP) (j:Nat) (t:SwP):Prop where
 A:t.A=s.A
 C:t.C=s.C
 act:t.act=true
 at_:t.at_=j
 dl:t.D.length=g.slots
 D: ∀ i,i<g.slots→t.D[i]?=some (decide (i<j)&&je2 s i)
 tl:t.R.tail=s.R.tail
 R:t.R[0]?=some t.x
 xl:t.x.length=g.words
 x: ∀ i p,g.L[i]?=some p→ ∀ a,p.addr≤a→a<p.addr+p.size→t.x[a]?=if decide (i<j)&&je2 s i then some 0 else s.x[a]?
theorem Run.ok {g:PlG} {s t:SwP} {j:Nat} (hg:jg g) (h:Run g s j t) (ok:SwOk g t) (hj:j<g.slots): ∃ t',stepS g t=(t',true)∧Run g s (j+1) t':=by
 obtain⟨p,hp⟩:=j9 hj
 have hfit:=hg.fits hp
 unfold stepS;rw[if_pos ⟨h.act,by rw[h.at_];omega⟩,h.at_,hp];dsimp only
 have hAl:j<s.A.length:=by rw[←h.A,ok.A];omega
 have hg':(s.A[j]?=some true∧s.C[j]?=some 0)↔je2 s j=true:=by
  grind[je2]
 rw[h.A,h.C]
 by_cases hc:s.A[j]?=some true∧s.C[j]?=some 0
 ·rw[if_pos hc]
  have hgn:=hg'.1 hc
  refine⟨_,rfl,?_⟩
  have e:SwP.x ⟨s.A,t.R.set 0 (J6 t.x p),s.C,t.act,j+1,t.D.set j true⟩=J6 t.x p:=by unfold SwP.x;rw [x_set h.R];rfl
  refine⟨rfl,rfl,h.act,rfl,by rw[List.length_set];exact h.dl,?_,?_,by rw[e];exact x_set h.R,by rw[e,jd0 (by rw[h.xl];omega)];exact h.xl,?_⟩
  ·intro i hi;dsimp only
   by_cases hij:i=j
   ·subst hij;rw[List.getElem?_set_self (by rw[h.dl];omega),hgn];simp
   ·rw[List.getElem?_set_ne (by omega),h.D i hi]
    congr 2
    grind
  ·dsimp only;rw[←h.tl]
   cases t.R<;>rfl
  ·intro i q hq a ha1 ha2;rw[e]
   have hxl:=h.xl
   by_cases hij:i=j
   ·grind[J6,Go.Proofs.YtebiafomiemgbaaGreatDoor.cleared]
   ·have hap:=hg.apart hq hp hij
    rw[show(decide (i<j+1)&&je2 s i)=(decide (i<j)&&je2 s i) by grind,←h.x i q hq a ha1 ha2]
    grind[J6,Go.Proofs.YtebiafomiemgbaaGreatDoor.cleared]
 ·rw[if_neg hc]
  have hgn:je2 s j=false:=by
   grind
  refine⟨_,rfl,⟨rfl,rfl,h.act,rfl,h.dl,?_,h.tl,h.R,h.xl,?_⟩⟩
  ·intro i hi;dsimp only;rw[h.D i hi]
   by_cases hij:i=j
   ·grind
   ·congr 2
    grind
  ·intro i q hq a ha1 ha2
   have:=h.x i q hq a ha1 ha2
   show t.x[a]?=_
   grind
theorem ok_all: ∀ {A D:List Bool},(∀ i:Nat,D[i]?=some true→A[i]?=some true)→jdP A D=true
 | [],D,_=>by rfl
 |a::A,[],_=>rfl
 |a::A,d::D,h=>by
  have h1:=h 0
  simp only[List.getElem?_cons_zero,Option.some.injEq] at h1
  have h2:=ok_all (A:=A) (D:=D) (fun i hi=>by have:=h (i+1);grind)
  grind[jdP]
theorem jiJ: ∀ {A D:List Bool} (i:Nat),A.length=D.length→(jc0 A D)[i]?=(A[i]?).map fun a=>a&&!((D[i]?).getD false)
 | [],D,i,h=>by rfl
 |a::A,[],i,h=>by grind
 |a::A,d::D,0,h=>by rfl
 |a::A,d::D,i+1,h=>by
  simp only[jc0,List.getElem?_cons_succ];exact jiJ i (by grind)
open Go.RowKit
set_option maxRecDepth 10000
structure TiM where
 b:Nat
 l:List Int
 f:Nat
 o:Own
def colP (f:Nat) (v:Int):Int:=if v=2*(f:Int) then 1 else if v=2*(f:Int)+1 then 2 else 0
def tiC (t:TiM):List Int:=t.l.map (colP t.f)
def jaK (t:TiM):jb:=(t.b,cells [oV t.o t.l.length, .int .u64 (t.f:Nat)] 276)::oH uE 34 t.l t.o
theorem jbc {t:TiM} {F:jb}:jaK t++F=(t.b,cells [oV t.o t.l.length, .int .u64 (t.f:Nat)] 276)::(oH uE 34 t.l t.o++F):=rfl
structure TiOk (t:TiM):Prop where
 o:oOk uE t.l t.o
 n:t.l.length≤65536
 f:1≤t.f∧t.f≤1000000000
 v: ∀ v∈t.l,0≤v∧v≤2*(t.f:Int)+1
theorem jbD (t:TiM):(tiC t).length=t.l.length:=by simp[tiC]
section
variable {w0 : World} {F : jb} {t : TiM}
theorem jkU (ok:TiOk t):Call Tryz.prog w0 282 [.pointer (some ⟨t.b,0,none⟩)] (jaK t++F) (fun r H'=>r= .bool false∧H'=jaK t++F):=by
 have hf:=ok.f
 have hne: ¬((t.f:Nat):Int)=0:=by omega
 refine Call.enter1 (n:=12) (by rfl) Tryz.func282 rfl rfl rfl ?_;simp only[jbc];refine zeA ?_;refine zbK ?_;refine zC ?_;refine zcA ?_;exact zkG
theorem tihas_K {s:Nat} (ok:TiOk t) (hs:s<t.l.length):Call Tryz.prog w0 229 [.pointer (some ⟨t.b,0,none⟩), .int .i64 (s:Nat)] (jaK t++F) (fun r H'=>r= .int .i64 0∧H'=jaK t++F):=by
 have ho:=ok.o
 have hge: ¬((s:Nat):Int)≥(t.l.length:Nat):=by omega
 refine Call.enter2 (n:=20) (by rfl) Tryz.func229 rfl rfl rfl ?_;refine zL ?_;refine zdl ?_;refine zn ?_;refine jp (jkU ok) ?_;simp only[jbc];refine zck ?_;refine zc9 ?_;refine zbI ?_;refine zfo ?_;refine zbA ?_;refine zm ?_;exact zkG
theorem ticol_K {v:Int} (ok:TiOk t):Call Tryz.prog w0 230 [.pointer (some ⟨t.b,0,none⟩), .int .u64 v] (jaK t++F) (fun r H'=>r= .int .u8 (colP t.f v)∧H'=jaK t++F):=by
 have hf:=ok.f
 by_cases h1:v=2*(t.f:Int)
 ·have e:colP t.f v=1:=by grind[colP]
  rw[e];refine zqk ?_;simp only[jbc];refine zai ?_;refine zeh ?_;refine zF ?_;refine zae ?_;refine zgR ?_;refine zg3 ?_;refine zao ?_;refine znq ?_;exact zkG
 ·by_cases h2:v=2*(t.f:Int)+1
  ·have e:colP t.f v=2:=by grind[colP]
   rw[e];refine zqk ?_;simp only[jbc];refine zai ?_;refine zeh ?_;refine zF ?_;refine zae ?_;refine zgR ?_;refine zfS ?_;refine zF ?_;refine zae ?_;refine zgR ?_;refine zaB ?_;refine zg3 ?_;refine zao ?_;refine znq ?_;exact zkG
  ·have e:colP t.f v=0:=by grind[colP]
   rw[e];refine zqk ?_;simp only[jbc];refine zai ?_;refine zeh ?_;refine zF ?_;refine zae ?_;refine zgR ?_;refine zfS ?_;refine zF ?_;refine zae ?_;refine zgR ?_;refine zaB ?_;refine zC ?_;refine zbA ?_;refine zm ?_;exact zkG
theorem tiOf_K {s:Nat} {c:Int} (ok:TiOk t) (hc:(tiC t)[s]?=some c):Call Tryz.prog w0 176 [.pointer (some ⟨t.b,0,none⟩), .int .i64 (s:Nat)] (jaK t++F) (fun r H'=>r= .tuple [.int .u8 c, .int .i64 0].toArray∧H'=jaK t++F):=by
 have hs:s<t.l.length:=by grind[jv,jbD]
 have ho:=ok.o
 obtain⟨v,hv⟩:=jh hs
 have hcv:c=colP t.f v:=by
  grind[tiC]
 subst hcv;refine Call.enter2 (n:=22) (by rfl) Tryz.func176 rfl rfl rfl ?_;refine zL ?_;refine zbX ?_;refine zbq ?_;refine jp (tihas_K ok hs) ?_;simp only[jbc];refine zbR ?_;refine zK ?_;refine zb6 ?_;refine zfe ?_;refine zcc ?_;refine zdp ?_;refine zu fun T hT=>?_;refine(CallV.part (CallV.fn (ticol_K (v:=v) ok)) (by first|exact ja|(simp only[jbc];exact ja))).mono ?_;rintro _ _ ⟨rfl,rfl⟩;refine ze ?_;clear hT T;simp only[jbc];refine zab ?_;exact zkG
theorem jhW {s:Nat} (ok:TiOk t) (hs:s<t.l.length):Call Tryz.prog w0 287 [.pointer (some ⟨t.b,0,none⟩), .int .i64 (s:Nat)] (jaK t++F) (fun r H'=>r= .int .i64 0∧ ∃ t',TiOk t'∧t'.b=t.b∧t'.f=t.f∧tiC t'=(tiC t).set s 2∧H'=jaK t'++F):=by
 have ho:=ok.o
 have hf:=ok.f
 obtain⟨v,hv⟩:=jh hs
 refine Call.enter2 (n:=24) (by rfl) Tryz.func287 rfl rfl rfl ?_;refine zde ?_;refine jp (tihas_K ok hs) ?_;simp only[jbc];refine zad ?_;refine zO ?_;refine zaR ?_;refine K.drawn [] [(0,0),(1,0),(2,0),(3,0),(4,0),(5,0),(6,0),(7,0),(8,0),(9,0),(10,0),(11,0),(12,2)] (by rfl) (by rfl) (by kernel_rfl) (by rfl) (by rfl) (by rfl) Part.nil ?_;refine zhC ?_;refine zgE ?_;refine zlQ ?_;refine zdt ?_;refine zcI ?_;refine zlF ?_;refine zfU ?_;refine zib ?_
 have hle:(t.l.set s (2*(t.f:Int)+1)).length=t.l.length:=List.length_set
 refine KE.fin (H':=jaK ⟨t.b,t.l.set s (2*(t.f:Int)+1),t.f,t.o⟩++F) je rfl jd (by simp only[jbc,hle];exact ja) ⟨rfl,⟨t.b,t.l.set s (2*(t.f:Int)+1),t.f,t.o⟩,⟨ho.set s _,by rw[hle];exact ok.n,hf,?_⟩,rfl,rfl,?_,rfl⟩
 ·intro u hu
  rcases List.mem_or_eq_of_mem_set hu with h|h
  ·exact ok.v u h
  grind
 ·unfold tiC;rw[List.map_set]
  grind[colP]
theorem tiFlip_K (ok:TiOk t) (hb:t.f≤1000000):Call Tryz.prog w0 341 [.pointer (some ⟨t.b,0,none⟩)] (jaK t++F) (fun r H'=>r= .tuple #[]∧ ∃ t',TiOk t'∧t'.b=t.b∧t'.f=t.f+1∧tiC t'=List.replicate t.l.length 0∧H'=jaK t'++F):=by
 have hf:=ok.f
 have ho:=ok.o
 have he:((t.f:Nat):Int)+1=((t.f+1:Nat):Int):=by omega
 refine Call.enter1 (n:=12) (by rfl) Tryz.func341 rfl rfl rfl ?_;refine zG ?_;refine zn ?_;refine jp (jkU ok) ?_;simp only[jbc];refine zag ?_;refine zak ?_;refine zF ?_;refine zae ?_;refine zaB ?_;refine zS ?_;refine zdQ ?_;refine zdW ?_;rw[he];refine KE.finN (H':=jaK ⟨t.b,t.l,t.f+1,t.o⟩++F) je rfl jd (by simp only[jbc];exact ja) ⟨rfl,⟨t.b,t.l,t.f+1,t.o⟩,⟨ho,ok.n,by grind,?_⟩,rfl,rfl,?_,rfl⟩
 ·intro v hv
  have:=ok.v v hv
  grind
 ·refine List.eq_replicate_iff.2 ⟨by simp[tiC],fun c hc=>?_⟩
  obtain⟨v,hv,rfl⟩:=List.mem_map.1 hc
  have:=ok.v v hv
  grind[colP]
end
theorem tiNew_K {w0:World} {H:jb} {n:Nat} (hn:n≤65536):Call Tryz.prog w0 142 [.int .i64 (n:Nat)] H (fun r H'=> ∃ t,TiOk t∧t.f=1∧tiC t=List.replicate n 0∧r= .tuple [.pointer (some ⟨t.b,0,none⟩), .int .i64 0].toArray∧H'=jaK t++H):=by
 have hgt: ¬((n:Nat):Int)>65536:=by omega
 refine Call.enter1 (n:=14) (by rfl) Tryz.func142 rfl rfl rfl ?_;refine zL ?_;refine zad ?_;refine zW ?_;refine zX ?_;refine zaA ?_;refine zd1 ?_;refine KL.e rfl (Eff.makeR (E:=uE) (x0:=0) rfl rfl rfl rfl rfl rfl (by omega)) ?_;rintro _ _ ⟨o11,ok11,rfl,rfl⟩;refine zgK ?_;intro b13;refine KE.fin (H':=jaK ⟨b13,List.replicate n 0,1,o11⟩++H) je rfl jd (by rw[jbc];simp only[List.length_replicate];exact ja) ⟨⟨b13,List.replicate n 0,1,o11⟩,⟨ok11,by grind,by grind,fun v hv=>?_⟩,rfl,?_,rfl,rfl⟩
 ·grind
 simp[tiC,colP]
open Go.RowKit
set_option maxRecDepth 10000
structure GrM where
 b:Nat
 ow:jaM
 di:jaM
 ring:List Int
 o:Own
 first:Nat
 many:Nat
 at_:Nat
 end_:Nat
def J4 (g:GrM) (p:jZ):jb:=(g.b,cells [.pointer (some ⟨g.ow.b,0,none⟩), .pointer (some ⟨g.di.b,0,none⟩), .pointer (some ⟨p.b,0,none⟩),oV g.o g.ring.length, .int .i64 (g.first:Nat), .int .i64 (g.many:Nat), .int .i64 (g.at_:Nat), .int .i64 (g.end_:Nat)] 274)::(jN g.ow++(jN g.di++oH iE 3 g.ring g.o))
theorem JQ {g:GrM} {p:jZ} {F:jb}:J4 g p++F=(g.b,cells [.pointer (some ⟨g.ow.b,0,none⟩), .pointer (some ⟨g.di.b,0,none⟩), .pointer (some ⟨p.b,0,none⟩),oV g.o g.ring.length, .int .i64 (g.first:Nat), .int .i64 (g.many:Nat), .int .i64 (g.at_:Nat), .int .i64 (g.end_:Nat)] 274)::(jN g.ow++(jN g.di++(oH iE 3 g.ring g.o++F))):=by
 simp[J4]
structure GrOk (g:GrM) (p:jZ):Prop where
 pl:jaS p
 ow:RowOk g.ow
 di:RowOk g.di
 o:oOk iE g.ring g.o
 n1:g.ow.bs.length=p.g.slots
 n2:g.di.bs.length=p.g.pages
 l:1≤g.ring.length∧g.ring.length≤64
structure GrNil (g:GrM) (p:jZ):Prop where
 ow:g.ow.bs=List.replicate p.g.slots false
 di:g.di.bs=List.replicate p.g.pages false
 first:g.first=0
 many:g.many=0
 at_:g.at_=0
 end_:g.end_=0
section
variable {w0 : World} {F : jb} {p : jZ} {g : GrM}
theorem Pages0_K (ok:jaS p):
  Call Tryz.prog w0 174 [.pointer (some ⟨p.b,0,none⟩)] (planH p++F) (fun r H'=>r= .int .i64 (p.g.pages:Nat)∧H'=planH p++F):=by
 refine Call.enter1 (n:=9) (by rfl) Tryz.func174 rfl rfl rfl ?_;refine zaf ?_;refine zi5 ?_;rw[Jm];refine zas ?_;refine zaa ?_;exact zq
theorem jf3 (ok:GrOk g p):
  Call Tryz.prog w0 283 [.pointer (some ⟨g.b,0,none⟩)] (J4 g p++F) (fun r H'=>r= .bool false∧H'=J4 g p++F):=by
 have hl:=ok.l
 have ho:=ok.o
 have hne: ¬((g.ring.length:Nat):Int)=0:=by omega
 refine Call.enter1 (n:=13) (by rfl) Tryz.func283 rfl rfl rfl ?_;simp only[JQ];refine zeA ?_;refine zbU ?_;refine zaD ?_;refine ze9 ?_;refine zC ?_;refine zcA ?_;exact zlU
theorem grNew_K {n:Nat} (ok:jaS p) (hn:1≤n∧n≤64):
  Call Tryz.prog w0 141 [.pointer (some ⟨p.b,0,none⟩), .int .i64 (n:Nat)] (planH p++F) (fun r H'=> ∃ g,GrOk g p∧GrNil g p∧g.ring.length=n∧r= .tuple [.pointer (some ⟨g.b,0,none⟩), .int .i64 0].toArray∧H'=J4 g p++(planH p++F)):=by
 have hs:=ok.g.slots
 have hp:=ok.g.pages
 have hne: ¬((p.g.slots:Nat):Int)=0:=by omega
 have h1: ¬((n:Nat):Int)<1:=by omega
 have h2: ¬((n:Nat):Int)>64:=by omega
 refine Call.enter2 (n:=41) (by rfl) Tryz.func141 rfl rfl rfl ?_;refine zL ?_;refine zd8 ?_;refine jp (jeI ok) ?_;refine zfS ?_;refine zj ?_;refine zW ?_;refine zfw ?_;refine zbA ?_;refine zn ?_;refine jp (jeI ok) ?_;refine zp ?_;refine JY (jgk (n:=p.g.slots) (by omega)) ?_;rintro _ _ ⟨r1,kr1,hb1,rfl,rfl⟩;refine zY ?_;refine zch ?_;refine jn (Pages0_K ok) ja ?_;refine zp ?_;refine JY (jgk (n:=p.g.pages) (by omega)) ?_;rintro _ _ ⟨r2,kr2,hb2,rfl,rfl⟩;refine ziF ?_;refine zbb ?_;refine zB ?_;refine KL.e rfl (Eff.makeR (E:=iE) (x0:=0) rfl rfl rfl rfl rfl rfl (by omega)) ?_;rintro _ _ ⟨o38,ok38,rfl,rfl⟩;refine zgK ?_;intro b40;exact KE.fin (H':=J4 ⟨b40,r1,r2,List.replicate n 0,o38,0,0,0,0⟩ p++(planH p++F)) je rfl jd (by simp only[JQ,List.length_replicate];exact ja) ⟨⟨b40,r1,r2,List.replicate n 0,o38,0,0,0,0⟩,⟨ok,kr1,kr2,ok38,by grind,by grind,by grind⟩,⟨hb1,hb2,rfl,rfl,rfl,rfl⟩,by simp,rfl,rfl⟩
theorem grClear_K (ok:GrOk g p):
  Call Tryz.prog w0 342 [.pointer (some ⟨g.b,0,none⟩)] (J4 g p++F) (fun r H'=>r= .tuple #[]∧ ∃ g',GrOk g' p∧GrNil g' p∧g'.b=g.b∧g'.ring.length=g.ring.length∧H'=J4 g' p++F):=by
 have k1:=ok.ow
 have k2:=ok.di
 have ho:=ok.o
 refine Call.enter1 (n:=29) (by rfl) Tryz.func342 rfl rfl rfl ?_;refine zG ?_;refine zn ?_;refine jp (jf3 ok) ?_;simp only[JQ];refine zaQ ?_;refine zeM ?_;refine zN ?_;refine zp ?_;refine jB (jjp k1) ja ?_;rintro _ _ ⟨rfl,r1,kr1,hr1,hb1,rfl⟩;refine zal ?_;refine zeM ?_;refine zrG ?_;refine jB (jjp k2) ja ?_;rintro _ _ ⟨rfl,r2,kr2,hr2,hb2,rfl⟩;refine zed ?_;refine zB ?_;refine zb6 ?_;refine zds ?_;refine zaq ?_;refine zS ?_;refine zc2 ?_;refine zaq ?_;refine zS ?_;refine zhT ?_;refine zaq ?_;refine zS ?_;refine zc3 ?_;refine zdW ?_;rw[←hr1,←hr2];rw[ok.n1] at hb1;rw[ok.n2] at hb2;exact KE.finN (H':=J4 ⟨g.b,r1,r2,g.ring,g.o,0,0,0,0⟩ p++F) je rfl jd (by simp only[JQ];exact ja) ⟨rfl,⟨g.b,r1,r2,g.ring,g.o,0,0,0,0⟩,⟨ok.pl,kr1,kr2,ho,by grind,by grind,ok.l⟩,⟨hb1,hb2,rfl,rfl,rfl,rfl⟩,rfl,rfl,by grind[JQ]⟩
end
structure PiM where
 b:Nat
 r:jaM
 l:List Int
 o:Own
def JX (q:PiM):jb:=(q.b,cells [.pointer (some ⟨q.r.b,0,none⟩),oV q.o q.l.length] 231)::(jN q.r++oH bE 5 q.l q.o)
theorem jbP {q:PiM} {F:jb}:JX q++F=(q.b,cells [.pointer (some ⟨q.r.b,0,none⟩),oV q.o q.l.length] 231)::(jN q.r++(oH bE 5 q.l q.o++F)):=by
 simp[JX]
structure PiOk (q:PiM):Prop where
 r:RowOk q.r
 o:oOk bE q.l q.o
 n:q.r.bs=q.l.map fun v=>decide (0<v)
 m:q.l.length≤65536
 v: ∀ v∈q.l,0≤v∧v≤255
section
variable {w0 : World} {F : jb} {q : PiM}
theorem pinone_K:Call Tryz.prog w0 171 [.pointer (some ⟨q.b,0,none⟩)] (JX q++F) (fun r H'=>r= .bool false∧H'=JX q++F):=by
 refine Call.enter1 (n:=12) (by rfl) Tryz.func171 rfl rfl rfl ?_;simp only[jbP];refine zfx ?_;refine zea ?_;exact zlV
theorem piLen_K (ok:PiOk q):Call Tryz.prog w0 140 [.pointer (some ⟨q.b,0,none⟩)] (JX q++F) (fun r H'=>r= .int .i64 (q.l.length:Nat)∧H'=JX q++F):=by
 have ho:=ok.o
 refine Call.enter1 (n:=10) (by rfl) Tryz.func140 rfl rfl rfl ?_;refine zaf ?_;refine zkH ?_;simp only[jbP];refine zas ?_;refine zae ?_;refine zdL ?_;exact zlV
theorem CloneB_K {w0:World} {v:Value} {l:List Int} (hS:SlW w0 bE v l) (hl:l.length≤4294967296):
  Call Tryz.prog w0 173 [v] [] (fun r H'=> ∃ o,oOk bE l o∧r=oV o l.length∧H'=oH bE 5 l o):=by
 refine Call.enter1 (n:=8) (by rfl) Tryz.func173 rfl rfl rfl ?_
 have hS0:=hS
 obtain⟨a,c,rfl,h1,h2,h3⟩:=hS.shape
 cases a with
 |none=>
  have hn:l=[]:=by
   grind
  subst hn;refine zai ?_;refine zgO ?_;refine zgx ?_;exact zn1
 |some a=>
  refine zai ?_;refine zgO ?_;refine zK ?_;refine zfp ?_;intro b5;refine KL.e rfl (Eff.appLit (E:=bE) (ys:=l) rfl rfl rfl rfl rfl rfl rfl ju (by first|exact Sli.blk ju rfl (by first|decide|simp) (by first|decide|(unfold maxLen;omega)) rfl|exact Sli.old (by assumption)|exact Sli.own jj (by assumption) jF|assumption|exact Sli.part (by assumption) ja) (by omega) rfl) ?_;rintro _ _ ⟨o',ok',rfl,rfl⟩;refine zm ?_;exact zn2
theorem piCopy_K (ok:PiOk q):Call Tryz.prog w0 139 [.pointer (some ⟨q.b,0,none⟩)] (JX q++F) (fun r H'=> ∃ q',PiOk q'∧q'.l=q.l∧r= .pointer (some ⟨q'.b,0,none⟩)∧H'=JX q'++(JX q++F)):=by
 have ho:=ok.o
 have okr:=ok.r
 have hm:=ok.m
 refine Call.enter1 (n:=17) (by rfl) Tryz.func139 rfl rfl rfl ?_;refine zaf ?_;refine zkH ?_;simp only[jbP];refine zb8 ?_;refine K.drawn _ [(0,0),(1,0),(2,0),(3,0),(5,1),(6,1),(7,1),(8,1),(4,2),(9,2),(10,0),(11,2),(12,0)] (by rfl) (by rfl) (by kernel_rfl) (by rfl) (by rfl) (by rfl) Part.all ?_;refine zcT ?_;refine zeP ?_;refine ziZ ?_;refine zaJ ?_;refine zk fun T hT=>?_;refine(CallV.part (CallV.fn (ji8 okr)) ja).mono ?_;rintro _ _ ⟨r',kr',hbs,rfl,rfl⟩;refine zi ?_;clear hT T;refine zk fun T hT=>?_;refine(CallV.pure fun w hw=>CallV.fn (CloneB_K (Sli.own jj ho rfl w hw) (by omega))).mono ?_;rintro _ _ ⟨_,⟨o1,ko1,rfl,rfl⟩,rfl⟩;refine zi ?_;clear hT T;refine zrV ?_;intro b16;refine zpO ?_;exact KE.fin (H':=JX ⟨b16,r',q.l,o1⟩++(JX q++F)) je rfl jd (by simp only[jbP];exact ja) ⟨⟨b16,r',q.l,o1⟩,⟨kr',ko1,by rw[hbs];exact ok.n,hm,ok.v⟩,rfl,rfl,by grind[jbP]⟩
end
theorem piNew_K {w0:World} {H:jb} {n:Nat} (hn:n≤65536):Call Tryz.prog w0 112 [.int .i64 (n:Nat)] H (fun r H'=> ∃ q,PiOk q∧q.l=List.replicate n 0∧r= .tuple [.pointer (some ⟨q.b,0,none⟩), .int .i64 0].toArray∧H'=JX q++H):=by
 have hgt: ¬((n:Nat):Int)>65536:=by omega
 refine Call.enter1 (n:=23) (by rfl) Tryz.func112 rfl rfl rfl ?_;refine zL ?_;refine zad ?_;refine zW ?_;refine zX ?_;refine zaA ?_;refine zaX ?_;refine zn ?_;refine JY (jgk (n:=n) (by omega)) ?_;rintro _ _ ⟨r1,kr1,hb1,rfl,rfl⟩;refine ziF ?_;refine KL.e rfl (Eff.makeR (E:=bE) (x0:=0) rfl rfl rfl rfl rfl rfl (by omega)) ?_;rintro _ _ ⟨o19,ok19,rfl,rfl⟩;refine zci ?_;intro b21;refine zj ?_;refine zab ?_;refine KE.fin (H':=JX ⟨b21,r1,List.replicate n 0,o19⟩++H) je rfl jd (by simp only[jbP,List.length_replicate];exact ja) ⟨⟨b21,r1,List.replicate n 0,o19⟩,⟨kr1,ok19,by simp_all,by grind,fun v hv=>?_⟩,rfl,rfl,rfl⟩
 grind
open Go.RowKit
set_option maxRecDepth 10000
structure jaw where
 slot:Int
 field:Int
 is:Bool
def jbf:Enc jaw:=⟨fun h=> [.int .i64 h.slot, .int .i64 h.field, .bool h.is],3,fun _=>rfl,by intro x v hv;simp at hv;rcases hv with rfl|rfl|rfl<;>rfl⟩
structure MkM where
 b:Nat
 c:TiM
 g:GrM
 hs:List jaw
 o:Own
 root:Nat
 act:Bool
 steps:Nat
 bb:Nat
 tb:Nat
 nb:Nat
def jt (k:MkM) (p:jZ):jb:=(k.b,cells [.pointer (some ⟨k.bb,0,none⟩), .pointer (some ⟨p.b,0,none⟩), .pointer (some ⟨k.tb,0,none⟩), .pointer (some ⟨k.nb,0,none⟩), .pointer (some ⟨k.c.b,0,none⟩), .pointer (some ⟨k.g.b,0,none⟩),oV k.o k.hs.length, .int .i64 (k.root:Nat), .bool k.act, .int .i64 (k.steps:Nat)] 245)::(jaK k.c++(J4 k.g p++oH jbf 280 k.hs k.o))
theorem js {k:MkM} {p:jZ} {F:jb}:jt k p++F=(k.b,cells [.pointer (some ⟨k.bb,0,none⟩), .pointer (some ⟨p.b,0,none⟩), .pointer (some ⟨k.tb,0,none⟩), .pointer (some ⟨k.nb,0,none⟩), .pointer (some ⟨k.c.b,0,none⟩), .pointer (some ⟨k.g.b,0,none⟩),oV k.o k.hs.length, .int .i64 (k.root:Nat), .bool k.act, .int .i64 (k.steps:Nat)] 245)::(jaK k.c++(J4 k.g p++(oH jbf 280 k.hs k.o++F))):=by
 simp[jt]
structure MkOk (k:MkM) (p:jZ):Prop where
 c:TiOk k.c
 g:GrOk k.g p
 n:k.c.l.length=p.g.slots
 o:oOk jbf k.hs k.o
 hs:1≤k.hs.length∧k.hs.length≤9
structure MkNil (k:MkM) (p:jZ):Prop where
 c:tiC k.c=List.replicate p.g.slots 0
 g:GrNil k.g p
 hs:k.hs=List.replicate k.hs.length ⟨0,0,false⟩
 root:k.root=0
 steps:k.steps=0
structure MkAs (k k':MkM):Prop where
 b:k'.b=k.b
 bb:k'.bb=k.bb
 tb:k'.tb=k.tb
 nb:k'.nb=k.nb
 n:k'.hs.length=k.hs.length
 l:k'.g.ring.length=k.g.ring.length
theorem jfo {k:MkM} {p:jZ} (ok:MkOk k p) {s:Nat} (h:s<p.g.slots): ∃ c,(tiC k.c)[s]?=some c:=jh (by rw[jbD,ok.n];omega)
section
variable {w0 : World} {F : jb} {k : MkM} {p : jZ}
theorem jiE:Call Tryz.prog w0 175 [.pointer (some ⟨k.b,0,none⟩)] (jt k p++F) (fun r H'=>r= .bool false∧H'=jt k p++F):=by
 refine Call.enter1 (n:=12) (by rfl) Tryz.func175 rfl rfl rfl ?_;simp only[js];refine zeA ?_;refine zc2 ?_;refine zaD ?_;refine zea ?_;exact zoe
theorem jek {s:Nat} {c:Int} (ok:MkOk k p) (hc:(tiC k.c)[s]?=some c):Call Tryz.prog w0 143 [.pointer (some ⟨k.b,0,none⟩), .int .i64 (s:Nat)] (jt k p++F) (fun r H'=>r= .tuple [.int .u8 c, .int .i64 0].toArray∧H'=jt k p++F):=by
 have okc:=ok.c
 refine Call.enter2 (n:=16) (by rfl) Tryz.func143 rfl rfl rfl ?_;refine zhx ?_;refine jp (jiE (k:=k) (p:=p)) ?_;simp only[js];refine zas ?_;refine zdg ?_;refine zn ?_;refine jn (tiOf_K okc hc) ja ?_;refine zh4 ?_;refine zab ?_;exact zoe
theorem jeu:Call Tryz.prog w0 180 [.pointer (some ⟨k.b,0,none⟩)] (jt k p++F) (fun r H'=>r= .bool k.act∧H'=jt k p++F):=by
 refine Call.enter1 (n:=12) (by rfl) Tryz.func180 rfl rfl rfl ?_;refine zbL ?_;refine jp (jiE (k:=k) (p:=p)) ?_;simp only[js];refine zag ?_;refine zaY ?_;refine zc4 ?_;refine zl ?_;refine zw ?_;refine zdh ?_;exact zoe
theorem jlk {v:Bool} (hv:k.act=!v):Call Tryz.prog w0 340 [.pointer (some ⟨k.b,0,none⟩), .bool v] (jt k p++F) (fun r H'=>r= .int .i64 0∧H'=jt {k with act:=v} p++F):=by
 have hb:(k.act==v)=false:=by grind
 refine Call.enter2 (n:=19) (by rfl) Tryz.func340 rfl rfl rfl ?_;refine zL ?_;refine zdl ?_;refine zn ?_;refine jp (jiE (k:=k) (p:=p)) ?_;simp only[js];refine zcw ?_;refine zcF ?_;refine zj ?_;refine KL.v rfl (Val.eqlB rfl rfl rfl) ?_;refine zU ?_;rw[hb];refine K.condF rfl (K.skip ?_);refine zaw ?_;refine zV ?_;refine zb6 ?_;refine zc4 ?_;refine zgn ?_;exact zoe
theorem mkStart_K (ok:MkOk k p) (hv:k.act=false) (hf:k.c.f≤1000000):Call Tryz.prog w0 325 [.pointer (some ⟨k.b,0,none⟩)] (jt k p++F)
  (fun r H'=>r= .int .i64 0∧ ∃ k',MkOk k' p∧MkNil k' p∧MkAs k k'∧k'.act=true∧k'.c.f=k.c.f+1∧H'=jt k' p++F):=by
 have okc:=ok.c
 have okg:=ok.g
 have oko:=ok.o
 refine Call.enter1 (n:=29) (by rfl) Tryz.func325 rfl rfl rfl ?_;refine zbL ?_;refine jp (jlk (p:=p) hv) ?_;simp only[js];refine zad ?_;refine zeF ?_;refine zF ?_;refine zds ?_;refine zaI ?_;refine jB (tiFlip_K okc hf) ja ?_;rintro _ _ ⟨rfl,c',kc,cb,cf,cc,rfl⟩;refine zal ?_;refine zF ?_;refine zc2 ?_;refine zaI ?_;refine jB (grClear_K okg) ja ?_;rintro _ _ ⟨rfl,g',kg,gn,gb,gl,rfl⟩;refine zal ?_;refine zF ?_;refine zbn ?_;refine KL.eN (Eff.clearS (x0:=(⟨0,0,false⟩:jaw)) (i:=0) rfl (clr_all (by assumption)) rfl rfl (Nat.zero_le _) (Nat.le_refl _) jj (by omega)) ?_;rintro _ _ ⟨rfl,okc,rfl⟩;refine zR ?_;rw[jjE] at okc⊢;refine zks ?_;refine zb6 ?_;refine ztx ?_;refine zS ?_;refine zbE ?_;refine zgC ?_;refine zm ?_;rw[←cb,←gb]
 have hcn:c'.l.length=p.g.slots:=by have:=congrArg List.length cc;rw [jbD,List.length_replicate,ok.n] at this;omega
 have hcc:=cc
 rw[ok.n] at hcc;exact KE.fin (H':=jt ⟨k.b,c',g',List.replicate k.hs.length ⟨0,0,false⟩,k.o,0,true,0,k.bb,k.tb,k.nb⟩ p++F) je rfl jd (by simp only[js,List.length_replicate];exact ja) ⟨rfl,⟨k.b,c',g',List.replicate k.hs.length ⟨0,0,false⟩,k.o,0,true,0,k.bb,k.tb,k.nb⟩,⟨kc,kg,hcn,okc,by simpa using ok.hs⟩,⟨hcc,gn,by simp,rfl,rfl⟩,⟨rfl,rfl,rfl,rfl,by simp,gl⟩,rfl,cf,by grind[js]⟩
end
open Go.RowKit
set_option maxRecDepth 10000
def slL (x:jq):List Value:=[.int .i64 (x.cls:Nat), .int .i64 (x.size:Nat), .int .i64 (x.addr:Nat), .int .i64 (x.page:Nat)]
def slE:Enc jq:=⟨slL,4,fun _=>rfl,by intro x v hv;simp[slL] at hv;rcases hv with rfl|rfl|rfl|rfl<;>rfl⟩
namespace PlG
def firsts (g:PlG):List Int:=(cutL g.pgs (fun k j=>g.first k+j*g.per k) g.m).map fun n=>((n:Nat):Int)
def manys (g:PlG):List Int:=(cutL g.pgs (fun k j=>min (g.per k) (g.n k-j*g.per k)) g.m).map fun n=>((n:Nat):Int)
def clI (g:PlG):List Int:=g.cl.map fun n=>((n:Nat):Int)
end PlG
structure PlV where
 L:Value
 F:Value
 M:Value
 C:Value
structure PlanD (w0:World) (D:jb) (v:PlV) (g:PlG):Prop where
 L:Sli w0 D slE v.L g.L
 F:Sli w0 D iE v.F g.firsts
 M:Sli w0 D iE v.M g.manys
 C:Sli w0 D iE v.C g.clI
 oL:v.L.oneCell'=true
 oF:v.F.oneCell'=true
 oM:v.M.oneCell'=true
 oC:v.C.oneCell'=true
theorem PlanD.part {w0:World} {D D':jb} {v:PlV} {g:PlG} (h:PlanD w0 D v g) (hp:Part D' D):PlanD w0 D' v g:=⟨h.L.part hp,h.F.part hp,h.M.part hp,h.C.part hp,h.oL,h.oF,h.oM,h.oC⟩
structure ArD (w0:World) (D:jb) (v:PlV) (va:Value) (g:PlG) (A:List Bool):Prop where
 p:PlanD w0 D v g
 a:Sli w0 D boE va A
 o:va.oneCell'=true
theorem ArD.part {w0:World} {D D':jb} {v:PlV} {va:Value} {g:PlG} {A:List Bool} (h:ArD w0 D v va g A) (hp:Part D' D):ArD w0 D' v va g A:=⟨h.p.part hp,h.a.part hp,h.o⟩
structure RwD where
 a:Option Addr
 n:Nat
 c:Nat
 x:List Int
def rwE:Enc RwD:=⟨fun r=> [.slice r.a r.n r.c],1,fun _=>rfl,by intro x v hv;simp at hv;subst hv;rfl⟩
structure MemD (w0:World) (D:jb) (vr:Value) (R:List RwD):Prop where
 r:Sli w0 D rwE vr R
 o:vr.oneCell'=true
 x: ∀ q∈R,Sli w0 D uE (.slice q.a q.n q.c) q.x
theorem MemD.part {w0:World} {D D':jb} {vr:Value} {R:List RwD} (h:MemD w0 D vr R) (hp:Part D' D):MemD w0 D' vr R:=⟨h.r.part hp,h.o,fun q hq=>(h.x q hq).part hp⟩
open Go.RowKit
set_option maxRecDepth 10000
namespace PlG
def fp (g:PlG) (k:Nat):Nat:=((g.firsts[k]?).getD 0).toNat
def mp (g:PlG) (k:Nat):Nat:=((g.manys[k]?).getD 0).toNat
def pgOf (g:PlG) (s:Nat):Nat:=((g.L[s]?).map (·.page)).getD 0
end PlG
section
variable {g : PlG}
theorem fp_at {k j:Nat} (hk:k<g.m) (hj:j<g.pgs k):g.fp (g.page k+j)=g.first k+j*g.per k:=by
 grind[PlG.fp,PlG.firsts,PlG.page,jf7]
theorem mp_at {k j:Nat} (hk:k<g.m) (hj:j<g.pgs k):g.mp (g.page k+j)=min (g.per k) (g.n k-j*g.per k):=by
 grind[PlG.mp,PlG.manys,PlG.page,jf7]
theorem ji9 (ok:jg g) {k j:Nat} (hk:k<g.m):j<g.pgs k↔j*g.per k<g.n k:=by
 have h1:=ok.n hk
 have h2:=ok.per hk
 unfold PlG.pgs;rw[Nat.lt_iff_add_one_le,Nat.le_div_iff_mul_le (by omega),Nat.succ_mul]
 omega
theorem jfH (ok:jg g) {s:Nat} {y:jq} (h:g.L[s]?=some y):y.page<g.pages∧g.fp y.page≤s∧s<g.fp y.page+g.mp y.page:=by
 obtain⟨k,d,hk,hd,rfl,rfl⟩:=L_at h
 have h1:=ok.pg_lt hk hd
 have h2:=ok.inpg hk hd
 have h3:=ok.per hk
 refine⟨h1,?_⟩;simp only[PlG.sl];rw[fp_at hk h2,mp_at hk h2]
 have h4:=Nat.div_mul_le_self d (g.per k)
 have h5:d<(d/g.per k+1)*g.per k:=by
  have:=Nat.lt_succ_self (d/g.per k)
  exact(Nat.div_lt_iff_lt_mul (by omega)).1 this
 grind
theorem jeU (ok:jg g) {k:Nat} (hk:k<g.pages):1≤g.mp k∧g.mp k≤32∧g.fp k+g.mp k≤g.slots:=by
 obtain⟨c,j,hc,hj,rfl⟩:=jg2 (n:=g.pgs) hk
 have hm:=mp_at hc hj
 have hf:=fp_at hc hj
 have hper:=ok.per hc
 have h1:=(ji9 ok hc).1 hj
 have h2:=jdu (n:=g.n) hc
 grind[PlG.page,PlG.slots,PlG.first]
theorem jgc {s:Nat} {y:jq} (h:g.L[s]?=some y):g.pgOf s=y.page:=by grind[PlG.pgOf]
end
structure GyP where
 q:List Nat
 ow:List Bool
 di:List Bool
 pg:Option Nat
 at_:Nat
def jaL (g:PlG) (long:Nat) (G:GyP) (s:Nat):GyP:=
 if G.q.length<long then{G with q:=G.q++ [s]} else{G with ow:=G.ow.set s true,di:=G.di.set (g.pgOf s) true}
def jbv (G:GyP):Option (Nat × GyP):=match G.pg with
 |some k=>some (k,G)
 |none=>match G.q with
  | []=>match nextB G.di 0 true with
   |some k=>some (k,{G with di:=G.di.set k false,pg:=some k,at_:=0})
   |none=>none
  |_::_=>none
def walk1 (g:PlG) (k:Nat) (G:GyP):Option Nat × GyP:=
  (if (G.ow[g.fp k+G.at_]?).getD false then some (g.fp k+G.at_) else none,
   {G with ow:=G.ow.set (g.fp k+G.at_) false,pg:=if G.at_+1=g.mp k then none else some k,at_:=if G.at_+1=g.mp k then 0 else G.at_+1})
def walkG (g:PlG) (G:GyP):Option (Option Nat × GyP):=(jbv G).map fun x=>walk1 g x.1 x.2
def jb0 (G:GyP):Bool:=G.q.isEmpty&&(decide (G.ow.count true=0)&&G.pg.isNone)
structure jbO (g:PlG) (long:Nat) (G:GyP):Prop where
 q: ∀ s∈G.q,s<g.slots
 ql:G.q.length≤long
 ow:G.ow.length=g.slots
 di:G.di.length=g.pages
 pg: ∀ k,G.pg=some k→k<g.pages∧G.at_<g.mp k
 no:G.pg=none→G.at_=0
 /--what is owed lies in a dirty page,or ahead in the page that is walked through-/
 od: ∀ s:Nat,G.ow[s]?=some true→G.di[g.pgOf s]?=some true∨ ∃ k,G.pg=some k∧g.pgOf s=k∧g.fp k+G.at_≤s
structure MaP where
 C:List Int
 G:GyP
 hs:List jaw
 root:Nat
 act:Bool
 steps:Nat
structure MwP where
 x:List Int
 T:List jl
 N:List Int
def jA (g:PlG) (s:Int):jq:=(g.L[s.toNat]?).getD ⟨0,0,0,0⟩
def J9 (g:PlG) (long:Nat) (m:MaP) (s:Int):MaP:=if 0≤s∧m.C[s.toNat]?=some 0 then{m with C:=m.C.set s.toNat 1,G:=jaL g long m.G s.toNat} else m
def shdM (g:PlG) (long:Nat) (m:MaP) (s:Int):MaP:=if m.act then J9 g long m s else m
def jU (g:PlG) (W:MwP) (r:Nat):Option Int:=match W.T[r]? with
 |some e=>if e.st=1 then some e.slot else none
 |none=>if (W.N[r-W.T.length]?).getD 0>0 then some ((r-W.T.length:Nat):Int) else none
def J8 (g:PlG) (long:Nat) (m:MaP) (o:Option Int):MaP:=match o with
 |some s=>J9 g long m s
 |none=>m
def jb5 (g:PlG) (long:Nat) (W:MwP) (m:MaP):Option MaP:=
 if m.root<W.T.length+g.slots then some (J8 g long {m with root:=m.root+1} (jU g W m.root)) else none
def jaj:jaw:=⟨0,0,false⟩
def jai (m:MaP) (k:Nat):jaw:=(m.hs[k]?).getD jaj
def jcz (m:MaP) (k:Nat):Option MaP:=if (jai m k).is then none else match m.G.q with
 | []=>none
 |s::q=>some {m with G:={m.G with q:=q},hs:=m.hs.set k ⟨(s:Nat),0,true⟩}
def refO (g:PlG) (x:List Int) (s i:Int):Option Int:=if (refP x g.slots (jA g s) i).2=0∧0≤(refP x g.slots (jA g s) i).1 then some (refP x g.slots (jA g s) i).1 else none
def refsN (x:List Int) (y:jq):Int:=match headP x y with
 |some h=>h.r
 |none=>0
def scanM (g:PlG) (long:Nat) (W:MwP) (m:MaP) (k:Nat):Option MaP:=
 if (jai m k).is then
  (if (jai m k).field+1<refsN W.x (jA g (jai m k).slot) then
   some {J8 g long m (refO g W.x (jai m k).slot (jai m k).field) with hs:=m.hs.set k ⟨(jai m k).slot,(jai m k).field+1,true⟩}
  else some {J8 g long m (refO g W.x (jai m k).slot (jai m k).field) with hs:=m.hs.set k jaj,C:=(J8 g long m (refO g W.x (jai m k).slot (jai m k).field)).C.set (jai m k).slot.toNat 2})
 else none
def jbI (g:PlG) (m:MaP) (k:Nat):Option MaP:=if (jai m k).is then none else match walkG g m.G with
 |none=>none
 |some (none,G)=>some {m with G:=G}
 |some (some s,G)=>some {m with G:=G,hs:=m.hs.set k ⟨(s:Nat),0,true⟩}
def jay (g:PlG) (long:Nat) (W:MwP) (m:MaP) (k:Nat) (u:Int):Option MaP:=
 if u=1 then jb5 g long W m else if u=2 then jcz m k else if u=3 then scanM g long W m k else if u=4 then jbI g m k else none
def upM (m:MaP):MaP:={m with steps:=m.steps+1}
def j0 (g:PlG) (long:Nat) (W:MwP) (m:MaP) (k:Int) (u:Int):Option MaP:=
 if m.act=true∧0≤k∧k<(m.hs.length:Nat) then(jay g long W m k.toNat u).map upM else none
def fullM (m:MaP):Option Nat:=(List.range m.hs.length).find? fun k=>(jai m k).is
def jaA (g:PlG) (long:Nat) (W:MwP) (m:MaP):Option MaP:=match fullM m with
 |some k=>j0 g long W m (k:Nat) 3
 |none=>match j0 g long W m ((m.hs.length-1:Nat):Int) 2 with
  |some m'=>some m'
  |none=>match j0 g long W m ((m.hs.length-1:Nat):Int) 1 with
   |some m'=>some m'
   |none=>j0 g long W m ((m.hs.length-1:Nat):Int) 4
def jaa (g:PlG) (W:MwP) (m:MaP):Bool:=m.act&&((fullM m).isNone&&(decide (W.T.length+g.slots≤m.root)&&jb0 m.G))
def nilG (g:PlG):GyP:=⟨[],List.replicate g.slots false,List.replicate g.pages false,none,0⟩
def jam (g:PlG) (nw:Nat) (act:Bool):MaP:=⟨List.replicate g.slots 0,nilG g,List.replicate (nw+1) jaj,0,act,0⟩
def jgi (g:PlG) (m:MaP):MaP:=jam g (m.hs.length-1) true
structure jL (g:PlG) (long:Nat) (W:MwP) (m:MaP):Prop where
 C:m.C.length=g.slots
 c: ∀ v∈m.C,v=0∨v=1∨v=2
 G:jbO g long m.G
 hs:1≤m.hs.length∧m.hs.length≤9
 h: ∀ (k:Nat) (h:jaw),m.hs[k]?=some h→(h.is=true∧0≤h.slot∧h.slot<((g.slots:Nat):Int)∧0≤h.field∧(h.field=0∨h.field<refsN W.x (jA g h.slot)))∨h=jaj
 root:m.root≤W.T.length+g.slots
structure jad (g:PlG) (W:MwP):Prop where
 x:W.x.length=g.words
 w:jac W.x
 N:W.N.length=g.slots
 n: ∀ v∈W.N,0≤v∧v≤255
 t: ∀ e∈W.T,e.st=1→0≤e.slot∧e.slot<((g.slots:Nat):Int)
open Go.RowKit
set_option maxRecDepth 10000
theorem jgg {f h:Nat→Nat}: ∀ {n:Nat},(∀ i,i<n→f i=h i)→jE f n=jE h n
 |0,_=>rfl
 |n+1,e=>by
  have h1:=jgg (n:=n) fun i hi=>e i (by omega)
  grind[jE]
theorem jgq {f h:Nat→Nat} {s:Nat}: ∀ {n:Nat},s<n→(∀ i,i<n→i≠s→h i=f i)→jE h n+f s=jE f n+h s
 |0,hs,_=>by omega
 |n+1,hs,e=>by
  simp only[jE]
  by_cases hn:s=n
  ·grind[h1,jgg]
  ·have h1:=jgq (f:=f) (h:=h) (n:=n) (by omega) fun i hi hne=>e i (by omega) hne
   grind
theorem cum_le' {f h:Nat→Nat}: ∀ {n:Nat},(∀ i,i<n→f i≤h i)→jE f n≤jE h n
 |0,_=>Nat.le_refl _
 |n+1,e=>by
  have h1:=cum_le' (n:=n) fun i hi=>e i (by omega)
  grind[jE]
theorem cum_add {f h:Nat→Nat}: ∀ n:Nat,jE (fun i=>f i+h i) n=jE f n+jE h n
 |0=>rfl
 |n+1=>by have:=cum_add (f:=f) (h:=h) n;grind[jE]
theorem jfR (c:Nat): ∀ n:Nat,jE (fun _=>c) n=n*c
 |0=>by simp[jE]
 |n+1=>by have:=jfR c n;grind[jE]
theorem jiS {f:Nat→Nat} {n:Nat} (h: ∀ i,i<n→f i=0):jE f n=0:=by
 rw[jgg (h:=fun _=>0) h,jfR];omega
theorem jjS {f h:Nat→Nat} {a:Nat}: ∀ b:Nat,(∀ i,i<b→f (a+i)=h i)→jE f (a+b)=jE f a+jE h b
 |0,_=>by rfl
 |b+1,e=>by
  have h1:=jjS (f:=f) (h:=h) (a:=a) b fun i hi=>e i (by omega)
  grind[jE]
def szA (g:PlG) (s:Nat):Nat:=(jA g (s:Nat)).size
section
variable {g : PlG}
theorem jW {s:Nat} {y:jq} (h:g.L[s]?=some y):jA g (s:Nat)=y:=by grind[jA]
theorem szA_at {s:Nat} {y:jq} (h:g.L[s]?=some y):szA g s=y.size:=by grind[szA,jW]
theorem ji2 (ok:jg g) {s:Nat} (hs:s<g.slots):2≤szA g s∧szA g s≤64:=by
 obtain⟨y,hy⟩:=j9 hs
 rw[szA_at hy]
 have:=ok.fits hy
 omega
theorem jk2 (ok:jg g): ∀ k,k≤g.m→jE (szA g) (g.first k)≤g.page k*g.pg
 |0,_=>by simp[PlG.first,jE]
 |k+1,h=>by
  have h1:=jk2 ok k (by omega)
  have hk:k<g.m:=by omega
  have h2:jE (szA g) (g.first k+g.n k)=jE (szA g) (g.first k)+jE (fun _=>g.y k) (g.n k):=jjS _ fun i hi=>by
   rw[szA_at (L_get hk hi)];rfl
  rw[jfR] at h2
  have h3:g.first (k+1)=g.first k+g.n k:=rfl
  have h4:g.page (k+1)=g.page k+g.pgs k:=rfl
  rw[h3,h4,h2,Nat.add_mul]
  have hper:=ok.per hk
  have h5:g.n k≤g.pgs k*g.per k:=by
   unfold PlG.pgs
   have:=Nat.div_add_mod (g.n k+g.per k-1) (g.per k)
   have h6:=Nat.mod_lt (g.n k+g.per k-1) (show 0<g.per k by omega)
   grind
  have h6:g.per k*g.y k≤g.pg:=Nat.div_mul_le_self _ _
  have h7:g.n k*g.y k≤g.pgs k*g.per k*g.y k:=Nat.mul_le_mul_right _ h5
  have h8:g.pgs k*(g.per k*g.y k)≤g.pgs k*g.pg:=Nat.mul_le_mul_left _ h6
  grind
theorem jjJ (ok:jg g):jE (szA g) g.slots≤g.words:=jk2 ok g.m (Nat.le_refl _)
theorem jjw (ok:jg g):2*g.slots≤g.words:=by
 have h1:=jjJ ok
 have h2:jE (fun _=>2) g.slots≤jE (szA g) g.slots:=cum_le' fun i hi=>(ji2 ok hi).1
 rw[jfR] at h2
 omega
end
def wtA (g:PlG) (C:List Int) (s:Nat):Nat:=if C[s]?=some 0 then szA g s+33 else 0
def wtO (g:PlG) (ow:List Bool) (s:Nat):Nat:=if ow[s]?=some true then szA g s+1 else 0
def wtD (di:List Bool) (k:Nat):Nat:=if di[k]?=some true then 32 else 0
def wtH (g:PlG) (hs:List jaw) (k:Nat):Nat:=if ((hs[k]?).getD jaj).is then szA g ((hs[k]?).getD jaj).slot.toNat-((hs[k]?).getD jaj).field.toNat else 0
def wtP (g:PlG) (G:GyP):Nat:=match G.pg with
 |some k=>g.mp k-G.at_
 |none=>0
def wtQ (g:PlG) (q:List Nat):Nat:=(q.map fun s=>szA g s+1).sum
def jbJ (g:PlG) (G:GyP):Nat:=wtQ g G.q+(jE (wtO g G.ow) g.slots+(jE (wtD G.di) g.pages+wtP g G))
def jV (g:PlG) (W:MwP) (m:MaP):Nat:=jE (wtA g m.C) g.slots+(jbJ g m.G+(jE (wtH g m.hs) m.hs.length+(W.T.length+g.slots-m.root)))
section
variable {g : PlG} {long : Nat} {W : MwP} {m m' : MaP} {G G' : GyP}
theorem jiW {C:List Int} {s:Nat} {c:Int} (hs:s<g.slots) (h0:c≠0):jE (wtA g (C.set s c)) g.slots+wtA g C s=jE (wtA g C) g.slots:=by
 grind[wtA,hi,jgq,h1]
theorem jmr {C:List Int} {s:Nat} {c:Int} (h0:c≠0):jE (wtA g (C.set s c)) g.slots≤jE (wtA g C) g.slots:=by
 grind[wtA,hi,jiW,jgg]
theorem wtO_set {ow:List Bool} {s:Nat} (b:Bool) (hs:s<g.slots) (hl:s<ow.length):jE (wtO g (ow.set s b)) g.slots+wtO g ow s=jE (wtO g ow) g.slots+(if b then szA g s+1 else 0):=by
 grind[wtO,hi,jgq]
theorem wtD_set {di:List Bool} {k:Nat} (b:Bool) (hk:k<g.pages) (hl:k<di.length):jE (wtD (di.set k b)) g.pages+wtD di k=jE (wtD di) g.pages+(if b then 32 else 0):=by
 grind[wtD,hi,jgq]
theorem jg5 {hs:List jaw} {k:Nat} (h:jaw) (hk:k<hs.length):jE (wtH g (hs.set k h)) hs.length+wtH g hs k=jE (wtH g hs) hs.length+(if h.is then szA g h.slot.toNat-h.field.toNat else 0):=by
 grind[wtH,hi,jgq]
theorem put_left (ok:jg g) (hG:jbO g long G) {s:Nat} (hs:s<g.slots):jbJ g (jaL g long G s)≤jbJ g G+(szA g s+33):=by
 unfold jaL
 split
 ·grind[jbJ,wtQ,wtP]
 ·obtain⟨y,hy⟩:=j9 hs
  have h1:=wtO_set (g:=g) (ow:=G.ow) true hs (by rw[hG.ow];omega)
  have hp:g.pgOf s<g.pages:=by rw[jgc hy];exact(jfH ok hy).1
  have h2:=wtD_set (g:=g) (di:=G.di) true hp (by rw[hG.di];omega)
  grind[jbJ,wtQ,wtP]
theorem jjK (ok:jg g) (hm:jL g long W m) (s:Int):jV g W (J9 g long m s)≤jV g W m:=by
 unfold J9
 split
 ·rename_i h
  obtain⟨n,rfl⟩: ∃ n:Nat,s=n:=⟨s.toNat,by omega⟩
  simp only[Int.toNat_natCast] at h⊢
  have hn:n<g.slots:=by rw[←hm.C];grind
  have h1:=jiW (g:=g) (C:=m.C) (c:=1) hn (by decide)
  have h2:=put_left ok hm.G hn
  grind[wtA,szA,jV]
 omega
theorem jmt (ok:jg g) (hG:jbO g long G) {k:Nat} (hk:G.pg=some k):
  jbJ g (walk1 g k G).2+(match (walk1 g k G).1 with|some s=>szA g s+1|none=>0)+1≤jbJ g G:=by
 obtain⟨h1,h2⟩:=hG.pg k hk
 obtain⟨b1,b2,b3⟩:=jeU ok h1
 have hs:g.fp k+G.at_<g.slots:=by omega
 have ho:=wtO_set (g:=g) (ow:=G.ow) false hs (by rw[hG.ow];omega)
 grind[wtP,walk1,szA,wtO,jbJ,wtQ,jE,wtD]
theorem jh9 (ok:jg g) (hG:jbO g long G) {k:Nat} (h:jbv G=some (k,G')):jbO g long G'∧G'.pg=some k∧jbJ g G'≤jbJ g G:=by
 unfold jbv at h
 cases hp:G.pg with
 |some k'=>
  grind
 |none=>
  rw[hp] at h
  cases hq:G.q with
  |cons a l=>grind
  |nil=>
   rw[hq] at h;dsimp only at h
   cases hn:nextB G.di 0 true with
   |none=>grind
   |some k'=>
    rw[hn] at h;simp only[Option.some.injEq,Prod.mk.injEq] at h
    obtain⟨rfl,rfl⟩:=h
    obtain⟨n1,n2,n3,n4⟩:=jd4 hn
    have hk:k'<g.pages:=by rw[←hG.di];omega
    obtain⟨b1,b2,b3⟩:=jeU ok hk
    refine⟨⟨fun s hs=>(by grind),Nat.zero_le _,hG.ow,by rw[List.length_set];exact hG.di,?_,?_,?_⟩,rfl,?_⟩
    ·grind
    ·grind
    ·intro s hs
     rcases hG.od s hs with hd|⟨k,hk',_⟩
     ·by_cases hpk:g.pgOf s=k'
      ·right
       refine⟨k',rfl,hpk,?_⟩
       have hsl:s<g.slots:=by rw[←hG.ow];grind
       obtain⟨y,hy⟩:=j9 hsl
       have:=jfH ok hy
       grind[jgc]
      grind
     grind
    grind[wtD,wtP,jbJ,h1,wtD_set,h2,h3]
theorem walk1_ok (ok:jg g) (hG:jbO g long G) {k:Nat} (hk:G.pg=some k):jbO g long (walk1 g k G).2∧ ∀ s,(walk1 g k G).1=some s→s<g.slots∧G.ow[s]?=some true:=by
 obtain⟨h1,h2⟩:=hG.pg k hk
 obtain⟨b1,b2,b3⟩:=jeU ok h1
 have hs:g.fp k+G.at_<g.slots:=by omega
 have hl:g.fp k+G.at_<G.ow.length:=by rw[hG.ow];omega
 constructor
 ·refine⟨hG.q,hG.ql,by show(G.ow.set _ _).length=_;rw [List.length_set];exact hG.ow,hG.di,?_,?_,?_⟩
  ·grind[walk1]
  ·simp[walk1]
  ·intro s hs'
   change (G.ow.set (g.fp k+G.at_) false)[s]?=some true at hs'
   by_cases hse:s=g.fp k+G.at_
   ·grind
   ·rw[List.getElem?_set_ne (by omega)] at hs'
    rcases hG.od s hs' with hd|⟨k',hk',e1,e2⟩
    ·exact .inl hd
    ·rw[hk] at hk';cases hk'
     right
     have hsl:s<g.slots:=by rw[←hG.ow];grind
     obtain⟨y,hy⟩:=j9 hsl
     have:=jfH ok hy
     grind[walk1,jgc]
 grind[walk1]
theorem put_ok (ok:jg g) (hG:jbO g long G) {s:Nat} (hs:s<g.slots):jbO g long (jaL g long G s):=by
 unfold jaL
 obtain⟨y,hy⟩:=j9 hs
 have hp:g.pgOf s<g.pages:=by rw[jgc hy];exact(jfH ok hy).1
 split
 ·refine⟨fun t ht=>?_,by grind,hG.ow,hG.di,hG.pg,hG.no,hG.od⟩
  rcases List.mem_append.1 ht with h|h
  ·exact hG.q t h
  grind
 ·refine⟨hG.q,hG.ql,by rw[List.length_set];exact hG.ow,by rw[List.length_set];exact hG.di,hG.pg,hG.no,fun t ht=>?_⟩;dsimp only at ht⊢
  by_cases hts:t=s
  ·subst hts
   left;rw [List.getElem?_set_self (by rw[hG.di];omega)]
  ·rw[List.getElem?_set_ne (by omega)] at ht
   rcases hG.od t ht with hd|h
   ·grind
   grind
theorem jk4 (ok:jg g) (hm:jL g long W m) (s:Int):jL g long W (J9 g long m s):=by
 unfold J9
 split
 ·rename_i h
  have hn:s.toNat<g.slots:=by rw[←hm.C];grind
  refine⟨by rw[List.length_set];exact hm.C,fun v hv=>?_,put_ok ok hm.G hn,hm.hs,hm.h,hm.root⟩
  rcases List.mem_or_eq_of_mem_set hv with h1|h1
  ·exact hm.c v h1
  omega
 omega
theorem jh0 (ok:jg g) (hm:jL g long W m) (o:Option Int):jL g long W (J8 g long m o):=by
 cases o with
 |none=>exact hm
 |some s=>exact jk4 ok hm s
theorem jjy (ok:jg g) (hm:jL g long W m) (o:Option Int):jV g W (J8 g long m o)≤jV g W m:=by
 cases o with
 |none=>exact Nat.le_refl _
 |some s=>exact jjK ok hm s
theorem jiu (s:Int):(J9 g long m s).hs=m.hs∧(J9 g long m s).root=m.root∧(J9 g long m s).act=m.act∧(J9 g long m s).steps=m.steps:=by
 grind[J9]
theorem jfN (o:Option Int):(J8 g long m o).hs=m.hs∧(J8 g long m o).root=m.root∧(J8 g long m o).act=m.act∧(J8 g long m o).steps=m.steps:=by
 cases o with
 |none=>exact⟨rfl,rfl,rfl,rfl⟩
 |some s=>exact jiu s
theorem root_ok (ok:jg g) (hm:jL g long W m) (h:jb5 g long W m=some m'):jL g long W m'∧jV g W m'+1≤jV g W m∧m'.steps=m.steps∧m'.act=m.act∧m'.hs.length=m.hs.length:=by
 unfold jb5 at h
 split at h
 ·rename_i hr
  cases h
  have hm1:jL g long W {m with root:=m.root+1}:=⟨hm.C,hm.c,hm.G,hm.hs,hm.h,hr⟩
  grind[jU,jV,jfN,jh0,h1,jjy,h2]
 grind
theorem jhf (hm:jL g long W m) {k:Nat} (hk:k<m.hs.length) {h:jaw} (hh:(h.is=true∧0≤h.slot∧h.slot<(g.slots:Nat)∧0≤h.field∧(h.field=0∨h.field<refsN W.x (jA g h.slot)))∨h=jaj) {C:List Int} {G:GyP} (hC:C.length=g.slots) (hc: ∀ v∈C,v=0∨v=1∨v=2) (hG:jbO g long G):
  jL g long W {m with C:=C,G:=G,hs:=m.hs.set k h}:=by
 refine⟨hC,hc,hG,by show 1≤(m.hs.set k h).length∧_;rw [List.length_set];exact hm.hs,fun j h' hj=>?_,hm.root⟩
 change (m.hs.set k h)[j]?=some h' at hj
 by_cases hjk:j=k
 ·grind
 ·rw[List.getElem?_set_ne (by omega)] at hj;exact hm.h j h' hj
theorem jbR {k:Nat} {h:jaw} (hk:m.hs[k]?=some h):jai m k=h:=by grind[jai]
theorem take_ok (ok:jg g) (hm:jL g long W m) {k:Nat} (hk:k<m.hs.length) (h:jcz m k=some m'):jL g long W m'∧jV g W m'+1≤jV g W m∧m'.steps=m.steps∧m'.act=m.act∧m'.hs.length=m.hs.length:=by
 unfold jcz at h
 split at h
 ·grind
 ·rename_i hn
  cases hq:m.G.q with
  |nil=>grind
  |cons s q=>
   rw[hq] at h
   cases h
   have hs:s<g.slots:=hm.G.q s (by grind)
   have hG:jbO g long {m.G with q:=q}:=⟨fun t ht=>hm.G.q t (by grind),by have:=hm.G.ql;grind,hm.G.ow,hm.G.di,hm.G.pg,hm.G.no,hm.G.od⟩
   refine⟨jhf (C:=m.C) hm hk (.inl ⟨rfl,by grind,by grind,Int.le_refl 0, .inl rfl⟩) hm.C hm.c hG,?_,rfl,rfl,by grind⟩
   grind[wtH,wtQ,szA,jV,jbJ,wtP,jE,h1,jg5,h2,h3]
theorem jke (ok:jg g) {s:Nat} (hs:s<g.slots) (x:List Int):refsN x (jA g (s:Nat))+1≤(szA g s:Nat):=by
 obtain⟨y,hy⟩:=j9 hs
 rw[jW hy,szA_at hy]
 have:=ok.fits hy
 unfold refsN
 cases hh:headP x y with
 |none=>grind
 |some h=>
  obtain⟨_,hl⟩:=jfk hh
  obtain⟨hm,_,hl⟩:=jdI hl
  grind[JT]
theorem scan_ok (ok:jg g) (hm:jL g long W m) {k:Nat} (hk:k<m.hs.length) (h:scanM g long W m k=some m'):jL g long W m'∧jV g W m'+1≤jV g W m∧m'.steps=m.steps∧m'.act=m.act∧m'.hs.length=m.hs.length:=by
 unfold scanM at h
 split at h
 ·rename_i hn
  obtain⟨hd,hhd⟩:=jh hk
  rw[jbR hhd] at h hn
  rcases hm.h k hd hhd with⟨e1,e2,e3,e4,e5⟩|e
  ·obtain⟨s,hs⟩: ∃ s:Nat,hd.slot=s:=⟨hd.slot.toNat,by omega⟩
   obtain⟨f,hf⟩: ∃ f:Nat,hd.field=f:=⟨hd.field.toNat,by omega⟩
   rw[hs] at e3 e5 h;rw[hf] at e5 h
   have hsl:s<g.slots:=by omega
   have hrs:=jke ok hsl W.x
   obtain⟨o,ho⟩: ∃ o,o=refO g W.x (s:Nat) (f:Nat):=⟨_,rfl⟩
   rw[←ho] at h
   have k1:=jh0 ok hm o
   have k2:=jjy ok hm o
   obtain⟨q1,q2,q3,q4⟩:=jfN (g:=g) (long:=long) (m:=m) o
   obtain⟨m1,hm1⟩: ∃ m1,m1=J8 g long m o:=⟨_,rfl⟩
   rw[←hm1] at h k1 k2 q1 q2 q3 q4
   have h2:wtH g m1.hs k=szA g s-f:=by grind[wtH]
   have hsz:=(ji2 ok hsl).1
   have hk1:k<m1.hs.length:=by grind
   split at h
   ·rename_i hlt
    cases h
    have h1:=jg5 (g:=g) (hs:=m1.hs) ⟨(s:Nat),(f:Nat)+1,true⟩ hk1
    have h4:=jhf (C:=m1.C) (h:=⟨(s:Nat),(f:Nat)+1,true⟩) k1 hk1 (.inl ⟨rfl,by grind,e3,by grind, .inr hlt⟩) k1.C k1.c k1.G
    grind[jV]
   ·cases h
    have h1:=jg5 (g:=g) (hs:=m1.hs) jaj hk1
    have h4:=jhf (C:=m1.C.set s 2) (h:=jaj) k1 hk1 (.inr rfl) (by rw[List.length_set];exact k1.C) (fun v hv=>by
     rcases List.mem_or_eq_of_mem_set hv with h|h
     ·exact k1.c v h
     omega) k1.G
    rw[q1] at h4 h1;refine⟨by grind,?_,q4,q3,by grind⟩
    have h5:=jmr (g:=g) (C:=m1.C) (s:=s) (c:=2) (by decide)
    have e:jaj.is=false:=rfl
    grind[szA,jV]
  ·rw[e] at hn;cases hn
 grind
theorem walk_ok (ok:jg g) (hm:jL g long W m) {k:Nat} (hk:k<m.hs.length) (h:jbI g m k=some m'):jL g long W m'∧jV g W m'+1≤jV g W m∧m'.steps=m.steps∧m'.act=m.act∧m'.hs.length=m.hs.length:=by
 unfold jbI at h
 split at h
 ·grind
 ·rename_i hn
  unfold walkG at h
  cases hop:jbv m.G with
  |none=>grind
  |some x=>
   obtain⟨j,G1⟩:=x
   rw[hop] at h
   obtain⟨k1,k2,k3⟩:=jh9 ok hm.G hop
   have k4:=jmt ok k1 k2
   obtain⟨k5,k6⟩:=walk1_ok ok k1 k2
   simp only[Option.map_some] at h
   obtain⟨r,hr⟩: ∃ r,r=walk1 g j G1:=⟨_,rfl⟩
   rw[←hr] at h k4 k5 k6
   obtain⟨o,G2⟩:=r
   cases o with
   |none=>
    dsimp only at h k4 k5
    cases h
    refine⟨⟨hm.C,hm.c,k5,hm.hs,hm.h,hm.root⟩,?_,rfl,rfl,rfl⟩
    grind[jV]
   |some s=>
    dsimp only at h k4 k5
    cases h
    have k4':jbJ g G2+(szA g s+1)+1≤jbJ g G1:=k4
    obtain⟨hs,_⟩:=k6 s rfl
    refine⟨jhf (C:=m.C) hm hk (.inl ⟨rfl,by grind,by grind,Int.le_refl 0, .inl rfl⟩) hm.C hm.c k5,?_,rfl,rfl,by grind⟩
    grind[wtH,jV,h1,jg5,h2]
theorem jf1 (ok:jg g) (hm:jL g long W m) {k:Nat} (hk:k<m.hs.length) {u:Int} (h:jay g long W m k u=some m'):jL g long W m'∧jV g W m'+1≤jV g W m∧m'.steps=m.steps∧m'.act=m.act∧m'.hs.length=m.hs.length:=by
 grind[jay,root_ok,take_ok,scan_ok,walk_ok]
theorem up_ok (hm:jL g long W m):jL g long W (upM m):=⟨hm.C,hm.c,hm.G,hm.hs,hm.h,hm.root⟩
theorem jfp (ok:jg g) (hm:jL g long W m) {k u:Int} (h:j0 g long W m k u=some m'):jL g long W m'∧jV g W m'+1≤jV g W m∧m'.steps=m.steps+1∧m'.act=m.act∧m'.hs.length=m.hs.length:=by
 unfold j0 at h
 split at h
 ·rename_i hc
  cases hu:jay g long W m k.toNat u with
  |none=>grind
  |some m1=>
   rw[hu] at h;simp only[Option.map_some,Option.some.injEq] at h;subst h
   obtain⟨k1,k2,k3,k4,k5⟩:=jf1 ok hm (by omega) hu
   exact⟨up_ok k1,k2,by show m1.steps+1=_;omega,k4,k5⟩
 grind
theorem jeA {m':MaP} (h:jaA g long W m=some m'): ∃ k u:Int,j0 g long W m k u=some m':=by
 grind[jaA]
theorem jhK (ok:jg g) (nw:Nat):jV g W (jam g nw true)≤18*g.words+W.T.length:=by
 have h1:jE (wtA g (List.replicate g.slots 0)) g.slots=jE (szA g) g.slots+g.slots*33:=by
  rw[←jfR,←cum_add]
  refine jgg fun i hi=>?_
  unfold wtA;rw[List.getElem?_replicate,if_pos hi,if_pos rfl]
 have h2:jE (wtO g (List.replicate g.slots false)) g.slots=0:=jiS fun i hi=>by
  unfold wtO;rw [List.getElem?_replicate,if_pos hi];simp
 have h3:jE (wtD (List.replicate g.pages false)) g.pages=0:=jiS fun i hi=>by
  unfold wtD;rw [List.getElem?_replicate,if_pos hi];simp
 have h4:jE (wtH g (List.replicate (nw+1) jaj)) (List.replicate (nw+1) jaj).length=0:=jiS fun i hi=>by
  unfold wtH;rw[List.getElem?_replicate,if_pos (show i<nw+1 by simpa using hi)];rfl
 have h5:=jjJ ok
 have h6:=jjw ok
 unfold jV jbJ jam nilG;dsimp only;rw[h1,h2,h3,h4]
 show _+(0+(0+(0+0))+(0+(W.T.length+g.slots-0)))≤_
 omega
theorem new_ok {nw:Nat} {act:Bool} (hl:1≤long) (hn:nw≤8):jL g long W (jam g nw act):=by
 refine⟨by simp[jam],fun v hv=>?_,⟨fun s hs=>(by cases hs),by simp[jam,nilG],by simp[jam,nilG],by simp[jam,nilG],fun k hk=>(by cases hk),fun _=>rfl,fun s hs=>?_⟩,by grind[jam],fun k h hk=>?_,Nat.zero_le _⟩
 ·exact .inl (List.mem_replicate.1 hv).2
 ·grind[jam,nilG]
 grind[jam]
end
open Go.ChangeShapes Go.WideShapes Go.ChangeAt Go.RowKit
set_option maxRecDepth 100000
def laidL : List (String × DataW Unit) := [("math/bits.deBruijn64tab", Rows.laid_math_bits_deBruijn64tab), ("commonage/head.widths", Rows.laid_commonage_head_widths)]
def tabZ:List Int:=Lib.deBruijn64tab.map fun n=>((n:Nat):Int)
def wdZ:List Int:=wdL.map fun n=>((n:Nat):Int)
theorem jlE {W:World} {n t e f:Nat} {k:IntKind} {zs:List Int} {cs:Array Value} {p:List MemPlace} (ht:Tryz.prog.underlying t=some (.array n e)) (he:Tryz.prog.underlying e=some (.int k)) (hc:Tryz.prog.cellsOf e=1) (hz:zs.length=n)
  (hd:DataW.trod (fun x:TypeId × Value=>()) Tryz.prog W 0 (fun _=>true) false f t cs.toList=some (.agg (zs.map fun n=> .lit (.int k n)),p)) (r:Nat) (hr:r<n):cs.toList[r]?=some (.int k (zs.getD r 0)):=by
 obtain⟨xs,m,_,ex,_,hl,hel⟩:=DataW.trod_array ht hd
 have hE:=hel r hr
 rw[hc,Nat.mul_one,List.getElem?_eq_getElem (by omega)] at hE
 obtain⟨z,e1,e2,_⟩:=DataW.trod_int he hE
 have e3:(xs.map (·.1))=zs.map fun n=> .lit (.int k n):=(DataW.agg.inj (Prod.mk.inj ex).1).symm
 have e4:(xs.map (·.1))[r]?=(zs.map fun n=>(DataW.lit (.int k n):DataW Unit))[r]? :=by grind
 rw[List.getElem?_map,List.getElem?_map,List.getElem?_eq_getElem (by omega:r<xs.length),List.getElem?_eq_getElem (by omega:r<zs.length),e2] at e4
 have hz:z=zs.getD r 0:=by
  grind
 rw[←hz]
 have h0:((cs.toList.drop r).take 1)[0]?=some (.int k z):=by grind
 grind
theorem glob_of_laid {W:World} (h:laidMetH Tryz.prog laidL W):ji W:=by
 rw[MakeChecks.laidMetH_plain _ _ _ (by rfl)] at h
 obtain⟨ps,⟨g0,t0,cs0,f0,p0,q0,hg0,ht0,hv0,hd0,⟨g1,t1,cs1,f1,p1,q1,hg1,ht1,hv1,hd1,_,_⟩,_⟩,_,_⟩:=h
 obtain rfl := Option.some.inj ((show Tryz.prog.globalNamed "math/bits.deBruijn64tab" = some 2 by rfl).symm.trans hg0)
 obtain rfl := Option.some.inj ((show Tryz.prog.globalNamed "commonage/head.widths" = some 0 by rfl).symm.trans hg1)
 obtain rfl:=Option.some.inj ((show(Tryz.prog.globals[2]?).map (·.type)=some 367 by rfl).symm.trans ht0)
 obtain rfl:=Option.some.inj ((show(Tryz.prog.globals[0]?).map (·.type)=some 317 by rfl).symm.trans ht1)
 refine⟨fun j hj=>?_,fun j n hn=>?_⟩
 ·have hj64:j<64:=hj
  have h1:=jlE (zs:=tabZ) Tryz.underlying367 Tryz.underlying5 (by rfl) (by rfl) hd0 j hj64
  have h2:=World.var?_cell hg0 hv0 j
  grind[tabZ]
 ·have hj5:j<5:=(List.getElem?_eq_some_iff.1 hn).1
  have h1:=jlE (zs:=wdZ) Tryz.underlying317 Tryz.underlying3 (by rfl) (by rfl) hd1 j hj5
  have h2:=World.var?_cell hg1 hv1 j
  grind[wdZ]
theorem door_met (os:Os) (args:Array Value):laidMetH Tryz.prog laidL ((World.doorLaid Tryz.prog 400 os).forCall (fun _ _=>0) ⟨#[],args,[]⟩).memory:=
 laidMetH_of_parts3 (fuel:=8) (laidMet_of_run' 8 (by kernel_rfl) (by kernel_rfl)) (by rfl) (by rfl)
end Go.Proofs.YtebiafomiemgbaaGreatDoor.Sw
