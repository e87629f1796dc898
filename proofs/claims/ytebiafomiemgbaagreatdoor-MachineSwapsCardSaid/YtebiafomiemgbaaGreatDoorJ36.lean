/-The walker and the contracts that the law needs,part 36. -/
import Derived.Test.YtebiafomiemgbaaGreatDoorJ35
set_option linter.unusedVariables false set_option linter.unusedSimpArgs false set_option linter.unusedVariables false
set_option linter.unusedSimpArgs false
namespace Go.Proofs.YtebiafomiemgbaaGreatDoor.Sw
set_option maxHeartbeats 8000000
open Go.Proofs.YtebiafomiemgbaaGreatDoor renaming lo → qL, hi → qH
open Go.RowKit
set_option maxRecDepth 10000
structure RbS where
 k:Nat
theorem jkd {c:Cfg} {i:Nat} (hc:jz c=true) (hi:i<c.tn.length):ja4 c ((i:Nat):Int)=(wordsP c (i:Nat),0):=by
 have h:=jcH (j:=0) hc hi (by have:=(Jf hc).cl;omega)
 grind[JB,ja4]
theorem jjo {c:Cfg} {i:Nat} (hc:jz c=true) (hi:i<c.tn.length):jcy c ((i:Nat):Int)=(Jq (fun i=>wordsP c (i:Nat)) i,0):=by
 have h:=jcH (j:=0) hc hi (by have:=(Jf hc).cl;omega)
 grind[JB,jcy]
theorem rBase_K {w0:World} {H:jb} {c:Cfg} {vc vt:Value} {t:Int} (hR:Jc w0 H c vc vt):
  Call Tryz.prog w0 76 [jr c vc vt, .int .i64 t] H (fun r H'=>r=prV (jcy c t)∧H'=H):=by
 have hc0:=fun A (hp:Part A H)=>jiw (t:=t) (k:=0) (hR.part hp)
 cases ht:JB c t 0 with
 |false=>
  obtain⟨hS,hT',o1,o2,l1,l2⟩:=hR
  have he:jcy c t=(0,2):=by grind[jcy]
  rw[ht] at hc0;rw[he]
  obtain⟨cl,page,tn,workers,grey,gens⟩:=c
  dsimp only at hS hT' l1 l2 he;simp only[jr,jG] at hc0⊢;refine Call.enter2 (n:=29) (by rfl) Tryz.func76 rfl rfl rfl ?_;refine zb7 ?_;intro b2;refine zgB ?_;refine zaQ ?_;exact zfq
 |true=>
  obtain⟨i,j,x,y,rfl,_,hx,hy,ok⟩:=jcQ ht
  have hil:=jv hx
  have hcp:jz c=true:=by grind[JB]
  have hok:=ok.tn
  have he:=jjo hcp hil
  have hpg:=fun A (hp:Part A H) (k:Nat) (hk:k<c.tn.length)=>(jkd hcp hk)▸jki (t:=(k:Nat)) (hR.part hp)
  have hB:=fun k (hk:k<c.tn.length)=>jfV hcp hk
  obtain⟨hS,hT',o1,o2,l1,l2⟩:=hR
  rw[ht] at hc0;rw[he]
  obtain⟨f,hf⟩: ∃ f:Nat→Int,f=fun i=>wordsP c (i:Nat):=⟨_,rfl⟩
  have hfi: ∀ i,wordsP c (i:Nat)=f i:=fun i=>by grind
  rw[←hf];simp only[hfi] at hB hpg;clear hf hfi he
  obtain⟨cl,page,tn,workers,grey,gens⟩:=c
  dsimp only at hS hT' l1 l2 hok hB hil hpg⊢;simp only[jr,jG,prV] at hc0 hpg⊢;refine Call.enter2 (n:=29) (by rfl) Tryz.func76 rfl rfl rfl ?_;refine zb7 ?_;intro b2;refine zgB ?_;refine zy ?_;refine zK ?_;refine zbs ?_;refine K.loopT (σ:=RbS) [(1,_),(2,_)] (fun s kp_=>(7, .int .i64 (s.k:Nat))::(6, .int .i64 (Jq f s.k))::kp_) (fun s=>(b2,cells [vc, .int .i64 page,vt, .int .i64 workers, .int .i64 grey, .int .i64 gens] 25)::H) (fun s=>s.k≤i) (fun s=>i-s.k) (⟨0⟩) jc ja ((by simp)) ?_;rintro⟨k⟩ hk;dsimp only at hk⊢
  by_cases hlt:k<i
  ·have b1':=jd8 (f:=f) (n:=k) (fun i hi=>hB i (by omega))
   have b2':=hB k (by omega)
   have hpgk:=fun A hp=>hpg A hp k (by omega)
   obtain⟨a,ha⟩: ∃ a,a=Jq f k:=⟨_,rfl⟩
   obtain⟨b,hb⟩: ∃ b,b=f k:=⟨_,rfl⟩
   have hs:Jq f (k+1)=a+b:=by rw[ha,hb];rfl
   rw[←hb] at b2';simp only[←hb] at hpgk;rw[←ha] at b1'⊢;refine zpY ?_;refine zfF ?_;refine zg8 ?_;refine jp (hpgk _ ja) ?_;refine zY ?_;refine zfi ?_;refine zB ?_;refine zaB ?_;refine zaK ?_;refine zcj ?_;rw[←hs];exact zoa
  ·have hke:k=i:=by omega
   subst hke;refine zgy ?_;refine zbw ?_;exact zb5
set_option maxRecDepth 10000
theorem rTotal_K {w0:World} {H:jb} {c:Cfg} {vc vt:Value} (hR:Jc w0 H c vc vt):
  Call Tryz.prog w0 47 [jr c vc vt] H (fun r H'=>r=prV (totalP c)∧H'=H):=by
 have hb0:=fun A (hp:Part A H)=>rBase_K (t:=(c.tn.length:Nat)-1) (hR.part hp)
 have hr0:=fun A (hp:Part A H)=>jki (t:=(c.tn.length:Nat)-1) (hR.part hp)
 cases hc:jz c with
 |false=>
  obtain⟨hS,hT',o1,o2,l1,l2⟩:=hR
  have he:totalP c=(0,2):=by grind[totalP]
  have hb:jcy c ((c.tn.length:Nat)-1)=(0,2):=by grind[jcy,JB]
  rw[hb] at hb0;rw[he];clear hr0 hb
  obtain⟨cl,page,tn,workers,grey,gens⟩:=c
  dsimp only at hS hT' l1 l2 he hb0;simp only[jr,jG,prV] at hb0⊢;refine Call.enter1 (n:=32) (by rfl) Tryz.func47 rfl rfl rfl ?_;refine zdN ?_;intro b1;refine zau ?_;refine zd6 ?_;refine zc0 ?_;refine zp ?_;refine jp (hb0 _ ja) ?_;refine zbi ?_;refine zM ?_;refine zbP ?_;exact zfq
 |true=>
  have hok:=(Jf hc).tn
  obtain⟨m,hm⟩: ∃ m,c.tn.length=m+1:=⟨c.tn.length-1,by omega⟩
  have hml:m<c.tn.length:=by omega
  have hmi:((c.tn.length:Nat):Int)-1=(m:Nat):=by omega
  have hb:jcy c ((c.tn.length:Nat)-1)=(Jq (fun i=>wordsP c (i:Nat)) m,0):=by grind[jjo]
  have hr:ja4 c ((c.tn.length:Nat)-1)=(wordsP c (m:Nat),0):=by grind[jkd]
  have hB:=fun k (hk:k<c.tn.length)=>jfV hc hk
  have he:totalP c=(Jq (fun i=>wordsP c (i:Nat)) m+wordsP c (m:Nat),0):=by simp only[totalP,hc,if_true,hm];rfl
  have hb1:=jd8 (f:=fun i=>wordsP c (i:Nat)) (n:=m) (fun k hk=>hB k (by omega))
  have hb2:=hB m hml
  rw[hb] at hb0;rw[hr] at hr0;rw[he]
  obtain⟨a,ha⟩: ∃ a,a=Jq (fun i=>wordsP c (i:Nat)) m:=⟨_,rfl⟩
  obtain⟨b,hb'⟩: ∃ b,b=wordsP c (m:Nat):=⟨_,rfl⟩
  rw[←ha] at hb0 hb1⊢;rw[←hb'] at hr0 hb2⊢;clear ha hb' hb hr he hB
  obtain⟨hS,hT',o1,o2,l1,l2⟩:=hR
  obtain⟨cl,page,tn,workers,grey,gens⟩:=c
  dsimp only at hS hT' l1 l2 hok hb0 hr0 hm hml hmi⊢;simp only[jr,jG,prV] at hb0 hr0⊢;refine Call.enter1 (n:=32) (by rfl) Tryz.func47 rfl rfl rfl ?_;refine zdN ?_;intro b1;refine zau ?_;refine zd6 ?_;refine zc0 ?_;refine zp ?_;refine jp (hb0 _ ja) ?_;refine zbM ?_;refine zig ?_;refine zd6 ?_;refine zc0 ?_;refine zp ?_;refine jp (hr0 _ ja) ?_;refine ziF ?_;refine zaB ?_;exact zb5
set_option maxRecDepth 10000
def mR (f:Nat→Int) (n:Nat):List (List Int):=(List.range n).map fun t=>List.replicate (f t).toNat 0
theorem jgm (f:Nat→Int) (n:Nat):(mR f n).length=n:=by simp[mR]
theorem mR_get {f:Nat→Int} {n t:Nat} (h:t<n):(mR f n)[t]?=some (List.replicate (f t).toNat 0):=by grind[mR]
theorem jjf {f:Nat→Int} {n:Nat} (hf: ∀ i,i<n→0≤f i): ∀ t,t≤n→((baseP (mR f n) t:Nat):Int)=Jq f t
 |0,_=>rfl
 |t+1,h=>by
  have h1:=jjf hf t (by omega)
  have h2:=(jdJ (mR_get (f:=f) (n:=n) (t:=t) (by omega))).1
  grind[Jq]
theorem mR_flat {f:Nat→Int} {n:Nat}:(mR f n).flatten=List.replicate ((mR f n).flatten).length 0:=by
 refine List.eq_replicate_iff.2 ⟨rfl,fun v hv=>?_⟩
 obtain⟨l,hl,hv⟩:=List.mem_flatten.1 hv
 obtain⟨t,_,rfl⟩:=List.mem_map.1 hl
 grind
theorem mR_flen {f:Nat→Int} {n:Nat} (hf: ∀ i,i<n→0≤f i):(((mR f n).flatten.length:Nat):Int)=Jq f n:=by
 rw[←jjf hf n (Nat.le_refl n),jl4]
 grind[baseP,jgm]
def bsK (f:Nat→Int) (k:Nat):List Int:=(List.range k).map fun t=>Jq f t
theorem jlI (f:Nat→Int) (k:Nat):bsK f k++ [Jq f k]=bsK f (k+1):=by simp[bsK,List.range_succ]
theorem bsK_len (f:Nat→Int) (k:Nat):(bsK f k).length=k:=by simp[bsK]
theorem bsK_all {f:Nat→Int} {n:Nat} (hf: ∀ i,i<n→0≤f i):bsK f (n+1)=jaY (mR f n):=by
 unfold bsK jaY;rw[jgm]
 refine List.map_congr_left fun t ht=>(jjf hf t ?_).symm
 grind
structure MnS where
 k:Nat
 o:Own
theorem mNew_K {w0:World} {F:jb} {c:Cfg} {vc vt:Value} (hR:Jc w0 F c vc vt) (hc:jz c=true):
  Call Tryz.prog w0 49 [jr c vc vt] F (fun r H'=> ∃ m:Ju,jak m∧m.R=mR (fun t=>wordsP c (t:Nat)) c.tn.length∧r= .tuple [.pointer (some ⟨m.b,0,none⟩), .int .i64 0].toArray∧H'=jy m++F):=by
 have hok:=(Jf hc).tn
 have htot:=fun A (hp:Part A F)=>Total_K (hR.part hp)
 have hbase:=fun A (k:Nat) (hp:Part A F)=>Base_K (t:=(k:Nat)) (hR.part hp)
 have he:totalP c=(Jq (fun i=>wordsP c (i:Nat)) c.tn.length,0):=by grind[totalP]
 have hB:=fun k (hk:k<c.tn.length)=>jfV hc hk
 have hbe:=fun k (hk:k<c.tn.length)=>jjo hc hk
 rw[he] at htot
 obtain⟨f,hf⟩: ∃ f:Nat→Int,f=fun i=>wordsP c (i:Nat):=⟨_,rfl⟩
 have hfi: ∀ i:Nat,wordsP c (i:Nat)=f i:=fun i=>by grind
 simp only[hfi] at hB hbe htot⊢
 have hf0: ∀ i,i<c.tn.length→0≤f i:=fun i hi=>(hB i hi).1
 have hsum:=jd8 (f:=f) (n:=c.tn.length) hB
 obtain⟨tot,htt⟩: ∃ tot:Nat,Jq f c.tn.length=tot:=⟨(Jq f c.tn.length).toNat,by omega⟩
 have hflen:(mR f c.tn.length).flatten.length=tot:=by grind[mR_flen]
 have hflat:List.replicate tot 0=(mR f c.tn.length).flatten:=by rw[←hflen];exact mR_flat.symm
 have hball:=bsK_all hf0
 have hsn:bsK f c.tn.length++ [((tot:Nat):Int)]=bsK f (c.tn.length+1):=by grind[jlI]
 rw[htt] at htot hsum
 obtain⟨hS,hT',o1,o2,l1,l2⟩:=hR
 obtain⟨cl,page,tn,workers,grey,gens⟩:=c
 dsimp only at hS hT' l1 l2 hok htot hbase hB hbe hf0 htt hflen hflat hball hsn hsum⊢;simp only[jr,jG,prV] at htot hbase⊢;clear he hf hfi hc;refine Call.enter1 (n:=56) (by rfl) Tryz.func49 rfl rfl rfl ?_;refine zdN ?_;intro b1;refine znL ?_;refine zbM ?_;refine zba ?_;refine KL.e rfl (Eff.makeR (E:=uE) (x0:=0) rfl rfl rfl rfl rfl rfl (by omega)) ?_;rintro _ _ ⟨o19,ok19,rfl,rfl⟩;refine zci ?_;intro b21;refine zbX ?_;refine zaa ?_;refine zcm ?_;refine K.loopT (σ:=MnS) [(1,_),(4,_),(6,_),(24,_)] (fun s kp_=>(25, .int .i64 (s.k:Nat))::kp_) (fun s=>(b21,cells [oV o19 (List.replicate tot (0:Int)).length,oV s.o (bsK f s.k).length] 142)::(oH uE 34 (List.replicate tot 0) o19++(oH iE 3 (bsK f s.k) s.o++((b1,cells [vc, .int .i64 page,vt, .int .i64 workers, .int .i64 grey, .int .i64 gens] 25)::F)))) (fun s=>s.k≤tn.length∧oOk iE (bsK f s.k) s.o) (fun s=>tn.length-s.k) (⟨0,none⟩) jc ja (⟨Nat.zero_le _,rfl⟩) ?_;rintro⟨k,o⟩ ⟨hk,hok2⟩;dsimp only at hk hok2⊢
 have hbl:=bsK_len f k
 have hbl1:=bsK_len f (k+1)
 by_cases hlt:k<tn.length
 ·have hb1:=fun A hp=>hbase A k hp
  rw[hbe k hlt] at hb1;dsimp only at hb1
  have hbd:(bsK f (k+1)).length≤4294967296:=by omega
  clear hbase;refine zeB ?_;refine zg8 ?_;refine jp (hb1 _ ja) ?_;refine zY ?_;refine zht ?_;refine zbW ?_;refine zja ?_;refine zpC ?_;refine zar ?_;intro b40;refine KL.e rfl (Eff.appZ (E:=iE) (xs:=bsK f k) (o:=o) (ys:=[Jq f k]) (zs:=bsK f (k+1)) rfl rfl rfl rfl rfl rfl jj (by omega) (by first|exact Sli.blk ju rfl (by grind) (by first|decide|(unfold maxLen;omega)) rfl|exact Sli.old (by assumption)|exact Sli.own jj (by assumption) jF|assumption|exact Sli.part (by assumption) ja) (jlI f k) (by omega) rfl) ?_;rintro _ _ ⟨o',ok',rfl,rfl⟩;refine zbW ?_;refine zrA ?_;refine zR ?_;refine znp ?_;exact KE.again ⟨k+1,o'⟩ jc ja ⟨hlt,ok'⟩ (by grind)
 ·have hke:k=tn.length:=by omega
  subst hke
  have hbd:(bsK f (tn.length+1)).length≤4294967296:=by omega
  refine ztC ?_;refine zcB ?_;refine zbW ?_;refine zja ?_;refine zpC ?_;refine zar ?_;intro b51;refine KL.e rfl (Eff.appZ (E:=iE) (xs:=bsK f tn.length) (o:=o) (ys:=[((tot:Nat):Int)]) (zs:=bsK f (tn.length+1)) rfl rfl rfl rfl rfl rfl jj (by omega) (by first|exact Sli.blk ju rfl (by grind) (by first|decide|(unfold maxLen;omega)) rfl|exact Sli.old (by assumption)|exact Sli.own jj (by assumption) jF|assumption|exact Sli.part (by assumption) ja) (hsn) (by omega) rfl) ?_;rintro _ _ ⟨o',ok',rfl,rfl⟩;refine zbW ?_;refine zrA ?_;refine zcg ?_;refine zab ?_;rw[hball,hflat] at*;exact KE.fin (H':=jy ⟨b21,mR f tn.length,o19,o'⟩++F) je rfl jd (by rw[jaf];exact ja) ⟨⟨b21,mR f tn.length,o19,o'⟩,⟨ok19,ok',by grind,by grind[jgm]⟩,rfl,rfl,rfl⟩
open Go.RowKit
set_option maxRecDepth 10000
structure jM where
 t:Int
 o:OpP
 H:Int
 V:Int
 work:Bool
 k:Int
 pt:Int
 u:Nat
def JN (T:List Int):Prop:= ∀ x∈T,0≤x∧x<18446744073709551616
def pickT (T:List Int) (i:Int) (d:Nat):Nat:=if 0≤i∧0<T.length then((T[(i%(T.length:Nat)).toNat]?).getD 0).toNat else d
section
variable {w0 : World} {F : jb} {x : jM} {T : List Int} {v : Value}
end
section
variable {w0 : World} {F : jb} {v : Value}
structure SlV where
 a:Option Addr
 n:Nat
 c:Nat
def toldE:Enc SlV:=⟨fun x=> [.slice x.a x.n x.c],1,fun _=>rfl,by intro x v hv;simp at hv;subst hv;rfl⟩
structure ToldR (w0:World) (H:jb) (v:Value) (rows:List (List Int)):Prop where
 len:rows.length≤8
 one:v.cells=[v].toArray
 sl: ∃ ls:List SlV,Sli w0 H toldE v ls∧ls.length=rows.length∧ ∀ (i:Nat) (l:SlV) (r:List Int),ls[i]?=some l→rows[i]?=some r→Sli w0 H uE (.slice l.a l.n l.c) r
theorem ToldR.part {H H':jb} {rows:List (List Int)} (h:ToldR w0 H' v rows) (hp:Part H H'):ToldR w0 H v rows:=by
 obtain⟨ls,h1,h2,h3⟩:=h.sl
 exact⟨h.len,h.one,ls,h1.part hp,h2,fun i l r a b=>(h3 i l r a b).part hp⟩
def ofF (rows:List (List Int)) (t:Int):List Int:=if t<0∨(rows.length:Nat)≤t then [] else(rows[t.toNat]?).getD []
theorem ofF_u {rows:List (List Int)} {t:Int} (h: ∀ r∈rows,JN r):JN (ofF rows t):=by
 unfold ofF
 split
 ·intro x hx;grind
 grind
end
open Go.RowKit
set_option maxRecDepth 10000
def hC1 (c:Cfg) (t:Nat):HpC:=hC0 c t ((c.tn[t]?).getD ⟨0,0,0,0⟩)
def newHs (c:Cfg):List HpP:=(List.range c.tn.length).map fun t=>jbe (hC1 c t)
def faDo (c:Cfg) (hs:List HpP) (t:Int) (op:OpP):(SnP × Int) × List HpP:=
 if 0≤t then match hs[t.toNat]? with
  |some h=>(((jS (hC1 c t.toNat) h op).1,0),hs.set t.toNat (jS (hC1 c t.toNat) h op).2)
  |none=>((told 0,2),hs)
 else((told 0,2),hs)
def faStep (c:Cfg) (hs:List HpP) (k t:Int) (u:Nat):Bool × List HpP:=
 if 0≤t then match hs[t.toNat]? with
  |some h=>((hpStep (hC1 c t.toNat) h k (u:Nat)).1,hs.set t.toNat (hpStep (hC1 c t.toNat) h k (u:Nat)).2)
  |none=>(false,hs)
 else(false,hs)
section
variable {C : HpC} {c : Cfg} {h h' : HpP} {hs : List HpP} {k u : Int} {m t : Nat}
end
set_option maxRecDepth 10000
section
variable {w0 : World} {f : FmM} {F : jb} {nf t : Nat} {q : TnM}
theorem FmOk.hs_at (ok:FmOk f nf) (hq:f.L[t]?=some q):f.hs[t]?=some q.h:=by grind[FmM.hs]
theorem FmOk.C1 (ok:FmOk f nf) (hq:f.L[t]?=some q):q.D.C=hC1 f.c t:=by
 obtain⟨x,hx,e⟩:=(ok.T t q hq).C
 grind[hC1]
theorem jcv (ok:FmOk f nf):f.hs.length=f.c.tn.length:=by unfold FmM.hs;rw [List.length_map];exact ok.n
end
open Go.RowKit
set_option maxRecDepth 10000
structure FaN where
 L:List TnM
 o:Own
section
variable {w0 : World} {F : jb} {c : Cfg} {vc vt : Value} {m : Ju} {t : Nat}
theorem hC1_at {x:Tn} (hx:c.tn[t]?=some x):hC1 c t=hC0 c t x:=by grind[hC1]
theorem mR_zero (hc:jz c=true) (htl:t<c.tn.length) (hm:m.R=mR (fun t=>wordsP c (t:Nat)) c.tn.length):m.R[t]?=some (List.replicate (gOf c t).words 0):=by
 have hcfg:=Jf hc
 have hx0r:List.replicate (wordsP c ((t:Nat):Int)).toNat (0:Int)=List.replicate (gOf c (t:Nat)).words 0:=by
  have ht:JB c t 0=true:=jcH (i:=t) (j:=0) hc htl (by have:=hcfg.cl;omega)
  have h1:=(g_at ht).region
  grind[ja4,wordsP]
 grind[mR_get]
theorem bigX_one {L:List TnM} {q:TnM}:JH (L++ [q])=JH L++q.X:=by
 grind[JH,jf9]
theorem fmNew_K (hG:ji w0) (hR:Jc w0 F c vc vt) (hc:jz c=true):Call Tryz.prog w0 17 [jr c vc vt] F
  (fun r H'=> ∃ f:FmM,FmOk f 1∧f.c=c∧f.hs=newHs c∧f.m.R.length=c.tn.length∧r= .tuple [.pointer (some ⟨f.b,0,none⟩), .int .i64 0].toArray∧H'=fmH f++F):=by
 have hcfg:=Jf hc
 have hcl8:=hcfg.cl
 have htn8:=hcfg.tn
 have hmn:=fun A (hp:Part A F)=>mNew_K (hR.part hp) hc
 have hOw:=fun A (hp:Part A F)=>Own_K (hR.part hp) (by omega) (by omega)
 have hn:=fun A (m:Ju) (t:Nat) (x:Tn) (hp:Part A F) (hx:c.tn[t]?=some x) okm (hm:m.R=mR (fun t=>wordsP c (t:Nat)) c.tn.length)=>hpNew_K (w0:=w0) (F:=A) (m:=m) hG (hR.part hp) hc hx okm (mR_zero hc (jv hx) hm)
 obtain⟨hS,hT',o1,o2,l1,l2⟩:=hR
 simp only[jr,jG] at hmn hn hOw⊢;refine Call.enter1 (n:=48) (by rfl) Tryz.func17 rfl rfl rfl ?_;refine zdN ?_;intro b1;refine zcf ?_;refine JY (hmn _ ja) ?_;rintro _ _ ⟨m,okm,hmR,rfl,rfl⟩;refine zbM ?_;refine zK ?_;refine zcf ?_;refine JY (hOw _ ja) ?_;rintro _ _ ⟨oc,ot,k1,k2,rfl,rfl⟩;refine zj ?_;refine zci ?_;intro b22;refine zbX ?_;refine zaa ?_;refine zcm ?_;refine K.loopT (σ:=FaN) [(1,_),(4,_),(6,_),(25,_)] (fun s kp_=>(26, .int .i64 (s.L.length:Nat))::kp_) (fun s=>(b22,cells [oV oc c.cl.length, .int .i64 c.page,oV ot c.tn.length, .int .i64 c.workers, .int .i64 c.grey, .int .i64 c.gens, .pointer (some ⟨m.b,0,none⟩),oV s.o (s.L.map (·.D.b)).length] 71)::(oH pbE 64 (s.L.map (·.D.b)) s.o++(oH iE 3 c.cl oc++(oH tnE 55 c.tn ot++(jy m++(JH s.L++((b1,cells [vc, .int .i64 c.page,vt, .int .i64 c.workers, .int .i64 c.grey, .int .i64 c.gens] 25)::F))))))) (fun s=>s.L.length≤c.tn.length∧oOk pbE (s.L.map (·.D.b)) s.o∧s.L.map (·.h)=(List.range s.L.length).map (fun t=>jbe (hC1 c t))∧ ∀ (t:Nat) (q:TnM),s.L[t]?=some q→jbz c m 1 t q) (fun s=>c.tn.length-s.L.length) (⟨[],none⟩) jc ja (⟨Nat.zero_le _,rfl,rfl,fun t q h=>by grind⟩) ?_;rintro⟨L,o⟩ ⟨hLl,ho,hhs,hT⟩;dsimp only at hLl ho hhs hT⊢
 by_cases hlt:((L.length:Nat):Int)<((c.tn.length:Nat):Int)
 ·obtain⟨x,hx⟩:=jh (l:=c.tn) (k:=L.length) (by omega)
  obtain⟨A,hA⟩: ∃ A:jb,A=(b22,cells [oV oc c.cl.length, .int .i64 c.page,oV ot c.tn.length, .int .i64 c.workers, .int .i64 c.grey, .int .i64 c.gens, .pointer (some ⟨m.b,0,none⟩),oV o (L.map (·.D.b)).length] 71)::(oH pbE 64 (L.map (·.D.b)) o++(oH iE 3 c.cl oc++(oH tnE 55 c.tn ot++(JH L++((b1,cells [vc, .int .i64 c.page,vt, .int .i64 c.workers, .int .i64 c.grey, .int .i64 c.gens] 25)::F))))):=⟨_,rfl⟩
  have hn1:=hn A m L.length x (by rw[hA];exact ja) hx okm hmR
  rw[hA] at hn1;refine zeB ?_;refine zgz ?_;refine jB hn1 ja ?_;rintro _ _ ⟨D,y,k3,k4,e1,e2,e3,e4,e5,rfl,rfl⟩
  have hb31:(L.map (·.D.b)).length+1<4294967296:=by grind
  simp only[hpX_H,List.append_assoc,e5];refine zY ?_;refine zht ?_;refine zbW ?_;refine zqR ?_;refine zpC ?_;refine zar ?_;intro b42;refine KL.e rfl (Eff.appZ (E:=pbE) (xs:=L.map (·.D.b)) (o:=o) (ys:=[D.b]) (zs:=L.map (·.D.b)++ [D.b]) rfl rfl rfl rfl rfl rfl jj (by omega) (by first|exact Sli.blk ju rfl (by grind) (by first|decide|(unfold maxLen;omega)) rfl|exact Sli.old (by assumption)|exact Sli.own jj (by assumption) jF|assumption|exact Sli.part (by assumption) ja) (rfl) (by grind) rfl) ?_;rintro _ _ ⟨o',ok',rfl,rfl⟩;refine zbW ?_;refine zqR ?_;refine zqQ ?_;refine zR ?_;refine znp ?_
  have hCk:=hC0_ok hc hx
  have hq1:jbz c m 1 L.length ⟨D,y,jbe D.C⟩:=⟨k3,k4.mono (Nat.le_refl _) (Nat.zero_le _),e5,e1,⟨x,hx,e2⟩,HeI.new k3.C⟩
  have hmap:(L++ [(⟨D,y,jbe D.C⟩:TnM)]).map (·.D.b)=L.map (·.D.b)++ [D.b]:=by grind
  refine KE.again ⟨L++ [⟨D,y,jbe D.C⟩],o'⟩ (by dsimp only;rw [List.length_append];exact jc) (by dsimp only;rw [hmap,bigX_one];unfold TnM.X;simp only[List.append_assoc];exact ja) ⟨?_,?_,?_,?_⟩ ?_
  ·grind
  ·grind
  ·show(L++ [(⟨D,y,jbe D.C⟩:TnM)]).map (·.h)=(List.range (L++ [(⟨D,y,jbe D.C⟩:TnM)]).length).map _
   rw[List.length_append,List.map_append,hhs];simp only[List.length_cons,List.length_nil,List.range_succ,List.map_append,List.map_cons,List.map_nil]
   grind[hC1_at]
  ·grind
  grind
 ·have hl:L.length=c.tn.length:=by omega
  refine zc5 ?_;refine zbw ?_;refine zab ?_;exact KE.fin je rfl jd (by first|exact ja|(simp only[fmH_app];exact ja)) ⟨⟨b22,c,oc,ot,m,L,o⟩,⟨hc,k1,k2,ho,hl,by grind[jgm],hT⟩,rfl,by show L.map (·.h)=_;rw [hhs,hl];rfl,by grind[jgm],rfl,rfl⟩
end
set_option maxRecDepth 10000
def je3 (l:List Tn):Bool:=l.all fun x=>decide (x.caps≤60)
def okF (c:Cfg):Bool:=jeS c&&(decide ((totalP c).1≤2000)&&(jz c&&je3 c.tn))
section
variable {w0 : World} {F : jb} {c : Cfg} {vc vt : Value}
theorem caps_step {l:List Tn} {k:Nat} {x:Tn} (h:l[k]?=some x):je3 (l.drop k)=(decide (x.caps≤60)&&je3 (l.drop (k+1))):=by
 obtain⟨hl,e⟩:=List.getElem?_eq_some_iff.1 h
 rw[List.drop_eq_getElem_cons hl,e]
 rfl
theorem jcI (hR:Jc w0 F c vc vt):Call Tryz.prog w0 15 [jr c vc vt] F (fun r H'=>r= .bool (okF c)∧H'=F):=by
 have htot:=fun A (hp:Part A F)=>rTotal_K (hR.part hp)
 have hsm:=fun A (hp:Part A F)=>Small_K (hR.part hp)
 have hck:=fun A (hp:Part A F)=>jhG (hR.part hp)
 obtain⟨tt,te,htt⟩: ∃ tt te,totalP c=(tt,te):=⟨_,_,rfl⟩
 obtain⟨hS,hT',o1,o2,l1,l2⟩:=hR
 unfold okF;rw[htt];simp only[htt] at htot
 obtain⟨cp,hcp⟩: ∃ cp,cp=jz c:=⟨_,rfl⟩
 obtain⟨sp,hsp⟩: ∃ sp,sp=jeS c:=⟨_,rfl⟩
 simp only[←hcp] at hck⊢;simp only[←hsp] at hsm⊢;clear hcp hsp htt
 obtain⟨cl,page,tn,workers,grey,gens⟩:=c
 dsimp only at hS hT' l1 l2⊢;simp only[jr,jG,prV] at htot hsm hck⊢
 cases sp with
 |false=>
  refine zoR ?_;refine zbN ?_;intro b1;refine znL ?_;refine zY ?_;refine zj0 ?_;refine zag ?_;refine zcH ?_;refine zem ?_;refine zbh ?_;exact zaL
 |true=>
  by_cases ht:tt≤2000
  ·rw[decide_eq_true ht]
   have ht': ¬tt>2000:=by omega
   cases cp with
   |false=>
    unfold jbL at hck;simp only[Bool.false_eq_true,if_false] at hck;refine zoR ?_;refine zbN ?_;intro b1;refine znL ?_;refine zY ?_;refine zj0 ?_;refine zy ?_;refine zfw ?_;refine zd4 ?_;refine zp ?_;refine jp (hck _ ja) ?_;refine zl ?_;refine zM ?_;refine za8 ?_;exact zaL
   |true=>
    unfold jbL at hck;simp only[if_true] at hck;refine zoR ?_;refine zbN ?_;intro b1;refine znL ?_;refine zY ?_;refine zj0 ?_;refine zy ?_;refine zfw ?_;refine zd4 ?_;refine zp ?_;refine jp (hck _ ja) ?_;refine zl ?_;refine zcz ?_;refine zfm ?_;refine K.loopT (σ:=Nat) [(1,_)] (fun s kp_=>(5, .int .i64 (s:Nat))::kp_) (fun s=>(b1,cells [vc, .int .i64 page,vt, .int .i64 workers, .int .i64 grey, .int .i64 gens] 25)::F) (fun s=>s≤tn.length∧je3 tn=je3 (tn.drop s)) (fun s=>tn.length-s) (0) jc ja (⟨Nat.zero_le _,rfl⟩) ?_;rintro k ⟨hk,hc⟩
    by_cases hkl:((k:Nat):Int)<((tn.length:Nat):Int)
    ·obtain⟨⟨x1,x2,x3,x4⟩,hx⟩:=jh (l:=tn) (k:=k) (by omega)
     have hx':tn[((k:Nat):Int).toNat]?=some ⟨x1,x2,x3,x4⟩:=hx
     rw[caps_step hx] at hc
     by_cases h60:x3≤60
     ·have h60': ¬x3>60:=by omega
      rw[decide_eq_true (show(⟨x1,x2,x3,x4⟩:Tn).caps≤60 from h60),Bool.true_and] at hc;refine zff ?_;refine zfF ?_;refine zaa ?_;refine zj ?_;refine zlD ?_;refine zoq ?_;refine zdm ?_;refine zaA ?_;refine zat ?_;refine zcj ?_;exact zkZ
     ·have h60':x3>60:=by omega
      rw[decide_eq_false (show ¬(⟨x1,x2,x3,x4⟩:Tn).caps≤60 from h60),Bool.false_and] at hc;rw[hc];refine zff ?_;refine zfF ?_;refine zaa ?_;refine zj ?_;refine zlD ?_;refine zoq ?_;refine zdm ?_;refine zaG ?_;refine zao ?_;refine zda ?_;exact zH
    ·have he:je3 tn=true:=by rw[hc,List.drop_eq_nil_of_le (by omega)];rfl
     rw[he];refine zkk ?_;refine zV ?_;exact zq
  ·have ht':tt>2000:=by omega
   rw[decide_eq_false ht];refine zoR ?_;refine zbN ?_;intro b1;refine znL ?_;refine zY ?_;refine zj0 ?_;refine zy ?_;refine zX ?_;refine zaG ?_;refine zx ?_;refine zem ?_;refine zbh ?_;exact zaL
theorem okF_cfg (h:okF c=true):jz c=true:=by
 grind[okF]
end
open Go.RowKit
set_option maxRecDepth 10000
structure TnE (c o:Cfg) (t:Nat) (hs hs':List HpP):Prop where
 ck:HpCk (hC1 c t)
 ck':HpCk (hC1 o t)
 ex: ∃ h h' lg nw ai,hs[t]?=some h∧hs'[t]?=some h'∧hC1 o t=(hC1 c t).alt lg nw ai∧HpE (hC1 c t) lg nw ai h h'
section
variable {c o : Cfg} {t j : Nat} {hs hs' : List HpP} {i k : Int} {u : Nat} {op : OpP} {h : HpP}
theorem jgp (hc:jz c=true) (ht:t<c.tn.length):HpCk (hC1 c t):=by
 grind[hC1,hC0,jh,hC0_ok]
theorem JO (h1:hs[j]?=some h):faDo c hs (j:Nat) op=(((jS (hC1 c j) h op).1,0),hs.set j (jS (hC1 c j) h op).2):=by
 grind[faDo]
theorem jdc (h1:hs[j]?=some h):faStep c hs k (j:Nat) u=((hpStep (hC1 c j) h k (u:Nat)).1,hs.set j (hpStep (hC1 c j) h k (u:Nat)).2):=by
 grind[faStep]
theorem jao (h1: ¬(0≤i∧i<(hs.length:Nat))):faDo c hs i op=((told 0,2),hs):=by
 grind[faDo]
theorem jds (h1: ¬(0≤i∧i<(hs.length:Nat))):faStep c hs k i u=(false,hs):=by
 grind[faStep]
theorem fa_cases (l:List HpP) (i:Int):(∃ (j:Nat) (h:HpP),i=(j:Nat)∧l[j]?=some h)∨ ¬(0≤i∧i<(l.length:Nat)):=by
 by_cases h:0≤i∧i<(l.length:Nat)
 ·obtain⟨j,rfl⟩: ∃ j:Nat,i=j:=⟨i.toNat,by omega⟩
  obtain⟨x,hx⟩:=jh (l:=l) (k:=j) (by omega)
  grind
 omega
theorem jf5:(faDo c hs i op).2.length=hs.length:=by
 rcases fa_cases hs i with⟨j,h,rfl,h1⟩|h1
 ·rw[JO h1];grind
 ·rw[jao h1]
theorem jev:(faStep c hs k i u).2.length=hs.length:=by
 rcases fa_cases hs i with⟨j,h,rfl,h1⟩|h1
 ·rw[jdc h1];grind
 ·rw[jds h1]
theorem TnE.symm (e:TnE c o t hs hs'):TnE o c t hs' hs:=by
 obtain⟨h,h',lg,nw,ai,h1,h2,h3,h4⟩:=e.ex
 refine⟨e.ck',e.ck,h',h,(hC1 c t).long,(hC1 c t).nw,(hC1 c t).ast,h2,h1,?_,?_⟩
 ·rw[h3];rfl
 ·rw[h3];exact h4.symm
theorem TnE.setL (e:TnE c o t hs hs') {x:HpP} (hne:j≠t):TnE c o t (hs.set j x) hs':=by
 obtain⟨h,h',lg,nw,ai,h1,h2,h3,h4⟩:=e.ex
 exact⟨e.ck,e.ck',h,h',lg,nw,ai,by grind,h2,h3,h4⟩
theorem TnE.stepL (e:TnE c o t hs hs'):TnE c o t (faStep c hs k i u).2 hs':=by
 rcases fa_cases hs i with⟨j,x,rfl,hx⟩|hx
 ·rw[jdc hx]
  by_cases hj:j=t
  ·subst hj
   obtain⟨h,h',lg,nw,ai,h1,h2,h3,h4⟩:=e.ex
   rw[h1] at hx
   cases hx
   exact⟨e.ck,e.ck',_,h',lg,nw,ai,List.getElem?_set_self (jv h1),h2,h3,h4.stp e.ck (by rw[←h3];exact e.ck') _ _⟩
  ·exact e.setL hj
 grind[jds]
theorem TnE.doL (e:TnE c o t hs hs') (hne:i≠(t:Nat)):TnE c o t (faDo c hs i op).2 hs':=by
 rcases fa_cases hs i with⟨j,x,rfl,hx⟩|hx
 ·rw[JO hx];exact e.setL (by omega)
 grind[jao]
theorem TnE.doR (e:TnE c o t hs hs') (hne:i≠(t:Nat)):TnE c o t hs (faDo o hs' i op).2:=(e.symm.doL hne).symm
theorem TnE.do_ (e:TnE c o t hs hs') (hv:op.v<18446744073709551616):(faDo o hs' (t:Nat) op).1=(faDo c hs (t:Nat) op).1∧TnE c o t (faDo c hs (t:Nat) op).2 (faDo o hs' (t:Nat) op).2:=by
 obtain⟨h,h',lg,nw,ai,h1,h2,h3,h4⟩:=e.ex
 have q:=do_E e.ck (by rw[←h3];exact e.ck') h4 hv
 rw[←h3] at q;rw[JO h1,JO h2];exact⟨by grind,e.ck,e.ck',_,_,lg,nw,ai,List.getElem?_set_self (jv h1),List.getElem?_set_self (jv h2),h3,q.2⟩
structure jc2 (c o:Cfg) (t:Nat):Prop where
 cl:o.cl=c.cl
 page:o.page=c.page
 gens:o.gens=c.gens
 x: ∃ x x',c.tn[t]?=some x∧o.tn[t]?=some x'∧x'.quota=x.quota∧x'.trigger=x.trigger∧x'.caps=x.caps
theorem jc2.refl (h:t<c.tn.length):jc2 c c t:=by
 obtain⟨x,hx⟩:=jh h
 exact⟨rfl,rfl,rfl,x,x,hx,hx,rfl,rfl,rfl⟩
theorem jgl (ht:t<c.tn.length):(newHs c)[t]?=some (jbe (hC1 c t)):=by
 grind[newHs]
theorem TnE.new (hc:jz c=true) (ho:jz o=true) (h:jc2 c o t):TnE c o t (newHs c) (newHs o):=by
 obtain⟨x,x',hx,hx',q1,q2,q3⟩:=h.x
 have ck:=jgp hc (jv hx)
 have ck':=jgp ho (jv hx')
 have e:hC1 o t=(hC1 c t).alt o.grey.toNat o.workers.toNat x'.assist.toNat:=by
  unfold hC1 hC0 HpC.alt gOf jbM;rw[hx,hx',Int.toNat_natCast,hx,hx',h.cl,h.page,h.gens]
  grind
 refine⟨ck,ck',_,_,_,_,_,jgl (jv hx),jgl (jv hx'),e,?_⟩;rw[e];rw[e] at ck';exact⟨HeI.new ck,HeI.new ck',rfl,rfl,rfl, .inl ⟨rfl,rfl,rfl,rfl⟩⟩
end
end Go.Proofs.YtebiafomiemgbaaGreatDoor.Sw
namespace Go.Proofs.YtebiafomiemgbaaGreatDoor
open Go.RowKit
def chP (v:Value):List PanicEntry:=[{v:=v,recovered:=false}]
structure Jx (P:Program) (w0:World) (f:FuncId) (args:List Value) (H:jb) (v:Value) (R:jb→Prop):Prop where
 ent:jat P f=true
 out: ∀ w,HF w0 H w→Calls P f args.toArray w (fun e w'=>e= .panicked (chP v)∧ ∃ H',HF w0 H' w'∧R H')
section
variable {P : Program} {w0 : World} {n : Nat} {Q : Exit → Act → World → Prop} {ds : List Deferred} {m : jk} {H F : jb} {ops : Array Oper} {rest : List Oper} {ty : TypeId} {pos : String} {af : Array Edge} {v : Value} {R R' : jb → Prop} {fn : Func} {ch : List PanicEntry}
theorem Jx.mono {f:FuncId} {args:List Value} (h:Jx P w0 f args H v R) (hr: ∀ H',R H'→R' H'):Jx P w0 f args H v R':=
 ⟨h.ent,fun w hw=>(h.out w hw).mono fun e w' ⟨he,H',hh,hR⟩=>⟨he,H',hh,hr _ hR⟩⟩
theorem Jx.part {f:FuncId} {args:List Value} {H':jb} (h:Jx P w0 f args H' v R) (hp:Part H H'):Jx P w0 f args H v R:=⟨h.ent,fun w hw=>h.out w (hw.part hp)⟩
end
end Go.Proofs.YtebiafomiemgbaaGreatDoor
namespace Go.Proofs.YtebiafomiemgbaaGreatDoor.Sw
open Go.Proofs.YtebiafomiemgbaaGreatDoor renaming lo → qL, hi → qH
set_option maxRecDepth 10000
def jbw (T:List jl):List Nat:=T.filterMap fun e=>if e.st=1 then some e.slot.toNat else none
theorem liveL_cons (e:jl) (T:List jl):jbw (e::T)=if e.st=1 then e.slot.toNat::jbw T else jbw T:=by
 grind[jbw]
theorem jid {T:List jl} {t:Nat}:t∈jbw T↔ ∃ (k:Nat) (e:jl),T[k]?=some e∧e.st=1∧e.slot.toNat=t:=by
 unfold jbw;rw[List.mem_filterMap]
 constructor
 ·rintro⟨e,he,h⟩
  obtain⟨k,hk⟩:=List.getElem?_of_mem he
  grind
 grind
theorem jmb {e:jl} {T:List jl}:slotT (e::T) ((0:Nat):Int)=if e.st=1 then some e.slot else none:=rfl
theorem jma {e:jl} {T:List jl} {k:Nat}:slotT (e::T) ((k+1:Nat):Int)=slotT T ((k:Nat):Int):=by
 rfl
theorem jkw: ∀ {T T':List jl},T'.length=T.length→(∀ k:Nat,slotT T' (k:Nat)=slotT T (k:Nat))→jbw T'=jbw T
 | [],[],_,_=>rfl
 | [],_::_,h,_=>by grind
 |_::_,[],h,_=>by grind
 |e::T,e'::T',hl,hk=>by
  have ih:=jkw (T:=T) (T':=T') (by grind) fun k=>by
   have:=hk (k+1)
   grind[jma]
  grind[jmb,liveL_cons,h1,h2]
theorem jjZ: ∀ {l:List jq} {A:List Bool},(∀ t:Nat,A[t]?≠some true)→usedL l A=0
 | [],A,_=>by rfl
 |p::l,[],_=>by rfl
 |p::l,b::A,h=>by
  have h0:=h 0
  have ih:=jjZ (l:=l) (A:=A) fun t ht=>h (t+1) (by grind)
  grind[usedL]
theorem used_is {l:List jq} {z:Nat}: ∀ {S:List Nat} {A:List Bool},S.Nodup→(∀ t:Nat,A[t]?=some true↔t∈S)→(∀ t∈S,∃ y,l[t]?=some y∧y.size=z)→usedL l A=S.length*z
 | [],A,_,h,_=>by grind[jjZ]
 |t::S,A,hn,h,hz=>by
  obtain⟨y,h2,h3⟩:=hz t (.head _)
  have h1:=(h t).2 (.head _)
  have hl:=jv h1
  have hs:=jfX (A:=A) false h2 hl
  rw[if_pos h1] at hs;rw[List.nodup_cons] at hn
  have ih:=used_is (l:=l) (z:=z) (S:=S) (A:=A.set t false) hn.2 (fun q=>by
   grind) fun q hq=>hz q (.tail _ hq)
  grind
section
variable {C : HpC} {wr : Bool} {h h' : HpP} {s s' : CyP} {n z : Nat}
structure DqI (C:HpC) (z n:Nat) (h:HpP):Prop where
 I:HeI C h
 u:UsI C h
 N: ∀ v∈h.s.W.N,v=0
 nd:(jbw h.s.W.T).Nodup
 n:(jbw h.s.W.T).length=n
 o: ∀ t∈jbw h.s.W.T,∃ y,C.g.L[t]?=some y∧y.size=z∧ ∀ i,refO C.g h.s.W.x (t:Nat) i=none
theorem jlq (hI:HeI C h) {t:Nat} (ht:t∈jbw h.s.W.T):RchM C.g h.s.W t:=by
 obtain⟨k,e,h1,h2,h3⟩:=jid.1 ht
 have hk:=jv h1
 have hs:=hI.ok.w.t e (List.mem_of_getElem? h1) h2
 refine .root (r:=k) (by omega) ?_
 grind[jU]
theorem DqI.live (d:DqI C z n h) {t:Nat} (ht:RchM C.g h.s.W t):t∈jbw h.s.W.T:=by
 induction ht with
 | @root r s a b=>
  unfold jU at b
  cases hT:h.s.W.T[r]? with
  |some e=>
   grind[h1,jid]
  |none=>
   rw[hT] at b;dsimp only at b
   split at b
   ·rename_i h1
    cases hN:h.s.W.N[r-h.s.W.T.length]? with
    |none=>grind
    |some v=>rw [hN,d.N v (List.mem_of_getElem? hN)] at h1;grind
   grind
 | @edge a b i h1 h2 ih=>
  obtain⟨y,_,_,h3⟩:=d.o _ ih
  grind
theorem DqI.next (hC:HpCk C) (d:DqI C z n h) (hW:jaZ C.g h.s h'.s) (m:Jh C true h h'):DqI C z n h':=by
 have hI':=d.I.mvs hC m
 have hl:jbw h'.s.W.T=jbw h.s.W.T:=jkw (hI'.n.trans d.I.n.symm) fun k=>hW.t k
 refine⟨hI',d.u.mvs hC d.I m,by rw[hW.N];exact d.N,by rw[hl];exact d.nd,by rw[hl];exact d.n,fun t ht=>?_⟩;rw[hl] at ht
 obtain⟨y,h1,h2,h3⟩:=d.o t ht
 exact⟨y,h1,h2,fun i=>by rw[jcF hC.g (hW.w t (jlq d.I ht))];grind⟩
theorem recy_no2 {T:List jl} {gn:Int}:j6 2 (j5 gn T)=0:=by
 grind[j6,j5,jah]
theorem DqI.whole (hC:HpCk C) (d:DqI C z n h) (h0:h.s.ph=0):DqI C z n (jbl C (jbq C h))∧usedL C.g.L (jbl C (jbq C h)).s.A=n*z∧j6 2 (jbl C (jbq C h)).s.W.T=0:=by
 have mB:HpMv C true h (jbq C h):= .begin h0
 have hIB:=d.I.mv hC mB
 have hph:(jbq C h).s.ph≠0:=show(1:Nat)≠0 by decide
 have hW:jaZ C.g h.s (jbl C (jbq C h)).s:=jjn.trans (end_W hC hIB hph)
 have d2:=d.next hC hW ((HpMv.one mB).trans (jfv hC hIB hph))
 obtain⟨_,_,w3,_⟩:=whole_ok hC.g hC.long d.I.ok h0 (d.I.t0 h0) C.gn
 have w3': ∀ t:Nat,(jbl C (jbq C h)).s.A[t]?=some true↔RchM C.g h.s.W t:=w3
 refine⟨d2,?_,recy_no2⟩;rw[←d.n]
 refine used_is d.nd (fun t=>(w3' t).trans ⟨d.live,jlq d.I⟩) fun t ht=>?_
 obtain⟨y,h1,h2,_⟩:=d.o t ht
 grind
end
open Go.RowKit
set_option maxRecDepth 10000
def jbN (T T':List jl):Prop:= ∀ (k:Nat) (e:jl),T'[k]?=some e→e.st=1→T[k]?=some e
def LvT (tn:Nat) (told:List Nat) (T:List jl):Prop:= ∀ (k:Nat) (e:jl),T[k]?=some e→e.st=1→capW tn k e.gen.toNat∈told
theorem jbN.refl {T:List jl}:jbN T T:=fun _ _ h _=>h
theorem jbN.trans {T T' T'':List jl} (a:jbN T T') (b:jbN T' T''):jbN T T'':=fun k e h h1=>a k e (b k e h h1) h1
theorem LvT.le {tn:Nat} {told:List Nat} {T T':List jl} (h:LvT tn told T) (l:jbN T T'):LvT tn told T':=fun k e h1 h2=>h k e (l k e h1 h2) h2
theorem LvT.more {tn:Nat} {told more:List Nat} {T:List jl} (h:LvT tn told T):LvT tn (told++more) T:=fun k e h1 h2=>List.mem_append_left _ (h k e h1 h2)
theorem named_at {T:List jl} {k:Nat} {e:jl} (h:T[k]?=some e) (h1:e.st=1):namedT T (k:Nat) e.gen=some e:=by
 grind[namedT]
theorem jkr {T:List jl} {k:Nat} {n:Int} {e:jl} (h:namedT T (k:Nat) n=some e):T[k]?=some e∧e.st=1∧e.gen=n:=by
 grind[namedT]
section
variable {C : HpC} {wr : Bool} {h h' : HpP} {s s' : CyP} {n : Nat} {told : List Nat}
theorem jaZ.lv {g:PlG} (hW:jaZ g s s'):jbN s.W.T s'.W.T:=fun k e h1 h2=>by
 have:=named_at h1 h2
 rw[hW.nm] at this
 grind[jkr]
theorem drop_lv {T:List jl} {k:Int}:jbN T (Jk T k):=fun i e h1 h2=>by
 grind[drop_at,h1]
theorem mint_lv {T:List jl} {tn:Nat} {t:Int} (h:LvT tn told T) (hf:(JM T).isSome=true) (hg: ∀ e∈T,1≤e.gen∧e.gen≤2147483648):LvT tn (told++ [jbk tn T]) (jH T t):=fun k e h1 h2=>by
 obtain⟨i,hi⟩:=Option.isSome_iff_exists.1 hf
 obtain⟨⟨e0,g1,g2⟩,_⟩:=jbg hi
 unfold jH at h1;rw[hi] at h1;dsimp only at h1
 by_cases c:k=i
 ·grind[g1,jbk,jbd,hi]
 ·rw[List.getElem?_set_ne (by omega)] at h1;exact List.mem_append_left _ (h k e h1 h2)
def jcY (told:List Nat) (w:Nat):List Nat:=if w=0 then told else told++ [w]
theorem alloc_lv (hC:HpCk C) (hI:HeI C h) {a b:Int} (hl:LvT C.tn told h.s.W.T):LvT C.tn (jcY told (if (Jn C h a b).1.e=0 then(Jn C h a b).1.h else 0)) (Jn C h a b).2.s.W.T∧(Jn C h a b).2.s.W.N=h.s.W.N:=by
 unfold Jn
 split
 ·exact⟨hl,rfl⟩
 ·rename_i hm
  split
  ·exact⟨hl,rfl⟩
  ·rename_i hk
   dsimp only
   have m1:=jc7 (wr:=true) hC hI (k:=classI C.g (a+b+1))
   have hI1:=hI.mvs hC m1
   have hW:=allocR_W hC hI (k:=classI C.g (a+b+1))
   revert hI1 hW
   generalize allocR C h (classI C.g (a+b+1))=h1
   intro hI1 hW
   split
   ·exact⟨hl.le hW.lv,hW.N⟩
   ·split
    ·exact⟨hl.le hW.lv,hW.N⟩
    ·rename_i h2 h3
     have m2:HpMv C true h1 _:=jdn hC hI1 (not_false' hm) hk (not_false' h2) (not_false' h3)
     have hI2:=hI1.mv hC m2
     have hw:=paced_RW (n:=C.g.y (classI C.g (a+b+1))) hC hI2
     have hn:=(jkv (t:=0) (tn:=C.tn) (hI1.T1024 hC) (hI1.gens hC) (freeB_some (not_false' h3))).2
     refine⟨?_,hw.N.trans hW.N⟩
     show LvT C.tn (jcY told (if (0:Int)=0 then jbk C.tn h1.s.W.T else 0)) _
     rw[if_pos rfl];unfold jcY;rw[if_neg hn];exact(mint_lv (hl.le hW.lv) (freeB_some (not_false' h3)) (hI1.gens hC)).le hw.lv
theorem read_lv (hC:HpCk C) (hI:HeI C h) {sl a:Int} (hl:LvT C.tn told h.s.W.T):LvT C.tn (jcY told (if (Jj C h sl a).1.e=0 then(Jj C h sl a).1.h else 0)) (Jj C h sl a).2.s.W.T∧(Jj C h sl a).2.s.W.N=h.s.W.N:=by
 unfold Jj;dsimp only
 split
 ·grind[LvT,jcY,told]
 ·split
  ·exact⟨hl,rfl⟩
  ·split
   ·exact⟨hl,rfl⟩
   ·have hI1:=hI.mvs hC (jcR (wr:=true) hC hI (is:=Jt))
    have hW:=jhq hC hI (is:=Jt)
    split
    ·exact⟨hl.le hW.lv,hW.N⟩
    ·rename_i h4
     have hn:=(jkv (t:=0) (tn:=C.tn) (hI1.T1024 hC) (hI1.gens hC) (freeB_some (not_false' h4))).2
     constructor
     ·show LvT C.tn (jcY told (if (0:Int)=0 then jbk C.tn _ else 0)) (jH (shdC C.g C.long _ _).W.T _)
      rw[if_pos rfl,shdC_W];unfold jcY;rw[if_neg hn];exact mint_lv (hl.le hW.lv) (freeB_some (not_false' h4)) (hI1.gens hC)
     ·show(shdC C.g C.long _ _).W.N=_
      rw[shdC_W];exact hW.N
theorem LvT.nil {tn:Nat} {T:List jl} (h:LvT tn [] T):jbw T=[]:=by
 rw[List.eq_nil_iff_forall_not_mem];intro t ht
 obtain⟨k,e,h1,h2,_⟩:=jid.1 ht
 exact absurd (h k e h1 h2) (by simp)
theorem jbN.stp (hC:HpCk C) (hI:HeI C h) {k u:Int}:(hpStep C h k u).2.s.W.T=h.s.W.T∧(hpStep C h k u).2.s.W.N=h.s.W.N:=by
 unfold hpStep
 split
 ·cases hs:stepC C.g C.long C.nw h.s k u with
  |none=>grind
  |some s'=>
   have h0:h.s.ph≠0:=fun e=>by grind[jfq]
   obtain⟨S0,A0,hi⟩:=hI.i1 h0
   have hw:=jhn hC.g hI.ok hi hs
   exact⟨hw.T,hw.N⟩
 grind
end
open Go.RowKit
set_option maxRecDepth 10000
section
variable {w0 : World} {F : jb} {c : Cfg} {vc vt v u : Value} {l lm : List (List UInt8)}
end
set_option maxRecDepth 100000
section
variable {w0 : World} {F : jb} {c : Cfg} {vc vt v u : Value} {l lm : List (List UInt8)}
end
end Go.Proofs.YtebiafomiemgbaaGreatDoor.Sw
