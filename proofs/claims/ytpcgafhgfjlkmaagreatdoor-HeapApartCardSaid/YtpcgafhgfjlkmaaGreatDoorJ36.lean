/-The walker and the contracts that the law needs,part 36. -/
import Derived.Test.YtpcgafhgfjlkmaaGreatDoorD1
import Derived.ArgAppend
import Derived.ChangeMaps5
import Derived.Deep.Fields
import Derived.Deep.LoopGhost
import Derived.Deep.OwnRows
import Derived.Deep.Quiet
import Derived.Deep.Slices
import Derived.IntWalk
import Derived.Laws.Cells
import Derived.Laws.CopyOwn
import Derived.Laws.Externs
import Derived.Laws.FloatArith
import Derived.Laws.IdiomStrings
import Derived.Laws.NewFold
import Derived.Laws.StructEq
import Derived.Lib.BitFns
import Derived.Lib.Hide
import Derived.Lib.SmallJoins
import Derived.Lib.TrailingZeros
import Derived.Maps.RangeRun
import Derived.OrdersIn
import Derived.ProofKit
import Derived.RangeFuncBound
import Derived.RangeFuncCalls
import Derived.RangeFuncLeaves
import Derived.RangeFuncNested
import Derived.RecoverIn
import Derived.Shelf.Bits.Mul64
import Derived.Shelf.Slices.Turned
import Derived.Shelf.Spec.TrailingZeros
import Derived.Shelf.Strconv.Itoa0
import Derived.SizedLaws
import Derived.Sort.BigQuietIn
import Derived.StillTailTactics
import Derived.Test.YtpcgafhgfjlkmaaGreatDoorProg
import Derived.WalkKit
import Derived.Test.YtpcgafhgfjlkmaaGreatDoorJ34
import Derived.Test.YtpcgafhgfjlkmaaGreatDoorJ35
set_option linter.unusedVariables false set_option linter.unusedSimpArgs false set_option linter.unusedVariables false
set_option linter.unusedSimpArgs false
namespace Go.Proofs.YtpcgafhgfjlkmaaGreatDoor.Sw
set_option maxHeartbeats 8000000
open Go.Proofs.YtpcgafhgfjlkmaaGreatDoor renaming lo → qL, hi → qH
open Go.RowKit
set_option maxRecDepth 10000
theorem Base_K {w0:World} {H:jb} {c:Cfg} {vc vt:Value} {t:Int} (hR:Jo w0 H c vc vt):
  Call Tryz.prog w0 85 [jw c vc vt, .int .i64 t] H (fun r H'=>r=prV (jbH c t)∧H'=H):=by
 have hc0:=fun A (hp:Part A H)=>jh2 (t:=t) (k:=0) (hR.part hp)
 cases ht:j9 c t 0 with
 |false=>
  have he:jbH c t=(0,2):=by grind[jbH]
  rw[ht] at hc0;rw[he]
  obtain⟨hS,hT',o1,o2,l1,l2⟩:=hR
  obtain⟨cl,page,tn,workers,grey,gens⟩:=c
  dsimp only at hS hT' l1 l2 he;simp only[jw,jT] at hc0⊢;refine Call.enter2 (n:=16) (by rfl) Tryz.func85 rfl rfl rfl ?_;refine zeg ?_;intro b2;refine zbJ ?_;exact zfB
 |true=>
  obtain⟨i,j,x,y,rfl,_,hx,hy,ok⟩:=jbQ ht
  have hil:=jx hx
  have hok:=ok.tn
  have hcp:jX c=true:=by grind[j9]
  have he:jbH c (i:Nat)=(sumN (fun i=>wordsP c (i:Nat)) i,0):=by grind[jbH]
  have hc1:=fun k b1 (hk:k<c.tn.length)=>base1_K (b1:=b1) hR hcp hk
  have hB:=fun k (hk:k<c.tn.length)=>jeJ hcp hk
  rw[ht] at hc0;rw[he]
  obtain⟨f,hf⟩: ∃ f:Nat→Int,f=fun i=>wordsP c (i:Nat):=⟨_,rfl⟩
  have hfi: ∀ i,wordsP c (i:Nat)=f i:=fun i=>by grind
  rw[←hf];simp only[hfi] at hB hc1
  obtain⟨hS,hT',o1,o2,l1,l2⟩:=hR
  obtain⟨cl,page,tn,workers,grey,gens⟩:=c
  dsimp only at hS hT' l1 l2 he hok hB hc1 hil hx hy⊢;simp only[jw,jT] at hc0 hc1⊢
  have htl:(tn.take i).length=i:=by grind
  have hT2:Sli w0 H tnE (Jc vt 0 i tnE.sz) (tn.take i):=hT'.sub (Nat.zero_le _) (by omega)
  refine Call.enter2 (n:=16) (by rfl) Tryz.func85 rfl rfl rfl ?_;refine zeg ?_;intro b2;refine zbJ ?_;refine zeX ?_;refine zI ?_;refine ze ?_;refine KL.v rfl (Val.sliceH rfl rfl rfl J3 rfl jL) ?_;refine zaJ fun T hT=>?_;refine(CallV.part (CallV.fn (sumT_K (H:=(b2,cells [vc, .int .i64 page,vt, .int .i64 workers, .int .i64 grey, .int .i64 gens] 25)::H) (l:=tn.take i) (f:=f) (hT2.part ja) (by omega) (fun k hk=>hB k (by omega)) ?_)) ja).mono ?_
  ·grind[CallV.clo]
  ·rintro _ _ ⟨rfl,rfl⟩;rw[htl];refine zd ?_;clear hT T;exact zb8
set_option maxRecDepth 10000
def mR (f:Nat→Int) (n:Nat):List (List Int):=(List.range n).map fun t=>List.replicate (f t).toNat 0
theorem mR_len (f:Nat→Int) (n:Nat):(mR f n).length=n:=by simp[mR]
theorem mR_get {f:Nat→Int} {n t:Nat} (h:t<n):(mR f n)[t]?=some (List.replicate (f t).toNat 0):=by grind[mR]
theorem jih {f:Nat→Int} {n:Nat} (hf: ∀ i,i<n→0≤f i): ∀ t,t≤n→((baseP (mR f n) t:Nat):Int)=sumN f t
 |0,_=>rfl
 |t+1,h=>by
  have h1:=jih hf t (by omega)
  have h2:=(jcA (mR_get (f:=f) (n:=n) (t:=t) (by omega))).1
  grind[sumN]
theorem mR_flat {f:Nat→Int} {n:Nat}:(mR f n).flatten=List.replicate ((mR f n).flatten).length 0:=by
 refine List.eq_replicate_iff.2 ⟨rfl,fun v hv=>?_⟩
 obtain⟨l,hl,hv⟩:=List.mem_flatten.1 hv
 obtain⟨t,_,rfl⟩:=List.mem_map.1 hl
 grind
theorem mR_flen {f:Nat→Int} {n:Nat} (hf: ∀ i,i<n→0≤f i):(((mR f n).flatten.length:Nat):Int)=sumN f n:=by
 rw[←jih hf n (Nat.le_refl n),jln]
 grind[baseP,mR_len]
def bsK (f:Nat→Int) (k:Nat):List Int:=(List.range k).map fun t=>sumN f t
theorem jkO (f:Nat→Int) (k:Nat):bsK f k++ [sumN f k]=bsK f (k+1):=by simp[bsK,List.range_succ]
theorem bsK_len (f:Nat→Int) (k:Nat):(bsK f k).length=k:=by simp[bsK]
theorem bsK_all {f:Nat→Int} {n:Nat} (hf: ∀ i,i<n→0≤f i):bsK f (n+1)=jaI (mR f n):=by
 unfold bsK jaI;rw[mR_len]
 refine List.map_congr_left fun t ht=>(jih hf t ?_).symm
 grind
structure MnS where
 k:Nat
 o:Own
theorem mNew_K {w0:World} {F:jb} {c:Cfg} {vc vt:Value} (hR:Jo w0 F c vc vt) (hc:jX c=true):
  Call Tryz.prog w0 45 [jw c vc vt] F (fun r H'=> ∃ m:Js,jau m∧m.R=mR (fun t=>wordsP c (t:Nat)) c.tn.length∧r= .tuple [.pointer (some ⟨m.b,0,none⟩), .int .i64 0].toArray∧H'=jv m++F):=by
 have hok:=(ja2 hc).tn
 have htot:=fun A (hp:Part A F)=>Total_K (hR.part hp)
 have hbase:=fun A (k:Nat) (hp:Part A F)=>Base_K (t:=(k:Nat)) (hR.part hp)
 have he:totalP c=(sumN (fun i=>wordsP c (i:Nat)) c.tn.length,0):=by grind[totalP]
 have hB:=fun k (hk:k<c.tn.length)=>jeJ hc hk
 have hbe:=fun k (hk:k<c.tn.length)=>jis hc hk
 rw[he] at htot
 obtain⟨f,hf⟩: ∃ f:Nat→Int,f=fun i=>wordsP c (i:Nat):=⟨_,rfl⟩
 have hfi: ∀ i:Nat,wordsP c (i:Nat)=f i:=fun i=>by grind
 simp only[hfi] at hB hbe htot⊢
 have hf0: ∀ i,i<c.tn.length→0≤f i:=fun i hi=>(hB i hi).1
 have hsum:=jcX (f:=f) (n:=c.tn.length) hB
 obtain⟨tot,htt⟩: ∃ tot:Nat,sumN f c.tn.length=tot:=⟨(sumN f c.tn.length).toNat,by omega⟩
 have hflen:(mR f c.tn.length).flatten.length=tot:=by grind[mR_flen]
 have hflat:List.replicate tot 0=(mR f c.tn.length).flatten:=by rw[←hflen];exact mR_flat.symm
 have hball:=bsK_all hf0
 have hsn:bsK f c.tn.length++ [((tot:Nat):Int)]=bsK f (c.tn.length+1):=by grind[jkO]
 rw[htt] at htot hsum
 obtain⟨hS,hT',o1,o2,l1,l2⟩:=hR
 obtain⟨cl,page,tn,workers,grey,gens⟩:=c
 dsimp only at hS hT' l1 l2 hok htot hbase hB hbe hf0 htt hflen hflat hball hsn hsum⊢;simp only[jw,jT,prV] at htot hbase⊢;clear he hf hfi hc;refine Call.enter1 (n:=56) (by rfl) Tryz.func45 rfl rfl rfl ?_;refine zeh ?_;intro b1;refine zbx ?_;refine zgF ?_;refine zbA ?_;refine zaG ?_;refine KL.e rfl (Eff.makeR (E:=uE) (x0:=0) rfl rfl rfl rfl rfl rfl (by omega)) ?_;rintro _ _ ⟨o19,ok19,rfl,rfl⟩;refine zei ?_;intro b21;refine zX ?_;refine zI ?_;refine zad ?_;refine zcH ?_;refine K.loopT (σ:=MnS) [(1,_),(4,_),(6,_),(24,_)] (fun s kp_=>(25, .int .i64 (s.k:Nat))::kp_) (fun s=>(b21,cells [oV o19 (List.replicate tot (0:Int)).length,oV s.o (bsK f s.k).length] 110)::(oH uE 33 (List.replicate tot 0) o19++(oH iE 3 (bsK f s.k) s.o++((b1,cells [vc, .int .i64 page,vt, .int .i64 workers, .int .i64 grey, .int .i64 gens] 25)::F)))) (fun s=>s.k≤tn.length∧oOk iE (bsK f s.k) s.o) (fun s=>tn.length-s.k) (⟨0,none⟩) jj ja (⟨Nat.zero_le _,rfl⟩) ?_;rintro⟨k,o⟩ ⟨hk,hok2⟩;dsimp only at hk hok2⊢
 have hbl:=bsK_len f k
 have hbl1:=bsK_len f (k+1)
 by_cases hlt:k<tn.length
 ·have hb1:=fun A hp=>hbase A k hp
  rw[hbe k hlt] at hb1;dsimp only at hb1
  have hbd:(bsK f (k+1)).length≤4294967296:=by omega
  clear hbase;refine zaN ?_;refine ze ?_;refine zu ?_;refine zb3 ?_;refine jq (hb1 _ ja) ?_;refine zcw ?_;refine zaY ?_;refine zbm ?_;refine zbK ?_;refine zc7 ?_;refine zbo ?_;refine ze ?_;refine zaj ?_;intro b40;refine KL.e rfl (Eff.appZ (E:=iE) (xs:=bsK f k) (o:=o) (ys:=[sumN f k]) (zs:=bsK f (k+1)) rfl rfl rfl rfl rfl rfl jn (by omega) (by first|exact Sli.blk jF rfl (by grind) (by first|decide|(unfold maxLen;omega)) rfl|exact Sli.old (by assumption)|exact Sli.own jn (by assumption) j6|assumption|exact Sli.part (by assumption) ja) (jkO f k) (by omega) rfl) ?_;rintro _ _ ⟨o',ok',rfl,rfl⟩;refine zbK ?_;refine zc7 ?_;refine zfW ?_;refine zN ?_;refine zbL ?_;refine zal ?_;refine zff ?_;exact KE.again ⟨k+1,o'⟩ jj ja ⟨hlt,ok'⟩ (by grind)
 ·have hke:k=tn.length:=by omega
  subst hke
  have hbd:(bsK f (tn.length+1)).length≤4294967296:=by omega
  refine ziA ?_;refine zbG ?_;refine zbm ?_;refine zbK ?_;refine zc7 ?_;refine zbo ?_;refine ze ?_;refine zaj ?_;intro b51;refine KL.e rfl (Eff.appZ (E:=iE) (xs:=bsK f tn.length) (o:=o) (ys:=[((tot:Nat):Int)]) (zs:=bsK f (tn.length+1)) rfl rfl rfl rfl rfl rfl jn (by omega) (by first|exact Sli.blk jF rfl (by grind) (by first|decide|(unfold maxLen;omega)) rfl|exact Sli.old (by assumption)|exact Sli.own jn (by assumption) j6|assumption|exact Sli.part (by assumption) ja) (hsn) (by omega) rfl) ?_;rintro _ _ ⟨o',ok',rfl,rfl⟩;refine zbK ?_;refine zc7 ?_;refine zfW ?_;refine zW ?_;refine zbl ?_;rw[hball,hflat] at*;exact KE.fin (H':=jv ⟨b21,mR f tn.length,o19,o'⟩++F) je rfl jd (by rw[Jy];exact ja) ⟨⟨b21,mR f tn.length,o19,o'⟩,⟨ok19,ok',by grind,by grind[mR_len]⟩,rfl,rfl,rfl⟩
open Go.RowKit
set_option maxRecDepth 10000
structure PdS where
 y:CyM
 q:HpP
section
variable {w0 : World} {D : HpD} {nf nk n : Nat} {y y' : CyM} {h : HpP} {s' : CyP} {F : jb}
theorem hyHelp_K (hG:js w0) (h1:HpR D nf nk y h):Call Tryz.prog w0 245 [.pointer (some ⟨D.yb,0,none⟩)] (hpH D y h++F) (fun r H'=>r= .bool (jZ D.C.g D.C.long h.s).isSome∧HpQ D nf nk {h with s:=(jZ D.C.g D.C.long h.s).getD h.s} F H'):=
 h1.lift (n:=0) (F:=F) fun A=>by have:=jkI (w0:=w0) (F:=A) hG h1.p;rw [h1.b] at this;exact this
set_option maxHeartbeats 1000000 in
theorem hppaced_K (hG:js w0) (hD:HpDok D) (hI:HeI D.C h) (h1:HpR D nf nk y h) (hn:1≤n∧n≤64) (hf:nf≤1000000) (hk:nk≤200000000):
  Call Tryz.prog w0 187 [.pointer (some ⟨D.b,0,none⟩), .int .i64 (n:Nat)] (hpH D y h++F) (fun r H'=>r= .tuple #[]∧HpQ D (nf+1) (nk+200000000) (jaS D.C n h) F H'):=by
 have hC:=hD.C
 have hA:=h1.pace (F:=F) (h1.pb.ask D.C.tr D.C.ast n) (fun A=>pcAsk_K (w0:=w0) (F:=A) (n:=n) (h1.pc hD) hn)
 have m1:j8 D.C true h {h with p:=(Ja D.C.tr D.C.ast n h.p).2}:=HpMv.one (.free rfl fun hb=>hb.ask _ _ _)
 have hI1:=hI.mvs hC m1
 have hd:=jdE (tr:=D.C.tr) (ast:=D.C.ast) (n:=n) (p:=h.p)
 have hle:=h1.p.le.s
 have hw:=h1.w
 unfold jaS
 have hdd:(Ja D.C.tr D.C.ast n h.p).1=0∨(Ja D.C.tr D.C.ast n h.p).1=1∨(Ja D.C.tr D.C.ast n h.p).1=2:=by
  unfold Ja;dsimp only
  split
  ·exact .inl rfl
  ·split
   ·exact .inr (.inr rfl)
   ·exact .inr (.inl rfl)
 have hac:(Ja D.C.tr D.C.ast n h.p).2.act=h.p.act:=rfl
 obtain⟨due,hdue⟩: ∃ due,due=(Ja D.C.tr D.C.ast n h.p).1:=⟨_,rfl⟩
 obtain⟨p1,hp1⟩: ∃ p1,p1=(Ja D.C.tr D.C.ast n h.p).2:=⟨_,rfl⟩
 simp only[←hdue,←hp1] at hA m1 hI1 hd hdd hac⊢
 have mT:=jeL (C:=D.C) (wr:=true) p1.debt {h with p:=p1} (Nat.le_refl _)
 have hIT:=hI1.mvs hC mT
 have hTa:(jaa D.C p1.debt {h with p:=p1}).p.act=h.p.act:=(jd7 _ _).trans hac
 obtain⟨T,hT0⟩: ∃ T,T=jaa D.C p1.debt {h with p:=p1}:=⟨_,rfl⟩
 rw[←hT0] at hIT hTa⊢
 have hdebt:=fun A (y:CyM) (q:HpP) (h2:HpR D nf (nk+100000000) y q)=>h2.pace0 (F:=A) (fun A=>pcDebt_K (w0:=w0) (F:=A) (h2.pc hD))
 have hhelp:=fun A (y:CyM) (q:HpP) (h2:HpR D nf (nk+100000000) y q)=>hyHelp_K (w0:=w0) (F:=A) hG h2
 have hpay:=fun A (y:CyM) (q:HpP) (h2:HpR D nf (nk+100000000) y q)=>h2.pace (F:=A) (p':={q.p with debt:=q.p.debt-1}) ⟨h2.pb.s,h2.pb.t,Nat.le_trans (Nat.sub_le _ _) h2.pb.d,h2.pb.c⟩ (fun A=>pcPay_K (w0:=w0) (F:=A) (h2.pc hD))
 unfold HpQ at hA hhelp hpay⊢;refine Call.enter2 (n:=49) (by kernel_rfl) Tryz.func187 rfl rfl rfl ?_;simp only[hpH_app];refine zy ?_;refine zbj ?_;refine zb6 fun T hT=>?_;refine(CallV.part (CallV.fn hA) (by first|exact ja|(simp only[hpH_app];exact ja))).mono ?_;rintro _ _ ⟨rfl,y1,h2,rfl⟩;refine zd ?_;clear hT T;refine zcw ?_;refine zaY ?_;refine K.cutT (σ:=CyM) [] jj (fun s kp_=>(0, .pointer (some ⟨D.b,0,none⟩))::(4, .int .u8 (due:Nat))::kp_) (fun s=>hpH D s T++F) (fun s=>HpR D nf (nk+100000000) s T) ?_ ?_
 ·refine K.block ?_;refine K.loopT (σ:=PdS) [(0,_)] (fun s kp_=>(4, .int .u8 (due:Nat))::kp_) (fun s=>hpH D s.y s.q++F) (fun s=>HpR D nf (nk+100000000) s.y s.q∧HeI D.C s.q∧jaa D.C s.q.p.debt s.q=T∧s.q.wk+Jj D.C.g s.q.s≤nk+100000000) (fun s=>s.q.p.debt) (⟨y1,{h with p:=p1}⟩) jj ja (⟨h2.mono (Nat.le_refl _) (by omega),hI1,hT0.symm,by dsimp only;omega⟩) ?_;rintro⟨y2,q⟩ ⟨r1,r2,r3,r4⟩;dsimp only at r1 r2 r3 r4⊢
  cases hqd:q.p.debt with
  |zero=>
   have hd0:=fun A=>hdebt A y2 q r1
   simp only[hqd] at hd0;rw[hqd] at r3
   have r3':q=T:=r3
   subst r3';refine zfk ?_;refine zbj ?_;refine za5 fun T hT=>?_;refine zkH ?_;rintro _ _ ⟨rfl,rfl⟩;refine zd ?_;clear hT T;refine zcq ?_;refine zdo ?_;refine zcf ?_;exact KE.meet y2 jj (by first|exact ja|(simp only[hpH_app];exact ja)) r1
  |succ d=>
   have hd0:=fun A=>hdebt A y2 q r1
   simp only[hqd] at hd0
   have hdp:((d+1:Nat):Int)>0:=by omega
   have hh:=fun A=>hhelp A y2 q r1
   cases hs:jZ D.C.g D.C.long q.s with
   |none=>
    have r3':q=T:=by rw[←r3,hqd];unfold jaa;rw [hs]
    subst r3';simp only[hs,Option.isSome_none,Option.getD_none] at hh;refine zfk ?_;refine zbj ?_;refine za5 fun T hT=>?_;refine zkH ?_;rintro _ _ ⟨rfl,rfl⟩;refine zd ?_;clear hT T;simp only[hpH_app];refine zbs ?_;refine zan ?_;refine zfw ?_;refine zq fun T hT=>?_;refine(CallV.part (CallV.fn (hh _)) (by first|exact ja|(simp only[hpH_app];exact ja))).mono ?_;rintro _ _ ⟨rfl,y3,h3,rfl⟩;refine zd ?_;clear hT T;refine zw ?_;refine zcf ?_;exact KE.meet y3 jj (by first|exact ja|(simp only[hpH_app];exact ja)) h3
   |some s1=>
    have hmes:=jdr hC.g r2.ok hs
    have e5:((q.wk:Nat):Int)+1=((q.wk+1:Nat):Int):=by omega
    have hI3:HeI D.C ⟨s1,{q.p with debt:=d},q.wk+1⟩:=r2.mvs hC ((HpMv.one (.help hs)).tail (.free (wr:=true) (h:={q with s:=s1}) rfl fun hb=>⟨hb.s,hb.t,by have:=hb.d;show d≤M62;dsimp only at this;omega,hb.c⟩))
    have r3':jaa D.C d ⟨s1,{q.p with debt:=d},q.wk+1⟩=T:=by rw[←r3,hqd];conv=>rhs;unfold jaa;rw [hs]
    simp only[hs,Option.isSome_some,Option.getD_some] at hh
    have hwk:=fun(y3:CyM) (h3:HpR D nf (nk+100000000) y3 {q with s:=s1})=>h3.wk (n:=q.wk+1) (nk':=nk+100000000) (by omega)
    have hp:=fun A (y3:CyM) (h3:HpR D nf (nk+100000000) y3 {q with s:=s1})=>hpay A y3 _ (hwk y3 h3)
    simp only[hqd,Nat.add_sub_cancel] at hp;refine zfk ?_;refine zbj ?_;refine za5 fun T hT=>?_;refine zkH ?_;rintro _ _ ⟨rfl,rfl⟩;refine zd ?_;clear hT T;simp only[hpH_app];refine zbs ?_;refine zan ?_;refine zfw ?_;refine zq fun T hT=>?_;refine(CallV.part (CallV.fn (hh _)) (by first|exact ja|(simp only[hpH_app];exact ja))).mono ?_;rintro _ _ ⟨rfl,y3,h3,rfl⟩;refine zd ?_;clear hT T;simp only[hpH_app];refine zw ?_;refine ziT ?_;refine zK ?_;refine zaL ?_;refine zd6 ?_;refine zaL ?_;refine zO ?_;refine zaY ?_;rw[e5];refine K.region ?_;refine zbj ?_;refine za5 fun T hT=>?_;refine(CallV.part (CallV.fn (hp _ y3 h3)) (by first|exact ja|(simp only[hpH_app];exact ja))).mono ?_;rintro _ _ ⟨⟨z,rfl⟩,y4,h4,rfl⟩;refine zd ?_;clear hT T;refine zdm ?_;exact KE.again ⟨y4,⟨s1,{q.p with debt:=d},q.wk+1⟩⟩ jj (by first|exact ja|(simp only[hpH_app];exact ja)) ⟨h4,hI3,r3',by show q.wk+1+Jj D.C.g s1≤_;omega⟩ (by show d<d+1;omega)
 ·clear h2;rintro y1 h2
  have hpa:=hIT.pa
  unfold jcE
  rcases hdd with e|e|e
  ·subst e;rw[if_neg (by decide),if_neg (by decide)];refine za7 ?_;refine zdQ ?_;refine zG ?_;refine zau ?_;refine zG ?_;refine zdd ?_;exact KE.finN je rfl jd (by first|exact ja|(simp only[hpH_app];exact ja)) ⟨rfl,y1,h2.mono (by omega) (by omega),rfl⟩
  ·subst e
   have ha:=hTa.trans (hd.1 rfl)
   have h0:T.s.ph=0:=Classical.byContradiction fun q=>by rw[ha,decide_eq_true q] at hpa;cases hpa
   have hB:=jjC (w0:=w0) (F:=F) hD h2 h0 ha hf
   unfold HpQ at hB;rw[if_pos rfl];refine za7 ?_;refine zdQ ?_;refine zfu ?_;refine zaS ?_;refine zx fun T hT=>?_;refine(CallV.part (CallV.fn hB) (by first|exact ja|(simp only[hpH_app];exact ja))).mono ?_;rintro _ _ ⟨rfl,y3,h3,rfl⟩;refine zd ?_;clear hT T;refine zdm ?_;exact zl8
  ·subst e
   have ha:=hTa.trans (hd.2 rfl)
   have h0:T.s.ph≠0:=of_decide_eq_true (hpa.symm.trans ha)
   have hE:=jij (F:=F) hG hD h2 h0 ha (by omega)
   unfold HpQ at hE;rw[if_neg (by decide),if_pos rfl];refine za7 ?_;refine zdQ ?_;refine zG ?_;refine zau ?_;refine zfu ?_;refine zaS ?_;refine zx fun T hT=>?_;refine(CallV.part (CallV.fn hE) (by first|exact ja|(simp only[hpH_app];exact ja))).mono ?_;rintro _ _ ⟨rfl,y3,h3,rfl⟩;refine zd ?_;clear hT T;refine zdm ?_;exact zl8
end
set_option maxRecDepth 10000
section
variable {w0 : World} {D : HpD} {nf nk n : Nat} {y y' : CyM} {h : HpP} {s s' : CyP} {F G : jb} {op : OpP} {z : jg} {b3 b10 b11 sz : Nat}
theorem jkR (hD:HpDok D) (h1:HpR D nf nk y h) (hsz:sz≤1048576):Call Tryz.prog w0 179 [.pointer (some ⟨b3,0,none⟩), .pointer (some ⟨b10,0,none⟩)] (hpH D y h++((b3,cells [.pointer (some ⟨D.b,0,none⟩)] 27)::(b10,cells [.int .i64 (sz:Nat)] 3)::G))
  (fun r H'=>r= .bool (fitsB D.C.g sz h.s)∧H'=hpH D y h++((b3,cells [.pointer (some ⟨D.b,0,none⟩)] 27)::(b10,cells [.int .i64 (sz:Nat)] 3)::G)):=by
 have hAr:=fun A=>jeF (w0:=w0) (F:=A) h1
 have hUs:=fun A=>jhG (w0:=w0) (F:=A) h1
 have hub:usedL D.C.g.L h.s.A≤1048576:=by have:=jfE h1.p.oka h.s.A;rw [h1.p.eg] at this;exact this
 obtain⟨q,hq,hqq⟩:=hD.t
 have hot:=hD.ot
 have hq':D.c.tn[((D.C.tn:Nat):Int).toNat]?=some q:=hq
 have hlt:=jx hq
 obtain⟨u,hu⟩: ∃ u,usedL D.C.g.L h.s.A=u:=⟨_,rfl⟩
 unfold fitsB;rw[hu] at hub⊢;simp only[hu] at hUs
 have e5:((u:Nat):Int)+((sz:Nat):Int)=((u+sz:Nat):Int):=by omega
 by_cases hc:u+sz≤D.C.g.q
 ·have hc':((u+sz:Nat):Int)≤q.quota:=by rw[hqq];omega
  rw[decide_eq_true hc];refine Call.enter2 (n:=24) (by kernel_rfl) Tryz.func179 rfl rfl rfl ?_;simp only[hpH_app];refine zeW ?_;refine zl9 ?_;refine zbN ?_;refine zlf ?_;refine zba ?_;refine zgm ?_;refine zg8 ?_;refine zeL ?_;refine zgm ?_;refine KD.v1 rfl rfl (Val.fieldAddr0 (k:=6) rfl rfl) ?_;refine zba ?_;refine zih ?_;refine KD.v1 rfl rfl (Val.fieldSl (k:=0) rfl rfl) ?_;refine zii ?_;refine zl fun T hT=>?_;refine(CallV.part (CallV.fn (hAr _)) (by first|exact ja|(simp only[hpH_app];exact ja))).mono ?_;rintro _ _ ⟨rfl,rfl⟩;refine zak ?_;clear hT T;refine zl fun T hT=>?_;refine(CallV.part (CallV.fn (hUs _)) (by first|exact ja|(simp only[hpH_app];exact ja))).mono ?_;rintro _ _ ⟨rfl,rfl⟩;refine zak ?_;clear hT T;refine zg0 ?_;refine KD.v0 rfl rfl (Val.isT (Val.leq rfl rfl) jL) ?_;refine zaV ?_;exact zey
 ·have hc': ¬((u+sz:Nat):Int)≤q.quota:=by rw[hqq];omega
  rw[decide_eq_false hc];refine Call.enter2 (n:=24) (by kernel_rfl) Tryz.func179 rfl rfl rfl ?_;simp only[hpH_app];refine zeW ?_;refine zl9 ?_;refine zbN ?_;refine zlf ?_;refine zba ?_;refine zgm ?_;refine zg8 ?_;refine zeL ?_;refine zgm ?_;refine KD.v1 rfl rfl (Val.fieldAddr0 (k:=6) rfl rfl) ?_;refine zba ?_;refine zih ?_;refine KD.v1 rfl rfl (Val.fieldSl (k:=0) rfl rfl) ?_;refine zii ?_;refine zl fun T hT=>?_;refine(CallV.part (CallV.fn (hAr _)) (by first|exact ja|(simp only[hpH_app];exact ja))).mono ?_;rintro _ _ ⟨rfl,rfl⟩;refine zak ?_;clear hT T;refine zl fun T hT=>?_;refine(CallV.part (CallV.fn (hUs _)) (by first|exact ja|(simp only[hpH_app];exact ja))).mono ?_;rintro _ _ ⟨rfl,rfl⟩;refine zak ?_;clear hT T;refine zg0 ?_;refine KD.v0 rfl rfl (Val.isF (Val.leq rfl rfl) jL) ?_;refine zaV ?_;exact zey
def fitV (b3 b10:Nat):Value:= .func (.func 179) #[] #[.pointer (some ⟨b3,0,none⟩), .pointer (some ⟨b10,0,none⟩)]
theorem alboth_K (hD:HpDok D) (h1:HpR D nf nk y h) (hsz:sz≤1048576):Call Tryz.prog w0 181 [.pointer (some ⟨b11,0,none⟩), .pointer (some ⟨b3,0,none⟩)] (hpH D y h++((b3,cells [.pointer (some ⟨D.b,0,none⟩)] 27)::(b10,cells [.int .i64 (sz:Nat)] 3)::(b11,cells [fitV b3 b10] 31)::G))
  (fun r H'=>r= .bool (fitsB D.C.g sz h.s&&j5 h.s)∧H'=hpH D y h++((b3,cells [.pointer (some ⟨D.b,0,none⟩)] 27)::(b10,cells [.int .i64 (sz:Nat)] 3)::(b11,cells [fitV b3 b10] 31)::G)):=by
 have hf:=fun A=>jkR (w0:=w0) (G:=A) (b3:=b3) (b10:=b10) hD h1 hsz
 have hfr:=fun A=>jfO (w0:=w0) (F:=A) h1
 unfold fitV
 obtain⟨fb,hfb⟩: ∃ fb,fitsB D.C.g sz h.s=fb:=⟨_,rfl⟩
 rw[hfb];simp only[hfb] at hf
 cases fb with
 |false=>
  rw[Bool.false_and];refine Call.enter2 (n:=9) (by kernel_rfl) Tryz.func181 rfl rfl rfl ?_;refine z7 ?_;refine za5 fun T hT=>?_;refine zma ?_;rintro _ _ ⟨rfl,rfl⟩;refine zd ?_;clear hT T;refine zaO ?_;exact zt
 |true=>
  rw[Bool.true_and];refine Call.enter2 (n:=9) (by kernel_rfl) Tryz.func181 rfl rfl rfl ?_;refine z7 ?_;refine za5 fun T hT=>?_;refine zma ?_;rintro _ _ ⟨rfl,rfl⟩;refine zd ?_;clear hT T;refine zgd ?_;refine zn ?_;refine ji (hfr _) ja ?_;exact zdl
end
open Go.RowKit
set_option maxRecDepth 10000
section
variable {w0 : World} {D : HpD} {nf nk n : Nat} {y y' : CyM} {h : HpP} {s s' : CyP} {F G : jb} {op : OpP} {z : jg} {b3 b10 b11 sz : Nat}
theorem class_get (hD:HpDok D) {k:Nat} (hk:k<D.C.g.m):D.c.cl[((k:Nat):Int).toNat]?=some ((D.C.g.y k:Nat):Int):=by
 have hc:Jq D.c.cl=true:=by have:=hD.c;unfold jX at this;rw [Bool.and_eq_true] at this;exact this.1
 rw[hD.g,gOf_m] at hk
 obtain⟨v,hv⟩:=jA hk
 have hn:=jkJ hc v (List.mem_of_getElem? hv)
 rw[Int.toNat_natCast,hv,hD.g,gOf_y hv]
 congr 1
 omega
theorem ofP_D (hD:HpDok D) {n:Int} (hn:1≤n):ofP D.c.cl n=if classI D.C.g n=D.C.g.cl.length then(0,50) else(((classI D.C.g n:Nat):Int),0):=by
 have hc:Jq D.c.cl=true:=by have:=hD.c;unfold jX at this;rw [Bool.and_eq_true] at this;exact this.1
 rw[hD.g];exact ofP_class hc hn
theorem cl_len (hD:HpDok D):D.c.cl.length≤8:=by
 have:=hD.C.g.m.2
 rw[hD.g,gOf_m] at this;exact this
def al1 (h:HpP) (A:List Bool):HpP:={h with s:={h.s with A:=A}}
def al2 (h:HpP) (x:List Int):HpP:={h with s:={h.s with W:={h.s.W with x:=x}}}
def al3 (h:HpP) (j:Nat):HpP:={h with s:={h.s with m:=Jt h.s.m j}}
def al4 (h:HpP) (j:Nat):HpP:={h with s:={h.s with W:={h.s.W with T:=jK h.s.W.T (j:Nat)}}}
theorem alTake_K {k:Int} {j:Nat} {A':List Bool} (hG:js w0) (h1:HpR D nf nk y h) (ht:takeP D.C.g h.s.A k=(((j:Nat):Int),0,A')):Call Tryz.prog w0 183 [.pointer (some ⟨D.ab,0,none⟩), .int .i64 k] (hpH D y h++F) (fun r H'=>r= .tuple [.int .i64 (j:Nat), .int .i64 0].toArray∧ ∃ y',HpR D nf nk y' (al1 h A')∧H'=hpH D y' (al1 h A')++F):=by
 have:=hyTake_K (F:=F) (k:=k) hG h1
 rw[ht] at this;exact this
theorem alMake_K {hd:HdP} (hG:js w0) (h1:HpR D nf nk y h) (hz:D.C.g.L[n]?=some z):Call Tryz.prog w0 184 [.pointer (some ⟨D.Bb,0,none⟩), .int .i64 (n:Nat), .agg [.int .i64 hd.c, .int .i64 hd.r, .int .i64 hd.w].toArray] (hpH D y h++F) (fun r H'=>r= .int .i64 (makeP h.s.W.x z hd).1∧ ∃ y',HpR D nf nk y' (al2 h (makeP h.s.W.x z hd).2)∧H'=hpH D y' (al2 h (makeP h.s.W.x z hd).2)++F):=hyMake_K hG h1 hz
theorem alBlack_K (h1:HpR D nf nk y h) (hn:n<D.C.g.slots):Call Tryz.prog w0 185 [.pointer (some ⟨D.yb,0,none⟩), .int .i64 (n:Nat)] (hpH D y h++F) (fun r H'=>r= .int .i64 0∧ ∃ y',HpR D nf nk y' (al3 h n)∧H'=hpH D y' (al3 h n)++F):=hyBlack_K h1 hn
theorem alMint_K {t:Nat} {T:List jh} (hD:HpDok D) (h1:HpR D nf nk y h) (hT:h.s.W.T=T) (hI: ∀ e∈T,1≤e.gen∧e.gen≤2147483648) (ht:t<D.C.g.slots) (hf:(Ju T).isSome=true):Call Tryz.prog w0 186 [.pointer (some ⟨D.b,0,none⟩), .int .i64 (t:Nat)] (hpH D y h++F)
  (fun r H'=>r= .int .u64 (JG D.C.tn T:Nat)∧ ∃ y',HpR D nf nk y' (al4 h t)∧H'=hpH D y' (al4 h t)++F):=by
 subst hT;exact jky hD h1 hI ht hf
set_option maxHeartbeats 1000000 in
theorem hpalloc_K {sl:Int} (hG:js w0) (hD:HpDok D) (hI:HeI D.C h) (h1:HpR D nf 0 y h) (hf:nf≤900000):Call Tryz.prog w0 132 [.pointer (some ⟨D.b,0,none⟩),opV op, .int .i64 sl] (hpH D y h++F) (fun r H'=>r=snV (jE D.C h op.a op.b).1∧HpQ D (nf+2) 400000000 (jE D.C h op.a op.b).2 F H'):=by
 have hC:=hD.C
 have hoc:=hD.oc
 have hgn:=hC.gn
 have hcl8:=cl_len hD
 have hcl9:D.c.cl.length≤4294967296:=by omega
 have htold:=fun A (e:Int)=>ja0 (w0:=w0) (H:=A) (e:=e)
 have hneed:=fun A=>Need_K (w0:=w0) (H:=A) (h:=⟨0,op.a,op.b⟩)
 unfold hdV jaV at hneed;dsimp only at hneed;unfold jE;unfold HpQ;unfold opV
 by_cases hm:Jd ⟨0,op.a,op.b⟩=false
 ·rw[if_pos hm];simp only[hm,Bool.false_eq_true,if_false] at hneed;refine zij ?_;refine zaU ?_;intro b3 b4;refine zee ?_;intro b6;refine zI ?_;refine zeO ?_;refine zM ?_;refine zaH ?_;intro b7;refine zbx ?_;refine ze7 ?_;refine zaM ?_;refine zag ?_;exact zfA
 ·rw[if_neg hm]
  have hm':=not_false' hm
  have hmay:=jbm hm'
  dsimp only at hmay;simp only[hm',if_true] at hneed
  have hofp:=ofP_D hD (n:=op.a+op.b+1) (by omega)
  have hof:=fun A v (hS:Sli w0 A iE v D.c.cl) (hvc:v.cells=[v].toArray)=>classOf_K (w0:=w0) (n:=op.a+op.b+1) hS hvc (by omega)
  rw[hofp] at hof
  by_cases hk:classI D.C.g (op.a+op.b+1)=D.C.g.cl.length
  ·rw[if_pos hk];simp only[if_pos hk] at hof;refine zij ?_;refine zaU ?_;intro b3 b4;refine zee ?_;intro b6;refine zI ?_;refine zeO ?_;refine zM ?_;refine zaH ?_;intro b7;refine zbx ?_;refine ze7 ?_;simp only[hpH_app];refine zbA ?_;refine z9 ?_;refine zb2 ?_;refine zaZ ?_;refine zB ?_;refine zo ?_;refine zjE ?_;refine za3 ?_;refine zaZ ?_;refine zO ?_;refine zcA ?_;refine zag ?_;refine zjX ?_;exact zjF
  ·rw[if_neg hk];simp only[if_neg hk] at hof
   have hkm:=jd2 hk
   have hyk:=hC.g.y _ hkm
   have hpg:=hC.g.pg
   have hget:=class_get hD hkm
   have hIR:=hI.mvs hC (jb3 (wr:=true) hC hI (k:=classI D.C.g (op.a+op.b+1)))
   have htk:=fun h2=>jcy hC hIR hm' hk h2
   have hmv:=fun h2 h3=>jbV (wr:=true) hC hIR hm' hk h2 h3
   have hsz:D.C.g.y (classI D.C.g (op.a+op.b+1))≤1048576:=by omega
   have hrm:=fun A (b3 b10 b11:Nat)=>jkx (w0:=w0) (fv:= .func (.func 181) #[] #[.pointer (some ⟨b11,0,none⟩), .pointer (some ⟨b3,0,none⟩)]) (G:=(b3,cells [.pointer (some ⟨D.b,0,none⟩)] 27)::(b10,cells [.int .i64 (D.C.g.y (classI D.C.g (op.a+op.b+1)):Nat)] 3)::(b11,cells [fitV b3 b10] 31)::A) (is:=fun s=>fitsB D.C.g (D.C.g.y (classI D.C.g (op.a+op.b+1))) s&&j5 s) hG hD hI h1 (by omega) (by omega) (fun nf nk y h h1=>CallV.clo (args:=[]) (cap:=[.pointer (some ⟨b11,0,none⟩), .pointer (some ⟨b3,0,none⟩)]) (alboth_K hD h1 hsz))
   change ∀ (A:jb) (b3 b10 b11:Nat),Call _ _ _ _ _ (fun r H'=>r= .tuple #[]∧HpQ D (nf+1) (0+200000000) (allocR D.C h (classI D.C.g (op.a+op.b+1))) _ H') at hrm
   obtain⟨k,hkk⟩: ∃ k,classI D.C.g (op.a+op.b+1)=k:=⟨_,rfl⟩
   simp only[hkk] at hrm hIR htk hmv hof hyk hkm hget hsz⊢
   obtain⟨R,hR⟩: ∃ R,allocR D.C h k=R:=⟨_,rfl⟩
   simp only[hR] at hrm hIR htk hmv⊢;clear hofp hR
   obtain⟨sz,hsz'⟩: ∃ sz,D.C.g.y k=sz:=⟨_,rfl⟩
   simp only[hsz'] at hrm hyk hget hsz htk hmv⊢
   have hft:=fun A (b3 b10:Nat) (y1:CyM) (h2:HpR D (nf+1) (0+200000000) y1 R)=>jkR (w0:=w0) (G:=A) (b3:=b3) (b10:=b10) hD h2 hsz
   have hfr:=fun A (y1:CyM) (h2:HpR D (nf+1) (0+200000000) y1 R)=>jfO (w0:=w0) (F:=A) h2
   have hklt:k<D.c.cl.length:=jx hget
   unfold HpQ at hrm;unfold fitV at hrm
   cases hb1:fitsB D.C.g sz R.s with
   |false=>
    rw[if_pos rfl];simp only[hb1] at hft;refine zij ?_;refine zaU ?_;intro b3 b4;refine zee ?_;intro b6;refine zI ?_;refine zeO ?_;refine zM ?_;refine zaH ?_;intro b7;refine zbx ?_;refine ze7 ?_;simp only[hpH_app];refine zbA ?_;refine z9 ?_;refine zb2 ?_;refine zaZ ?_;refine zB ?_;refine zo ?_;refine zjE ?_;refine za3 ?_;refine zaZ ?_;refine zO ?_;refine zdt ?_;refine zbU ?_;refine zkI ?_;refine zgm ?_;refine zg8 ?_;refine zgc ?_;refine zgc ?_;refine zih ?_;refine zii ?_;refine zb7 ?_;intro b10;refine zby ?_;refine zaf ?_;refine zbF ?_;refine zaD ?_;intro b11;refine zaw ?_;refine zp ?_;refine zaJ fun T hT=>?_;refine zkJ ?_;rintro _ _ ⟨rfl,y1,h2,rfl⟩;refine zd ?_;clear hT T;refine zdI ?_;refine za5 fun T hT=>?_;refine zkK ?_;rintro _ _ ⟨rfl,rfl⟩;refine zd ?_;clear hT T;refine zU ?_;refine zk ?_;refine zjV ?_;refine zcd ?_;exact zmb
   |true=>
    rw[if_neg (by decide)];simp only[hb1] at hft
    cases hb2:j5 R.s with
    |false=>
     rw[if_pos rfl];simp only[hb2] at hfr;refine zij ?_;refine zaU ?_;intro b3 b4;refine zee ?_;intro b6;refine zI ?_;refine zeO ?_;refine zM ?_;refine zaH ?_;intro b7;refine zbx ?_;refine ze7 ?_;simp only[hpH_app];refine zbA ?_;refine z9 ?_;refine zb2 ?_;refine zaZ ?_;refine zB ?_;refine zo ?_;refine zjE ?_;refine za3 ?_;refine zaZ ?_;refine zO ?_;refine zdt ?_;refine zbU ?_;refine zkI ?_;refine zgm ?_;refine zg8 ?_;refine zgc ?_;refine zgc ?_;refine zih ?_;refine zii ?_;refine zb7 ?_;intro b10;refine zby ?_;refine zaf ?_;refine zbF ?_;refine zaD ?_;intro b11;refine zaw ?_;refine zp ?_;refine zaJ fun T hT=>?_;refine zkJ ?_;rintro _ _ ⟨rfl,y1,h2,rfl⟩;refine zd ?_;clear hT T;refine zdI ?_;refine za5 fun T hT=>?_;refine zkK ?_;rintro _ _ ⟨rfl,rfl⟩;refine zd ?_;clear hT T;refine zE ?_;refine zau ?_;refine zV ?_;refine ji (hfr _ y1 h2) ja ?_;refine zU ?_;refine zk ?_;refine zjV ?_;refine zcd ?_;exact zmb
    |true=>
     rw[if_neg (by decide)];simp only[hb2] at hfr
     obtain⟨j,z,ht,_,hz,_,_,hmk2,hlk⟩:=htk hb1
     have hjl:j<D.C.g.slots:=by rw[←jbX];exact jx hz
     have hge: ∀ e∈R.s.W.T,1≤e.gen∧e.gen≤2147483648:=fun e he=>⟨(hIR.e e he).1,Int.le_trans (hIR.e e he).2 hgn.2⟩
     have hI4:=hIR.mv hC (hmv hb1 hb2)
     have hR4:({R with s:=mkC D.C.g R.s (k:Nat) ⟨(k:Nat),op.a,op.b⟩}:HpP)=al4 (al3 (al2 (al1 R (R.s.A.set j true)) (makeP R.s.W.x z ⟨(k:Nat),op.a,op.b⟩).2) j) j:=by
      unfold mkC;rw[ht];dsimp only;rw[jC hz,Int.toNat_natCast]
      rfl
     rw[hR4] at hI4⊢;rw[ht];dsimp only;rw[jC hz]
     have hAr:=fun A (y1:CyM) (h2:HpR D (nf+1) (0+200000000) y1 R)=>jeF (w0:=w0) (F:=A) h2
     have hTk:=fun A (y1:CyM) (h2:HpR D (nf+1) (0+200000000) y1 R)=>alTake_K (w0:=w0) (F:=A) hG h2 ht
     obtain⟨R1,hR1⟩: ∃ R1,al1 R (R.s.A.set j true)=R1:=⟨_,rfl⟩
     have hT1:R1.s.W=R.s.W:=by rw[←hR1];rfl
     rw[hR1] at hI4 hR4⊢;simp only[hR1] at hTk
     have hBd:=fun A (y1:CyM) (h2:HpR D (nf+1) (0+200000000) y1 R1)=>jd8 (w0:=w0) (F:=A) h2
     have hMk:=fun A (y1:CyM) (h2:HpR D (nf+1) (0+200000000) y1 R1)=>alMake_K (w0:=w0) (F:=A) (hd:=⟨(k:Nat),op.a,op.b⟩) hG h2 hz
     rw[hT1] at hMk
     obtain⟨R2,hR2⟩: ∃ R2,al2 R1 (makeP R.s.W.x z ⟨(k:Nat),op.a,op.b⟩).2=R2:=⟨_,rfl⟩
     have hT2:R2.s.W.T=R.s.W.T:=by rw[←hR2];show R1.s.W.T=_;rw [hT1]
     rw[hR2] at hI4 hR4⊢;simp only[hR2] at hMk
     have hBl:=fun A (y1:CyM) (h2:HpR D (nf+1) (0+200000000) y1 R2)=>alBlack_K (w0:=w0) (F:=A) h2 hjl
     obtain⟨R3,hR3⟩: ∃ R3,al3 R2 j=R3:=⟨_,rfl⟩
     have hT3:R3.s.W.T=R.s.W.T:=by rw[←hR3];exact hT2
     rw[hR3] at hI4 hR4⊢;simp only[hR3] at hBl
     have hMi:=fun A (y1:CyM) (h2:HpR D (nf+1) (0+200000000) y1 R3)=>alMint_K (w0:=w0) (F:=A) (T:=R.s.W.T) hD h2 hT3 hge hjl (freeB_some hb2)
     obtain⟨R4,hR4'⟩: ∃ R4,al4 R3 j=R4:=⟨_,rfl⟩
     rw[hR4'] at hI4⊢;simp only[hR4'] at hMi
     have hPc:=fun A (y1:CyM) (h2:HpR D (nf+1) (0+200000000) y1 R4)=>hppaced_K (w0:=w0) (F:=A) (n:=sz) hG hD hI4 h2 ⟨by omega,by omega⟩ (by omega) (by omega)
     have hPl:=fun A (y1:CyM) (h2:HpR D (nf+1+1) (0+200000000+200000000) y1 (jaS D.C sz R4))=>jcv (w0:=w0) (F:=A) h2
     have hAd:=fun A (y1:CyM) (h2:HpR D (nf+1+1) (0+200000000+200000000) y1 (jaS D.C sz R4))=>jdp (w0:=w0) (F:=A) h2 hz
     unfold HpQ at hPc;clear hR1 hR2 hR3 hR4 hR4' hI4 hIR hI hmv htk;refine zij ?_;refine zaU ?_;intro b3 b4;refine zee ?_;intro b6;refine zI ?_;refine zeO ?_;refine zM ?_;refine zaH ?_;intro b7;refine zbx ?_;refine ze7 ?_;simp only[hpH_app];refine zbA ?_;refine z9 ?_;refine zb2 ?_;refine zaZ ?_;refine zB ?_;refine zo ?_;refine zjE ?_;refine za3 ?_;refine zaZ ?_;refine zO ?_;refine zdt ?_;refine zbU ?_;refine zkI ?_;refine zgm ?_;refine zg8 ?_;refine zgc ?_;refine zgc ?_;refine zih ?_;refine zii ?_;refine zb7 ?_;intro b10;refine zby ?_;refine zaf ?_;refine zbF ?_;refine zaD ?_;intro b11;refine zaw ?_;refine zp ?_;refine zaJ fun T hT=>?_;refine zkJ ?_;rintro _ _ ⟨rfl,y1,h2,rfl⟩;refine zd ?_;clear hT T;refine zdI ?_;refine za5 fun T hT=>?_;refine zkK ?_;rintro _ _ ⟨rfl,rfl⟩;refine zd ?_;clear hT T;refine zE ?_;refine zau ?_;refine zV ?_;refine ji (hfr _ y1 h2) ja ?_;simp only[hpH_app];refine zE ?_;refine zdd ?_;refine zbG ?_;refine zar ?_
     (first|refine K.seq (K.drawn _ [(0,0),(1,0),(2,0),(3,0),(5,1),(6,1),(4,2),(7,4),(8,0),(9,0),(10,0),(11,0),(12,0)] (by kernel_rfl) (by kernel_rfl) (by kernel_rfl) (by kernel_rfl) (by kernel_rfl) (by kernel_rfl) Part.all ?_)|refine K.seq (K.seq (K.drawn _ [(0,0),(1,0),(2,0),(3,0),(5,1),(6,1),(4,2),(7,4),(8,0),(9,0),(10,0),(11,0),(12,0)] (by kernel_rfl) (by kernel_rfl) (by kernel_rfl) (by kernel_rfl) (by kernel_rfl) (by kernel_rfl) Part.all ?_))|refine K.drawn _ [(0,0),(1,0),(2,0),(3,0),(5,1),(6,1),(4,2),(7,4),(8,0),(9,0),(10,0),(11,0),(12,0)] (by kernel_rfl) (by kernel_rfl) (by kernel_rfl) (by kernel_rfl) (by kernel_rfl) (by kernel_rfl) Part.all ?_)
     refine zS ?_;refine zbd ?_;refine zgD ?_;refine zS ?_;refine zcU ?_;refine zl fun T hT=>?_;refine zkL ?_;rintro _ _ ⟨rfl,rfl⟩;refine zak ?_;clear hT T;refine zgE fun T hT=>?_;refine(CallV.part (CallV.fn (hTk _ y1 h2)) (by first|exact ja|(simp only[hpH_app];exact ja))).mono ?_;rintro _ _ ⟨rfl,y2,h3,rfl⟩;refine zg ?_;clear hT T;refine zdp ?_;simp only[hpH_app];refine zbG ?_;refine zar ?_
     (first|refine K.seq (K.drawn _ [(0,0),(1,0),(2,0),(3,0),(5,1),(6,1),(4,2),(7,4)] (by kernel_rfl) (by kernel_rfl) (by kernel_rfl) (by kernel_rfl) (by kernel_rfl) (by kernel_rfl) Part.all ?_)|refine K.seq (K.seq (K.drawn _ [(0,0),(1,0),(2,0),(3,0),(5,1),(6,1),(4,2),(7,4)] (by kernel_rfl) (by kernel_rfl) (by kernel_rfl) (by kernel_rfl) (by kernel_rfl) (by kernel_rfl) Part.all ?_))|refine K.drawn _ [(0,0),(1,0),(2,0),(3,0),(5,1),(6,1),(4,2),(7,4)] (by kernel_rfl) (by kernel_rfl) (by kernel_rfl) (by kernel_rfl) (by kernel_rfl) (by kernel_rfl) Part.all ?_)
     refine zS ?_;refine zbd ?_;refine zgD ?_;refine zS ?_;refine zH ?_;refine zfc ?_;refine zl fun T hT=>?_;refine(CallV.part (CallV.fn (hBd _ y2 h3)) (by first|exact ja|(simp only[hpH_app];exact ja))).mono ?_;rintro _ _ ⟨rfl,rfl⟩;refine zak ?_;clear hT T;refine zgE fun T hT=>?_;refine(CallV.part (CallV.fn (hMk _ y2 h3)) (by first|exact ja|(simp only[hpH_app];exact ja))).mono ?_;rintro _ _ ⟨rfl,y3,h4,rfl⟩;refine zg ?_;clear hT T;refine zD ?_;simp only[hpH_app];refine zaf ?_;refine zb2 ?_;refine za2 ?_;refine zb6 fun T hT=>?_;refine(CallV.part (CallV.fn (hBl _ y3 h4)) (by first|exact ja|(simp only[hpH_app];exact ja))).mono ?_;rintro _ _ ⟨rfl,y4,h5,rfl⟩;refine zd ?_;clear hT T;refine zW ?_;refine zdu ?_;refine j4 (hMi _ y4 h5) ja ?_;rintro _ _ ⟨rfl,y5,h6,rfl⟩;refine zu ?_;refine zp ?_;refine zV ?_;refine j4 (hPc _ y5 h6) ja ?_;rintro _ _ ⟨rfl,y6,h7,rfl⟩;simp only[hpH_app];refine zW ?_;refine zb2 ?_;refine za2 ?_;refine za5 fun T hT=>?_;refine(CallV.part (CallV.fn (hPl _ y6 h7)) (by first|exact ja|(simp only[hpH_app];exact ja))).mono ?_;rintro _ _ ⟨rfl,rfl⟩;refine zd ?_;clear hT T;refine zx fun T hT=>?_;refine(CallV.part (CallV.fn (hAd _ y6 h7)) (by first|exact ja|(simp only[hpH_app];exact ja))).mono ?_;rintro _ _ ⟨rfl,rfl⟩;refine zd ?_;clear hT T;refine zQ ?_;refine zm ?_;refine zfz ?_;exact KE.fin je rfl jd (by first|exact ja|(simp only[hpH_app];exact ja)) ⟨rfl,y6,h7,rfl⟩
end
open Go.RowKit
set_option maxRecDepth 10000
section
variable {w0 : World} {F : jb} {c : Cfg} {vc vt : Value} {t : Nat} {m : Js} {x : Tn}
theorem setSelf {α:Type} {l:List α} {v:α} {t:Nat} (h:l[t]?=some v):l.set t v=l:=by
 apply List.ext_getElem?
 intro i
 by_cases e:t=i
 ·subst e;rw [List.getElem?_set_self (jx h),h]
 ·rw[List.getElem?_set_ne e]
theorem pcNew_K {tr ast:Nat} {q p:Int} (h1:1≤tr∧tr≤1048576) (h2:ast≤1024):Call Tryz.prog w0 69 [.agg [.int .i64 q, .int .i64 (tr:Nat), .int .i64 p, .int .i64 (ast:Nat)].toArray] F (fun r H'=> ∃ b,r= .tuple [.pointer (some ⟨b,0,none⟩), .int .i64 0].toArray∧H'=paceH ⟨b,tr,ast,⟨0,0,0,0,false⟩⟩++F):=by
 have e1: ¬((tr:Nat):Int)<1:=by omega
 have e2: ¬((tr:Nat):Int)>1048576:=by omega
 have e3: ¬((ast:Nat):Int)<0:=by omega
 have e4: ¬((ast:Nat):Int)>1024:=by omega
 refine Call.enter1 (n:=28) (by kernel_rfl) Tryz.func69 rfl rfl rfl ?_;refine zcj ?_;intro b1;refine zF ?_;refine zT ?_;refine zL ?_;refine zbh ?_;refine zfi ?_;refine zL ?_;refine zd9 ?_;refine zT ?_;refine zC ?_;refine zL ?_;refine zd9 ?_;refine zfi ?_;refine zz ?_;refine zF ?_;refine zeO ?_;refine zei ?_;intro b27;refine zaI ?_;exact KE.fin je rfl jd ja ⟨_,rfl,rfl⟩
def hC0 (c:Cfg) (t:Nat) (x:Tn):HpC:=⟨gOf c (t:Nat),c.grey.toNat,c.workers.toNat,c.gens,t,x.trigger.toNat,x.assist.toNat,x.caps.toNat⟩
theorem hC0_ok (hc:jX c=true) (hx:c.tn[t]?=some x):jk (hC0 c t x):=by
 have hcfg:=ja2 hc
 obtain⟨t1,t2,t3,t4⟩:=hcfg.ten x (List.mem_of_getElem? hx)
 have htl:=jx hx
 have ht:j9 c t 0=true:=jb4 (i:=t) (j:=0) hc htl (by have:=hcfg.cl;omega)
 have h1:=hcfg.workers
 have h2:=hcfg.grey
 have h3:=hcfg.tn
 exact⟨(g_at ht).ok,by show 1≤c.grey.toNat;omega,by show c.workers.toNat≤8;omega,hcfg.gens,by show t<8;omega,by show 1≤x.trigger.toNat∧x.trigger.toNat≤1048576;omega,by show x.assist.toNat≤1024;omega,by show 1≤x.caps.toNat∧x.caps.toNat≤1024;omega⟩
theorem gOf_q (hc:jX c=true) (hx:c.tn[t]?=some x):x.quota=((gOf c (t:Nat)).q:Nat):=by
 have hcfg:=ja2 hc
 obtain⟨t1,t2,t3,t4⟩:=hcfg.ten x (List.mem_of_getElem? hx)
 obtain⟨y0,hy0⟩:=jA (l:=c.cl) (k:=0) (by have:=hcfg.cl;omega)
 have:=hcfg.el y0 (List.mem_of_getElem? hy0)
 show x.quota=(((jbf c ((t:Nat):Int)).toNat:Nat):Int)
 have hq:jbf c ((t:Nat):Int)=x.quota:=by simp[jbf,hx]
 rw[hq]
 omega
def hD0 (c:Cfg) (t:Nat) (x:Tn) (R0:List (List Int)) (mb b qb:Nat) (y:CyM) (oc ot:Own):HpD:=⟨hC0 c t x,c,oc,ot,R0,b,y.b,qb,mb,y.B.b,y.T.b,y.a.b,y.N.b,y.B.p.b⟩
set_option maxHeartbeats 1000000 in
theorem hpNew_K (hG:js w0) (hR:Jo w0 F c vc vt) (hc:jX c=true) (hx:c.tn[t]?=some x) (okm:jau m) (hm:m.R[t]?=some (List.replicate (gOf c t).words 0)):
  Call Tryz.prog w0 37 [jw c vc vt, .int .i64 (t:Nat), .pointer (some ⟨m.b,0,none⟩)] (jv m++F)
   (fun r H'=> ∃ D y,HpDok D∧HpR D 1 0 y (newH D.C)∧D.c=c∧D.C=hC0 c t x∧D.R0=m.R∧D.mb=m.b∧r= .tuple [.pointer (some ⟨D.b,0,none⟩), .int .i64 0].toArray∧H'=hpH D y (newH D.C)++F):=by
 have hcfg:=ja2 hc
 have hCk:=hC0_ok hc hx
 have hq:=gOf_q hc hx
 have hwk:=hcfg.workers
 obtain⟨t1,t2,t3,t4⟩:=hcfg.ten x (List.mem_of_getElem? hx)
 have hcl8:=hcfg.cl
 have htn8:=hcfg.tn
 have hlt:=jx hx
 have hcn:=fun A (hp:Part A F)=>cyNew_K (F:=A) (t:=t) hG (hR.part hp) hc hx okm hm
 have hOw:=fun A (hp:Part A F)=>Own_K (hR.part hp) (by omega) (by omega)
 have hfin: ∀ (b qb:Nat) (y:CyM) (oc ot:Own),CyNew (gOf c (t:Nat)) c.grey.toNat x.caps.toNat c.workers.toNat c.gens t m y→oOk iE c.cl oc→oOk tnE c.tn ot→HpDok (hD0 c t x m.R m.b b qb y oc ot)∧HpR (hD0 c t x m.R m.b b qb y oc ot) 1 0 y (newH (hC0 c t x)):=fun b qb y oc ot hy k1 k2=>by
  refine⟨⟨hCk,hc,rfl,⟨x,hx,hq⟩,k1,k2,by show c.workers=((c.workers.toNat:Nat):Int);omega⟩,⟨hy.R,rfl,by rw[hy.m];rfl,rfl,rfl,rfl,rfl,rfl,hy.nw,hy.G,by rw[hy.f];exact Nat.le_refl 1,hy.t,?_,⟨Nat.zero_le _,Nat.zero_le _,Nat.zero_le _,Nat.zero_le _⟩,Nat.le_refl 0⟩⟩;rw[hy.m];exact(setSelf hm).symm
 obtain⟨tr,htr⟩: ∃ tr:Nat,x.trigger=tr:=⟨x.trigger.toNat,by omega⟩
 obtain⟨ast,has⟩: ∃ ast:Nat,x.assist=ast:=⟨x.assist.toNat,by omega⟩
 have hpc:=fun A (q p:Int)=>pcNew_K (w0:=w0) (F:=A) (tr:=tr) (ast:=ast) (q:=q) (p:=p) (by omega) (by omega)
 have hxc:x=⟨x.quota,(tr:Nat),x.caps,(ast:Nat)⟩:=by rw[←htr,←has]
 have hH: ∀ (b qb:Nat) (y:CyM) (oc ot:Own),hpH (hD0 c t x m.R m.b b qb y oc ot) y (newH (hC0 c t x))++F=(b,cells [oV oc c.cl.length, .int .i64 c.page,oV ot c.tn.length, .int .i64 c.workers, .int .i64 c.grey, .int .i64 c.gens, .int .i64 (t:Nat), .pointer (some ⟨y.b,0,none⟩), .pointer (some ⟨qb,0,none⟩), .int .i64 0] 84)::(paceH ⟨qb,tr,ast,⟨0,0,0,0,false⟩⟩++(oH iE 3 c.cl oc++(oH tnE 57 c.tn ot++(cycH y++F)))):=fun b qb y oc ot=>by
  have e1:x.trigger.toNat=tr:=by omega
  have e2:x.assist.toNat=ast:=by omega
  rw[hpH_app,←e1,←e2]
  rfl
 obtain⟨hS,hT',o1,o2,l1,l2⟩:=hR
 have hx':c.tn[((t:Nat):Int).toNat]?=some ⟨x.quota,(tr:Nat),x.caps,(ast:Nat)⟩:=by rw[←hxc];exact hx
 unfold jw jT at hcn hOw⊢;refine zkM ?_;refine zeh ?_;intro b3;refine zcG ?_;refine j4 (hcn ((b3,cells [vc, .int .i64 c.page,vt, .int .i64 c.workers, .int .i64 c.grey, .int .i64 c.gens] 25)::F) ja) ja ?_;rintro _ _ ⟨y,hy,rfl,rfl⟩;refine zbA ?_;refine zz ?_;refine zI ?_;refine zcP ?_;refine ze5 ?_;refine zn ?_;refine jat (hpc _ _ _) ?_;rintro _ _ ⟨qb,rfl,rfl⟩;refine zQ ?_;refine zbx ?_;refine jat (hOw _ ja) ?_;rintro _ _ ⟨oc,ot,k1,k2,rfl,rfl⟩;refine zm ?_;refine zco ?_;refine zbR ?_;intro b36;refine zbl ?_;exact KE.fin je rfl jd ja ⟨_,y,(hfin b36 qb y oc ot hy k1 k2).1,(hfin b36 qb y oc ot hy k1 k2).2,rfl,rfl,rfl,rfl,rfl,(hH b36 qb y oc ot).symm⟩
end
set_option maxRecDepth 10000
def JM (T:List jh):List Nat:=T.filterMap fun e=>if e.st=1 then some e.slot.toNat else none
theorem jdW (e:jh) (T:List jh):JM (e::T)=if e.st=1 then e.slot.toNat::JM T else JM T:=by
 grind[JM]
theorem jhb {T:List jh} {t:Nat}:t∈JM T↔ ∃ (k:Nat) (e:jh),T[k]?=some e∧e.st=1∧e.slot.toNat=t:=by
 unfold JM;rw[List.mem_filterMap]
 constructor
 ·rintro⟨e,he,h⟩
  obtain⟨k,hk⟩:=List.getElem?_of_mem he
  grind
 grind
theorem jlu {e:jh} {T:List jh}:slotT (e::T) ((0:Nat):Int)=if e.st=1 then some e.slot else none:=rfl
theorem jlt {e:jh} {T:List jh} {k:Nat}:slotT (e::T) ((k+1:Nat):Int)=slotT T ((k:Nat):Int):=by
 rfl
theorem jjA: ∀ {T T':List jh},T'.length=T.length→(∀ k:Nat,slotT T' (k:Nat)=slotT T (k:Nat))→JM T'=JM T
 | [],[],_,_=>rfl
 | [],_::_,h,_=>by grind
 |_::_,[],h,_=>by grind
 |e::T,e'::T',hl,hk=>by
  have ih:=jjA (T:=T) (T':=T') (by grind) fun k=>by
   have:=hk (k+1)
   grind[jlt]
  grind[jlu,jdW,h1,h2]
theorem jgS: ∀ {l:List jg} {A:List Bool},(∀ t:Nat,A[t]?≠some true)→usedL l A=0
 | [],A,_=>by rfl
 |p::l,[],_=>by rfl
 |p::l,b::A,h=>by
  have h0:=h 0
  have ih:=jgS (l:=l) (A:=A) fun t ht=>h (t+1) (by grind)
  grind[usedL]
theorem jk3 {l:List jg} {z:Nat}: ∀ {S:List Nat} {A:List Bool},S.Nodup→(∀ t:Nat,A[t]?=some true↔t∈S)→(∀ t∈S,∃ y,l[t]?=some y∧y.size=z)→usedL l A=S.length*z
 | [],A,_,h,_=>by grind[jgS]
 |t::S,A,hn,h,hz=>by
  obtain⟨y,h2,h3⟩:=hz t (.head _)
  have h1:=(h t).2 (.head _)
  have hl:=jx h1
  have hs:=jdn (A:=A) false h2 hl
  rw[List.nodup_cons] at hn
  have ih:=jk3 (l:=l) (z:=z) (S:=S) (A:=A.set t false) hn.2 (fun q=>by
   grind) fun q hq=>hz q (.tail _ hq)
  grind
section
variable {C : HpC} {wr : Bool} {h h' : HpP} {s s' : CyP} {n z : Nat}
structure DqI (C:HpC) (z n:Nat) (h:HpP):Prop where
 I:HeI C h
 u:UsI C h
 N: ∀ v∈h.s.W.N,v=0
 nd:(JM h.s.W.T).Nodup
 n:(JM h.s.W.T).length=n
 o: ∀ t∈JM h.s.W.T,∃ y,C.g.L[t]?=some y∧y.size=z∧ ∀ i,refO C.g h.s.W.x (t:Nat) i=none
theorem jfM (hI:HeI C h) {t:Nat} (ht:t∈JM h.s.W.T):RchM C.g h.s.W t:=by
 obtain⟨k,e,h1,h2,h3⟩:=jhb.1 ht
 have hk:=jx h1
 have hs:=hI.ok.w.t e (List.mem_of_getElem? h1) h2
 refine .root (r:=k) (by omega) ?_
 grind[jP]
theorem DqI.live (d:DqI C z n h) {t:Nat} (ht:RchM C.g h.s.W t):t∈JM h.s.W.T:=by
 induction ht with
 | @root r s a b=>
  unfold jP at b
  cases hT:h.s.W.T[r]? with
  |some e=>
   grind[h1,jhb]
  |none=>
   rw[hT] at b;dsimp only at b
   split at b
   ·rename_i h1
    cases hN:h.s.W.N[r-h.s.W.T.length]? with
    |none=>grind
    |some v=>rw [hN,d.N v (List.mem_of_getElem? hN)] at h1;grind
   grind
 | @edge a b i h1 h2 ih=>
  obtain⟨y,_,_,h3⟩:=d.o _ ih
  grind
theorem DqI.next (hC:jk C) (d:DqI C z n h) (hW:jaA C.g h.s h'.s) (m:j8 C true h h'):DqI C z n h':=by
 have hI':=d.I.mvs hC m
 have hl:JM h'.s.W.T=JM h.s.W.T:=jjA (hI'.n.trans d.I.n.symm) fun k=>hW.t k
 refine⟨hI',d.u.mvs hC d.I m,by rw[hW.N];exact d.N,by rw[hl];exact d.nd,by rw[hl];exact d.n,fun t ht=>?_⟩;rw[hl] at ht
 obtain⟨y,h1,h2,h3⟩:=d.o t ht
 exact⟨y,h1,h2,fun i=>by rw[jbA hC.g (hW.w t (jfM d.I ht))];grind⟩
theorem recy_no2 {T:List jh} {gn:Int}:cntP 2 (Ji gn T)=0:=by
 grind[cntP,Ji,jaz]
theorem DqI.whole (hC:jk C) (d:DqI C z n h) (h0:h.s.ph=0):DqI C z n (jas C (jaE C h))∧usedL C.g.L (jas C (jaE C h)).s.A=n*z∧cntP 2 (jas C (jaE C h)).s.W.T=0:=by
 have mB:HpMv C true h (jaE C h):= .begin h0
 have hIB:=d.I.mv hC mB
 have hph:(jaE C h).s.ph≠0:=show(1:Nat)≠0 by decide
 have hW:jaA C.g h.s (jas C (jaE C h)).s:=jir.trans (end_W hC hIB hph)
 have d2:=d.next hC hW ((HpMv.one mB).trans (jeh hC hIB hph))
 obtain⟨_,_,w3,_⟩:=whole_ok hC.g hC.long d.I.ok h0 (d.I.t0 h0) C.gn
 have w3': ∀ t:Nat,(jas C (jaE C h)).s.A[t]?=some true↔RchM C.g h.s.W t:=w3
 refine⟨d2,?_,recy_no2⟩;rw[←d.n]
 refine jk3 d.nd (fun t=>(w3' t).trans ⟨d.live,jfM d.I⟩) fun t ht=>?_
 obtain⟨y,h1,h2,_⟩:=d.o t ht
 grind
end
open Go.RowKit
set_option maxRecDepth 10000
def jbg (T T':List jh):Prop:= ∀ (k:Nat) (e:jh),T'[k]?=some e→e.st=1→T[k]?=some e
def LvT (tn:Nat) (told:List Nat) (T:List jh):Prop:= ∀ (k:Nat) (e:jh),T[k]?=some e→e.st=1→capW tn k e.gen.toNat∈told
theorem jbg.refl {T:List jh}:jbg T T:=fun _ _ h _=>h
theorem jbg.trans {T T' T'':List jh} (a:jbg T T') (b:jbg T' T''):jbg T T'':=fun k e h h1=>a k e (b k e h h1) h1
theorem LvT.le {tn:Nat} {told:List Nat} {T T':List jh} (h:LvT tn told T) (l:jbg T T'):LvT tn told T':=fun k e h1 h2=>h k e (l k e h1 h2) h2
theorem LvT.more {tn:Nat} {told more:List Nat} {T:List jh} (h:LvT tn told T):LvT tn (told++more) T:=fun k e h1 h2=>List.mem_append_left _ (h k e h1 h2)
theorem jkn {T:List jh} {k:Nat} {e:jh} (h:T[k]?=some e) (h1:e.st=1):namedT T (k:Nat) e.gen=some e:=by
 grind[namedT]
theorem named_get {T:List jh} {k:Nat} {n:Int} {e:jh} (h:namedT T (k:Nat) n=some e):T[k]?=some e∧e.st=1∧e.gen=n:=by
 grind[namedT]
section
variable {C : HpC} {wr : Bool} {h h' : HpP} {s s' : CyP} {n : Nat} {told : List Nat}
theorem jaA.lv {g:PlG} (hW:jaA g s s'):jbg s.W.T s'.W.T:=fun k e h1 h2=>by
 have:=jkn h1 h2
 rw[hW.nm] at this
 grind[named_get]
theorem drop_lv {T:List jh} {k:Int}:jbg T (Jm T k):=fun i e h1 h2=>by
 grind[drop_at,h1]
theorem mint_lv {T:List jh} {tn:Nat} {t:Int} (h:LvT tn told T) (hf:(Ju T).isSome=true) (hg: ∀ e∈T,1≤e.gen∧e.gen≤2147483648):LvT tn (told++ [JG tn T]) (jK T t):=fun k e h1 h2=>by
 obtain⟨i,hi⟩:=Option.isSome_iff_exists.1 hf
 obtain⟨⟨e0,g1,g2⟩,_⟩:=ja7 hi
 unfold jK at h1;rw[hi] at h1;dsimp only at h1
 by_cases c:k=i
 ·subst c;rw[List.getElem?_set_self (jx g1)] at h1
  cases h1
  refine List.mem_append_right _ (List.mem_singleton.2 ?_);unfold JG jar;rw[hi];dsimp only;rw[Int.toNat_natCast]
 ·rw[List.getElem?_set_ne (by omega)] at h1;exact List.mem_append_left _ (h k e h1 h2)
def jbT (told:List Nat) (w:Nat):List Nat:=if w=0 then told else told++ [w]
theorem alloc_lv (hC:jk C) (hI:HeI C h) {a b:Int} (hl:LvT C.tn told h.s.W.T):LvT C.tn (jbT told (if (jE C h a b).1.e=0 then(jE C h a b).1.h else 0)) (jE C h a b).2.s.W.T∧(jE C h a b).2.s.W.N=h.s.W.N:=by
 unfold jE
 split
 ·exact⟨hl,rfl⟩
 ·rename_i hm
  split
  ·exact⟨hl,rfl⟩
  ·rename_i hk
   dsimp only
   have m1:=jb3 (wr:=true) hC hI (k:=classI C.g (a+b+1))
   have hI1:=hI.mvs hC m1
   have hW:=jfT hC hI (k:=classI C.g (a+b+1))
   revert hI1 hW
   generalize allocR C h (classI C.g (a+b+1))=h1
   intro hI1 hW
   split
   ·exact⟨hl.le hW.lv,hW.N⟩
   ·split
    ·exact⟨hl.le hW.lv,hW.N⟩
    ·rename_i h2 h3
     have m2:HpMv C true h1 _:=jbV hC hI1 (not_false' hm) hk (not_false' h2) (not_false' h3)
     have hI2:=hI1.mv hC m2
     have hw:=jcU (n:=C.g.y (classI C.g (a+b+1))) hC hI2
     have hn:=(jg8 (t:=0) (tn:=C.tn) (hI1.T1024 hC) (hI1.gens hC) (freeB_some (not_false' h3))).2
     refine⟨?_,hw.N.trans hW.N⟩
     show LvT C.tn (jbT told (if (0:Int)=0 then JG C.tn h1.s.W.T else 0)) _
     rw[if_pos rfl];unfold jbT;rw[if_neg hn];exact(mint_lv (hl.le hW.lv) (freeB_some (not_false' h3)) (hI1.gens hC)).le hw.lv
theorem read_lv (hC:jk C) (hI:HeI C h) {sl a:Int} (hl:LvT C.tn told h.s.W.T):LvT C.tn (jbT told (if (JF C h sl a).1.e=0 then(JF C h sl a).1.h else 0)) (JF C h sl a).2.s.W.T∧(JF C h sl a).2.s.W.N=h.s.W.N:=by
 unfold JF;dsimp only
 split
 ·rename_i c
  refine⟨?_,rfl⟩
  show LvT C.tn (jbT told (if _=0 then 0 else 0)) _
  rw[ite_self];exact hl
 ·split
  ·exact⟨hl,rfl⟩
  ·split
   ·exact⟨hl,rfl⟩
   ·have hI1:=hI.mvs hC (jcS (wr:=true) hC hI (is:=j5))
    have hW:=jdH hC hI (is:=j5)
    split
    ·exact⟨hl.le hW.lv,hW.N⟩
    ·rename_i h4
     have hn:=(jg8 (t:=0) (tn:=C.tn) (hI1.T1024 hC) (hI1.gens hC) (freeB_some (not_false' h4))).2
     constructor
     ·show LvT C.tn (jbT told (if (0:Int)=0 then JG C.tn _ else 0)) (jK (shdC C.g C.long _ _).W.T _)
      rw[if_pos rfl,Jh];unfold jbT;rw[if_neg hn];exact mint_lv (hl.le hW.lv) (freeB_some (not_false' h4)) (hI1.gens hC)
     ·show(shdC C.g C.long _ _).W.N=_
      rw[Jh];exact hW.N
theorem jlN {N:List Int} (h: ∀ v∈N,v=0) {t:Nat}:J0 N t=N:=by
 unfold J0
 cases hN:N[t]? with
 |none=>simp
 |some v=>rw [h v (List.mem_of_getElem? hN)];simp
theorem do_lv (hC:jk C) (hI:HeI C h) {op:OpP} (hc:op.c≠4) (hN: ∀ v∈h.s.W.N,v=0) (hl:LvT C.tn told h.s.W.T):LvT C.tn (jbT told (hpDo C h op).1.h) (hpDo C h op).2.s.W.T∧ ∀ v∈(hpDo C h op).2.s.W.N,v=0:=by
 suffices hs:LvT C.tn (jbT told (if (jt C {h with wk:=0} op).1.e=0 then(jt C {h with wk:=0} op).1.h else 0)) (jt C {h with wk:=0} op).2.s.W.T∧(jt C {h with wk:=0} op).2.s.W.N=h.s.W.N by
  rw[do_h];exact⟨hs.1,by show ∀ v∈(jt C {h with wk:=0} op).2.s.W.N,v=0;rw [hs.2];exact hN⟩
 have same: ∀ {q:SnP} {T':List jh},q.h=0→jbg h.s.W.T T'→LvT C.tn (jbT told (if q.e=0 then q.h else 0)) T':=fun hq l=>by
  rw[hq,ite_self];exact hl.le l
 unfold jt
 split
 ·exact zhl
 ·split
  ·exact alloc_lv (h:={h with wk:=0}) hC hI.wk0 hl
  ·cases hs:hpSlot C.tn h.s.W.T op.h with
   |none=>exact⟨same rfl .refl,rfl⟩
   |some sl=>
    dsimp only;unfold hpOp
    split
    ·exact read_lv (h:={h with wk:=0}) hC hI.wk0 hl
    ·split
     ·unfold JZ;dsimp only
      split
      ·exact zhl
      ·split
       ·exact zhl
       ·split
        ·exact zhl
        ·refine⟨same rfl ?_,?_⟩
         ·show jbg _ (jM C.g C.long (jM C.g C.long h.s _) _).W.T
          rw[jb6,jb6];exact .refl
         ·show(jM C.g C.long (jM C.g C.long h.s _) _).W.N=_
          rw[jb6,jb6]
     ·split
      ·unfold jbj
       split
       ·exact zhl
       ·refine⟨same rfl ?_,?_⟩
        ·show jbg _ (shdC C.g C.long h.s _).W.T
         rw[Jh];exact .refl
        ·show J0 (shdC C.g C.long h.s _).W.N _=_
         rw[Jh,jlN hN]
      ·split
       ·refine⟨same rfl ?_,?_⟩
        ·change jbg h.s.W.T (Jm (shdC C.g C.long h.s sl).W.T (capI op.h:Nat))
         rw[Jh];exact drop_lv
        ·change (shdC C.g C.long h.s sl).W.N=h.s.W.N
         rw[Jh]
       ·exact zhl
theorem drop_told (hC:jk C) (hI:HeI C h) {w:Nat} {rest:List Nat} (hl:LvT C.tn (w::rest) h.s.W.T):LvT C.tn rest (hpDo C h ⟨6,w,0,0,0⟩).2.s.W.T:=fun k e h1 h2=>by
 have hI':HeI C (hpDo C h ⟨6,w,0,0,0⟩).2:=hI.mvs hC (jdN (wr:=true) hC hI (show(0:Nat)<18446744073709551616 by decide) fun _=>rfl)
 have e1:hpDo C h ⟨6,w,0,0,0⟩=hpDo C h ⟨6,w,0,0,0⟩:=rfl
 have hT:(hpDo C h ⟨6,w,0,0,0⟩).2.s.W.T=match hpSlot C.tn h.s.W.T w with
  |none=>h.s.W.T
  |some _=>Jm h.s.W.T (capI w:Nat):=by
  show(jt C {h with wk:=0} ⟨6,w,0,0,0⟩).2.s.W.T=_
  unfold jt
  cases hs:hpSlot C.tn h.s.W.T w with
  |none=>rfl
  |some sl=>
   change Jm (shdC C.g C.long h.s sl).W.T (capI w:Nat)=Jm h.s.W.T (capI w:Nat)
   rw[Jh]
 rw[hT] at h1
 have hlv:h.s.W.T[k]?=some e:=by
  cases hs:hpSlot C.tn h.s.W.T w with
  |none=>grind
  |some sl=>rw [hs] at h1;exact drop_lv k e h1 h2
 rcases List.mem_cons.1 (hl k e hlv h2) with c|c
 ·have hn:=hI.n
  have hcaps:=hC.caps.2
  have hge:=hI.e e (List.mem_of_getElem? hlv)
  have hgn:=hC.gn
  grind[capI,capG,capT,hpSlot,Jm,jem,jen,jgr,jkn,h2,h1]
 omega
theorem LvT.nil {tn:Nat} {T:List jh} (h:LvT tn [] T):JM T=[]:=by
 rw[List.eq_nil_iff_forall_not_mem];intro t ht
 obtain⟨k,e,h1,h2,_⟩:=jhb.1 ht
 exact absurd (h k e h1 h2) (by simp)
theorem jbg.stp (hC:jk C) (hI:HeI C h) {k u:Int}:(jay C h k u).2.s.W.T=h.s.W.T∧(jay C h k u).2.s.W.N=h.s.W.N:=by
 unfold jay
 split
 ·cases hs:stepC C.g C.long C.nw h.s k u with
  |none=>grind
  |some s'=>
   have h0:h.s.ph≠0:=fun e=>by grind[jed]
   obtain⟨S0,A0,hi⟩:=hI.i1 h0
   have hw:=jgh hC.g hI.ok hi hs
   exact⟨hw.T,hw.N⟩
 grind
end
end Go.Proofs.YtpcgafhgfjlkmaaGreatDoor.Sw
