/-The walker and the contracts that the law needs,part 33. -/
import Derived.Test.YtldomapkmopomaaGreatDoorD1
import Derived.ArgAppend
import Derived.ChangeMaps5
import Derived.Deep.Fields
import Derived.Deep.LoopGhost
import Derived.Deep.OwnRows
import Derived.Deep.Quiet
import Derived.Deep.Slices
import Derived.IntWalk
import Derived.Laws.Cells
import Derived.Laws.CopyOwn
import Derived.Laws.Externs
import Derived.Laws.FloatArith
import Derived.Laws.IdiomStrings
import Derived.Laws.NewFold
import Derived.Laws.StructEq
import Derived.Lib.BitFns
import Derived.Lib.Hide
import Derived.Lib.SmallJoins
import Derived.Lib.TrailingZeros
import Derived.Maps.RangeRun
import Derived.OrdersIn
import Derived.ProofKit
import Derived.RangeFuncBound
import Derived.RangeFuncCalls
import Derived.RangeFuncLeaves
import Derived.RangeFuncNested
import Derived.RecoverIn
import Derived.Shelf.Bits.Mul64
import Derived.Shelf.Slices.Turned
import Derived.Shelf.Spec.TrailingZeros
import Derived.Shelf.Strconv.Itoa0
import Derived.SizedLaws
import Derived.Sort.BigQuietIn
import Derived.StillTailTactics
import Derived.Test.YtldomapkmopomaaGreatDoorProg
import Derived.WalkKit
import Derived.Test.YtldomapkmopomaaGreatDoorJ31
import Derived.Test.YtldomapkmopomaaGreatDoorJ32
set_option linter.unusedVariables false set_option linter.unusedSimpArgs false namespace Go.Proofs.YtldomapkmopomaaGreatDoor.Sw
set_option maxHeartbeats 8000000
open Go.Proofs.YtldomapkmopomaaGreatDoor renaming lo → qL, hi → qH
open Go.RowKit
set_option linter.unusedVariables false
set_option linter.unusedSimpArgs false
set_option maxRecDepth 10000
def smallP (c:Cfg):Bool:=decide (c.cl.length≤50)&&decide (c.tn.length≤50)
theorem Small_K {w0:World} {H:jb} {c:Cfg} {vc vt:Value} (hR:j1 w0 H c vc vt):
  Call Tryz.prog w0 14 [jt c vc vt] H (fun r H'=>r= .bool (smallP c)∧H'=H):=by
 obtain⟨hS,hT',o1,o2,l1,l2⟩:=hR
 obtain⟨cl,page,tn,workers,grey,gens⟩:=c
 dsimp only at hS hT' l1 l2;simp only[jt,jJ]
 have hd:smallP ⟨cl,page,tn,workers,grey,gens⟩=(decide (cl.length≤50)&&decide (tn.length≤50)):=rfl
 refine Call.enter1 (n:=13) (by kernel_rfl) Tryz.func14 rfl rfl rfl ?_
 by_cases h1:cl.length≤50
 ·by_cases h2:tn.length≤50
  ·have he:smallP ⟨cl,page,tn,workers,grey,gens⟩=true:=by rw[hd,decide_eq_true h1,decide_eq_true h2];rfl
   refine yr2 ?_;refine ze ?_;intro b1;refine yr23 ?_;exact zaM
  ·have he:smallP ⟨cl,page,tn,workers,grey,gens⟩=false:=by rw[hd,decide_eq_true h1,decide_eq_false h2];rfl
   refine yr2 ?_;refine ze ?_;intro b1;refine yr23 ?_;exact zaM
 ·have he:smallP ⟨cl,page,tn,workers,grey,gens⟩=false:=by rw[hd,decide_eq_false h1];rfl
  refine yr2 ?_;refine ze ?_;intro b1;refine yr19 ?_;exact zaM
set_option maxRecDepth 10000
theorem bNew_K {w0:World} {F:jb} {m:Jk} {t:Nat} {p:jO} {x:List Int} (okm:JZ m) (hr:m.R[t]?=some x) (ok:J2 p) (hn:x.length=p.g.words) (hw:Jx x):
  Call Tryz.prog w0 57 [.pointer (some ⟨m.b,0,none⟩), .int .i64 (t:Nat), .pointer (some ⟨p.b,0,none⟩)] (jx m++(planH p++F)) (fun r H'=> ∃ B:BoM,jaq B x∧B.m=m∧B.t=t∧B.p=p∧r= .tuple [.pointer (some ⟨B.b,0,none⟩), .int .i64 0].toArray∧H'=jX B++(jx m++(planH p++F))):=by
 have hs:=ok.g.slots
 have hne: ¬((p.g.slots:Nat):Int)=0:=by omega
 have hne2: ¬((x.length:Nat):Int)≠(p.g.words:Nat):=by omega
 refine Call.enter3 (n:=39) (by kernel_rfl) Tryz.func57 rfl rfl rfl ?_;refine yq10 fun T hT=>?_;refine(CallV.part (CallV.fn (Words_K okm hr)) ja).mono ?_;rintro _ _ ⟨o,ko,rfl,rfl⟩;refine za ?_;clear hT T;refine yq17 fun T hT=>?_;refine(CallV.part (CallV.fn (jco ok)) ja).mono ?_;refine zc ?_;clear hT T;refine yq19 fun T hT=>?_;refine(CallV.part (CallV.fn (Words0_K ok)) ja).mono ?_;refine zc ?_;clear hT T;refine yr16 ?_;refine ze ?_;intro b38;refine yr5 ?_;exact KE.fin (H':=jX ⟨b38,m,t,p⟩++(jx m++(planH p++F))) jd rfl jc (by rw[JN];exact ja) ⟨⟨b38,m,t,p⟩,⟨okm,ok,hr,hn,hw⟩,rfl,rfl,rfl,rfl,rfl⟩
set_option maxRecDepth 10000
def mR (f:Nat→Int) (n:Nat):List (List Int):=(List.range n).map fun t=>List.replicate (f t).toNat 0
theorem jdK (f:Nat→Int) (n:Nat):(mR f n).length=n:=by simp[mR]
theorem mR_get {f:Nat→Int} {n t:Nat} (h:t<n):(mR f n)[t]?=some (List.replicate (f t).toNat 0):=by simp[mR,h]
theorem jf6 {f:Nat→Int} {n:Nat} (hf: ∀ i,i<n→0≤f i): ∀ t,t≤n→((baseP (mR f n) t:Nat):Int)=sumN f t
 |0,_=>rfl
 |t+1,h=>by
  have h1:=jf6 hf t (by omega)
  have h2:=(jbE (mR_get (f:=f) (n:=n) (t:=t) (by omega))).1
  rw[h2,List.length_replicate]
  have:=hf t (by omega)
  simp only[sumN]
  omega
theorem mR_flat {f:Nat→Int} {n:Nat}:(mR f n).flatten=List.replicate ((mR f n).flatten).length 0:=by
 refine List.eq_replicate_iff.2 ⟨rfl,fun v hv=>?_⟩
 obtain⟨l,hl,hv⟩:=List.mem_flatten.1 hv
 obtain⟨t,_,rfl⟩:=List.mem_map.1 hl
 exact(List.mem_replicate.1 hv).2
theorem mR_flen {f:Nat→Int} {n:Nat} (hf: ∀ i,i<n→0≤f i):(((mR f n).flatten.length:Nat):Int)=sumN f n:=by
 rw[←jf6 hf n (Nat.le_refl n),jeL];unfold baseP;rw[List.take_of_length_le (by rw[jdK];exact Nat.le_refl n)]
def bsK (f:Nat→Int) (k:Nat):List Int:=(List.range k).map fun t=>sumN f t
theorem bsK_succ (f:Nat→Int) (k:Nat):bsK f k++ [sumN f k]=bsK f (k+1):=by simp[bsK,List.range_succ]
theorem bsK_len (f:Nat→Int) (k:Nat):(bsK f k).length=k:=by simp[bsK]
theorem bsK_all {f:Nat→Int} {n:Nat} (hf: ∀ i,i<n→0≤f i):bsK f (n+1)=jaf (mR f n):=by
 unfold bsK jaf;rw[jdK]
 refine List.map_congr_left fun t ht=>(jf6 hf t ?_).symm
 have:=List.mem_range.1 ht;omega
structure MnS where
 k:Nat
 o:Own
theorem mNew_K {w0:World} {F:jb} {c:Cfg} {vc vt:Value} (hR:j1 w0 F c vc vt) (hc:jT c=true):
  Call Tryz.prog w0 49 [jt c vc vt] F (fun r H'=> ∃ m:Jk,JZ m∧m.R=mR (fun t=>wordsP c (t:Nat)) c.tn.length∧r= .tuple [.pointer (some ⟨m.b,0,none⟩), .int .i64 0].toArray∧H'=jx m++F):=by
 have hok:=(jar hc).tn
 have htot:=fun A (hp:Part A F)=>Total_K (hR.part hp)
 have hbase:=fun A (k:Nat) (hp:Part A F)=>Base_K (t:=(k:Nat)) (hR.part hp)
 have he:totalP c=(sumN (fun i=>wordsP c (i:Nat)) c.tn.length,0):=by simp[totalP,hc]
 have hB:=fun k (hk:k<c.tn.length)=>jcJ hc hk
 have hbe:=fun k (hk:k<c.tn.length)=>jgd hc hk
 rw[he] at htot
 obtain⟨f,hf⟩: ∃ f:Nat→Int,f=fun i=>wordsP c (i:Nat):=⟨_,rfl⟩
 have hfi: ∀ i:Nat,wordsP c (i:Nat)=f i:=fun i=>by rw[hf]
 simp only[hfi] at hB hbe htot⊢
 have hf0: ∀ i,i<c.tn.length→0≤f i:=fun i hi=>(hB i hi).1
 have hsum:=jbW (f:=f) (n:=c.tn.length) hB
 obtain⟨tot,htt⟩: ∃ tot:Nat,sumN f c.tn.length=tot:=⟨(sumN f c.tn.length).toNat,by omega⟩
 have hflen:(mR f c.tn.length).flatten.length=tot:=by have:=mR_flen hf0;omega
 have hflat:List.replicate tot 0=(mR f c.tn.length).flatten:=by rw[←hflen];exact mR_flat.symm
 have hball:=bsK_all hf0
 have hsn:bsK f c.tn.length++ [((tot:Nat):Int)]=bsK f (c.tn.length+1):=by rw[←htt];exact bsK_succ f _
 rw[htt] at htot hsum
 obtain⟨hS,hT',o1,o2,l1,l2⟩:=hR
 obtain⟨cl,page,tn,workers,grey,gens⟩:=c
 dsimp only at hS hT' l1 l2 hok htot hbase hB hbe hf0 htt hflen hflat hball hsn hsum⊢;simp only[jt,jJ,prV] at htot hbase⊢;clear he hf hfi hc;refine Call.enter1 (n:=56) (by kernel_rfl) Tryz.func49 rfl rfl rfl ?_;refine yr2 ?_;refine ze ?_;intro b1;refine yq7 fun T hT=>?_;refine zch ?_;rintro _ _ ⟨rfl,rfl⟩;refine za ?_;clear hT T;refine yr20 ?_;refine KL.e rfl (Eff.makeR (E:=uE) (x0:=0) rfl rfl rfl rfl rfl rfl (by first|assumption|omega|(simp<;>fail)|(simp;omega))) ?_;rintro _ _ ⟨o19,ok19,rfl,rfl⟩;refine yr1 ?_;refine ze ?_;intro b21;refine yr13 ?_;refine K.loopT (σ:=MnS) [(1,_),(4,_),(6,_),(24,_)] (fun s kp_=>(25, .int .i64 (s.k:Nat))::kp_) (fun s=>(b21,cells [oV o19 (List.replicate tot (0:Int)).length,oV s.o (bsK f s.k).length] 177)::(oH uE 116 (List.replicate tot 0) o19++(oH iE 3 (bsK f s.k) s.o++((b1,cells [vc, .int .i64 page,vt, .int .i64 workers, .int .i64 grey, .int .i64 gens] 25)::F)))) (fun s=>s.k≤tn.length∧oOk iE (bsK f s.k) s.o) (fun s=>tn.length-s.k) (⟨0,none⟩) jg ja (⟨Nat.zero_le _,rfl⟩) ?_;rintro⟨k,o⟩ ⟨hk,hok2⟩;dsimp only at hk hok2⊢
 have hbl:=bsK_len f k
 have hbl1:=bsK_len f (k+1)
 by_cases hlt:k<tn.length
 ·have hb1:=fun A hp=>hbase A k hp
  rw[hbe k hlt] at hb1;dsimp only at hb1
  have hbd:(bsK f (k+1)).length≤4294967296:=by omega
  clear hbase;refine yq21 fun T hT=>?_;refine(CallV.fn (hb1 _ ja)).mono ?_;rintro _ _ ⟨rfl,rfl⟩;refine za ?_;clear hT T;refine yr7 ?_;refine zk ?_;refine yr6 ?_;refine zt ?_;intro b40;refine KL.e rfl (Eff.appZ (E:=iE) (xs:=bsK f k) (o:=o) (ys:=[sumN f k]) (zs:=bsK f (k+1)) rfl rfl rfl rfl rfl rfl jh (by assumption) (by first|exact Sli.blk jq rfl (by first|decide|simp) (by first|decide|(unfold maxLen;omega)) rfl|exact Sli.old (by assumption)|exact Sli.own jh (by assumption) jG|assumption|exact Sli.part (by assumption) ja) (bsK_succ f k) (by first|assumption|omega|(simp<;>fail)|(simp;omega)) rfl) ?_;rintro _ _ ⟨o',ok',rfl,rfl⟩;refine yr10 ?_;exact KE.again ⟨k+1,o'⟩ jg ja ⟨hlt,ok'⟩ (by show tn.length-(k+1)<tn.length-k;omega)
 ·have hke:k=tn.length:=by omega
  subst hke
  have hbd:(bsK f (tn.length+1)).length≤4294967296:=by omega
  refine yr12 ?_;refine zk ?_;refine yr6 ?_;refine zt ?_;intro b51;refine KL.e rfl (Eff.appZ (E:=iE) (xs:=bsK f tn.length) (o:=o) (ys:=[((tot:Nat):Int)]) (zs:=bsK f (tn.length+1)) rfl rfl rfl rfl rfl rfl jh (by assumption) (by first|exact Sli.blk jq rfl (by first|decide|simp) (by first|decide|(unfold maxLen;omega)) rfl|exact Sli.old (by assumption)|exact Sli.own jh (by assumption) jG|assumption|exact Sli.part (by assumption) ja) (hsn) (by first|assumption|omega|(simp<;>fail)|(simp;omega)) rfl) ?_;rintro _ _ ⟨o',ok',rfl,rfl⟩;refine yr13 ?_;rw[hball,hflat] at*;exact KE.fin (H':=jx ⟨b21,mR f tn.length,o19,o'⟩++F) jd rfl jc (by rw[jV];exact ja) ⟨⟨b21,mR f tn.length,o19,o'⟩,⟨ok19,ok',by rw[hflen];omega,by rw[jdK];omega⟩,rfl,rfl,rfl⟩
open Go.RowKit
set_option maxRecDepth 10000
section
variable {w0 : World} {F : jb} {y : CyM} {s : CyP} {g : PlG} {long : Nat}
def bndV (f:FuncId) (b:Nat):Value:= .func (.func f) [.pointer (some ⟨b,0,none⟩)].toArray #[]
theorem cywork1_K (e1:y.ph=1):Call Tryz.prog w0 68 [.pointer (some ⟨y.b,0,none⟩)] (cycH y++F)
  (fun r H'=>r= .agg [bndV 133 y.k.b,bndV 134 y.k.b].toArray∧H'=cycH y++F):=by
 have hph:=fun A=>jdk (w0:=w0) (F:=A) (y:=y)
 obtain⟨yb,B,a,T,N,k,sp,nw,ph,st⟩:=y
 dsimp only at*;subst e1;refine zcV ?_;refine yr2 ?_;refine zj ?_;intro b1 b2;refine yq6 fun T hT=>?_;refine(CallV.part (CallV.fn (hph _)) ja).mono ?_;refine zc ?_;clear hT T;simp only[cycH_app,seenH_app];refine yr11 ?_;refine zfv ?_;refine zaa ?_;refine zaP ?_;refine zo ?_;refine zcG ?_;refine zaa ?_;refine zaP ?_;refine zo ?_;refine zcG ?_;refine zay ?_;refine zM ?_;refine zY ?_;refine yr4 ?_;exact zG
theorem cywork2_K (e1:y.ph=2):Call Tryz.prog w0 68 [.pointer (some ⟨y.b,0,none⟩)] (cycH y++F)
  (fun r H'=> ∃ bl,r= .agg [.func (.func 135) #[] [.pointer (some ⟨bl,0,none⟩)].toArray,bndV 136 y.s.b].toArray∧H'=(bl,cells [.pointer (some ⟨y.b,0,none⟩)] 29)::(cycH y++F)):=by
 have hph:=fun A=>jdk (w0:=w0) (F:=A) (y:=y)
 obtain⟨yb,B,a,T,N,k,sp,nw,ph,st⟩:=y
 dsimp only at*;subst e1;refine zcV ?_;refine yr2 ?_;refine zj ?_;intro b1 b2;refine yq6 fun T hT=>?_;refine(CallV.part (CallV.fn (hph _)) ja).mono ?_;refine zc ?_;clear hT T;simp only[cycH_app,seenH_app];refine yr32 ?_;exact KE.fin jd rfl jc (by first|exact ja|(simp only[cycH_app,seenH_app];exact ja)) ⟨b1,rfl,rfl⟩
theorem jhf (e1:y.ph≠1) (e2:y.ph≠2):Call Tryz.prog w0 68 [.pointer (some ⟨y.b,0,none⟩)] (cycH y++F)
  (fun r H'=>r= .agg [.func (.func 137) #[] #[], .func (.func 138) #[] #[]].toArray∧H'=cycH y++F):=by
 have hph:=fun A=>jdk (w0:=w0) (F:=A) (y:=y)
 have h1: ¬((y.ph:Nat):Int)=1:=by omega
 have h2: ¬((y.ph:Nat):Int)=2:=by omega
 refine zcV ?_;refine yr2 ?_;refine zj ?_;intro b1 b2;refine yq6 fun T hT=>?_;refine(CallV.part (CallV.fn (hph _)) ja).mono ?_;refine zc ?_;clear hT T;refine yr27 ?_;exact zG
theorem CpM.made (h:CpM y s):CpM (jbI y (madeC g s).ph (madeC g s).sa) (madeC g s):=by
 obtain⟨a,b,c,d,e⟩:=jbQ (g:=g) (s:={s with st:=s.st+1})
 have f:(madeC g s).st=s.st+1:=jdB (s:={s with st:=s.st+1})
 refine⟨?_,h.ok,?_,h.oka,?_,⟨h.oks.d,h.oks.dn,h.oks.at_⟩,rfl,?_,?_,h.ab,h.bb,h.mb,rfl,?_,h.nw⟩
 ·show MpR y.k y.B y.T y.N (goesC g {s with st:=s.st+1}).W;rw [a];exact h.p
 ·show MkR y.k y.B.p (goesC g {s with st:=s.st+1}).m;rw [b];exact h.R
 ·show y.a.r.bs=(goesC g {s with st:=s.st+1}).A;rw [c];exact h.A
 ·show y.s.at_=(goesC g {s with st:=s.st+1}).at_;rw [d];exact h.at_
 ·show y.s.d.bs=(goesC g {s with st:=s.st+1}).D;rw [e];exact h.D
 ·show y.st+1=(madeC g s).st;rw [f,h.st]
theorem CpM.mark {k':MkM} {m':MaP} (h:CpM y s) (kok:MkOk k' y.B.p) (kto:MkTo y.k k') (kR:MkR k' y.B.p m'):CpM {y with k:=k'} {s with m:=m'}:=
 ⟨h.p.to kto,kok,kR,h.oka,h.A,h.oks,h.sa,h.at_,h.D,h.ab,h.bb,h.mb.trans kto.b.symm,h.ph,h.st,by show k'.hs.length=_;rw [kto.n];exact h.nw⟩
theorem jf5:(madeC g s).W=s.W:=(jbQ (g:=g) (s:={s with st:=s.st+1})).1
theorem CpR.mark {k':MkM} {m':MaP} {hd v:Int} (h:CpR g long y s) (h1:s.ph=1) (hm:stepM g long s.W s.m hd v=some m') (hle:Jz g (madeC g {s with m:=m'})) (kok:MkOk k' y.B.p) (kto:MkTo y.k k') (kR:MkR k' y.B.p m'):
  CpR g long (jbI {y with k:=k'} (madeC g {s with m:=m'}).ph (madeC g {s with m:=m'}).sa) (madeC g {s with m:=m'}):=
 have okg:je g:=by rw[←h.eg];exact h.p.bo.p.g
 ⟨(h.toCpM.mark kok kto kR).made,h.eg,kto.l.trans h.el,jcV okg (jbC okg h.i h1 hm),hle⟩
theorem mark_to {k':MkM} {m':MaP} (h:CpR g long y s) (kto:MkTo y.k k') {ph:Nat} {sa:Bool}:Ju y (jbI {y with k:=k'} ph sa) (madeC g {s with m:=m'}).W.x 0:=by
 refine⟨rfl,?_,rfl,rfl,rfl,rfl,kto.toMkAs,kto.f,rfl,rfl⟩;rw[jf5];exact(jaQ h.p.bo).symm
def ja2 (y:CyM) (x:List Int) (gone:Bool):CyM:={y with B:=jaA y.B x,s:={y.s with d:=if gone then Jr y.s.d y.s.at_ true else y.s.d,at_:=y.s.at_+1}}
theorem setB_H (B:BoM) (x:List Int):jX (jaA B x)=jX B∧(jaA B x).m=J4 B.m B.t x∧(jaA B x).p=B.p:=⟨rfl,rfl,rfl⟩
theorem CpM.sweep {s':CyP} {x:List Int} {b:Bool} (h:CpM y s) (hw:Jb y.B.p.g {s.W with x:=x}) (hl:y.s.at_+1≤y.B.p.g.slots) (e1:s'={s with W:={s.W with x:=x},D:=(if b then s.D.set s.at_ true else s.D),at_:=s.at_+1}):CpM (ja2 y x b) s':=by
 subst e1;refine⟨⟨setB_ok h.p.bo (by rw[hw.x,h.p.w.x]) hw.w,h.p.tb,h.p.pi,h.p.eT,h.p.eN,h.p.bb,h.p.tbb,h.p.nb,hw⟩,h.ok,h.R,h.oka,h.A,?_,h.sa,by show y.s.at_+1=_;rw [h.at_],?_,h.ab,h.bb,h.mb,h.ph,h.st,h.nw⟩
 ·cases b
  ·exact⟨h.oks.d,h.oks.dn,hl⟩
  ·exact⟨jcs h.oks.d _ _,by show(y.s.d.bs.set _ _).length=_;rw [List.length_set];exact h.oks.dn,hl⟩
 ·cases b
  ·exact h.D
  ·show y.s.d.bs.set _ _=s.D.set _ _
   rw[h.D,h.at_]
def SwQ (w0:World) (g:PlG) (y:CyM) (s:CyP):Prop:= ∃ s' b,sweepC g s=some s'∧CpM (ja2 y s'.W.x b) s'∧ ∀ F,Call Tryz.prog w0 136 [.pointer (some ⟨y.s.b,0,none⟩)] (cycH y++F) (fun r H'=>r= .bool true∧H'=cycH (ja2 y s'.W.x b)++F)
set_option maxHeartbeats 1000000 in
theorem jhg (h:CpR g long y s) (h2:s.ph=2):SwQ w0 g y s:=by
 have okg:je g:=by rw[←h.eg];exact h.p.bo.p.g
 have hlt:=h.i.lt h2
 obtain⟨p1,p2,p3⟩:=h.i.p2 h2
 obtain⟨yy,hy⟩:=Jg (g:=y.B.p.g) (i:=y.s.at_) (by rw[h.at_,h.eg];exact hlt)
 obtain⟨c,hc⟩:=jcQ h.ok (s:=y.s.at_) (by rw[h.at_,h.eg];exact hlt)
 have hstep:=fun A=>spStep_K (w0:=w0) (F:=A) h.oks h.oka h.p.bo h.ok (h.sa.trans p2) hy hc h.ab h.bb h.mb
 have hmc:s.m.C[s.at_]?=some c:=by rw[←h.R.C,←h.at_];exact hc
 have hgone:goneC y.a y.s.at_ c=decide (s.A[s.at_]?=some true∧s.m.C[s.at_]?=some 0):=by
  unfold goneC;rw[h.A,h.at_,hmc]
  obtain⟨v,hv⟩:=jn (l:=s.A) (k:=s.at_) (by rw[h.i.A];exact hlt)
  rw[hv]
  cases v<;>simp
 rw[hgone] at hstep
 have hyA:jC g (s.at_:Nat)=yy:=by rw[←h.eg,←h.at_];exact JF hy
 by_cases hg:s.A[s.at_]?=some true∧s.m.C[s.at_]?=some 0
 ·have hsw:sweepC g s=some {s with W:={s.W with x:=Jo s.W.x yy},D:=s.D.set s.at_ true,at_:=s.at_+1}:=by
   unfold sweepC;rw [if_pos ⟨p2,hlt⟩,if_pos hg,hyA]
  obtain⟨w1,w2,w3⟩:=h.i.toCyPre.wipe okg h2 hlt
  rw[hyA] at w1;refine⟨_,true,hsw,h.toCpM.sweep (by rw[h.eg];exact w1) (by rw[h.at_,h.eg];exact hlt) rfl,fun F=>?_⟩;simp only[decide_eq_true hg,if_true] at hstep;refine Call.at_ (hstep _) (by simp only[cycH_app];exact ja) ?_;refine zq ?_;exact⟨_,⟨rfl,rfl⟩,by unfold ja2;simp only[cycH_app,setB_H];exact ja⟩
 ·have hsw:sweepC g s=some {s with W:={s.W with x:=s.W.x},D:=s.D,at_:=s.at_+1}:=by
   unfold sweepC;rw [if_pos ⟨p2,hlt⟩,if_neg hg]
  refine⟨_,false,hsw,h.toCpM.sweep h.p.w (by rw[h.at_,h.eg];exact hlt) rfl,fun F=>?_⟩;simp only[decide_eq_false hg,if_neg Bool.false_ne_true] at hstep;refine Call.at_ (hstep _) (by simp only[cycH_app];exact ja) ?_;refine zq ?_
  have hb:jaA y.B s.W.x=y.B:=jaQ h.p.bo
  exact⟨_,⟨rfl,rfl⟩,by unfold ja2;dsimp only;rw [hb];simp only[cycH_app,if_neg Bool.false_ne_true];exact ja⟩
theorem CpR.sweep {s':CyP} {b:Bool} (h:CpR g long y s) (h2:s.ph=2) (hs:sweepC g s=some s') (hm:CpM (ja2 y s'.W.x b) s') (hle:Jz g (madeC g s')):
  CpR g long (jbI (ja2 y s'.W.x b) (madeC g s').ph (madeC g s').sa) (madeC g s'):=
 have okg:je g:=by rw[←h.eg];exact h.p.bo.p.g
 ⟨hm.made,h.eg,h.el,jcV okg (jba okg h.i h2 hs).1,hle⟩
theorem sweep_to {x:List Int} {b:Bool} {ph:Nat} {sa:Bool}:Ju y (jbI (ja2 y x b) ph sa) x 0:=⟨rfl,rfl,rfl,rfl,rfl,rfl,⟨rfl,rfl,rfl,rfl,rfl,rfl⟩,rfl,rfl,rfl⟩
theorem CpR.refl (h:CpR g long y s):CyQ g long y 0 F s (cycH y++F):=⟨y,h,Ju.refl h.toCpM,rfl⟩
theorem cysw1_K {hd v:Int} {bl:Nat} (hv:v=5∧0≤hd∧hd≤((y.nw:Nat):Int)) {x:List Int} {b:Bool} (hc: ∀ F,Call Tryz.prog w0 136 [.pointer (some ⟨y.s.b,0,none⟩)] (cycH y++F) (fun r H'=>r= .bool true∧H'=cycH (ja2 y x b)++F)):
  Call Tryz.prog w0 135 [.int .i64 hd, .int .u8 v, .pointer (some ⟨bl,0,none⟩)] ((bl,cells [.pointer (some ⟨y.b,0,none⟩)] 29)::(cycH y++F)) (fun r H'=>r= .bool true∧H'=cycH (ja2 y x b)++F):=by
 obtain⟨rfl,h1,h2⟩:=hv
 have h1':hd≥0:=h1
 refine zdI ?_;simp only[cycH_app,seenH_app];refine yq39 fun T hT=>?_;refine(CallV.part (CallV.fn (hc _)) (by simp only[cycH_app];exact ja)).mono ?_;refine zc ?_;clear hT T;refine yr5 ?_;exact zG
theorem cysw1_E {hd v:Int} {bl:Nat} (hv: ¬(v=5∧0≤hd∧hd≤((y.nw:Nat):Int))):
  Call Tryz.prog w0 135 [.int .i64 hd, .int .u8 v, .pointer (some ⟨bl,0,none⟩)] ((bl,cells [.pointer (some ⟨y.b,0,none⟩)] 29)::(cycH y++F)) (fun r H'=>r= .bool false∧H'=cycH y++F):=by
 by_cases h5:v=5
 ·subst h5
  by_cases h0:hd≥0
  ·have h2: ¬hd≤((y.nw:Nat):Int):=fun e=>hv ⟨rfl,h0,e⟩
   refine zdI ?_;simp only[cycH_app,seenH_app];refine yr40 ?_;exact zG
  ·refine zdI ?_;simp only[cycH_app,seenH_app];refine yr34 ?_;exact zG
 ·refine zdI ?_;simp only[cycH_app,seenH_app];refine yr32 ?_;exact zG
theorem cyw2_K {hd v:Value} {H:jb}:Call Tryz.prog w0 137 [hd,v] H (fun r H'=>r= .bool false∧H'=H):=by
 refine Call.enter2 (n:=5) (by kernel_rfl) Tryz.func137 rfl rfl rfl ?_;refine yr11 ?_;exact zd
theorem cyw3_K {H:jb}:Call Tryz.prog w0 138 [] H (fun r H'=>r= .bool false∧H'=H):=by
 refine Call.enter0 (n:=1) (by kernel_rfl) Tryz.func138 rfl rfl rfl ?_;refine yr11 ?_;exact zd
set_option maxHeartbeats 4000000 in
theorem cyStep_K {hd v:Int} (hG:jw w0) (h:CpR g long y s) (hv:0≤v∧v<256):
  Call Tryz.prog w0 16 [.pointer (some ⟨y.b,0,none⟩), .int .i64 hd, .int .u8 v] (cycH y++F) (fun r H'=>r= .bool (stepC g long y.nw s hd v).isSome∧CyQ g long y 0 F ((stepC g long y.nw s hd v).getD s) H'):=by
 have okg:je g:=by rw[←h.eg];exact h.p.bo.p.g
 have hls:=h.le.s
 have hlm:=h.le.m
 have hst:s.st≤100000000:=by omega
 have hmst:s.m.steps≤1000000000:=by omega
 by_cases h1:s.ph=1
 ·have hss:stepC g long y.nw s hd v=(stepM g long s.W s.m hd v).map fun m'=>madeC g {s with m:=m'}:=by unfold stepC;rw [if_pos h1]
  have hstep:=fun A=>jg9 (w0:=w0) (F:=A) (hd:=hd) (v:=v) hG h.p h.ok h.R (by rw[h.eg,h.el];exact h.i.m) hmst hv
  unfold jaz at hstep;rw[h.eg,h.el] at hstep;simp only[seenH_app] at hstep
  cases hm:stepM g long s.W s.m hd v with
  |some m'=>
   have hle:=h.le.step (nw:=y.nw) okg h.i (k:=hd) (u:=v) (s':=madeC g {s with m:=m'}) (by rw[hss,hm];rfl)
   rw[hss];simp only[hm,Option.map_some,Option.isSome_some,Option.getD_some] at hstep⊢
   have hmk:=fun A k' kok kto kR=>jeo (w0:=w0) (F:=A) hG (h.toCpM.mark (k':=k') (m':=m') kok kto kR) h.eg (by show CyPre g k'.g.ring.length _;rw [kto.l,h.el];exact jbC okg h.i h1 hm) hst
   have hR:=fun k' kok kto kR=>h.mark (k':=k') h1 hm hle kok kto kR
   have hT:=fun k' kto=>mark_to (k':=k') (m':=m') (ph:=(madeC g {s with m:=m'}).ph) (sa:=(madeC g {s with m:=m'}).sa) h kto
   unfold CyQ
   obtain⟨s',hs'⟩: ∃ s',madeC g {s with m:=m'}=s':=⟨_,rfl⟩
   simp only[hs'] at hmk hR hT⊢;refine zci ?_;refine yq9 fun T hT=>?_;refine zdJ ?_;refine zc ?_;clear hT T;unfold bndV;refine yq3 fun T hT=>?_;refine zdK ?_;rintro _ _ ⟨rfl,k',kok,kto,kR,rfl⟩;refine za ?_;clear hT T;refine zz fun T hT=>?_;refine(CallV.part (CallV.fn (hmk _ k' kok kto kR)) (by simp only[cycH_app,kto.b];exact ja)).mono ?_;refine zc ?_;clear hT T;refine yr4 ?_;exact KE.fin jd rfl jc ja ⟨rfl,_,hR k' kok kto kR,hT k' kto,rfl⟩
  |none=>
   rw[hss];simp only[hm,Option.map_none,Option.isSome_none,Option.getD_none] at hstep⊢
   have hR:=fun k' kok kto kR=>CpR.mk (h.toCpM.mark (k':=k') (m':=s.m) kok kto kR) h.eg (kto.l.trans h.el) h.i h.le
   have hT:=fun k' (kto:MkTo y.k k')=>(⟨rfl,(jaQ h.p.bo).symm,rfl,rfl,rfl,rfl,kto.toMkAs,kto.f,rfl,rfl⟩:Ju y {y with k:=k'} s.W.x 0)
   unfold CyQ;refine zci ?_;refine yq9 fun T hT=>?_;refine zdJ ?_;refine zc ?_;clear hT T;unfold bndV;refine yq3 fun T hT=>?_;refine zdK ?_;rintro _ _ ⟨rfl,k',kok,kto,kR,rfl⟩;refine za ?_;clear hT T;refine zz fun T hT=>?_;refine zcj ?_;refine zc ?_;clear hT T;refine yr4 ?_;exact zfI
 ·by_cases h2:s.ph=2
  ·by_cases hc:v=5∧0≤hd∧hd≤((y.nw:Nat):Int)
   ·obtain⟨s',b,hs,hM,hcall⟩:=jhg (w0:=w0) h h2
    have hss:stepC g long y.nw s hd v=some (madeC g s'):=by unfold stepC;rw [if_neg h1,if_pos ⟨h2,hc⟩,hs];rfl
    have hle:=h.le.step (nw:=y.nw) okg h.i (k:=hd) (u:=v) hss
    have hcy:=jba okg h.i h2 hs
    rw[hss];simp only[Option.isSome_some,Option.getD_some]
    have hmk:=fun A=>jeo (w0:=w0) (F:=A) hG hM h.eg (by show CyPre g y.k.g.ring.length _;rw [h.el];exact hcy.1) (by rw[hcy.2.2.2.2.2.2.2];exact hst)
    have hR:=h.sweep h2 hs hM hle
    have hT:Ju y (jbI (ja2 y s'.W.x b) (madeC g s').ph (madeC g s').sa) (madeC g s').W.x 0:=by rw[jf5];exact sweep_to
    unfold CyQ
    obtain⟨q,hq⟩: ∃ q,madeC g s'=q:=⟨_,rfl⟩
    rw[hq] at hmk hR hT⊢;refine zci ?_;refine yq9 fun T hT=>?_;refine zeJ ?_;rintro _ _ ⟨bl,rfl,rfl⟩;refine za ?_;clear hT T;unfold bndV;refine yq3 fun T hT=>?_;refine(CallV.part (CallV.clo (cap:=[.pointer (some ⟨bl,0,none⟩)]) (cysw1_K hc hcall)) ja).mono ?_;refine zc ?_;clear hT T;refine zz fun T hT=>?_;refine ze2 ?_;clear hT T;refine yr4 ?_;exact KE.fin jd rfl jc ja ⟨rfl,_,hR,hT,rfl⟩
   ·have hss:stepC g long y.nw s hd v=none:=by unfold stepC;rw [if_neg h1,if_neg (fun e=>hc e.2)]
    rw[hss];simp only[Option.isSome_none,Option.getD_none]
    have hQ:=fun A=>CpR.refl (F:=A) h
    refine zci ?_;refine yq9 fun T hT=>?_;refine zeJ ?_;rintro _ _ ⟨bl,rfl,rfl⟩;refine za ?_;clear hT T;unfold bndV;refine yq3 fun T hT=>?_;refine(CallV.part (CallV.clo (cap:=[.pointer (some ⟨bl,0,none⟩)]) (cysw1_E hc)) ja).mono ?_;refine zc ?_;clear hT T;refine zz fun T hT=>?_;refine zcj ?_;refine zc ?_;clear hT T;refine yr4 ?_;exact KE.fin jd rfl jc ja ⟨rfl,hQ F⟩
  ·have hss:stepC g long y.nw s hd v=none:=by unfold stepC;rw [if_neg h1,if_neg (fun e=>h2 e.1)]
   rw[hss];simp only[Option.isSome_none,Option.getD_none]
   have hQ:=fun A=>CpR.refl (F:=A) h
   refine zci ?_;refine yq9 fun T hT=>?_;refine(CallV.part (CallV.fn (jhf (by rw[h.ph];exact h1) (by rw[h.ph];exact h2))) ja).mono ?_;refine zc ?_;clear hT T;refine yq3 fun T hT=>?_;refine(CallV.fn cyw2_K).mono ?_;refine zc ?_;clear hT T;refine zz fun T hT=>?_;refine zcj ?_;refine zc ?_;clear hT T;refine yr4 ?_;exact KE.fin jd rfl jc ja ⟨rfl,hQ F⟩
end
open Go.RowKit
set_option maxRecDepth 10000
inductive jai (g:PlG) (long:Nat):CyP→Nat→CyP→Prop
 |refl {s:CyP}:jai g long s 0 s
 |snoc {s s1 s2:CyP} {n:Nat}:jai g long s n s1→helpC g long s1=some s2→jai g long s (n+1) s2
def jbn (g:PlG) (long:Nat):Nat→CyP→Nat × CyP
 |0,s=>(0,s)
 |f+1,s=>match helpC g long s with
  |none=>(0,s)
  |some s1=>((jbn g long f s1).1+1,(jbn g long f s1).2)
def finC (g:PlG) (long:Nat) (s:CyP):Nat × CyP:=jbn g long (jY g s) s
section
variable {g : PlG} {long long' nw : Nat} {s s' s1 s2 : CyP} {S0 : Nat → Prop} {A0 : List Bool} {P : Nat → Prop} {n : Nat}
theorem jai.cons (h0:helpC g long s=some s1) (h:jai g long s1 n s2):jai g long s (n+1) s2:=by
 induction h with
 |refl=>exact .snoc .refl h0
 |snoc _ h2 ih=>exact .snoc ih h2
theorem jai.un (h:jai g long s n s'):n=0∧s=s'∨ ∃ m s1,n=m+1∧helpC g long s=some s1∧jai g long s1 m s':=by
 induction h with
 |refl=>exact .inl ⟨rfl,rfl⟩
 |snoc _ h2 ih=>
  right
  rcases ih with⟨rfl,rfl⟩|⟨m,s1,rfl,a,b⟩
  ·exact⟨0,_,rfl,h2, .refl⟩
  ·exact⟨m+1,s1,rfl,a, .snoc b h2⟩
theorem helps_is {f:Nat} (hf:n≤f) (h:jai g long s n s') (hn:helpC g long s'=none):jbn g long f s=(n,s'):=by
 induction f generalizing n s with
 |zero=>
  rcases h.un with⟨rfl,rfl⟩|⟨m,s1,rfl,_⟩
  ·rfl
  ·omega
 |succ f ih=>
  unfold jbn
  rcases h.un with⟨rfl,rfl⟩|⟨m,s1,rfl,a,b⟩
  ·rw[hn]
  ·rw[a];dsimp only;rw[ih (by omega) b]
structure HelpsOk (g:PlG) (long:Nat) (s s':CyP) (n:Nat):Prop where
 ok:jp g long s'
 mes:n+jY g s'≤jY g s
 st:s'.st=s.st+n
 ph:s.ph≤s'.ph
 I: ∀ {S0 A0},CyI g S0 A0 s→CyI g S0 A0 s'
 A:s'.A=s.A
 T:s'.W.T=s.W.T
 N:s'.W.N=s.W.N
 le:Jz g s→Jz g s'
theorem jhd (h:jp g long s) (ok:je g) (hs:helpC g long s=some s'):s'.A=s.A∧s'.W.T=s.W.T∧s'.W.N=s.W.N:=by
 unfold helpC at hs
 split at hs
 ·cases hm:Jq g long s.W s.m with
  |none=>rw [hm] at hs;cases hs
  |some m'=>
   rw[hm] at hs;cases hs
   obtain⟨a,b,c,_⟩:=jbQ (g:=g) (s:={s with m:=m',st:=s.st+1})
   exact zfJ
 ·split at hs
  ·rename_i h2
   cases hm:sweepC g s with
   |none=>rw [hm] at hs;cases hs
   |some q=>
    rw[hm] at hs;cases hs
    obtain⟨_,_,_,_,e1,e2,e3,_⟩:=jba ok h h2 hm
    obtain⟨a,b,c,_⟩:=jbQ (g:=g) (s:={q with st:=q.st+1})
    exact zfK
  ·cases hs
theorem jai.ok (ok:je g) (h0:jp g long s) (h:jai g long s n s'):HelpsOk g long s s' n:=by
 induction h with
 |refl=>exact⟨h0,by omega,rfl,Nat.le_refl _,fun h=>h,rfl,rfl,rfl,fun h=>h⟩
 |snoc _ h2 ih=>
  have a:=jcM ok ih.ok h2
  have b:=help_st h2
  obtain⟨c,d,e⟩:=jhd ih.ok ok h2
  have f:=ih.mes
  have g1:=ih.st
  have g2:=ih.ph
  exact⟨jf7 ok ih.ok h2,by omega,by omega,by omega,fun hI=>(ih.I hI).help ok ih.ok h2,c.trans ih.A,d.trans ih.T,e.trans ih.N,fun hl=>(ih.le hl).help ok ih.ok h2⟩
theorem fin_is (ok:je g) (h0:jp g long s) (h:jai g long s n s') (hn:helpC g long s'=none):finC g long s=(n,s'):=by
 have:=(h.ok ok h0).mes
 exact helps_is (by omega) h hn
theorem helpsC_run (f:Nat) (s:CyP):jai g long s (jbn g long f s).1 (jbn g long f s).2:=by
 induction f generalizing s with
 |zero=>exact .refl
 |succ f ih=>
  unfold jbn
  cases h:helpC g long s with
  |none=>exact .refl
  |some s1=>exact(ih s1).cons h
theorem helpsC_end (ok:je g) {f:Nat} {s:CyP} (h0:jp g long s) (hf:jY g s≤f):helpC g long (jbn g long f s).2=none:=by
 induction f generalizing s with
 |zero=>
  cases h:helpC g long s with
  |none=>exact h
  |some s1=>have:=jcM ok h0 h;omega
 |succ f ih=>
  unfold jbn
  cases h:helpC g long s with
  |none=>dsimp only;exact h
  |some s1=>
   have:=jcM ok h0 h
   exact ih (jf7 ok h0 h) (by omega)
theorem jbU:jai g long s (finC g long s).1 (finC g long s).2:=helpsC_run _ _
theorem finC_end (ok:je g) (h0:jp g long s):helpC g long (finC g long s).2=none:=helpsC_end ok h0 (Nat.le_refl _)
theorem jbY (ok:je g) (h0:jp g long s) (hp:s.ph≠0):(finC g long s).2.ph=3:=by
 have h1:=(jbU (g:=g) (long:=long) (s:=s)).ok ok h0
 have h2:=h1.ph
 exact jff ok h1.ok (by omega) (finC_end ok h0)
end
structure EqW (g:PlG) (P:Nat→Prop) (s s':CyP):Prop where
 A:s'.A=s.A
 T:s'.W.T=s.W.T
 N:s'.W.N=s.W.N
 x: ∀ t,P t→j0 g s.W.x s'.W.x t
 out: ∀ a,(∀ (t:Nat) (y:ju),g.L[t]?=some y→ ¬(y.addr≤a∧a<y.addr+y.size))→wAt s'.W.x a=wAt s.W.x a
section
variable {g : PlG} {x x' : List Int} {t : Nat} {y : ju}
theorem jec {a b:Nat} {v:Int} (h:a<x.length):wAt (x.set a v) b=if a=b then v else wAt x b:=by
 by_cases e:a=b
 ·subst e;rw [if_pos rfl,jfl h]
 ·rw[if_neg e,jax e]
theorem head_same (ok:je g) (h:j0 g x x' t) (hy:g.L[t]?=some y):headP x' y=headP x y:=jeV (h y hy 0 (by have:=ok.fits hy;omega))
theorem fld_same (ok:je g) (h:j0 g x x' t) (hy:g.L[t]?=some y) {r:Bool} {i:Int}:fldP x' y r i=fldP x y r i:=jcF (h y hy 0 (by have:=ok.fits hy;omega))
theorem fAt_same (ok:je g) (h:j0 g x x' t) (hy:g.L[t]?=some y) {r:Bool} {i:Int} (hf:fldP x y r i=0):wAt x' (fAt y i)=wAt x (fAt y i):=by
 have hin:=jae hf
 obtain⟨j,hj⟩: ∃ j,fAt y i=y.addr+j:=⟨fAt y i-y.addr,by omega⟩
 rw[hj];exact h y hy j (by omega)
theorem refP_same (ok:je g) (h:j0 g x x' t) (hy:g.L[t]?=some y) {n:Nat} {i:Int}:refP x' n y i=refP x n y i:=by
 unfold refP;rw[fld_same ok h hy]
 split
 ·rename_i hf;rw [fAt_same ok h hy hf]
 ·rfl
theorem jhI (ok:je g) (hx:x.length=g.words) (hx':x'.length=g.words) (h:j0 g x x' t) (hy:g.L[t]?=some y) {i v:Int}:j0 g (j7 x g.slots y i v).2 (j7 x' g.slots y i v).2 t:=fun z hz j hj=>by
 rw[hy] at hz;cases hz
 have f:=ok.fits hy
 unfold j7;rw[fld_same ok h hy]
 split
 ·exact h y hy j hj
 ·split
  ·rename_i hf
   have hin:=jae hf
   dsimp only;rw[jec (by omega),jec (by omega),h y hy j hj]
  ·exact h y hy j hj
theorem make_cong (ok:je g) (hx:x.length=g.words) (hx':x'.length=g.words) (h:j0 g x x' t) (hy:g.L[t]?=some y) {hd:HdP}:(jW x' y hd).1=(jW x y hd).1∧j0 g (jW x y hd).2 (jW x' y hd).2 t:=by
 have f:=ok.fits hy
 unfold jW;rw[head_same ok h hy]
 split
 ·split
  ·exact⟨rfl,h⟩
  ·refine⟨rfl,fun z hz j hj=>?_⟩;rw[hy] at hz;cases hz;dsimp only;rw[jec (by rw[jby (by omega)];omega),jec (by rw[jby (by omega)];omega),jaY (by omega),jaY (by omega)];simp only[if_pos (show y.addr≤y.addr+j∧y.addr+j<y.addr+y.size by omega)]
 ·exact⟨rfl,h⟩
end
open Go.RowKit
set_option maxRecDepth 10000
section
variable {w0 : World} {F : jb} {y : CyM} {s : CyP} {g : PlG} {long : Nat}
theorem CpR.okg (h:CpR g long y s):je g:=by rw[←h.eg];exact h.p.bo.p.g
theorem CpR.T1024 (h:CpR g long y s):s.W.T.length≤1024:=by rw[←h.p.eT];exact h.p.tb.n.2
theorem cyBegin_E (h0:y.ph≠0):Call Tryz.prog w0 24 [.pointer (some ⟨y.b,0,none⟩)] (cycH y++F) (fun r H'=>r= .int .i64 9∧H'=cycH y++F):=by
 have h0':((y.ph:Nat):Int)≠0:=by omega
 refine zeK ?_;refine yq10 fun T hT=>?_;refine zbe ?_;clear hT T;simp only[cycH_app,seenH_app];refine yr23 ?_;exact zG
theorem jdl (h:CpR g long y s) (h0:s.ph=0) (hf:y.k.c.f≤1000000):
  Call Tryz.prog w0 24 [.pointer (some ⟨y.b,0,none⟩)] (cycH y++F) (fun r H'=>r= .int .i64 0∧CyQ g long y 1 F (beginC g s) H'):=by
 have okg:=h.okg
 have hlg:=h.ok.g.l
 have hno:=fun A=>cynone_K (w0:=w0) (F:=A) (y:=y)
 have hac:=(h.i.p0 h0).1
 have hms:=fun A=>mkStart_K (w0:=w0) (F:=A) h.ok (h.R.act.trans hac) hf
 have hle:=Jz.begin (s:=s) okg h.T1024
 have hl1:1≤long:=by rw[←h.el];exact hlg.1
 have hcy:=jcP okg hl1 h.i h0
 have hR: ∀ k',MkOk k' y.B.p→MkNil k' y.B.p→MkAs y.k k'→k'.act=true→CpR g long {y with k:=k',ph:=1,st:=0} (beginC g s):=fun k' kok kn ka kt=>by
  refine⟨⟨⟨h.p.bo,h.p.tb,h.p.pi,h.p.eT,h.p.eN,ka.bb.trans h.p.bb,ka.tb.trans h.p.tbb,ka.nb.trans h.p.nb,h.p.w⟩,kok,?_,h.oka,h.A,h.oks,h.sa,h.at_,h.D,h.ab,h.bb,h.mb.trans ka.b.symm,rfl,rfl,by show k'.hs.length=_;rw [ka.n];exact h.nw⟩,h.eg,ka.l.trans h.el,hcy,hle⟩
  show MkR k' y.B.p (JM g (s.m.hs.length-1) true)
  rw[←h.eg];exact nil_R kn (by rw[ka.l];exact hlg.1) kt (by have:=h.R.hs;rw [ka.n,h.nw,←this,h.nw];rfl)
 have hT: ∀ k',MkAs y.k k'→k'.c.f=y.k.c.f+1→Ju y {y with k:=k',ph:=1,st:=0} (beginC g s).W.x 1:=fun k' ka kf=>⟨rfl,(jaQ h.p.bo).symm,rfl,rfl,rfl,rfl,ka,kf,rfl,rfl⟩
 have e0:y.ph=0:=h.ph.trans h0
 unfold CyQ
 obtain⟨s',hs'⟩: ∃ s',beginC g s=s':=⟨_,rfl⟩
 rw[hs'] at hR hT;rw[hs'];clear hs' hle hcy h hac h0 hf
 obtain⟨yb,B,a,T,N,k,sp,nw,ph,st⟩:=y
 dsimp only at*;subst e0;refine zeK ?_;refine yq10 fun T hT=>?_;refine zdL ?_;refine zc ?_;clear hT T;simp only[cycH_app,seenH_app];refine yq36 fun T hT=>?_;refine(CallV.part (CallV.fn (hms _)) ja).mono ?_;rintro _ _ ⟨rfl,k',kok,kn,ka,kt,kf,rfl⟩;refine za ?_;clear hT T;refine yr4 ?_;exact KE.fin (H':=cycH ⟨yb,B,a,T,N,k',sp,nw,1,0⟩++F) jd rfl jc (by simp only[cycH_app,ka.b];exact ja) ⟨rfl,_,hR k' kok kn ka kt,hT k' ka kf,by simp only[cycH_app]⟩
theorem jhU (h0:y.ph≠3):Call Tryz.prog w0 21 [.pointer (some ⟨y.b,0,none⟩)] (cycH y++F) (fun r H'=>r= .tuple [.int .i64 0, .int .i64 0, .int .i64 9].toArray∧H'=cycH y++F):=by
 have h0':((y.ph:Nat):Int)≠3:=by omega
 refine zeL ?_;refine yq12 fun T hT=>?_;refine zbe ?_;clear hT T;simp only[cycH_app,seenH_app];refine yr25 ?_;exact zG
set_option maxHeartbeats 1000000 in
theorem jgm (hG:jw w0) (h:CpR g long y s) (h3:s.ph=3):
  Call Tryz.prog w0 21 [.pointer (some ⟨y.b,0,none⟩)] (cycH y++F) (fun r H'=>r= .tuple [.int .i64 (s.D.count true:Nat), .int .i64 (recyN y.T.gens s.W.T:Nat), .int .i64 0].toArray∧CyQ g long y 0 F (publishC g y.T.gens s) H'):=by
 have okg:=h.okg
 obtain⟨p1,p2,p3⟩:=h.i.p3 h3
 have hno:=fun A=>cynone_K (w0:=w0) (F:=A) (y:=y)
 have hdone:ja6 y.s=true:=by
  unfold ja6;rw[h.sa,p2,h.oks.dn,h.at_,p3,h.eg];simp
 have hst:=fun A=>spStop_K (w0:=w0) (F:=A) hG h.oks h.oka hdone h.ab
 have hrc:=fun A=>jhH (w0:=w0) (F:=A) h.p.tb
 have hmk:=fun A=>mkStop_K (w0:=w0) (F:=A) (B:=y.B) (h.R.act.trans p1)
 have hcy:=jc8 h.i h3 y.T.gens
 have hle:=h.le.publish y.T.gens
 rw[h.D] at hst;rw[h.p.eT] at hrc
 have hR: ∀ (a':ArM) (s':SpM),TbOk ⟨y.T.b,j9 y.T.gens s.W.T,y.T.gens,y.T.o⟩→JW a' y.B.p→a'.b=y.a.b→a'.r.bs=(J0 y.a.r.bs s.D).2→SpOk s' y.B.p.g.slots→s'.ab=y.s.ab→s'.bb=y.s.bb→s'.mb=y.s.mb→s'.at_=0→s'.act=false→s'.d.bs=List.replicate y.B.p.g.slots false→
   CpR g long {y with a:=a',s:=s',T:=⟨y.T.b,j9 y.T.gens s.W.T,y.T.gens,y.T.o⟩,k:={y.k with act:=false},ph:=0} (publishC g y.T.gens s):=fun a' s' kT ka ab abs ks e1 e2 e3 e4 e5 e6=>by
  refine⟨⟨⟨h.p.bo,kT,h.p.pi,rfl,h.p.eN,h.p.bb,h.p.tbb,h.p.nb,by rw[h.eg];exact hcy.w⟩,⟨h.ok.c,h.ok.g,h.ok.n,h.ok.o,h.ok.hs⟩,⟨h.R.C,h.R.G,h.R.hs,h.R.root,rfl,h.R.steps⟩,ka,?_,ks,e5,e4,?_,e1.trans (h.ab.trans ab.symm),e2.trans h.bb,e3.trans h.mb,rfl,h.st,h.nw⟩,h.eg,h.el,hcy,hle⟩
  ·show a'.r.bs=(J0 s.A s.D).2;rw [abs,h.A]
  ·show s'.d.bs=List.replicate g.slots false;rw [e6,h.eg]
 have hT: ∀ (a':ArM) (s':SpM),a'.b=y.a.b→s'.b=y.s.b→Ju y {y with a:=a',s:=s',T:=⟨y.T.b,j9 y.T.gens s.W.T,y.T.gens,y.T.o⟩,k:={y.k with act:=false},ph:=0} (publishC g y.T.gens s).W.x 0:=fun a' s' ab sb=>⟨rfl,(jaQ h.p.bo).symm,ab,rfl,rfl,rfl,⟨rfl,rfl,rfl,rfl,rfl,rfl⟩,rfl,sb,rfl⟩
 have e0:y.ph=3:=h.ph.trans h3
 unfold CyQ
 obtain⟨s2,hs'⟩: ∃ s2,publishC g y.T.gens s=s2:=⟨_,rfl⟩
 rw[hs'] at hR hT;rw[hs'];clear hs' hle hcy hdone
 obtain⟨yb,B,a,T,N,k,sp,nw,ph,st⟩:=y
 dsimp only at*;subst e0;refine zeL ?_;refine yq12 fun T hT=>?_;refine zdL ?_;refine zc ?_;clear hT T;simp only[cycH_app,seenH_app];refine yq24 fun T hT=>?_;refine zdu ?_;rintro _ _ ⟨rfl,a',s',ka,ab,arb,abs,ks,sb,e1,e2,e3,e4,e5,e6,rfl⟩;refine za ?_;clear hT T;refine yq12 fun T hT=>?_;refine(CallV.part (CallV.fn (hrc _)) ja).mono ?_;rintro _ _ ⟨rfl,kT,rfl⟩;refine za ?_;clear hT T;refine yq9 fun T hT=>?_;refine ze2 ?_;clear hT T;refine yr20 ?_;exact KE.fin (H':=cycH ⟨yb,B,a',⟨T.b,j9 T.gens s.W.T,T.gens,T.o⟩,N,{k with act:=false},s',nw,0,st⟩++F) jd rfl jc (by simp only[cycH_app,ab,sb];exact ja) ⟨rfl,_,hR a' s' kT ka ab abs ks e1 e2 e3 e4 e5 e6,hT a' s' ab sb,by simp only[cycH_app]⟩
theorem cyOf_K {t:Nat} {c:Int} (h:CpR g long y s) (hc:s.m.C[t]?=some c):Call Tryz.prog w0 22 [.pointer (some ⟨y.b,0,none⟩), .int .i64 (t:Nat)] (cycH y++F) (fun r H'=>r= .tuple [.int .u8 c, .int .i64 0].toArray∧H'=cycH y++F):=by
 have hc':(tiC y.k.c)[t]?=some c:=by rw[h.R.C];exact hc
 refine Call.enter2 (n:=16) (by kernel_rfl) Tryz.func22 rfl rfl rfl ?_;refine yq10 fun T hT=>?_;refine zbe ?_;clear hT T;simp only[cycH_app,seenH_app];refine yq12 fun T hT=>?_;refine(CallV.part (CallV.fn (jbF h.ok hc')) ja).mono ?_;refine zc ?_;clear hT T;refine yr7 ?_;exact zG
theorem CpR.shade {k':MkM} {t:Nat} (h:CpR g long y s) (h1:s.ph=1) (ht:t<g.slots) (kok:MkOk k' y.B.p) (kto:MkTo y.k k') (kR:MkR k' y.B.p (jaF g long s.m (t:Nat))):CpR g long {y with k:=k'} (shdC g long s (t:Nat)):=by
 have e:shdC g long s (t:Nat)={s with m:=jaF g long s.m (t:Nat)}:=by
  unfold shdC jU;rw [if_pos h1,if_pos ⟨by omega,by omega⟩]
 have h1:=h.i.shd h.okg (t:Nat)
 have h2:=h.le.shd h.okg h.i (t:Nat)
 rw[e] at h1 h2⊢;exact⟨h.toCpM.mark kok kto kR,h.eg,kto.l.trans h.el,h1,h2⟩
theorem jhi {t:Nat} (h:CpR g long y s) (ht:t<g.slots):Call Tryz.prog w0 18 [.pointer (some ⟨y.b,0,none⟩), .int .i64 (t:Nat)] (cycH y++F) (fun r H'=>r= .int .i64 0∧CyQ g long y 0 F (shdC g long s (t:Nat)) H'):=by
 obtain⟨c,hc⟩:=jcQ h.ok (s:=t) (by rw[h.eg];exact ht)
 have hsh:=fun A=>mkShade_K (w0:=w0) (F:=A) h.ok h.R (by rw[h.eg];exact ht)
 rw[h.eg,h.el] at hsh
 by_cases h1:s.ph=1
 ·have e0:y.ph=1:=h.ph.trans h1
  have hR:=fun k' kok kto kR=>h.shade (k':=k') h1 ht kok kto kR
  have hW:(shdC g long s (t:Nat)).W=s.W:=jan _
  have hT: ∀ k',MkTo y.k k'→Ju y {y with k:=k'} (shdC g long s (t:Nat)).W.x 0:=fun k' kto=>⟨rfl,by rw[hW];exact(jaQ h.p.bo).symm,rfl,rfl,rfl,rfl,kto.toMkAs,kto.f,rfl,rfl⟩
  unfold CyQ
  obtain⟨s2,hs'⟩: ∃ s2,shdC g long s (t:Nat)=s2:=⟨_,rfl⟩
  rw[hs'] at hR hT;rw[hs']
  have hno:=fun A=>cynone_K (w0:=w0) (F:=A) (y:=y)
  have hof:=fun A=>jbF (w0:=w0) (F:=A) h.ok hc
  clear hs' hW h
  obtain⟨yb,B,a,T,N,k,sp,nw,ph,st⟩:=y
  dsimp only at*;subst e0;refine zdM ?_;refine yq9 fun T hT=>?_;refine zdL ?_;refine zc ?_;clear hT T;simp only[cycH_app,seenH_app];refine yq13 fun T hT=>?_;refine(CallV.part (CallV.fn (hof _)) ja).mono ?_;refine zc ?_;clear hT T;refine yq35 fun T hT=>?_;refine zbn ?_;rintro _ _ ⟨rfl,k',kok,kto,kR,rfl⟩;refine za ?_;clear hT T;refine yr4 ?_;exact KE.fin (H':=cycH ⟨yb,B,a,T,N,k',sp,nw,1,st⟩++F) jd rfl jc (by simp only[cycH_app,kto.b];exact ja) ⟨rfl,_,hR k' kok kto kR,hT k' kto,by simp only[cycH_app]⟩
 ·have h1':((y.ph:Nat):Int)≠1:=by rw[h.ph];omega
  have e:shdC g long s (t:Nat)=s:=by unfold shdC;rw [if_neg h1]
  rw[e];unfold CyQ;refine zdM ?_;refine yq9 fun T hT=>?_;refine zbe ?_;clear hT T;simp only[cycH_app,seenH_app];refine yq13 fun T hT=>?_;refine(CallV.part (CallV.fn (jbF h.ok hc)) ja).mono ?_;refine zc ?_;clear hT T;refine yr34 ?_;exact KE.fin jd rfl jc (by first|exact ja|(simp only[cycH_app,seenH_app];exact ja)) ⟨rfl,y,h,Ju.refl h.toCpM,rfl⟩
theorem CpR.black {c':TiM} {t:Nat} (h:CpR g long y s) (kok:MkOk {y.k with c:=c'} y.B.p) (cc:tiC c'=(if y.k.act=true then(tiC y.k.c).set t 2 else tiC y.k.c)):CpR g long {y with k:={y.k with c:=c'}} {s with m:=j2 s.m t}:=by
 obtain⟨a,b,c,d,e⟩:=jda s.m t
 refine⟨⟨⟨h.p.bo,h.p.tb,h.p.pi,h.p.eT,h.p.eN,h.p.bb,h.p.tbb,h.p.nb,h.p.w⟩,kok,⟨?_,by rw[a];exact h.R.G,by rw[b];exact h.R.hs,by rw[c];exact h.R.root,by rw[d];exact h.R.act,by rw[e];exact h.R.steps⟩,h.oka,h.A,h.oks,h.sa,h.at_,h.D,h.ab,h.bb,h.mb,h.ph,h.st,h.nw⟩,h.eg,h.el,h.i.black t,h.le.black h.i t⟩
 show tiC c'=(j2 s.m t).C
 rw[cc,h.R.C,h.R.act];unfold j2
 split<;>rfl
theorem cyBlack_K {t:Nat} (h:CpR g long y s) (ht:t<g.slots):Call Tryz.prog w0 19 [.pointer (some ⟨y.b,0,none⟩), .int .i64 (t:Nat)] (cycH y++F) (fun r H'=>r= .int .i64 0∧CyQ g long y 0 F {s with m:=j2 s.m t} H'):=by
 have hbl:=fun A=>mkBlack_K (w0:=w0) (F:=A) h.ok (s:=t) (by rw[h.eg];exact ht)
 have hR:=fun c' kok cc=>h.black (c':=c') (t:=t) kok cc
 have hT: ∀ c',c'.f=y.k.c.f→Ju y {y with k:={y.k with c:=c'}} s.W.x 0:=fun c' cf=>⟨rfl,(jaQ h.p.bo).symm,rfl,rfl,rfl,rfl,⟨rfl,rfl,rfl,rfl,rfl,rfl⟩,cf,rfl,rfl⟩
 unfold CyQ;refine zeM ?_;refine yq9 fun T hT=>?_;refine zbe ?_;clear hT T;simp only[cycH_app,seenH_app];refine yq12 fun T hT=>?_;refine zdN ?_;rintro _ _ ⟨rfl,c',kok,cf,cc,rfl⟩;refine za ?_;clear hT T;refine yr4 ?_;exact KE.fin (H':=cycH {y with k:={y.k with c:=c'}}++F) jd rfl jc (by simp only[cycH_app];exact ja) ⟨rfl,_,hR c' kok cc,hT c' cf,by simp only[cycH_app]⟩
end
open Go.RowKit
set_option maxRecDepth 10000
def newC (g:PlG) (caps nw:Nat):CyP:=⟨⟨List.replicate g.words 0,List.replicate caps ⟨0,0,1⟩,List.replicate g.slots 0⟩,JM g nw false,List.replicate g.slots false,false,0,List.replicate g.slots false,0,0⟩
section
variable {g : PlG} {long caps nw : Nat}
theorem jfy (n t:Nat):wAt (List.replicate n 0) t=0:=by
 unfold wAt;rw [List.getElem?_replicate];split<;>rfl
theorem newC_w:Jb g (newC g caps nw).W:=by
 refine⟨List.length_replicate ..,Jx.rep _,List.length_replicate ..,fun v hv=>?_,fun e he h1=>?_⟩
 ·rw[(List.mem_replicate.1 hv).2];decide
 ·rw[(List.mem_replicate.1 he).2] at h1;cases h1
theorem newC_ok (hl:1≤long) (hn:nw≤8):jp g long (newC g caps nw):=by
 refine⟨⟨newC_w,fun s y hy j h1 h2=>?_,new_ok hl hn,new_in,List.length_replicate ..,List.length_replicate ..,fun _=>⟨rfl,rfl,rfl,rfl⟩,fun e=>(by cases e),fun e=>(by cases e),fun e=>(by cases e),Nat.zero_le _,fun e=>absurd (show 2≤0 from e) (by decide)⟩,fun e=>(by cases e),fun e=>(by cases e)⟩
 show wAt (List.replicate g.words 0) _≤_
 rw[jfy];omega
theorem jdI (ok:je g):CyT g (newC g caps nw):=by
 refine⟨⟨fun{r s} hr h=>?_,fun{s t} {i} ha h=>?_⟩,fun t ht y hy j hj=>jfy _ _⟩
 ·exfalso
  unfold jF at h
  cases he:(newC g caps nw).W.T[r]? with
  |some e=>
   rw[he] at h;dsimp only at h
   have:e=⟨0,0,1⟩:=(List.mem_replicate.1 (List.mem_of_getElem? he)).2
   rw[this] at h
   cases h
  |none=>
   rw[he] at h;dsimp only at h
   split at h
   ·rename_i h1
    have h1':((List.replicate g.slots (0:Int))[r-(newC g caps nw).W.T.length]?).getD 0>0:=h1
    rw[List.getElem?_replicate] at h1'
    split at h1'<;>exact absurd h1' (by decide)
   ·cases h
 ·have h':refO g (List.replicate g.words 0) (s:Nat) i=some ((t:Nat):Int):=h
  rw[je8 ok fun y hy j _ hj=>jfy _ _] at h';cases h'
theorem newC_le (ok:je g) (hc:caps≤1024):Jz g (newC g caps nw):=by
 have h1:=jeO (W:=(newC g caps nw).W) ok nw
 have h2:=ok.words
 have h3:(newC g caps nw).W.T.length=caps:=List.length_replicate ..
 refine⟨?_,?_⟩
 ·show 0+jI g (newC g caps nw).W (JM g nw true)≤_
  omega
 ·rw[mes_zero (.inl rfl)];exact Nat.zero_le _
end
structure CyNew (g:PlG) (long caps nw:Nat) (gens:Int) (t:Nat) (m:Jk) (y:CyM):Prop where
 R:CpR g long y (newC g caps nw)
 m:y.B.m=m
 t:y.B.t=t
 G:y.T.gens=gens
 nw:y.nw=nw
 f:y.k.c.f=1
theorem cynew_rel {g:PlG} {long caps nw t b:Nat} {gens:Int} {B:BoM} {a:ArM} {T:TbM} {N:PiM} {k:MkM} {sp:SpM} (okg:je g) (hpg:B.p.g=g) (okB:jaq B (List.replicate g.words 0)) (ht:B.t=t) (hc:caps≤1024) (hnw:nw≤8) (hl:1≤long)
  (oka:JW a B.p) (hA:a.r.bs=List.replicate B.p.g.slots false) (okT:TbOk T) (eT:T.l=List.replicate caps ⟨0,0,1⟩) (eG:T.gens=gens) (okN:PiOk N) (eN:N.l=List.replicate B.p.g.slots 0) (okk:MkOk k B.p) (knil:MkNil k B.p) (kact:k.act=false) (kf:k.c.f=1) (kb:k.bb=B.b) (kt:k.tb=T.b) (kn:k.nb=N.b) (kh:k.hs.length=nw+1) (kl:k.g.ring.length=long)
  (oks:SpOk sp B.p.g.slots) (e1:sp.ab=a.b) (e2:sp.bb=B.b) (e3:sp.mb=k.b) (e4:sp.at_=0) (e5:sp.act=false) (e6:sp.d.bs=List.replicate B.p.g.slots false):
  CyNew g long caps nw gens t B.m ⟨b,B,a,T,N,k,sp,nw,0,0⟩:=by
 subst hpg;refine⟨⟨⟨⟨okB,okT,okN,eT,eN,kb,kt,kn,newC_w⟩,okk,nil_R knil (by rw[kl];exact hl) kact kh,oka,hA,oks,e5,e4,e6,e1,e2,e3,rfl,rfl,kh⟩,rfl,kl,newC_ok hl hnw,newC_le okg hc⟩,rfl,ht,eG,rfl,kf⟩
set_option maxHeartbeats 4000000 in
theorem cyNew_K {w0:World} {F:jb} {c:Cfg} {vc vt:Value} {t:Nat} {m:Jk} {tn:Tn} (hG:jw w0) (hR:j1 w0 F c vc vt) (hc:jT c=true) (ht0:c.tn[t]?=some tn) (okm:JZ m) (hm:m.R[t]?=some (List.replicate (gOf c t).words 0)):
  Call Tryz.prog w0 12 [jt c vc vt, .int .i64 (t:Nat), .pointer (some ⟨m.b,0,none⟩)] (jx m++F)
   (fun r H'=> ∃ y,CyNew (gOf c t) c.grey.toNat tn.caps.toNat c.workers.toNat c.gens t m y∧r= .tuple [.pointer (some ⟨y.b,0,none⟩), .int .i64 0].toArray∧H'=cycH y++F):=by
 have hcfg:=jar hc
 have hten:=hcfg.ten tn (List.mem_of_getElem? ht0)
 have htl:=jl ht0
 have ht:thereP c t 0=true:=jaS (i:=t) (j:=0) hc htl (by have:=hcfg.cl;omega)
 have ga:=g_at ht
 have okg:=ga.ok
 have hreg:regionP c (t:Nat)=((((gOf c t).words:Nat):Int),0):=ga.region
 have hwk:=hcfg.workers
 have hgy:=hcfg.grey
 have hgn:=hcfg.gens
 have hrg:=fun A (hp:Part A F)=>jes (t:=(t:Nat)) (hR.part hp)
 have hpn:=fun A (hp:Part A F)=>pNew_K (t:=(t:Nat)) (hR.part hp) ht
 simp only[hreg] at hrg
 obtain⟨g,hg⟩: ∃ g,g=gOf c t:=⟨_,rfl⟩
 simp only[←hg] at hpn okg hm hrg⊢
 have hall:=fun A=>All_K (w0:=w0) (F:=A) okm
 have hne:m.R.flatten.length≠0:=by
  have h1:=jbE hm
  have h2:=okg.slots
  obtain⟨y0,hy0⟩:=Jg (g:=g) (i:=0) (by omega)
  have:=okg.fits hy0
  have h3:(List.replicate g.words (0:Int)).length=g.words:=List.length_replicate ..
  intro e
  have h4:m.R.flatten=[]:=List.length_eq_zero_iff.1 e
  have h5:=List.flatten_eq_nil_iff.1 h4 _ (List.mem_of_getElem? hm)
  rw[h5] at h3
  simp at h3;omega
 clear hg ga hreg
 obtain⟨hS,hT,o1,o2,l1,l2⟩:=hR
 obtain⟨cl,page,tns,workers,grey,gens⟩:=c
 obtain⟨x1,x2,x3,x4⟩:=tn
 dsimp only at hS hT l1 l2 ht0 hten hwk hgy hgn htl⊢
 obtain⟨caps,rfl⟩: ∃ caps:Nat,x3=caps:=⟨x3.toNat,by omega⟩
 obtain⟨nw,rfl⟩: ∃ nw:Nat,workers=nw:=⟨workers.toNat,by omega⟩
 obtain⟨long,rfl⟩: ∃ long:Nat,grey=long:=⟨grey.toNat,by omega⟩
 simp only[Int.toNat_natCast];simp only[jt,jJ,prV] at hrg hpn⊢
 have hslots:=okg.slots
 refine zdO ?_;refine yr2 ?_;refine ze ?_;intro b3;refine yq8 fun T hT=>?_;refine(CallV.part (CallV.fn (hall _)) ja).mono ?_;rintro _ _ ⟨oa,oka,rfl,rfl⟩
 obtain⟨ob,rfl⟩: ∃ ob,oa=some ob:=by
  cases oa with
  |none=>exact absurd (congrArg List.length oka) hne
  |some ob=>exact⟨ob,rfl⟩
 refine za ?_;clear hT T;refine yq11 fun T hT=>?_;refine(CallV.fn (hrg _ ja)).mono ?_;rintro _ _ ⟨rfl,rfl⟩;refine za ?_;clear hT T;refine yr21 ?_;refine ze ?_;intro b27;refine yq8 fun T hT=>?_;refine(CallV.fn (hpn _ ja)).mono ?_;rintro _ _ ⟨p,okp,hpg,rfl,rfl⟩;refine za ?_;clear hT T;refine yq23 fun T hT=>?_;refine(CallV.part (CallV.fn (bNew_K (t:=t) (x:=List.replicate g.words 0) okm hm okp (by rw[hpg,List.length_replicate]) (Jx.rep _))) ja).mono ?_;rintro _ _ ⟨B,okB,rfl,hBt,rfl,rfl,rfl⟩;refine za ?_;clear hT T;refine yq25 fun T hT=>?_;refine(CallV.part (CallV.fn (aNew_K okp)) ja).mono ?_;rintro _ _ ⟨a,oka2,habs,rfl,rfl⟩;refine za ?_;clear hT T;refine yr9 ?_;refine K.drawn _ [(0,1),(1,0),(2,0),(3,0),(4,0),(5,0),(6,0),(7,0),(8,0),(9,2),(10,0),(11,0),(12,1),(13,0),(14,0),(15,2)] (by kernel_rfl) (by kernel_rfl) (by kernel_rfl) (by kernel_rfl) (by kernel_rfl) (by kernel_rfl) (Part.drop Part.all) ?_;refine zm ?_;refine z8 ?_;refine zaD ?_;refine zcC ?_;refine zJ ?_;refine zaP ?_;refine zo ?_;refine zi fun T hT=>?_;refine(CallV.fn (tbNew_K (n:=caps) (gens:=gens) (by omega) hgn)).mono ?_;rintro _ _ ⟨tb,oktb,htbl,htbg,rfl,rfl⟩;refine zh ?_;clear hT T;refine zam ?_;refine zbf ?_;refine zfe ?_;refine zU ?_;refine yq8 fun T hT=>?_;refine zaV ?_;clear hT T;refine zz fun T hT=>?_;refine(CallV.fn (piNew_K (n:=B.p.g.slots) (by rw[hpg];omega))).mono ?_;rintro _ _ ⟨pi,okpi,hpil,rfl,rfl⟩;refine za ?_;clear hT T;refine yr9 ?_;refine K.drawn _ [(0,1),(1,0),(2,0),(3,0),(4,0),(5,0),(6,0),(7,0),(8,0),(9,0),(10,0),(11,0),(12,0),(13,0),(14,0),(15,0),(16,0),(17,0),(18,0),(19,0),(20,0),(21,2),(22,0),(23,0),(24,1),(25,0),(26,0),(27,2)] (by kernel_rfl) (by kernel_rfl) (by kernel_rfl) (by kernel_rfl) (by kernel_rfl) (by kernel_rfl) (Part.drop Part.all) ?_;refine zm ?_;refine zu ?_;refine z8 ?_;refine zau ?_;refine zaW ?_;refine zu ?_;refine zan ?_;refine zc6 ?_;refine zan ?_;refine zi fun T hT=>?_;refine(CallV.part (CallV.fn (mkNew_K (nw:=nw) (long:=long) hG okB oktb okpi (by rw[hpil,List.length_replicate]) (by omega) (by omega))) ja).mono ?_;rintro _ _ ⟨k,okk,hkn,hka,hkf,hkb,hkt,hkp,hkh,hkr,rfl,rfl⟩;refine zh ?_;clear hT T;refine zam ?_;refine zbf ?_;refine zaP ?_;refine zU ?_;refine yr2 ?_;refine K.drawn _ [(0,1),(1,0),(2,0),(3,0),(4,0),(5,0),(6,0),(7,0),(8,0),(9,0),(10,0),(11,0),(12,0),(13,0),(14,0),(15,0),(16,0),(17,2),(18,0),(19,0),(20,1),(21,0),(22,0),(23,2),(24,0)] (by kernel_rfl) (by kernel_rfl) (by kernel_rfl) (by kernel_rfl) (by kernel_rfl) (by kernel_rfl) (Part.drop Part.all) ?_;refine zm ?_;refine zau ?_;refine zaX ?_;refine zu ?_;refine z8 ?_;refine zu ?_;refine zaP ?_;refine zo ?_;refine zi fun T hT=>?_;refine(CallV.part (CallV.fn (spNew_K hG oka2 okB okk)) ja).mono ?_;rintro _ _ ⟨sp,oks,e1,e2,e3,e4,e5,e6,rfl,rfl⟩;refine zh ?_;clear hT T;refine zam ?_;refine zbf ?_;refine KD.v0 rfl rfl (Val.fieldAddr0 (k:=6) rfl rfl) ?_;refine zb0 ?_;refine zaK ?_;refine yr10 ?_
 have hrel:=cynew_rel (b:=b27) okg hpg okB hBt (by omega) (by omega) (by omega) oka2 habs oktb htbl htbg okpi hpil okk hkn hka hkf hkb hkt hkp hkh hkr oks e1 e2 e3 e4 e5 e6
 exact KE.fin (H':=cycH ⟨b27,B,a,tb,pi,k,sp,nw,0,0⟩++F) jd rfl jc (by simp only[cycH_app];exact ja) ⟨_,hrel,rfl,rfl⟩
open Go.RowKit
set_option maxRecDepth 10000
section
variable {w0 : World} {F : jb} {y : CyM} {s : CyP} {g : PlG} {long : Nat}
theorem jp.words (h:jp g long s) {x':List Int} (hw:Jb g {s.W with x:=x'}) (hr:jap g x') (hf: ∀ t:Nat,t<g.slots→0<refsN s.W.x (jC g (t:Nat))→refsN x' (jC g (t:Nat))=refsN s.W.x (jC g (t:Nat))):jp g long {s with W:={s.W with x:=x'}}:=
 ⟨⟨hw,hr,h.m.world rfl hf,h.i,h.A,h.D,h.p0,h.p1,h.p2,h.p3,h.ph,h.dn⟩,h.lt,fun e=>(jgH rfl).trans (h.go e)⟩
theorem CpR.putx {x':List Int} (h:CpR g long y s) (hw:Jb g {s.W with x:=x'}) (hi:jp g long {s with W:={s.W with x:=x'}}):CpR g long {y with B:=jaA y.B x'} {s with W:={s.W with x:=x'}}:=
 ⟨⟨⟨setB_ok h.p.bo (by rw[hw.x,h.p.w.x,h.eg]) hw.w,h.p.tb,h.p.pi,h.p.eT,h.p.eN,h.p.bb,h.p.tbb,h.p.nb,by show Jb y.B.p.g _;rw [h.eg];exact hw⟩,h.ok,h.R,h.oka,h.A,h.oks,h.sa,h.at_,h.D,h.ab,h.bb,h.mb,h.ph,h.st,h.nw⟩,h.eg,h.el,hi,h.le.world rfl⟩
theorem CpR.tab {T':TbM} {l':List jj} (h:CpR g long y s) (ok:TbOk T') (eb:T'.b=y.T.b) (el:T'.l=l') (hl:l'.length=s.W.T.length) (hi:jp g long {s with W:={s.W with T:=l'}}):CpR g long {y with T:=T'} {s with W:={s.W with T:=l'}}:=
 ⟨⟨⟨h.p.bo,ok,h.p.pi,el,h.p.eN,h.p.bb,h.p.tbb.trans eb.symm,h.p.nb,by rw[h.eg];exact hi.w⟩,h.ok,h.R,h.oka,h.A,h.oks,h.sa,h.at_,h.D,h.ab,h.bb,h.mb,h.ph,h.st,h.nw⟩,h.eg,h.el,hi,h.le.world hl⟩
theorem CpR.pin {N':PiM} {l':List Int} (h:CpR g long y s) (ok:PiOk N') (eb:N'.b=y.N.b) (el:N'.l=l') (hi:jp g long {s with W:={s.W with N:=l'}}):CpR g long {y with N:=N'} {s with W:={s.W with N:=l'}}:=
 ⟨⟨⟨h.p.bo,h.p.tb,ok,h.p.eT,el,h.p.bb,h.p.tbb,h.p.nb.trans eb.symm,by rw[h.eg];exact hi.w⟩,h.ok,h.R,h.oka,h.A,h.oks,h.sa,h.at_,h.D,h.ab,h.bb,h.mb,h.ph,h.st,h.nw⟩,h.eg,h.el,hi,h.le.world rfl⟩
theorem CpR.take {a':ArM} {A':List Bool} (h:CpR g long y s) (ok:JW a' y.B.p) (eb:a'.b=y.a.b) (eA:a'.r.bs=A') (hl:A'.length=s.A.length):CpR g long {y with a:=a'} {s with A:=A'}:=
 ⟨⟨h.p,h.ok,h.R,ok,eA,h.oks,h.sa,h.at_,h.D,h.ab.trans eb.symm,h.bb,h.mb,h.ph,h.st,h.nw⟩,h.eg,h.el,h.i.take hl,⟨h.le.m,h.le.s⟩⟩
theorem Ju.words {x':List Int}:Ju y {y with B:=jaA y.B x'} x' 0:=⟨rfl,rfl,rfl,rfl,rfl,rfl,⟨rfl,rfl,rfl,rfl,rfl,rfl⟩,rfl,rfl,rfl⟩
theorem takeP_len {A:List Bool} {k:Int}:(takeP g A k).2.2.length=A.length:=by
 by_cases h:(takeP g A k).2.1=0
 ·obtain⟨_,_,_,_,_,e,_⟩:=jdc h;rw [e];exact List.length_set
 ·unfold takeP at h⊢
  split
  ·rename_i h1
   rw[if_pos h1] at h
   split
   ·rename_i i hi;rw [hi] at h;exact absurd rfl h
   ·rfl
  ·rfl
theorem cTake_K {k:Int} (hG:jw w0) (h:CpR g long y s):Call Tryz.prog w0 52 [.pointer (some ⟨y.a.b,0,none⟩), .int .i64 k] (cycH y++F)
  (fun r H'=>r= .tuple [.int .i64 (takeP g s.A k).1, .int .i64 (takeP g s.A k).2.1].toArray∧CyQ g long y 0 F {s with A:=(takeP g s.A k).2.2} H'):=by
 have hc:=fun A=>Take_K (w0:=w0) (F:=A) (k:=k) hG h.oka
 rw[h.A,h.eg] at hc;refine zbN ?_;rintro _ _ ⟨rfl,a',ka,ab,arb,abs,rfl⟩;exact⟨_,⟨rfl,_,h.take ka ab abs takeP_len,⟨rfl,(jaQ h.p.bo).symm,ab,rfl,rfl,rfl,⟨rfl,rfl,rfl,rfl,rfl,rfl⟩,rfl,rfl,rfl⟩,rfl⟩,by simp only[cycH_app,ab];exact ja⟩
theorem cMint_K {n:Nat} (h:CpR g long y s) (hn:n<g.slots):Call Tryz.prog w0 53 [.pointer (some ⟨y.T.b,0,none⟩), .int .i64 (n:Nat)] (cycH y++F)
  (fun r H'=>r= .tuple [.int .i64 (mintV s.W.T).1, .int .u32 (mintV s.W.T).2.1, .int .i64 (mintV s.W.T).2.2].toArray∧CyQ g long y 0 F {s with W:={s.W with T:=jZ s.W.T (n:Nat)}} H'):=by
 have okg:=h.okg
 have hsl:=okg.slots
 have hc:=fun A=>tbMint_K (w0:=w0) (F:=A) (s:=n) h.p.tb (by omega)
 rw[h.p.eT] at hc
 have hi:jp g long {s with W:={s.W with T:=jZ s.W.T (n:Nat)}}:=by
  have:=h.i.world okg (a:=⟨4,(n:Nat),0,0,0,0⟩)
  rwa[jhp ⟨by omega,by omega⟩] at this
 refine zbN ?_;rintro _ _ ⟨T',kT,eb,eG,el,rfl,rfl⟩;exact⟨_,⟨rfl,_,h.tab kT eb el jaX hi,⟨rfl,(jaQ h.p.bo).symm,rfl,eb,eG,rfl,⟨rfl,rfl,rfl,rfl,rfl,rfl⟩,rfl,rfl,rfl⟩,rfl⟩,by simp only[cycH_app,eb];exact ja⟩
theorem cDrop_K {i:Nat} {e:jj} (h:CpR g long y s) (he:s.W.T[i]?=some e) (h1:e.st=1):Call Tryz.prog w0 157 [.pointer (some ⟨y.T.b,0,none⟩), .int .i64 (i:Nat), .int .u32 e.gen] (cycH y++F)
  (fun r H'=>r= .tuple [.int .i64 e.slot, .int .i64 0].toArray∧CyQ g long y 0 F {s with W:={s.W with T:=Jt s.W.T (i:Nat)}} H'):=by
 have okg:=h.okg
 have he':y.T.l[i]?=some e:=by rw[h.p.eT];exact he
 have hc:=fun A=>tbDrop_K (w0:=w0) (F:=A) h.p.tb he' h1
 have hb:=h.p.tb.e e (List.mem_of_getElem? he')
 have hd:Jt s.W.T (i:Nat)=s.W.T.set i ⟨2,e.slot,e.gen⟩:=by
  unfold Jt;rw [if_pos (by omega),Int.toNat_natCast,he];dsimp only;rw [if_pos h1]
 have hi:jp g long {s with W:={s.W with T:=Jt s.W.T (i:Nat)}}:=by
  have:=h.i.world okg (a:=⟨5,0,(i:Nat),0,0,0⟩)
  rwa[jdr] at this
 refine zbN ?_;refine zq ?_;exact⟨_,⟨rfl,_,h.tab (T':=⟨y.T.b,y.T.l.set i ⟨2,e.slot,e.gen⟩,y.T.gens,y.T.o⟩) (jc2 h.p.tb (by dsimp only;omega)) rfl (by rw[hd,h.p.eT]) jbR hi,⟨rfl,(jaQ h.p.bo).symm,rfl,rfl,rfl,rfl,⟨rfl,rfl,rfl,rfl,rfl,rfl⟩,rfl,rfl,rfl⟩,rfl⟩,by simp only[cycH_app];exact ja⟩
theorem cPin_K {n:Nat} (h:CpR g long y s) (hn:n<g.slots):Call Tryz.prog w0 159 [.pointer (some ⟨y.N.b,0,none⟩), .int .i64 (n:Nat)] (cycH y++F)
  (fun r H'=>(∃ e,r= .int .i64 e)∧CyQ g long y 0 F {s with W:={s.W with N:=JJ s.W.N n}} H'):=by
 have okg:=h.okg
 have hc:=fun A=>Pin_K (w0:=w0) (F:=A) (s:=n) h.p.pi (by rw[h.p.eN,h.i.w.N];exact hn)
 rw[h.p.eN] at hc
 have hi:jp g long {s with W:={s.W with N:=JJ s.W.N n}}:=by
  have:=h.i.world okg (a:=⟨6,(n:Nat),0,0,0,0⟩)
  rwa[actW_pin ⟨by omega,by omega⟩] at this
 refine zbN ?_;rintro _ _ ⟨hr,N',kN,eb,el,rfl⟩;exact zfL
theorem cUnpin_K {n:Nat} (h:CpR g long y s) (hn:n<g.slots):Call Tryz.prog w0 161 [.pointer (some ⟨y.N.b,0,none⟩), .int .i64 (n:Nat)] (cycH y++F)
  (fun r H'=>(∃ e,r= .int .i64 e)∧CyQ g long y 0 F {s with W:={s.W with N:=JO s.W.N n}} H'):=by
 have okg:=h.okg
 have hc:=fun A=>Unpin_K (w0:=w0) (F:=A) (s:=n) h.p.pi (by rw[h.p.eN,h.i.w.N];exact hn)
 rw[h.p.eN] at hc
 have hi:jp g long {s with W:={s.W with N:=JO s.W.N n}}:=by
  have:=h.i.world okg (a:=⟨7,(n:Nat),0,0,0,0⟩)
  rwa[jdb ⟨by omega,by omega⟩] at this
 refine zbN ?_;rintro _ _ ⟨hr,N',kN,eb,el,rfl⟩;exact zfL
theorem cMake_K {n:Nat} {z:ju} {hd:HdP} (hG:jw w0) (h:CpR g long y s) (hz:g.L[n]?=some z):Call Tryz.prog w0 54 [.pointer (some ⟨y.B.b,0,none⟩), .int .i64 (n:Nat),hdV hd] (cycH y++F)
  (fun r H'=>r= .int .i64 (jW s.W.x z hd).1∧CyQ g long y 0 F {s with W:={s.W with x:=(jW s.W.x z hd).2}} H'):=by
 have okg:=h.okg
 have hc:=fun A=>Make_K (w0:=w0) (F:=A) (h:=hd) hG h.p.bo (s:=n) (by rw[h.eg];exact hz)
 have hf:=okg.fits hz
 have hw:Jb g {s.W with x:=(jW s.W.x z hd).2}:=⟨by show(jW s.W.x z hd).2.length=_;rw [make_len (by rw[h.i.w.x];omega)];exact h.i.w.x,make_ok h.i.w.w,h.i.w.N,h.i.w.n,h.i.w.t⟩
 have hi:=h.i.words hw (make_rf okg h.i.w.x h.i.rf hz hd) fun t ht hp=>jhb okg h.i.w.x hz hd ht hp
 refine zbN ?_;refine zq ?_;exact⟨_,⟨rfl,_,h.putx hw hi,Ju.words,rfl⟩,by simp only[cycH_app,setB_H];exact ja⟩
theorem cSetRef_K {n:Nat} {z:ju} {i to:Int} (hG:jw w0) (h:CpR g long y s) (hz:g.L[n]?=some z):Call Tryz.prog w0 224 [.pointer (some ⟨y.B.b,0,none⟩), .int .i64 (n:Nat), .int .i64 i, .int .i64 to] (cycH y++F)
  (fun r H'=>r= .int .i64 (j7 s.W.x g.slots z i to).1∧CyQ g long y 0 F {s with W:={s.W with x:=(j7 s.W.x g.slots z i to).2}} H'):=by
 have okg:=h.okg
 have hsl:=okg.slots
 have hc:=fun A=>bSetRef_K (w0:=w0) (F:=A) (i:=i) (to:=to) hG h.p.bo (s:=n) (by rw[h.eg];exact hz)
 rw[h.eg] at hc
 have hw:Jb g {s.W with x:=(j7 s.W.x g.slots z i to).2}:=⟨by show(j7 s.W.x _ z i to).2.length=_;rw [jgy];exact h.i.w.x,jgY h.i.w.w (by omega),h.i.w.N,h.i.w.n,h.i.w.t⟩
 have hi:=h.i.words hw (set_rf okg h.i.w.x h.i.rf hz) fun t ht hp=>set_refs okg hz ht
 refine zbN ?_;refine zq ?_;exact⟨_,⟨rfl,_,h.putx hw hi,Ju.words,rfl⟩,by simp only[cycH_app,setB_H];exact ja⟩
end
end Go.Proofs.YtldomapkmopomaaGreatDoor.Sw
