/-The walker and the contracts that the law needs,part 21. -/
import Derived.Test.YtpcgafhgfjlkmaaGreatDoorD1
import Derived.ArgAppend
import Derived.ChangeMaps5
import Derived.Deep.Fields
import Derived.Deep.LoopGhost
import Derived.Deep.OwnRows
import Derived.Deep.Quiet
import Derived.Deep.Slices
import Derived.IntWalk
import Derived.Laws.Cells
import Derived.Laws.CopyOwn
import Derived.Laws.Externs
import Derived.Laws.FloatArith
import Derived.Laws.IdiomStrings
import Derived.Laws.NewFold
import Derived.Laws.StructEq
import Derived.Lib.BitFns
import Derived.Lib.Hide
import Derived.Lib.SmallJoins
import Derived.Lib.TrailingZeros
import Derived.Maps.RangeRun
import Derived.OrdersIn
import Derived.ProofKit
import Derived.RangeFuncBound
import Derived.RangeFuncCalls
import Derived.RangeFuncLeaves
import Derived.RangeFuncNested
import Derived.RecoverIn
import Derived.Shelf.Bits.Mul64
import Derived.Shelf.Slices.Turned
import Derived.Shelf.Spec.TrailingZeros
import Derived.Shelf.Strconv.Itoa0
import Derived.SizedLaws
import Derived.Sort.BigQuietIn
import Derived.StillTailTactics
import Derived.Test.YtpcgafhgfjlkmaaGreatDoorProg
import Derived.WalkKit
import Derived.Test.YtpcgafhgfjlkmaaGreatDoorJ19
import Derived.Test.YtpcgafhgfjlkmaaGreatDoorJ20
set_option linter.unusedVariables false set_option linter.unusedSimpArgs false set_option linter.unusedVariables false
set_option linter.unusedSimpArgs false
namespace Go.Proofs.YtpcgafhgfjlkmaaGreatDoor.Sw
set_option maxHeartbeats 8000000
open Go.Proofs.YtpcgafhgfjlkmaaGreatDoor renaming lo → qL, hi → qH
open Go.RowKit
set_option maxRecDepth 10000
structure RkS where
 k:Nat
set_option maxHeartbeats 1000000 in
theorem jiG {w0:World} {H:jb} {c:Cfg} {vc vt:Value} (hR:Jo w0 H c vc vt):
  Call Tryz.prog w0 83 [jw c vc vt] H (fun r H'=>r= .int .i64 (jbe (jX c) 2)∧H'=H):=by
 obtain⟨hS,hT',o1,o2,l1,l2⟩:=hR
 obtain⟨cl,page,tn,workers,grey,gens⟩:=c
 dsimp only at hS hT' l1 l2;simp only[jw,jT]
 cases hc:Jq cl with
 |false=>
  have hf:jX ⟨cl,page,tn,workers,grey,gens⟩=false:=by simp[jX,hc]
  refine Call.enter1 (n:=83) (by kernel_rfl) Tryz.func83 rfl rfl rfl ?_;refine zdV ?_;intro b1;refine zX ?_;refine zB ?_;refine zq fun T hT=>?_;refine(CallV.fn (jhy (l:=cl) (hS.part ja) l1)).mono ?_;rintro _ _ ⟨rfl,rfl⟩;rw[hc];refine ziB ?_;clear hT T;refine zag ?_;exact zf7
 |true=>
  have hcc:=hc
  simp only[Jq,Bool.and_eq_true,decide_eq_true_eq] at hcc
  obtain⟨z,hz⟩:=jA (l:=cl) (k:=cl.length-1) (by omega)
  have hzl:cl.getLast?=some z:=by rw[List.getLast?_eq_getElem?];exact hz
  have htop:jbL cl=z:=by simp[jbL,hzl]
  have hz':cl[(((cl.length:Nat):Int)-1).toNat]?=some z:=by rw[show(((cl.length:Nat):Int)-1).toNat=cl.length-1 by omega];exact hz
  have hcl1:1≤cl.length:=hcc.1.1.1
  have hpl:jc9 ⟨cl,page,tn,workers,grey,gens⟩=(rnP page z 64&&(rnP (tn.length:Nat) 1 8&&(rnP workers 0 8&&(rnP grey 1 64&&rnP gens 1 2147483648)))):=by
   simp only[jc9,htop,jao,rnP,Bool.and_true,Bool.and_assoc]
  have hcp:jX ⟨cl,page,tn,workers,grey,gens⟩=(jc9 ⟨cl,page,tn,workers,grey,gens⟩&&tn.all (jbM z)):=by simp[jX,hc,htop]
  have hout:jc9 ⟨cl,page,tn,workers,grey,gens⟩=false→jX ⟨cl,page,tn,workers,grey,gens⟩=false:=fun h=>by rw[hcp,h];rfl
  refine Call.enter1 (n:=83) (by kernel_rfl) Tryz.func83 rfl rfl rfl ?_;refine zdV ?_;intro b1;refine zX ?_;refine zB ?_;refine zq fun T hT=>?_;refine(CallV.fn (jhy (l:=cl) (hS.part ja) l1)).mono ?_;rintro _ _ ⟨rfl,rfl⟩;rw[hc];simp only[jbe,if_true];refine zd ?_;clear hT T;refine zaE ?_;refine zz ?_;refine zB ?_;refine zB ?_;refine zad ?_;refine zdO ?_;refine zhK ?_;refine z8 ?_;refine zX ?_;refine zF ?_;refine zx fun T hT=>?_;refine zeq ?_;rintro _ _ ⟨rfl,rfl⟩
  cases g1:rnP page z 64 with
  |false=>
   have hf:=hout (by rw[hpl,g1];rfl)
   refine zd ?_;clear hT T;refine zU ?_;refine zdc ?_;refine zfZ ?_;refine zb5 ?_;refine zb5 ?_;refine zb5 ?_;exact zf7
  |true=>
   refine zd ?_;clear hT T;refine zE ?_;refine zL ?_;refine zga ?_;refine zq fun T hT=>?_;refine zeq ?_;rintro _ _ ⟨rfl,rfl⟩
   cases g2:rnP (tn.length:Nat) 1 8 with
   |false=>
    have hf:=hout (by rw[hpl,g1,g2];rfl)
    refine zd ?_;clear hT T;refine zfl ?_;refine zb5 ?_;refine zb5 ?_;refine zb5 ?_;exact zf7
   |true=>
    refine zd ?_;clear hT T;refine zd4 ?_;refine zL ?_;refine zd9 ?_;refine zq fun T hT=>?_;refine zeq ?_;rintro _ _ ⟨rfl,rfl⟩
    cases g3:rnP workers 0 8 with
    |false=>
     have hf:=hout (by rw[hpl,g1,g2,g3];rfl)
     refine zd ?_;clear hT T;refine zfl ?_;refine zb5 ?_;refine zb5 ?_;exact zf7
    |true=>
     refine zd ?_;clear hT T;refine zd4 ?_;refine zL ?_;refine zah ?_;refine zai ?_;refine zq fun T hT=>?_;refine zeq ?_;rintro _ _ ⟨rfl,rfl⟩
     cases g4:rnP grey 1 64 with
     |false=>
      have hf:=hout (by rw[hpl,g1,g2,g3,g4];rfl)
      refine zd ?_;clear hT T;refine zfl ?_;refine zb5 ?_;exact zf7
     |true=>
      refine zd ?_;clear hT T;refine zd4 ?_;refine zL ?_;refine zca ?_;refine zai ?_;refine zq fun T hT=>?_;refine zeq ?_;rintro _ _ ⟨rfl,rfl⟩
      cases g5:rnP gens 1 2147483648 with
      |false=>
       have hf:=hout (by rw[hpl,g1,g2,g3,g4,g5];rfl)
       refine zd ?_;clear hT T;refine zfl ?_;exact zf7
      |true=>
       have hcr:jX ⟨cl,page,tn,workers,grey,gens⟩=tn.all (jbM z):=by rw[hcp,hpl,g1,g2,g3,g4,g5];rfl
       refine zd ?_;clear hT T;refine zd4 ?_;refine z9 ?_;refine zcO ?_;refine K.loopT (σ:=RkS) [(1,_),(3,_)] (fun s kp_=>(4, .int .i64 (s.k:Nat))::kp_) (fun s=>(b1,cells [vc, .int .i64 page,vt, .int .i64 workers, .int .i64 grey, .int .i64 gens] 25)::H) (fun s=>s.k≤tn.length∧tn.all (jbM z)=(tn.drop s.k).all (jbM z)) (fun s=>tn.length-s.k) (⟨0⟩) jj ja (⟨by simp,by simp⟩) ?_;rintro⟨k⟩ ⟨hk,hr⟩;dsimp only at hk hr⊢
       by_cases hlt:k<tn.length
       ·obtain⟨t,ht⟩:=jA hlt
        have hd:tn.drop k=t::tn.drop (k+1):=by
         obtain⟨h1,e⟩:=List.getElem?_eq_some_iff.1 ht
         rw[List.drop_eq_getElem_cons h1,e]
        rw[hd,List.all_cons] at hr
        obtain⟨q,tr,cp,ax⟩:=t
        have hte:jbM z ⟨q,tr,cp,ax⟩=(rnP q z 4096&&(rnP tr 1 1048576&&(rnP cp 1 1024&&rnP ax 0 1024))):=by
         simp only[jbM,jao,rnP,Bool.and_true,Bool.and_assoc]
        have hno:jbM z ⟨q,tr,cp,ax⟩=false→jX ⟨cl,page,tn,workers,grey,gens⟩=false:=fun h=>by rw[hcr,hr,h];rfl
        rw[hte] at hr hno;refine zaA ?_;refine zI ?_;refine zce ?_;refine zbc ?_;refine zI ?_;refine zcP ?_;refine ze5 ?_;refine zaH ?_;intro b5;refine zB ?_;refine zx fun T hT=>?_;refine zeq ?_;rintro _ _ ⟨rfl,rfl⟩
        cases m1:rnP q z 4096 with
        |false=>
         have hf:=hno (by rw[m1];rfl)
         refine zd ?_;clear hT T;refine zU ?_;refine zb5 ?_;refine zb5 ?_;refine zb5 ?_;refine zac ?_;exact zgS
        |true=>
         refine zd ?_;clear hT T;refine zE ?_;refine zL ?_;refine zbh ?_;refine zq fun T hT=>?_;refine zeq ?_;rintro _ _ ⟨rfl,rfl⟩
         cases m2:rnP tr 1 1048576 with
         |false=>
          have hf:=hno (by rw[m1,m2];rfl)
          refine zd ?_;clear hT T;refine zfl ?_;refine zb5 ?_;refine zb5 ?_;refine zac ?_;exact zgS
         |true=>
          refine zd ?_;clear hT T;refine zd4 ?_;refine zL ?_;refine zeA ?_;refine zq fun T hT=>?_;refine zeq ?_;rintro _ _ ⟨rfl,rfl⟩
          cases m3:rnP cp 1 1024 with
          |false=>
           have hf:=hno (by rw[m1,m2,m3];rfl)
           refine zd ?_;clear hT T;refine zfl ?_;refine zb5 ?_;refine zac ?_;exact zgS
          |true=>
           refine zd ?_;clear hT T;refine zd4 ?_;refine zL ?_;refine zd9 ?_;refine zq fun T hT=>?_;refine zeq ?_;rintro _ _ ⟨rfl,rfl⟩
           cases m4:rnP ax 0 1024 with
           |false=>
            have hf:=hno (by rw[m1,m2,m3,m4];rfl)
            refine zd ?_;clear hT T;refine zfl ?_;refine zac ?_;exact zgS
           |true=>
            rw[m1,m2,m3,m4,Bool.true_and,Bool.true_and,Bool.true_and,Bool.true_and] at hr;refine zd ?_;clear hT T;refine zd4 ?_;refine zeD ?_;exact KE.again ⟨k+1⟩ jj ja ⟨by show k+1≤_;omega,hr⟩ (by show tn.length-(k+1)<tn.length-k;omega)
       ·have hf:jX ⟨cl,page,tn,workers,grey,gens⟩=true:=by rw[hcr,hr,List.drop_of_length_le (by omega)];rfl
        refine zaA ?_;refine zI ?_;refine zcV ?_;refine zf ?_;exact ze4
set_option maxRecDepth 10000
section
variable {w0 : World} {F : jb} {B : BoM} {x : List Int} {s : Nat} {y : jg}
theorem bat_K {ref:Bool} {i:Int} {g:FuncId} {cap:List Value} {B1:jb} (hG:js w0) (ok:jag B x) (hy:B.p.g.L[s]?=some y)
  (hdo:fldP x y ref i=0→ ∀ A,CallV Tryz.prog w0 (.func (.func g) #[] cap.toArray) [.int .i64 (fAt y i:Nat)] (A++(jR B++(jv B.m++(planH B.p++F)))) (fun r H'=>r= .tuple #[]∧H'=A++B1)):
  Call Tryz.prog w0 286 [.pointer (some ⟨B.b,0,none⟩), .bool ref, .int .i64 (s:Nat), .int .i64 i, .func (.func g) #[] cap.toArray] (jR B++(jv B.m++(planH B.p++F)))
   (fun r H'=>r= .int .i64 (fldP x y ref i)∧H'=if fldP x y ref i=0 then B1 else jR B++(jv B.m++(planH B.p++F))):=by
 obtain⟨f1,f2,f3,_⟩:=ok.p.g.fits hy
 have hfl:fldP x y ref i=match headP x y with|none=>5|some h=>if 0≤i∧i<h.r+h.w∧decide (i<h.r)=ref then 0 else 110:=rfl
 have hwords:=ok.p.g.words
 have hhm: ∀ h,headP x y=some h→Jd h=true:=fun h e=>(jaD (jaY e).2).1
 have hin:=fun(e:fldP x y ref i=0)=>JQ e
 refine Call.enter5 (n:=53) (by rfl) Tryz.func286 rfl rfl rfl ?_;refine z7 ?_;refine zaC fun T hT=>?_;refine(CallV.part (CallV.fn (jdO hG ok hy)) ja).mono ?_;rintro _ _ ⟨rfl,rfl⟩;unfold headV
 cases hh:headP x y with
 |none=>
  rw[hh] at hfl;dsimp only at hfl;unfold hdV;dsimp only;refine zd ?_;clear hT T;rw[hfl,if_neg (by decide)];refine zaX ?_;intro b11;refine z6 ?_;refine zag ?_;refine zf9 ?_;exact zaT
 |some h=>
  rw[hh] at hfl;dsimp only at hfl
  have hm:=hhm h hh
  have hF:=fun A=>jkB (w0:=w0) (H:=A) (h:=h) (i:=i)
  have hfd:jaO h i=if i<0∨i≥h.r+h.w then(false,110) else(decide (i<h.r),0):=by grind[jaO]
  obtain⟨c,r,w⟩:=h
  unfold hdV at*;dsimp only at*;clear hhm
  by_cases h1:i<0∨i≥r+w
  ·rw[if_pos h1] at hfd;rw[if_neg (by omega)] at hfl;simp only[hfd] at hF;refine zd ?_;clear hT T;rw[hfl,if_neg (by decide)];refine zaX ?_;intro b11;refine zdB ?_;refine z9 ?_;refine zb3 ?_;refine jq (hF _) ?_;refine zcZ ?_;refine zag ?_;refine zd7 ?_;exact zdv
  ·rw[if_neg h1] at hfd;simp only[hfd] at hF
   by_cases h2:decide (i<r)=ref
   ·rw[if_pos ⟨by omega,by omega,h2⟩] at hfl
    obtain⟨q1,q2,q3⟩:=hin hfl
    have had:((y.addr:Nat):Int)+1+i=(fAt y i:Nat):=by grind[fAt]
    subst h2;refine zd ?_;clear hT T;rw[hfl,if_pos rfl];refine zaX ?_;intro b11;refine zdB ?_;refine z9 ?_;refine z3 ?_;refine zx fun T hT=>?_;refine(CallV.fn (hF _)).mono ?_;rintro _ _ ⟨rfl,rfl⟩
    have hdo1:=hdo hfl [(b11,cells [.int .i64 c, .int .i64 r, .int .i64 w] 65)]
    have hbn:(decide (i<r) !=decide (i<r))=false:=by simp
    refine zd ?_;clear hT T;refine zQ ?_;refine zcv ?_;refine zbM ?_;refine zhU ?_;refine zC ?_;refine zaY ?_;rw[hbn];refine K.condF rfl (K.skip (KE.next (K.seq (K.region ?_))));refine zat ?_;refine zgy ?_;refine za9 ?_;refine zu ?_;refine zm ?_;refine zal ?_;refine ze ?_;refine zal ?_;refine zq fun T hT=>?_;rw[had];refine(CallV.part hdo1 ja).mono ?_;rintro _ _ ⟨rfl,rfl⟩;refine zd ?_;clear hT T;refine zW ?_;exact zt
   ·rw[if_neg (by grind)] at hfl
    have hbn:(decide (i<r) !=ref)=true:=by
     grind
    refine zd ?_;clear hT T;rw[hfl,if_neg (by decide)];refine zaX ?_;intro b11;refine zdB ?_;refine z9 ?_;refine zb3 ?_;refine jq (hF _) ?_;refine zQ ?_;refine zcv ?_;refine zbM ?_;refine zhU ?_;refine zC ?_;refine zaY ?_;rw[hbn];refine K.condT rfl (K.seq (K.region ?_));exact zaT
theorem jkN {ref:Bool} {i w:Int} (hG:js w0) (ok:jag B x) (hy:B.p.g.L[s]?=some y):
  Call Tryz.prog w0 250 [.pointer (some ⟨B.b,0,none⟩), .bool ref, .int .i64 (s:Nat), .int .i64 i, .int .u64 w] (jR B++(jv B.m++(planH B.p++F)))
   (fun r H'=>r= .int .i64 (fldP x y ref i)∧H'=jR B++(jv (jaf B.m B.t (if fldP x y ref i=0 then x.set (fAt y i) w else x))++(planH B.p++F))):=by
 have okm:=ok.m
 have hr:=ok.r
 obtain⟨f1,f2,f3,_⟩:=ok.p.g.fits hy
 have hin:=fun(e:fldP x y ref i=0)=>JQ e
 have hn:=ok.n
 have hself:=jfr hr
 refine Call.enter5 (n:=17) (by rfl) Tryz.func250 rfl rfl rfl ?_;refine zaU ?_;intro b5 b9;refine zu ?_;refine zp ?_;refine zm ?_;refine ze ?_;refine zaJ fun T hT=>?_
 refine(CallV.part (CallV.fn (bat_K (F:=(b5,cells [.pointer (some ⟨B.b,0,none⟩)] 88)::(b9,cells [.int .u64 w] 33)::F) (ref:=ref) (i:=i) (g:=288) (cap:=[.pointer (some ⟨b5,0,none⟩), .pointer (some ⟨b9,0,none⟩)])
  (B1:=jR B++(jv (jaf B.m B.t (x.set (fAt y i) w))++(planH B.p++((b5,cells [.pointer (some ⟨B.b,0,none⟩)] 88)::(b9,cells [.int .u64 w] 33)::F)))) hG ok hy ?_)) ja).mono ?_
 ·intro e A
  obtain⟨q1,q2,q3⟩:=hin e
  refine CallV.clo (cap:=[.pointer (some ⟨b5,0,none⟩), .pointer (some ⟨b9,0,none⟩)]) ?_;refine Call.enter3 (n:=15) (by rfl) Tryz.func288 rfl rfl rfl ?_;rw[jaX];refine zhW ?_;refine zbN ?_;refine zdf ?_;refine zbN ?_;refine zd1 ?_;refine zj ?_;refine zP ?_;refine zl fun T hT=>?_;refine(CallV.part (CallV.fn (Store_K (t:=B.t) (a:=fAt y i) (x:=x) (w:=w) okm hr (by omega))) ja).mono ?_;rintro _ _ ⟨rfl,rfl⟩;rw[jj9 hr];refine zg ?_;clear hT T;refine zD ?_;exact KE.finN je rfl jd (by rw[jaX];exact ja) ⟨rfl,rfl⟩
 ·rintro _ _ ⟨rfl,rfl⟩
  by_cases e:fldP x y ref i=0
  ·rw[if_pos e];refine zd ?_;clear hT T;rw[if_pos e];exact zt
  ·rw[if_neg e];refine zd ?_;clear hT T;rw[if_neg e,hself];exact zt
theorem jlw {i w:Int}:Jk x y i w=(fldP x y false i,if fldP x y false i=0 then x.set (fAt y i) w else x):=by
 grind[Jk]
theorem jmx {i w:Int} (hG:js w0) (ok:jag B x) (hy:B.p.g.L[s]?=some y):
  Call Tryz.prog w0 192 [.pointer (some ⟨B.b,0,none⟩), .int .i64 (s:Nat), .int .i64 i, .int .u64 w] (jR B++(jv B.m++(planH B.p++F)))
   (fun r H'=>r= .int .i64 (Jk x y i w).1∧H'=jR B++(jv (jaf B.m B.t (Jk x y i w).2)++(planH B.p++F))):=by
 rw[jlw];dsimp only;refine Call.enter4 (n:=14) (by rfl) Tryz.func192 rfl rfl rfl ?_;refine zdx ?_;refine zat ?_;refine ji (jkN hG ok hy) ja ?_;exact zt
end
set_option maxRecDepth 10000
section
variable {w0 : World} {F : jb} {k : MkM} {p : jQ}
theorem mktouch_K {s:Nat} {c:Int} {g:FuncId} {cap:List Value} {R:jb→Prop} (ok:MkOk k p) (hc:(tiC k.c)[s]?=some c)
  (hdo:k.act=true→CallV Tryz.prog w0 (.func (.func g) #[] cap.toArray) [.int .i64 (s:Nat)] (jp k p++F) (fun r H'=>r= .tuple #[]∧R H')):
  Call Tryz.prog w0 278 [.pointer (some ⟨k.b,0,none⟩), .int .i64 (s:Nat), .func (.func g) #[] cap.toArray] (jp k p++F) (fun r H'=>r= .int .i64 0∧(k.act=true→R H')∧(k.act=false→H'=jp k p++F)):=by
 cases ha:k.act with
 |true=>
  have h1:=hdo ha
  refine zi3 ?_;refine zck ?_;refine jq (jc5 ok hc) ?_;rw[jo,ha];refine zaM ?_;refine zJ ?_;refine zan ?_;refine zbu ?_;refine zi ?_;refine zp ?_;refine zw ?_;refine zaS ?_;refine zaC fun T hT=>?_;refine(CallV.part h1 (by rw[jo,ha];exact ja)).mono ?_;rintro _ H' ⟨rfl,hR⟩;refine zd ?_;clear hT T;refine zW ?_;refine za8 ?_;exact KE.fin je rfl jd ja ⟨rfl,fun _=>hR,fun h=>by grind⟩
 |false=>
  refine zi3 ?_;refine zck ?_;refine jq (jc5 ok hc) ?_;rw[jo,ha];refine zaM ?_;refine zJ ?_;refine zan ?_;refine zbu ?_;refine zi ?_;refine zp ?_;refine zw ?_;refine zaG ?_;refine zf ?_;exact KE.fin (H':=jp k p++F) je rfl jd (by rw[jo,ha];exact ja) ⟨rfl,fun h=>(by grind),fun _=>by grind[jo]⟩
theorem mkBlack_K {s:Nat} (ok:MkOk k p) (hs:s<p.g.slots):Call Tryz.prog w0 240 [.pointer (some ⟨k.b,0,none⟩), .int .i64 (s:Nat)] (jp k p++F)
  (fun r H'=>r= .int .i64 0∧ ∃ c',MkOk {k with c:=c'} p∧c'.f=k.c.f∧tiC c'=(if k.act=true then(tiC k.c).set s 2 else tiC k.c)∧H'=jp {k with c:=c'} p++F):=by
 have okc:=ok.c
 obtain⟨c,hc⟩:=jeb ok hs
 have hsl:s<k.c.l.length:=by rw[ok.n];omega
 refine Call.enter2 (n:=9) (by rfl) Tryz.func240 rfl rfl rfl ?_;refine zcN ?_;intro b2;refine zdz ?_;refine zaJ fun T hT=>?_
 refine(CallV.part (CallV.fn (mktouch_K (F:=(b2,cells [.pointer (some ⟨k.b,0,none⟩)] 104)::F) (g:=279) (cap:=[.pointer (some ⟨b2,0,none⟩)])
  (R:=fun H'=> ∃ c',MkOk {k with c:=c'} p∧c'.f=k.c.f∧tiC c'=(tiC k.c).set s 2∧H'=jp {k with c:=c'} p++((b2,cells [.pointer (some ⟨k.b,0,none⟩)] 104)::F)) ok hc ?_)) ja).mono ?_
 ·intro ha;refine zkl ?_;refine Call.enter2 (n:=9) (by rfl) Tryz.func279 rfl rfl rfl ?_;rw[jo];refine K.region ?_;refine zb2 ?_;refine zah ?_;refine zdu ?_;refine j4 (jgU okc hsl) ja ?_;rintro _ _ ⟨rfl,c',kc,cb,cf,cc,rfl⟩;refine zN ?_;rw[←cb]
  have hcn:c'.l.length=p.g.slots:=by have:=congrArg List.length cc;rw [jba,List.length_set,jba,ok.n] at this;omega
  exact KE.finN (H':=jp {k with c:=c'} p++((b2,cells [.pointer (some ⟨k.b,0,none⟩)] 104)::F)) je rfl jd (by rw[jo];exact ja) ⟨rfl,c',⟨kc,ok.g,hcn,ok.o,ok.hs⟩,cf,cc,rfl⟩
 ·rintro _ H' ⟨rfl,h1,h2⟩
  cases ha:k.act with
  |true=>
   obtain⟨c',kc,cf,cc,rfl⟩:=h1 ha
   refine zd ?_;clear hT T;refine zf ?_;exact KE.fin je rfl jd ja ⟨rfl,c',kc,cf,by grind,rfl⟩
  |false=>
   obtain rfl:=h2 ha
   refine zd ?_;clear hT T;refine zf ?_;exact KE.fin je rfl jd ja ⟨rfl,k.c,ok,rfl,by grind,rfl⟩
end
theorem mkNew_K {w0:World} {F:jb} {B:BoM} {x:List Int} {T:TbM} {N:PiM} {nw long:Nat} (hG:js w0) (ok:jag B x) (okT:TbOk T) (okN:PiOk N) (hN:N.l.length=B.p.g.slots) (hw:nw≤8) (hl:1≤long∧long≤64):
  Call Tryz.prog w0 103 [.pointer (some ⟨B.b,0,none⟩), .pointer (some ⟨B.p.b,0,none⟩), .pointer (some ⟨T.b,0,none⟩), .pointer (some ⟨N.b,0,none⟩), .int .i64 (nw:Nat), .int .i64 (long:Nat)] (jR B++(jv B.m++(planH B.p++(jy T++(JD N++F)))))
   (fun r H'=> ∃ k,MkOk k B.p∧MkNil k B.p∧k.act=false∧k.c.f=1∧k.bb=B.b∧k.tb=T.b∧k.nb=N.b∧k.hs.length=nw+1∧k.g.ring.length=long∧r= .tuple [.pointer (some ⟨k.b,0,none⟩), .int .i64 0].toArray∧H'=jp k B.p++(jR B++(jv B.m++(planH B.p++(jy T++(JD N++F)))))):=by
 have okp:=ok.p
 have hs:=okp.g.slots
 obtain⟨y,hy⟩:=jY (g:=B.p.g) (i:=0) (by omega)
 have hne: ¬((B.p.g.slots:Nat):Int)=0:=by omega
 have hT:=okT.n
 have hne2: ¬((T.l.length:Nat):Int)=0:=by omega
 have hne3: ¬((N.l.length:Nat):Int)≠(B.p.g.slots:Nat):=by omega
 have hgt: ¬((nw:Nat):Int)>8:=by omega
 have he:((nw:Nat):Int)+1=((nw+1:Nat):Int):=by omega
 have hhead:=fun A=>jdO (w0:=w0) (F:=A) (s:=0) hG ok hy
 have hhv: ∃ c r w e,headV (headP x y)= .tuple [.agg [.int .i64 c, .int .i64 r, .int .i64 w].toArray, .int .i64 e].toArray∧e≠1:=by
  unfold headV
  cases headP x y with
  |none=>exact⟨0,0,0,5,rfl,by decide⟩
  |some h=>exact⟨h.c,h.r,h.w,0,rfl,by decide⟩
 obtain⟨c,r,w,e,hev,hen⟩:=hhv
 simp only[hev] at hhead
 have hen': ¬e=1:=hen
 refine Call.enter6 (n:=83) (by kernel_rfl) Tryz.func103 rfl rfl rfl ?_;refine za6 ?_;refine zo ?_;refine ji (hhead _) ja ?_;refine zaX ?_;intro b14;refine zk ?_;refine zdI ?_;refine ze ?_;refine zG ?_;refine zeT ?_;refine zer ?_;refine zi ?_;refine zbz ?_;refine zeT ?_;refine ji (jeS okT) ja ?_;refine zi ?_;refine zbz ?_;refine zeT ?_;refine j4 (piCopy_K okN) ja ?_;rintro _ _ ⟨N',_,_,rfl,rfl⟩;refine zi ?_;refine zef ?_;refine zbk ?_;refine zdE ?_;refine zeT ?_;refine ji (piLen_K okN) ja ?_;refine zgf ?_;refine zer ?_;refine zi ?_;refine zed ?_;refine zay ?_;refine zat ?_;refine j4 (grNew_K okp hl) ja ?_;rintro _ _ ⟨g,kg,gn,gl,rfl,rfl⟩;refine zbA ?_;refine zz ?_;refine zo ?_;refine zer ?_;refine zn ?_;refine jat (tiNew_K (n:=B.p.g.slots) (by omega)) ?_;rintro _ _ ⟨t,kt,tf,tc,rfl,rfl⟩;refine zcw ?_;refine zaY ?_;refine zbm ?_;refine zm ?_;refine zm ?_;refine ze ?_;refine zkm ?_;rw[he];refine KL.e rfl (Eff.makeR (E:=jaP) (x0:=⟨0,0,false⟩) rfl rfl rfl rfl rfl rfl (by omega)) ?_;rintro _ _ ⟨o79,ok79,rfl,rfl⟩;refine zei ?_;intro b81;refine zbl ?_
 have hcn:t.l.length=B.p.g.slots:=by have:=congrArg List.length tc;rw [jba,List.length_replicate] at this;exact this
 exact KE.fin (H':=jp ⟨b81,t,g,List.replicate (nw+1) ⟨0,0,false⟩,o79,0,false,0,B.b,T.b,N.b⟩ B.p++(jR B++(jv B.m++(planH B.p++(jy T++(JD N++F)))))) je rfl jd (by simp only[jo,List.length_replicate];exact ja)
  ⟨⟨b81,t,g,List.replicate (nw+1) ⟨0,0,false⟩,o79,0,false,0,B.b,T.b,N.b⟩,⟨kt,kg,hcn,ok79,by simp;omega⟩,⟨tc,gn,by simp,rfl,rfl⟩,rfl,tf,rfl,rfl,rfl,by simp,gl,rfl,rfl⟩
open Go.RowKit
set_option maxRecDepth 10000
def JA (l:List Int) (s:Nat):List Int:=if (l[s]?).getD 0<255 then l.set s ((l[s]?).getD 0+1) else l
def J0 (l:List Int) (s:Nat):List Int:=if 0<(l[s]?).getD 0 then l.set s ((l[s]?).getD 0-1) else l
theorem jkg {l:List Int} {s:Nat}:(JA l s).length=l.length:=by grind[JA]
theorem jiV {l:List Int} {s:Nat}:(J0 l s).length=l.length:=by grind[J0]
theorem pinP_in {l:List Int} {s:Nat} (h: ∀ v∈l,0≤v∧v≤255): ∀ v∈JA l s,0≤v∧v≤255:=by
 unfold JA
 split
 ·rename_i hc
  intro v hv
  rcases List.mem_or_eq_of_mem_set hv with h1|rfl
  ·grind
  ·cases hx:l[s]? with
   |none=>simp
   |some w=>have:=h w (List.mem_of_getElem? hx);grind
 omega
theorem jmG {l:List Int} {s:Nat} (h: ∀ v∈l,0≤v∧v≤255): ∀ v∈J0 l s,0≤v∧v≤255:=by
 unfold J0
 split
 ·rename_i hc
  intro v hv
  rcases List.mem_or_eq_of_mem_set hv with h1|rfl
  ·grind
  ·cases hx:l[s]? with
   |none=>grind
   |some w=>have:=h w (List.mem_of_getElem? hx);grind
 omega
theorem jhz {l:List Int} {s k:Nat} (h:0<(l[k]?).getD 0):0<((JA l s)[k]?).getD 0:=by
 grind[JA]
theorem jmF {l:List Int} {s k:Nat} (e:k≠s):(J0 l s)[k]?=l[k]? :=by
 grind[J0]
def Ju (T:List jh):Option Nat:=T.findIdx? fun e=>decide (e.st=0)
def genA (T:List jh) (i:Nat):Int:=((T[i]?).map (·.gen)).getD 0
def jK (T:List jh) (s:Int):List jh:=match Ju T with
 |some i=>T.set i ⟨1,s,genA T i⟩
 |none=>T
def jar (T:List jh):Int × Int × Int:=match Ju T with
 |some i=>((i:Nat),genA T i,0)
 |none=>(0,0,131)
def namedT (T:List jh) (i g:Int):Option jh:=if 0≤i then(match T[i.toNat]? with
 |some e=>if e.st=1∧e.gen=g then some e else none
 |none=>none) else none
def slotT (T:List jh) (i:Int):Option Int:=if 0≤i then(match T[i.toNat]? with
 |some e=>if e.st=1 then some e.slot else none
 |none=>none) else none
theorem jaF {T:List jh} {i:Nat} {e:jh} (h:T[i]?=some e) (e':jh) (s:Int):cntP s (T.set i e')+(if e.st=s then 1 else 0)=cntP s T+(if e'.st=s then 1 else 0):=by
 grind[cntP]
theorem jc7 (s:Int) (T:List jh):cntP s T≤T.length:=List.countP_le_length
theorem jgc {T:List jh} {i:Nat} {e:jh} (h:T[i]?=some e):1≤cntP e.st T:=by
 grind[cntP]
theorem ja7 {T:List jh} {i:Nat} (h:Ju T=some i):(∃ e,T[i]?=some e∧e.st=0)∧ ∀ (j:Nat) (e:jh),j<i→T[j]?=some e→e.st≠0:=by
 unfold Ju at h;rw[List.findIdx?_eq_some_iff_getElem] at h
 grind
theorem jml {T:List jh} (h:Ju T=none): ∀ (j:Nat) (e:jh),T[j]?=some e→e.st≠0:=by
 grind[Ju]
theorem freeT_is {T:List jh} {i:Nat} {e:jh} (h1:T[i]?=some e) (h2:e.st=0) (h3: ∀ (j:Nat) (e:jh),j<i→T[j]?=some e→e.st≠0):Ju T=some i:=by
 cases hf:Ju T with
 |none=>grind[h2,jml,h1]
 |some j=>
  grind[ja7,h2,h1,h3]
theorem freeT_no {T:List jh} (h3: ∀ (j:Nat) (e:jh),T[j]?=some e→e.st≠0):Ju T=none:=by
 cases hf:Ju T with
 |none=>rfl
 |some j=>
  grind[ja7,h3]
theorem jcd {T:List jh} {i:Nat} {e:jh} (h:T[i]?=some e):genA T i=e.gen:=by grind[genA]
theorem jbB {T:List jh} {s:Int}:(jK T s).length=T.length:=by grind[jK]
def Jm (T:List jh) (i:Int):List jh:=if 0≤i then(match T[i.toNat]? with
 |some e=>if e.st=1 then T.set i.toNat {e with st:=2} else T
 |none=>T) else T
theorem jd1 {T:List jh} {i:Int}:(Jm T i).length=T.length:=by
 grind[Jm]
structure jcI where
 w:Nat
 s:Int
 i:Int
 t:Int
 r:Int
 u:Nat
def hdM (y:jg) (r:Int):HdP:=⟨((y.cls:Nat):Int),min (max r 0) (((y.size:Nat):Int)-1),0⟩
def inS (g:PlG) (s:Int):Prop:=0≤s∧s<((g.slots:Nat):Int)
instance {g:PlG} {s:Int}:Decidable (inS g s):=by unfold inS;exact inferInstance
def j7 (g:PlG) (long:Nat) (m:MaP) (s:Int):MaP:=if inS g s then jb9 g long m s else m
def oldS (g:PlG) (W:MwP) (a:jcI):Int × Int:=refP W.x g.slots (ju g a.s) a.i
def JI (g:PlG) (W:MwP) (a:jcI):MwP:=
 if a.w%10<2 then(if inS g a.s then{W with x:=(makeP W.x (ju g a.s) (hdM (ju g a.s) a.r)).2} else W)
 else if a.w%10<4 then(if inS g a.s∧(oldS g W a).2=0 then{W with x:=(Jl W.x g.slots (ju g a.s) a.i a.t).2} else W)
 else if a.w%10=4 then(if inS g a.s then{W with T:=jK W.T a.s} else W)
 else if a.w%10=5 then{W with T:=Jm W.T a.i}
 else if a.w%10=6 then(if inS g a.s then{W with N:=JA W.N a.s.toNat} else W)
 else if a.w%10=7 then(if inS g a.s then{W with N:=J0 W.N a.s.toNat} else W)
 else W
def jaL (g:PlG) (long:Nat) (W:MwP) (m:MaP) (a:jcI):MaP:=
 if a.w%10<2 then m
 else if a.w%10<4 then(if inS g a.s∧(oldS g W a).2=0 then j7 g long (j7 g long m (oldS g W a).1) a.t else m)
 else if a.w%10=5 then(match slotT W.T a.i with
  |some s=>j7 g long m s
  |none=>m)
 else if a.w%10<8 then j7 g long m a.s
 else if a.w%10=8 then(j1 g long W m a.i (a.u:Nat)).getD m
 else(jae g long W m).getD m
def ja6 (g:PlG) (x:List Int):Prop:= ∀ (s:Nat) (y:jg),g.L[s]?=some y→ ∀ i,fldP x y true i=0→wAt x (fAt y i)≤((g.slots:Nat):Int)
section
variable {g : PlG} {long : Nat} {W W' : MwP} {m m' : MaP} {a : jcI} {x x' : List Int}
theorem jaj {a b:Nat} {v:Int} (h:a≠b):wAt (x.set a v) b=wAt x b:=by grind[wAt]
theorem jd4 {a:Nat} {v:Int} (h:a<x.length):wAt (x.set a v) a=v:=by grind[wAt]
theorem ja8 {p:jg} {a:Nat} (hl:p.addr+p.size≤x.length):wAt (JU x p) a=if p.addr≤a∧a<p.addr+p.size then 0 else wAt x a:=by
 unfold wAt JU cleared
 by_cases h1:a<p.addr
 ·grind
 grind
theorem jdg {p:jg} (h:wAt x' p.addr=wAt x p.addr):headP x' p=headP x p:=by grind[headP]
theorem jcQ {p:jg} {ref:Bool} {i:Int} (h:wAt x' p.addr=wAt x p.addr):fldP x' p ref i=fldP x p ref i:=by grind[fldP,jdg]
theorem jgI {p:jg} (h:wAt x' p.addr=wAt x p.addr):refsN x' p=refsN x p:=by grind[refsN,jdg]
theorem jee (h:inS g a.s): ∃ (s:Nat) (y:jg),a.s=(s:Nat)∧g.L[s]?=some y∧ju g a.s=y:=by
 unfold inS at h
 obtain⟨y,hy⟩:=jY (g:=g) (i:=a.s.toNat) (by omega)
 grind[jC]
theorem jg9 (ok:jc g) (hx:x.length=g.words) {s:Nat} {y:jg} (hy:g.L[s]?=some y) (h:HdP) {t:Nat} (ht:t<g.slots) (hp:0<refsN x (ju g (t:Nat))):
  refsN (makeP x y h).2 (ju g (t:Nat))=refsN x (ju g (t:Nat)):=by
 obtain⟨z,hz⟩:=jY ht
 rw[jC hz] at hp⊢
 have f1:=ok.fits hy
 have f2:=ok.fits hz
 unfold makeP
 split
 ·split
  ·rfl
  ·rename_i hn
   by_cases e:s=t
   ·grind[refsN,headP]
   ·have:=ok.apart hy hz e
    grind[jgI,jaj,ja8]
 ·rfl
theorem jj8 (ok:jc g) {s:Nat} {y:jg} (hy:g.L[s]?=some y) {i v:Int} {t:Nat} (ht:t<g.slots):refsN (Jl x g.slots y i v).2 (ju g (t:Nat))=refsN x (ju g (t:Nat)):=by
 obtain⟨z,hz⟩:=jY ht
 rw[jC hz]
 have f1:=ok.fits hy
 have f2:=ok.fits hz
 unfold Jl
 split
 ·rfl
 ·split
  ·rename_i e
   have:=JQ e
   refine jgI ?_
   by_cases e2:s=t
   ·grind[jaj]
   ·have:=ok.apart hy hz e2
    grind[jaj]
  ·rfl
theorem jG.world (hm:jG g long W m) (hT:W'.T.length=W.T.length) (hr: ∀ t:Nat,t<g.slots→0<refsN W.x (ju g (t:Nat))→refsN W'.x (ju g (t:Nat))=refsN W.x (ju g (t:Nat))):jG g long W' m:=by
 refine⟨hm.C,hm.c,hm.G,hm.hs,fun k h hk=>?_,by rw[hT];exact hm.root⟩
 rcases hm.h k h hk with⟨e1,e2,e3,e4,e5⟩|e
 ·left
  refine⟨e1,e2,e3,e4,?_⟩
  rcases e5 with e5|e5
  ·omega
  ·obtain⟨n,hn⟩: ∃ n:Nat,h.slot=n:=⟨h.slot.toNat,by omega⟩
   grind
 grind
theorem jfX (ok:jc g) (hm:jG g long W m) (s:Int):jG g long W (j7 g long m s):=by
 grind[j7,jb9,jj7]
theorem jgX (ok:jc g) (hm:jG g long W m) (s:Int):jS g W (j7 g long m s)≤jS g W m:=by
 grind[j7,jb9,jiY]
theorem jeT (s:Int):(j7 g long m s).hs=m.hs∧(j7 g long m s).root=m.root∧(j7 g long m s).act=m.act∧(j7 g long m s).steps=m.steps:=by
 grind[j7,jb9,jhq]
theorem jj6 (hm:jG g long W m) (ha:m.act=true) (s:Int):j7 g long m s=JP g long m s:=by
 unfold j7 jb9;simp only[ha,if_true]
 split
 ·rfl
 ·rename_i h
  unfold JP;rw[if_neg];rintro⟨h1,h2⟩
  have:=jx h2
  rw[hm.C] at this;exact h ⟨h1,by omega⟩
theorem jjg (ha:m.act=false) (s:Int):j7 g long m s=m:=by
 grind[j7,jb9]
theorem mint_at {T:List jh} {s:Int} {j:Nat} {e:jh} (h:(jK T s)[j]?=some e):T[j]?=some e∨(e.st=1∧e.slot=s):=by
 grind[jK,hi,g1]
theorem drop_at {T:List jh} {i:Int} {j:Nat} {e:jh} (h:(Jm T i)[j]?=some e):T[j]?=some e∨e.st=2:=by
 grind[Jm]
theorem jhS:(JI g W a).T.length=W.T.length:=by
 grind[JI,jbB,jd1]
theorem actW_ok (ok:jc g) (hW:JX g W):JX g (JI g W a):=by
 have hsl:=ok.slots
 have hww:=ok.words
 unfold JI
 split
 ·split
  ·rename_i h
   obtain⟨s,y,_,hy,e⟩:=jee h
   have:=ok.fits hy
   rw[e];exact⟨by show(makeP W.x y _).2.length=_;rw [jhC (by rw[hW.x];omega)];exact hW.x,jif hW.w,hW.N,hW.n,hW.t⟩
  ·exact hW
 ·split
  ·split
   ·exact⟨by show(Jl W.x _ _ _ _).2.length=_;rw [ji1];exact hW.x,jjj hW.w (by omega),hW.N,hW.n,hW.t⟩
   ·exact hW
  ·split
   ·split
    ·rename_i h
     refine⟨hW.x,hW.w,hW.N,hW.n,fun e he h1=>?_⟩
     obtain⟨j,hj⟩:=List.getElem?_of_mem he
     rcases mint_at hj with h2|⟨_,h2⟩
     ·exact hW.t e (List.mem_of_getElem? h2) h1
     ·rw[h2];exact h
    ·exact hW
   ·split
    ·refine⟨hW.x,hW.w,hW.N,hW.n,fun e he h1=>?_⟩
     obtain⟨j,hj⟩:=List.getElem?_of_mem he
     rcases drop_at hj with h2|h2
     ·exact hW.t e (List.mem_of_getElem? h2) h1
     ·omega
    ·split
     ·split
      ·exact⟨hW.x,hW.w,by show(JA W.N _).length=_;rw [jkg];exact hW.N,pinP_in hW.n,hW.t⟩
      ·exact hW
     ·split
      ·split
       ·exact⟨hW.x,hW.w,by show(J0 W.N _).length=_;rw [jiV];exact hW.N,jmG hW.n,hW.t⟩
       ·exact hW
      ·exact hW
theorem jie (ok:jc g) (hx:x.length=g.words) (h:ja6 g x) {s:Nat} {y:jg} (hy:g.L[s]?=some y) (hd:HdP):ja6 g (makeP x y hd).2:=by
 have f1:=ok.fits hy
 unfold makeP
 split
 ·split
  ·omega
  ·intro t z hz j hf
   have f2:=ok.fits hz
   have h1:=JQ hf
   dsimp only at hf⊢
   by_cases e:s=t
   ·grind[jaj,ja8]
   ·have:=ok.apart hy hz e
    rw[jcQ (x:=x) (by grind[jaj,ja8])] at hf;rw[jaj (by omega),ja8 (by omega),if_neg (by omega)];exact h t z hz j hf
 omega
theorem set_rf (ok:jc g) (hx:x.length=g.words) (h:ja6 g x) {s:Nat} {y:jg} (hy:g.L[s]?=some y) {i v:Int}:ja6 g (Jl x g.slots y i v).2:=by
 have f1:=ok.fits hy
 unfold Jl
 split
 ·omega
 ·split
  ·rename_i hv e
   have hin:=JQ e
   intro t z hz j hf
   have f2:=ok.fits hz
   have h1:=JQ hf
   dsimp only at hf⊢
   have hz0:fAt y i≠z.addr:=by
    by_cases e3:s=t
    ·grind
    ·have:=ok.apart hy hz e3;omega
   rw[jcQ (x:=x) (jaj hz0)] at hf
   by_cases e2:fAt y i=fAt z j
   ·grind[jd4]
   ·rw[jaj e2];exact h t z hz j hf
  omega
theorem actW_rf (ok:jc g) (hW:JX g W) (hR:ja6 g W.x):ja6 g (JI g W a).x:=by
 unfold JI
 split
 ·split
  ·rename_i h
   obtain⟨s,y,_,hy,e⟩:=jee h
   rw[e];exact jie ok hW.x hR hy _
  omega
 ·split
  ·split
   ·rename_i h
    obtain⟨s,y,_,hy,e⟩:=jee h.1
    rw[e];exact set_rf ok hW.x hR hy
   omega
  grind
theorem jjR (ok:jc g) (hW:JX g W) {t:Nat} (ht:t<g.slots) (hp:0<refsN W.x (ju g (t:Nat))):refsN (JI g W a).x (ju g (t:Nat))=refsN W.x (ju g (t:Nat)):=by
 unfold JI
 split
 ·split
  ·rename_i h
   obtain⟨s,y,_,hy,e⟩:=jee h
   rw[e];exact jg9 ok hW.x hy _ ht hp
  ·rfl
 grind[jee,jj8]
theorem actK_all (ok:jc g) (hm:jG g long W m):jG g long W (jaL g long W m a)∧jS g W (jaL g long W m a)≤jS g W m∧(jaL g long W m a).act=m.act∧(jaL g long W m a).hs.length=m.hs.length:=by
 have hs1: ∀ (m:MaP) (s:Int),jG g long W m→jG g long W (j7 g long m s)∧jS g W (j7 g long m s)≤jS g W m∧(j7 g long m s).act=m.act∧(j7 g long m s).hs.length=m.hs.length:=fun m s hm=>
  ⟨jfX ok hm s,jgX ok hm s,(jeT s).2.2.1,by grind[jeT]⟩
 have hid:jG g long W m∧jS g W m≤jS g W m∧m.act=m.act∧m.hs.length=m.hs.length:=⟨hm,Nat.le_refl _,rfl,rfl⟩
 have hst: ∀ {k u:Int},jG g long W ((j1 g long W m k u).getD m)∧jS g W ((j1 g long W m k u).getD m)≤jS g W m∧((j1 g long W m k u).getD m).act=m.act∧((j1 g long W m k u).getD m).hs.length=m.hs.length:=fun{k u}=>by
  cases h:j1 g long W m k u with
  |none=>grind
  |some m'=>
   grind[h1,h2,h3,jec]
 unfold jaL
 split
 ·omega
 ·split
  ·grind
  grind[jae]
theorem actK_ok (ok:jc g) (hW:JX g W) (hm:jG g long W m):jG g long (JI g W a) (jaL g long W m a):=
 (actK_all ok hm).1.world jhS fun t ht hp=>jjR ok hW ht hp
theorem jgM (h:W'.T.length=W.T.length):jS g W' m=jS g W m:=by grind[jS]
theorem jmL (ha:m.act=false) {k u:Int}:j1 g long W m k u=none:=by
 grind[j1]
theorem help_idle (ha:m.act=false):jae g long W m=none:=by
 grind[jae,jdk,jmL]
end
end Go.Proofs.YtpcgafhgfjlkmaaGreatDoor.Sw
