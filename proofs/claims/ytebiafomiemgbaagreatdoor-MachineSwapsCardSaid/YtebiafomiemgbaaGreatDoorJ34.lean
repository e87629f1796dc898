/-The walker and the contracts that the law needs,part 34. -/
import Derived.Test.YtebiafomiemgbaaGreatDoorJ30
import Derived.Test.YtebiafomiemgbaaGreatDoorJ33
set_option linter.unusedVariables false set_option linter.unusedSimpArgs false set_option linter.unusedVariables false
set_option linter.unusedSimpArgs false
namespace Go.Proofs.YtebiafomiemgbaaGreatDoor.Sw
set_option maxHeartbeats 8000000
open Go.Proofs.YtebiafomiemgbaaGreatDoor renaming lo → qL, hi → qH
open Go.RowKit
set_option maxRecDepth 10000
theorem of1_K {w0:World} {F:jb} {v:Value} {l:List Int} {n:Int} {i b1 b2:Nat} {x:Int} (hS:Sli w0 F iE v l) (hx:l[i]?=some x):
  Call Tryz.prog w0 247 [.int .i64 (i:Nat), .pointer (some ⟨b1,0,none⟩), .pointer (some ⟨b2,0,none⟩)] ((b1,cells [v] 22)::(b2,cells [.int .i64 n] 3)::F)
   (fun r H'=>r= .bool (decide (n≤x))∧H'=(b1,cells [v] 22)::(b2,cells [.int .i64 n] 3)::F):=by
 have hS2:Sli w0 ((b1,cells [v] 22)::(b2,cells [.int .i64 n] 3)::F) iE v l:=hS.part ja
 clear hS;refine Call.enter3 (n:=11) (by rfl) Tryz.func247 rfl rfl rfl ?_
 have hi:=jv hx
 refine zfd ?_;refine K.drawn [] [(0,0),(1,0),(2,0),(3,0),(4,0),(5,0),(6,0)] (by rfl) (by rfl) (by kernel_rfl) (by rfl) (by rfl) (by rfl) Part.nil ?_;refine zan ?_;refine zo ?_;refine zj1 ?_;refine zan ?_;refine KD.v0 rfl rfl (Val.geq rfl rfl) ?_;refine zbp ?_;exact zH
def firstP (n:Int):List Int→Nat
 | []=>0
 |x::l=>if n≤x then 0 else firstP n l+1
theorem jlz {n:Int}: ∀ {l:List Int} {i:Nat},i≤l.length→(∀ j x,j<i→l[j]?=some x→ ¬n≤x)→(∀ x,l[i]?=some x→n≤x)→firstP n l=i
 | [],i,h,_,_=>by simp at h;subst h;rfl
 |x::l,0,_,_,h3=>by grind[firstP]
 |x::l,i+1,h1,h2,h3=>by
  have:=h2 0 x (by omega) rfl
  simp only[firstP,if_neg this];rw[jlz (by simpa using h1) (fun j y hj hy=>h2 (j+1) y (by omega) (by grind)) (fun y hy=>h3 y (by grind))]
def ofP (l:List Int) (n:Int):Int × Int:=if JC l then(if firstP n l=l.length∨n<1 then(0,50) else((firstP n l:Nat),0)) else(0,2)
theorem classOf_K {w0:World} {H:jb} {v:Value} {l:List Int} {n:Int} (hS:Sli w0 H iE v l) (hvc:v.cells=[v].toArray) (hl:l.length≤140737488355328):
  Call Tryz.prog w0 190 [v, .int .i64 n] H (fun r H'=>r= .tuple [.int .i64 (ofP l n).1, .int .i64 (ofP l n).2].toArray∧H'=H):=by
 refine Call.enter2 (n:=26) (by rfl) Tryz.func190 rfl rfl rfl ?_;refine zG ?_;refine KL.e rfl (Eff.box rfl (by assumption)) ?_;rintro _ _ ⟨b2,rfl,rfl⟩;refine zfz ?_;intro b3;refine zt ?_;refine zbX ?_;refine zw ?_;refine zu fun T hT=>?_;refine(CallV.fn (Check_K (hS.part ja) hl)).mono ?_;rintro _ _ ⟨rfl,rfl⟩
 cases hc:JC l with
 |false=>
  have ho:ofP l n=(0,2):=by grind[ofP]
  refine znB ?_;clear hT T;refine zap ?_;refine zM ?_;refine zbP ?_;refine zcW ?_;exact zoM
 |true=>
  have hS2: ∀ b2 b3,Sli w0 ((b2,cells [v] 22)::(b3,cells [.int .i64 n] 3)::H) iE v l:=fun b2 b3=>hS.part ja
  simp only[jbL,if_true];refine ze ?_;clear hT T;refine zbR ?_;refine zK ?_;refine zw ?_;refine zco ?_;refine zbk fun T hT=>?_;refine(CallV.part (CallV.fn (jlS (H:=(b2,cells [v] 22)::(b3,cells [.int .i64 n] 3)::H) (n:=l.length) (fun i=>decide (n≤(l[i]?).getD 0)) hl ?_ ?_)) ja).mono ?_
  ·intro i j hij hj hp
   obtain⟨x,hx⟩:=jh (l:=l) (k:=i) (by omega)
   obtain⟨y,hy⟩:=jh hj
   have:=jhU hc hij hx hy
   grind
  ·intro i hi
   obtain⟨x,hx⟩:=jh hi
   refine(CallV.clo (cap:=[_,_]) (of1_K (F:=H) (n:=n) hS hx)).mono ?_
   grind
  ·rintro _ _ ⟨i,hi,hlo,hhi,rfl,rfl⟩
   have hf:firstP n l=i:=jlz hi (fun j x hj hx=>by grind) (fun x hx=>by grind)
   by_cases hil:i=l.length
   ·have ho:ofP l n=(0,50):=by grind[ofP]
    have hil':(i:Int)=(l.length:Nat):=by omega
    refine ze ?_;clear hT T;refine zad ?_;refine zw ?_;refine zco ?_;refine zO ?_;refine zcN ?_;refine zbh ?_;refine zcW ?_;exact zoM
   ·have hil': ¬(i:Int)=(l.length:Nat):=by omega
    by_cases hn1:n<1
    ·have ho:ofP l n=(0,50):=by grind[ofP]
     refine ze ?_;clear hT T;refine zad ?_;refine zw ?_;refine zco ?_;refine zC ?_;refine ziK ?_;refine zI ?_;refine za8 ?_;refine zcW ?_;exact zoM
    ·have ho:ofP l n=(((i:Nat):Int),0):=by grind[ofP]
     refine ze ?_;clear hT T;refine zad ?_;refine zw ?_;refine zco ?_;refine zC ?_;refine ziK ?_;refine zW ?_;refine zd1 ?_;refine zab ?_;exact zoM
theorem jkF {n:Int}: ∀ (l:List Int),(∀ x∈l,0≤x)→(l.map Int.toNat).findIdx (fun(y:Nat)=>decide (n≤(y:Nat)))=firstP n l
 | [],_=>rfl
 |x::l,h=>by
  have ih:=jkF (n:=n) l fun y hy=>h y (.tail _ hy)
  have hx:=h x (.head _)
  grind[firstP]
theorem jlD {l:List Int} (h:JC l=true): ∀ x∈l,0≤x:=by
 simp only[JC,Bool.and_eq_true] at h;intro x hx
 have:=(jex h.2).1 x hx
 omega
theorem ofP_class {c:Cfg} {t n:Int} (h:JC c.cl=true) (hn:1≤n):ofP c.cl n=if classI (gOf c t) n=(gOf c t).cl.length then(0,50) else(((classI (gOf c t) n:Nat):Int),0):=by
 grind[classI,gOf,firstP,ofP,jkF,jlD]
theorem CloneI_K {w0:World} {v:Value} {l:List Int} (hS:SlW w0 iE v l) (hl:l.length≤4294967296):
  Call Tryz.prog w0 80 [v] [] (fun r H'=> ∃ o,oOk iE l o∧r=oV o l.length∧H'=oH iE 3 l o):=by
 refine Call.enter1 (n:=8) (by rfl) Tryz.func80 rfl rfl rfl ?_
 have hS0:=hS
 obtain⟨a,c,rfl,h1,h2,h3⟩:=hS.shape
 cases a with
 |none=>
  have hn:l=[]:=by
   grind
  subst hn;refine zai ?_;refine zgO ?_;refine zgx ?_;exact zn1
 |some a=>
  refine zai ?_;refine zgO ?_;refine zK ?_;refine zfp ?_;intro b5;refine KL.e rfl (Eff.appLit (E:=iE) (ys:=l) rfl rfl rfl rfl rfl rfl rfl ju (by first|exact Sli.blk ju rfl (by first|decide|simp) (by first|decide|(unfold maxLen;omega)) rfl|exact Sli.old (by assumption)|exact Sli.own jj (by assumption) jF|assumption|exact Sli.part (by assumption) ja) (by omega) rfl) ?_;rintro _ _ ⟨o',ok',rfl,rfl⟩;refine zm ?_;exact zn2
theorem CloneT_K {w0:World} {v:Value} {l:List Tn} (hS:SlW w0 tnE v l) (hl:l.length≤4294967296):
  Call Tryz.prog w0 81 [v] [] (fun r H'=> ∃ o,oOk tnE l o∧r=oV o l.length∧H'=oH tnE 55 l o):=by
 refine Call.enter1 (n:=8) (by rfl) Tryz.func81 rfl rfl rfl ?_
 have hS0:=hS
 obtain⟨a,c,rfl,h1,h2,h3⟩:=hS.shape
 cases a with
 |none=>
  have hn:l=[]:=by
   grind
  subst hn;refine zai ?_;refine zgO ?_;refine zgx ?_;exact zn1
 |some a=>
  refine zai ?_;refine zgO ?_;refine zK ?_;refine zfp ?_;intro b5;refine KL.e rfl (Eff.appLit (E:=tnE) (ys:=l) rfl rfl rfl rfl rfl rfl rfl ju (by first|exact Sli.blk ju rfl (by first|decide|simp) (by first|decide|(unfold maxLen;omega)) rfl|exact Sli.old (by assumption)|exact Sli.own jj (by assumption) jF|assumption|exact Sli.part (by assumption) ja) (by omega) rfl) ?_;rintro _ _ ⟨o',ok',rfl,rfl⟩;refine zm ?_;exact zn2
theorem Own_K {w0:World} {F:jb} {c:Cfg} {vc vt:Value} (hR:Jc w0 F c vc vt) (h1:c.cl.length≤4294967296) (h2:c.tn.length≤4294967296):
  Call Tryz.prog w0 50 [jr c vc vt] F (fun r H'=> ∃ oc ot,oOk iE c.cl oc∧oOk tnE c.tn ot∧r=jr c (oV oc c.cl.length) (oV ot c.tn.length)∧H'=oH iE 3 c.cl oc++(oH tnE 55 c.tn ot++F)):=by
 have hcl:=hR.cl
 have htn:=hR.tn
 have q1:=hR.one1
 have q2:=hR.one2
 unfold jr jG;refine Call.enter1 (n:=12) (by rfl) Tryz.func50 rfl rfl rfl ?_;refine zbc ?_;intro b1 b2;refine za3 ?_;refine zJ ?_
 (first|refine K.seq (K.drawn ([]) [(0,0),(1,0),(3,0),(4,0),(2,5),(6,0),(5,5),(7,2),(8,0),(9,2)] (by rfl) (by rfl) (by kernel_rfl) (by rfl) (by rfl) (by rfl) ja ?_)|refine K.seq (K.seq (K.drawn ([]) [(0,0),(1,0),(3,0),(4,0),(2,5),(6,0),(5,5),(7,2),(8,0),(9,2)] (by kernel_rfl) (by kernel_rfl) (by kernel_rfl) (by kernel_rfl) (by kernel_rfl) (by kernel_rfl) ja ?_))|refine K.drawn ([]) [(0,0),(1,0),(3,0),(4,0),(2,5),(6,0),(5,5),(7,2),(8,0),(9,2)] (by kernel_rfl) (by kernel_rfl) (by kernel_rfl) (by kernel_rfl) (by kernel_rfl) (by kernel_rfl) ja ?_)
 refine zhV ?_;refine zaC ?_;refine zeZ ?_;refine zaC ?_;refine zdu fun T hT=>?_;refine(CallV.pure fun w hw=>CallV.fn (CloneI_K (hcl w (hw.part ja)) h1)).mono ?_;rintro _ _ ⟨_,⟨oc,kc,rfl,rfl⟩,rfl⟩;refine zi ?_;clear hT T;refine zhV ?_;refine zdu fun T hT=>?_;refine(CallV.pure fun w hw=>CallV.fn (CloneT_K (htn w (hw.part ja)) h2)).mono ?_;rintro _ _ ⟨_,⟨ot,kt,rfl,rfl⟩,rfl⟩;refine zi ?_;clear hT T;refine zbf ?_;refine zeZ ?_;refine zbf ?_;refine zdj ?_;refine zpw ?_;exact KE.fin je rfl jd ja ⟨oc,ot,kc,kt,rfl,rfl⟩
open Go.RowKit
set_option maxRecDepth 10000
section
variable {w0 : World} {D : HpD} {nf nk n : Nat} {y y' : CyM} {h : HpP} {s' : CyP} {F : jb}
theorem cFree_K {g:PlG} {long:Nat} {s:CyP} (h:CpR g long y s):Call Tryz.prog w0 250 [.pointer (some ⟨y.T.b,0,none⟩)] (cycH y++F) (fun r H'=>r= .int .i64 (j6 0 s.W.T:Nat)∧H'=cycH y++F):=by
 have hc:=Call.ro (w0:=w0) (A:=jK y.T) (H:=cycH y++F) (fun F=>tbFree_K (F:=F) h.p.tb) (by rw[cycH_app];exact ja)
 rw[h.p.eT] at hc;exact hc
theorem hyFree_K (h1:HpR D nf nk y h):Call Tryz.prog w0 250 [.pointer (some ⟨D.Tb,0,none⟩)] (hpH D y h++F) (fun r H'=>r= .int .i64 (j6 0 h.s.W.T:Nat)∧H'=hpH D y h++F):=
 h1.lift0 fun A=>by have:=cFree_K (w0:=w0) (F:=A) h1.p;rw [h1.T] at this;exact this
theorem jiM:Call Tryz.prog w0 60 [.pointer (some ⟨D.b,0,none⟩)] (hpH D y h++F) (fun r H'=>r= .bool false∧H'=hpH D y h++F):=by
 refine Call.enter1 (n:=12) (by rfl) Tryz.func60 rfl rfl rfl ?_;simp only[hpH_app];refine zeA ?_;refine zc3 ?_;refine zaD ?_;refine zea ?_;exact zfL
theorem jg0 (h1:HpR D nf nk y h):Call Tryz.prog w0 194 [.pointer (some ⟨D.b,0,none⟩)] (hpH D y h++F) (fun r H'=>r= .bool (Jt h.s)∧H'=hpH D y h++F):=by
 have hTb:=fun A=>jgI (w0:=w0) (F:=A) h1
 have hF:=fun A=>hyFree_K (w0:=w0) (F:=A) h1
 have hfb:Jt h.s=decide (((j6 0 h.s.W.T:Nat):Int)>0):=by
  simp[Jt,j6]
 rw[hfb];refine Call.enter1 (n:=10) (by rfl) Tryz.func194 rfl rfl rfl ?_;simp only[hpH_app];refine zav ?_;refine zcn fun T hT=>?_;refine zoN ?_;rintro _ _ ⟨rfl,rfl⟩;refine ze ?_;clear hT T;refine zu fun T hT=>?_;refine(CallV.part (CallV.fn (hF _)) (by first|exact ja|(simp only[hpH_app];exact ja))).mono ?_;rintro _ _ ⟨rfl,rfl⟩;refine ze ?_;clear hT T;refine KL.v rfl (Val.gtr rfl rfl) ?_;refine zm ?_;exact zfL
theorem jky (hD:HpDok D) (h1:HpR D nf nk y h) (h0:h.s.ph=0) (ha:h.p.act=false) (hf:nf≤1000000):Call Tryz.prog w0 249 [.pointer (some ⟨D.b,0,none⟩)] (hpH D y h++F) (fun r H'=>r= .tuple #[]∧HpQ D (nf+1) nk (jbq D.C h) F H'):=by
 have hB:=fun A=>h1.lift (F:=A) (fun A=>by have:=cyBegin_K (w0:=w0) (F:=A) h1.p h0 (Nat.le_trans h1.f hf);rw [h1.b] at this;exact this)
 have hP:=fun A (y1:CyM) (h2:HpR D (nf+1) nk y1 {h with s:=beginC D.C.g h.s})=>h2.pace (F:=A) (h1.pb.turn true) (fun A=>pcBegin_K (w0:=w0) (F:=A) (h2.pc hD) ha)
 unfold HpQ at hB hP⊢;refine Call.enter1 (n:=12) (by rfl) Tryz.func249 rfl rfl rfl ?_;simp only[hpH_app];refine zG ?_;refine zcn fun T hT=>?_;refine zgU ?_;rintro _ _ ⟨rfl,y1,h2,rfl⟩;refine ze ?_;clear hT T;simp only[hpH_app];refine zed ?_;refine zcF ?_;refine zu fun T hT=>?_;refine zsE ?_;rintro _ _ ⟨rfl,y2,h3,rfl⟩;refine ze ?_;clear hT T;refine zR ?_;exact KE.finN je rfl jd (by first|exact ja|(simp only[hpH_app];exact ja)) ⟨rfl,y2,h3,rfl⟩
theorem jmq {g:PlG} {long:Nat} {z:CyP} (hG:ji w0) (h:CpR g long y z) (h0:z.ph≠0):Call Tryz.prog w0 291 [.pointer (some ⟨y.b,0,none⟩)] (cycH y++F) (fun r H'=>r= .tuple [.int .i64 ((finC g long z).1:Nat), .int .i64 0].toArray∧CyQ g long y 0 F (finC g long z).2 H'):=by
 refine(cyFinish_K hG h h0).mono ?_;rintro _ _ ⟨n,s',rfl,h1,h2,h3,hq⟩;rw[fin_is h.okg h.i h1 h2]
 grind
theorem fin_lim {g:PlG} {long:Nat} {z:CyP} (h:CpR g long y z):(finC g long z).1≤100000000:=by
 have:=(jfl.ok h.okg h.i).mes
 have:=h.le.s
 omega
theorem jjg (hG:ji w0) (hD:HpDok D) (h1:HpR D nf nk y h) (h0:h.s.ph≠0) (ha:h.p.act=true) (hk:nk≤1000000000):Call Tryz.prog w0 248 [.pointer (some ⟨D.b,0,none⟩)] (hpH D y h++F) (fun r H'=>r= .tuple #[]∧HpQ D nf (nk+100000000) (jbl D.C h) F H'):=by
 have hw:=h1.w
 have hfl:=fin_lim h1.p
 have hF:=fun A=>h1.lift (F:=A) (fun A=>by have:=jmq (F:=A) hG h1.p h0;rw [h1.b] at this;exact this)
 have h3:=jgf h1.p.okg h1.p.i h0
 unfold jbl
 obtain⟨n,hn⟩: ∃ n,(finC D.C.g D.C.long h.s).1=n:=⟨_,rfl⟩
 obtain⟨s1,hs1⟩: ∃ s1,(finC D.C.g D.C.long h.s).2=s1:=⟨_,rfl⟩
 rw[hn] at hfl;simp only[hn,hs1] at hF h3⊢
 have hwk:=fun(y1:CyM) (h2:HpR D (nf+0) nk y1 {h with s:=s1})=>h2.wk (n:=h.wk+n) (nk':=nk+100000000) (by omega)
 have hP:=fun A (y1:CyM) (h2:HpR D (nf+0) nk y1 {h with s:=s1})=>(hwk y1 h2).lift (F:=A) (fun A=>by have:=jmp (F:=A) hG h2.p h3;rw [h2.b,h2.g] at this;exact this.mono fun r _ hh=>⟨(⟨_,_,hh.1⟩: ∃ a b:Int,r= .tuple [.int .i64 a, .int .i64 b, .int .i64 0].toArray),hh.2⟩)
 have hE:=fun A (y2:CyM) (h2:HpR D (nf+0+0) (nk+100000000) y2 ⟨publishC D.C.g D.C.gn s1,h.p,h.wk+n⟩)=>h2.pace (F:=A) (h1.pb.turn false) (fun A=>pcEnd_K (w0:=w0) (F:=A) (h2.pc hD) ha)
 have e5:((h.wk:Nat):Int)+((n:Nat):Int)=((h.wk+n:Nat):Int):=by omega
 unfold HpQ at hF hP hE⊢;refine Call.enter1 (n:=30) (by rfl) Tryz.func248 rfl rfl rfl ?_;simp only[hpH_app];refine zG ?_;refine zcn fun T hT=>?_;refine(CallV.part (CallV.fn (hF _)) (by first|exact ja|(simp only[hpH_app];exact ja))).mono ?_;rintro _ _ ⟨rfl,y1,h2,rfl⟩;refine ze ?_;clear hT T;simp only[hpH_app];refine zcC ?_;refine zF ?_;refine zbE ?_;refine zw ?_;refine zle ?_;refine zS ?_;refine zbE ?_;refine zjX ?_;rw[e5];refine zG ?_;refine zcn fun T hT=>?_;refine zsE ?_;rintro _ _ ⟨⟨a,b,rfl⟩,y2,h4,rfl⟩;refine ze ?_;clear hT T;simp only[hpH_app];refine zed ?_;refine zcF ?_;refine zu fun T hT=>?_;refine(CallV.part (CallV.fn (hE _ y2 h4)) (by first|exact ja|(simp only[hpH_app];exact ja))).mono ?_;rintro _ _ ⟨rfl,y3,h5,rfl⟩;refine ze ?_;clear hT T;refine zR ?_;exact KE.finN je rfl jd (by first|exact ja|(simp only[hpH_app];exact ja)) ⟨rfl,y3,h5,rfl⟩
set_option maxHeartbeats 1000000 in
theorem jlt {is:CyP→Bool} {fv:Value} {G:jb} (hG:ji w0) (hD:HpDok D) (hI:HeI D.C h) (h1:HpR D nf nk y h) (hf:nf≤1000000) (hk:nk≤100000000)
  (his: ∀ (nf nk:Nat) (y:CyM) (h:HpP),HpR D nf nk y h→CallV Tryz.prog w0 fv [] (hpH D y h++G) (fun r H'=>r= .bool (is h.s)∧H'=hpH D y h++G)):
  Call Tryz.prog w0 192 [.pointer (some ⟨D.b,0,none⟩),fv] (hpH D y h++G) (fun r H'=>r= .tuple #[]∧HpQ D (nf+1) (nk+200000000) (jaQ D.C is h) G H'):=by
 have hC:=hD.C
 have hph:=fun A (nf nk:Nat) (y:CyM) (h:HpP) (h1:HpR D nf nk y h)=>hyPhase_K (w0:=w0) (F:=A) h1
 have hI1:=hI.mvs hC (jh4 (wr:=true) hC hI (is:=is))
 have hend:=fun(ha:h.s.ph≠0)=>jjg (F:=G) hG hD h1 ha (by rw[hI.pa];exact decide_eq_true ha) (by omega)
 unfold HpQ at hend⊢;refine Call.enter2 (n:=24) (by kernel_rfl) Tryz.func192 rfl rfl rfl ?_;refine K.cutT (σ:=CyM) [] jc (fun s kp_=>(0, .pointer (some ⟨D.b,0,none⟩))::(1,fv)::kp_) (fun s=>hpH D s (ja5 D.C is h)++G) (fun s=>HpR D nf (nk+100000000) s (ja5 D.C is h)) ?_ ?_
 ·unfold ja5
  cases hc:is h.s with
  |true=>
   have hi:=his nf nk y h h1
   rw[hc] at hi;rw[if_neg (fun q=>by cases q.1)];refine zG ?_;refine zz fun T hT=>?_;refine zmf ?_;rintro _ _ ⟨rfl,rfl⟩;refine ze ?_;clear hT T;refine zy ?_;refine zhi ?_;refine zat ?_;exact KE.meet y jc ja (h1.mono (Nat.le_refl _) (by omega))
  |false=>
   have hi:=his nf nk y h h1
   rw[hc] at hi
   by_cases hp:h.s.ph=0
   ·have hp':((h.s.ph:Nat):Int)=0:=by omega
    rw[if_neg (fun q=>q.2 hp)];refine zG ?_;refine zz fun T hT=>?_;refine zmf ?_;rintro _ _ ⟨rfl,rfl⟩;refine ze ?_;clear hT T;simp only[hpH_app];refine zag ?_;refine zaY ?_;refine zc3 ?_;refine zhj fun T hT=>?_;refine zsF ?_;rintro _ _ ⟨rfl,rfl⟩;refine ze ?_;clear hT T;refine zl ?_;refine zaj ?_;refine zA ?_;refine zat ?_;exact KE.meet y jc (by first|exact ja|(simp only[hpH_app];exact ja)) (h1.mono (Nat.le_refl _) (by omega))
   ·have hp': ¬((h.s.ph:Nat):Int)=0:=by omega
    rw[if_pos ⟨rfl,hp⟩];refine zG ?_;refine zz fun T hT=>?_;refine zmf ?_;rintro _ _ ⟨rfl,rfl⟩;refine ze ?_;clear hT T;simp only[hpH_app];refine zag ?_;refine zaY ?_;refine zc3 ?_;refine zhj fun T hT=>?_;refine zsF ?_;rintro _ _ ⟨rfl,rfl⟩;refine ze ?_;clear hT T;refine zl ?_;refine zM ?_;refine zA ?_;refine zak ?_;refine zz fun T hT=>?_;refine(CallV.part (CallV.fn (hend hp)) (by first|exact ja|(simp only[hpH_app];exact ja))).mono ?_;rintro _ _ ⟨rfl,y1,h2,rfl⟩;refine ze ?_;clear hT T;refine zR ?_;exact KE.meet y1 jc (by first|exact ja|(simp only[hpH_app];exact ja)) h2
 ·rintro y1 h2;unfold jaQ
  have hi:=his _ _ y1 _ h2
  cases hc:is (ja5 D.C is h).s with
  |true=>
   rw[hc] at hi;rw[if_pos rfl];refine zG ?_;refine zz fun T hT=>?_;refine zmf ?_;rintro _ _ ⟨rfl,rfl⟩;refine ze ?_;clear hT T;refine zy ?_;refine zat ?_;exact KE.finN je rfl jd ja ⟨rfl,y1,h2.mono (by omega) (by omega),rfl⟩
  |false=>
   have h0:=jgT (C:=D.C) (h:=h) (is:=is) (by rw[hc];decide)
   have hB:=jky (w0:=w0) (F:=G) hD h2 h0 (by rw[hI1.pa,h0];rfl) hf
   have hE:=fun(y3:CyM) (h3:HpR D (nf+1) (nk+100000000) y3 (jbq D.C (ja5 D.C is h)))=>jjg (F:=G) hG hD h3 (show(1:Nat)≠0 by decide) (by
    show(ja7 true (ja5 D.C is h).p).act=true
    unfold ja7
    split
    ·assumption
    ·rfl) (by omega)
   unfold HpQ at hB hE;rw[hc] at hi;rw[if_neg (by decide)];refine zG ?_;refine zz fun T hT=>?_;refine zmf ?_;rintro _ _ ⟨rfl,rfl⟩;refine ze ?_;clear hT T;refine zaQ ?_;refine zn ?_;refine jB hB ja ?_;rintro _ _ ⟨rfl,y3,h3,rfl⟩;refine zed ?_;refine zn ?_;refine jB (hE y3 h3) ja ?_;rintro _ _ ⟨rfl,y4,h4,rfl⟩;refine zR ?_;exact KE.finN je rfl jd ja ⟨rfl,y4,h4.mono (by omega) (by omega),rfl⟩
end
open Go.RowKit
set_option maxRecDepth 10000
section
variable {w0 : World} {D : HpD} {nf nk n : Nat} {y y' : CyM} {h : HpP} {s' : CyP} {F : jb}
theorem cLook_K {g:PlG} {long:Nat} {s:CyP} {i n:Nat} (h:CpR g long y s):Call Tryz.prog w0 162 [.pointer (some ⟨y.T.b,0,none⟩), .int .i64 (i:Nat), .int .u32 (n:Nat)] (cycH y++F) (fun r H'=>r= .tuple [.int .i64 (((namedT s.W.T (i:Nat) (n:Nat)).map (·.slot)).getD 0), .int .i64 (if (namedT s.W.T (i:Nat) (n:Nat)).isSome=true then 0 else 130)].toArray∧H'=cycH y++F):=by
 have hc:=Call.ro (w0:=w0) (A:=jK y.T) (H:=cycH y++F) (fun F=>tbLook2_K (F:=F) (i:=i) (n:=n) h.p.tb) (by rw[cycH_app];exact ja)
 rw[h.p.eT] at hc;exact hc
theorem hyLook_K {i n:Nat} (h1:HpR D nf nk y h):Call Tryz.prog w0 162 [.pointer (some ⟨D.Tb,0,none⟩), .int .i64 (i:Nat), .int .u32 (n:Nat)] (hpH D y h++F) (fun r H'=>r= .tuple [.int .i64 (((namedT h.s.W.T (i:Nat) (n:Nat)).map (·.slot)).getD 0), .int .i64 (if (namedT h.s.W.T (i:Nat) (n:Nat)).isSome=true then 0 else 130)].toArray∧H'=hpH D y h++F):=
 h1.lift0 fun A=>by have:=cLook_K (w0:=w0) (F:=A) (i:=i) (n:=n) h1.p;rw [h1.T] at this;exact this
theorem jd6 {w:Nat} (hw:w<18446744073709551616) (h1:HpR D nf nk y h):Call Tryz.prog w0 119 [.pointer (some ⟨D.b,0,none⟩), .int .u64 (w:Nat)] (hpH D y h++F) (fun r H'=>r= .tuple [.int .i64 ((hpSlot D.C.tn h.s.W.T w).getD 0), .bool (hpSlot D.C.tn h.s.W.T w).isSome].toArray∧H'=hpH D y h++F):=by
 have hget:=fun A=>jlF (w0:=w0) (H:=A) hw
 have hTb:=fun A=>jgI (w0:=w0) (F:=A) h1
 have hL:=fun A=>hyLook_K (w0:=w0) (F:=A) (i:=capI w) (n:=capG w) h1
 unfold capV at hget;unfold hpSlot
 by_cases hg:capG w=0
 ·rw[if_neg (fun q=>q.1 hg)];simp only[if_pos hg] at hget;refine zoO ?_;refine zL ?_;refine zch ?_;refine zgV ?_;refine zbd ?_;intro b6;refine zt ?_;refine zgS ?_;refine zhS ?_;refine zo ?_;refine zkS ?_;refine zfl ?_;refine zgk ?_;refine zbD ?_;refine zcV ?_;refine zcW ?_;exact zfL
 ·simp only[if_neg hg] at hget
  by_cases ht:capT w=D.C.tn
  ·have ht': ¬((capT w:Nat):Int)≠(D.C.tn:Nat):=by omega
   rw[if_pos ⟨hg,ht⟩]
   cases hn:namedT h.s.W.T (capI w:Nat) (capG w:Nat) with
   |none=>
    simp only[hn,Option.map_none,Option.getD_none,Option.isSome_none,Bool.false_eq_true,if_false] at hL⊢;refine zoO ?_;refine zL ?_;refine zch ?_;refine zgV ?_;simp only[hpH_app];refine zbd ?_;intro b6;refine zt ?_;refine zgS ?_;refine zhS ?_;refine zo ?_;refine zfK ?_;refine zhk ?_;refine zl0 ?_;refine zbV ?_;refine zkQ ?_;refine zbr ?_;refine KE.next (K.condF rfl (K.skip (KE.next (K.seq ?_))));refine zsG ?_;refine zgj ?_;refine ziZ ?_;refine zaJ ?_;refine zft fun T hT=>?_;refine zoN ?_;rintro _ _ ⟨rfl,rfl⟩;refine zaM ?_;clear hT T;refine zk fun T hT=>?_;refine(CallV.part (CallV.fn (hL _)) (by first|exact ja|(simp only[hpH_app];exact ja))).mono ?_;rintro _ _ ⟨rfl,rfl⟩;refine zaM ?_;clear hT T;refine zeH ?_;refine zV ?_;refine zB ?_;refine zC ?_;refine zab ?_;exact zfL
   |some e=>
    simp only[hn,Option.map_some,Option.getD_some,Option.isSome_some,if_true] at hL⊢;refine zoO ?_;refine zL ?_;refine zch ?_;refine zgV ?_;simp only[hpH_app];refine zbd ?_;intro b6;refine zt ?_;refine zgS ?_;refine zhS ?_;refine zo ?_;refine zfK ?_;refine zhk ?_;refine zl0 ?_;refine zbV ?_;refine zkQ ?_;refine zbr ?_;refine KE.next (K.condF rfl (K.skip (KE.next (K.seq ?_))));refine zsG ?_;refine zgj ?_;refine ziZ ?_;refine zaJ ?_;refine zft fun T hT=>?_;refine zoN ?_;rintro _ _ ⟨rfl,rfl⟩;refine zaM ?_;clear hT T;refine zk fun T hT=>?_;refine(CallV.part (CallV.fn (hL _)) (by first|exact ja|(simp only[hpH_app];exact ja))).mono ?_;rintro _ _ ⟨rfl,rfl⟩;refine zaM ?_;clear hT T;refine zeH ?_;refine zV ?_;refine zB ?_;refine zg3 ?_;refine zm ?_;exact zfL
  ·have ht':((capT w:Nat):Int)≠(D.C.tn:Nat):=by omega
   rw[if_neg (fun q=>ht q.2)];refine zoO ?_;refine zL ?_;refine zch ?_;refine zgV ?_;simp only[hpH_app];refine zbd ?_;intro b6;refine zt ?_;refine zgS ?_;refine zhS ?_;refine zo ?_;refine zfK ?_;refine zhk ?_;refine zl0 ?_;refine zbV ?_;refine KD.y0 rfl rfl rfl rfl (Val.isT (Val.neq rfl rfl) jO) ?_;refine zbr ?_;refine zhP ?_;refine zcW ?_;exact zfL
theorem jlu {t:Nat} (hD:HpDok D) (h1:HpR D nf nk y h) (hI: ∀ e∈h.s.W.T,1≤e.gen∧e.gen≤2147483648) (ht:t<D.C.g.slots) (hf:(JM h.s.W.T).isSome=true):Call Tryz.prog w0 199 [.pointer (some ⟨D.b,0,none⟩), .int .i64 (t:Nat)] (hpH D y h++F)
  (fun r H'=>r= .int .u64 (jbk D.C.tn h.s.W.T:Nat)∧HpQ D nf nk {h with s:={h.s with W:={h.s.W with T:=jH h.s.W.T (t:Nat)}}} F H'):=by
 have hTb:=fun A=>jgI (w0:=w0) (F:=A) h1
 have hM:=fun A=>h1.lift (F:=A) (fun A=>by have:=cMint_K (w0:=w0) (F:=A) h1.p ht;rw [h1.T] at this;exact this)
 have hl:=h1.p.T1024
 have htn:=hD.C.tn
 obtain⟨i,hi⟩:=Option.isSome_iff_exists.1 hf
 obtain⟨⟨e,g1,g2⟩,_⟩:=jbg hi
 have hil:=jv g1
 have hge:=hI e (List.mem_of_getElem? g1)
 obtain⟨gn,hgn⟩: ∃ gn:Nat,e.gen=gn:=⟨e.gen.toNat,by omega⟩
 have hmv:jbd h.s.W.T=(((i:Nat):Int),((gn:Nat):Int),0):=by grind[jbd,hi,g1,jct]
 have hmw:jbk D.C.tn h.s.W.T=capW D.C.tn i gn:=by grind[jbk]
 simp only[hmv] at hM;rw[hmw]
 have hput:=fun A=>capPut_K (w0:=w0) (H:=A) (t:=D.C.tn) (i:=i) (n:=gn) (by omega) (by omega) ⟨by omega,by omega⟩
 unfold HpQ at hM⊢;refine Call.enter2 (n:=33) (by rfl) Tryz.func199 rfl rfl rfl ?_;simp only[hpH_app];refine zav ?_;refine zcn fun T hT=>?_;refine zoN ?_;rintro _ _ ⟨rfl,rfl⟩;refine ze ?_;clear hT T;refine zz fun T hT=>?_;refine(CallV.part (CallV.fn (hM _)) (by first|exact ja|(simp only[hpH_app];exact ja))).mono ?_;rintro _ _ ⟨rfl,y1,h2,rfl⟩;refine ze ?_;clear hT T;simp only[hpH_app];refine zil ?_;refine zah ?_;refine zF ?_;refine zbn ?_;refine zB ?_;refine zbb ?_;refine zu fun T hT=>?_;refine(CallV.part (CallV.fn (hput _)) (by first|exact ja|(simp only[hpH_app];exact ja))).mono ?_;rintro _ _ ⟨rfl,rfl⟩;refine ze ?_;clear hT T;refine zY ?_;refine zap ?_;refine zm ?_;exact zkX
theorem cHead_K {g:PlG} {long:Nat} {s:CyP} {n:Nat} {z:jq} (hG:ji w0) (h:CpR g long y s) (hz:g.L[n]?=some z):Call Tryz.prog w0 137 [.pointer (some ⟨y.B.b,0,none⟩), .int .i64 (n:Nat)] (cycH y++F) (fun r H'=>r=headV (headP s.W.x z)∧H'=cycH y++F):=
 Call.ro (w0:=w0) (A:=jT y.B++(jy y.B.m++planH y.B.p)) (H:=cycH y++F) (fun F=>by
  have:=jeX (w0:=w0) (F:=F) (s:=n) hG h.p.bo (by rw[h.eg];exact hz)
  simpa only [List.append_assoc] using this) (by rw[cycH_app];exact ja)
theorem hyHead_K {n:Nat} {z:jq} (hG:ji w0) (h1:HpR D nf nk y h) (hz:D.C.g.L[n]?=some z):Call Tryz.prog w0 137 [.pointer (some ⟨D.Bb,0,none⟩), .int .i64 (n:Nat)] (hpH D y h++F) (fun r H'=>r=headV (headP h.s.W.x z)∧H'=hpH D y h++F):=
 h1.lift0 fun A=>by have:=cHead_K (w0:=w0) (F:=A) hG h1.p hz;rw [h1.B] at this;exact this
theorem jkx {n:Nat} {z:jq} {i:Int} (hG:ji w0) (h1:HpR D nf nk y h) (hz:D.C.g.L[n]?=some z):Call Tryz.prog w0 201 [.pointer (some ⟨D.b,0,none⟩), .int .i64 (n:Nat), .int .i64 i] (hpH D y h++F) (fun r H'=>r= .tuple [.bool (ja9 h.s.W.x z i).1, .int .i64 (ja9 h.s.W.x z i).2].toArray∧H'=hpH D y h++F):=by
 have hB:=fun A=>jfi (w0:=w0) (F:=A) h1
 have hH:=fun A=>hyHead_K (w0:=w0) (F:=A) hG h1 hz
 have hfd:=fun A (q:HdP)=>jlw (w0:=w0) (H:=A) (h:=q) (i:=i)
 unfold ja9
 obtain⟨q,e,hq⟩: ∃ (q:HdP) (e:Int),headV (headP h.s.W.x z)= .tuple [hdV q, .int .i64 e].toArray∧(headP h.s.W.x z).getD ⟨0,0,0⟩=q:=by
  grind[headV,headP]
 rw[hq.2];rw[hq.1] at hH;unfold hdV at*
 obtain⟨c,r,w⟩:=q
 dsimp only at*;refine Call.enter3 (n:=25) (by rfl) Tryz.func201 rfl rfl rfl ?_;simp only[hpH_app];refine zL ?_;refine zah ?_;refine zcn fun T hT=>?_;refine zgU ?_;rintro _ _ ⟨rfl,rfl⟩;refine ze ?_;clear hT T;refine zz fun T hT=>?_;refine(CallV.part (CallV.fn (hH _)) (by first|exact ja|(simp only[hpH_app];exact ja))).mono ?_;rintro _ _ ⟨rfl,rfl⟩;refine ze ?_;clear hT T;refine zhE ?_;intro b8;refine zg8 ?_;refine jp (hfd _ ⟨c,r,w⟩) ?_;refine zh4 ?_;refine zab ?_;exact zfL
end
set_option maxRecDepth 10000
def opV (op:OpP):Value:= .agg [.int .u8 (op.c:Nat), .int .u64 (op.h:Nat), .int .i64 op.a, .int .i64 op.b, .int .u64 (op.v:Nat)].toArray
def snV (q:SnP):Value:= .agg [.int .i64 q.e, .int .u64 (q.h:Nat), .int .u64 q.w, .int .i64 q.addr, .int .i64 q.used, .int .i64 q.since, .int .i64 q.cyc, .bool q.act].toArray
theorem jbE {w0:World} {H:jb} {e:Int}:Call Tryz.prog w0 85 [.int .i64 e] H (fun r H'=>r=snV (told e)∧H'=H):=by
 refine Call.enter1 (n:=5) (by rfl) Tryz.func85 rfl rfl rfl ?_;refine zbx ?_;intro b2;refine zcg ?_;refine zfr ?_;exact zH
section
theorem arUsed_K {w0:World} {F:jb} {a:ArM} {p:jZ}:
  Call Tryz.prog w0 30 [.pointer (some ⟨a.b,0,none⟩)] (j7 a p++F) (fun r H'=>r= .int .i64 (usedL p.g.L a.r.bs:Nat)∧H'=j7 a p++F):=by
 refine Call.enter1 (n:=9) (by rfl) Tryz.func30 rfl rfl rfl ?_;refine zaf ?_;refine jp (jfn (a:=a) (p:=p)) ?_;simp only[arenaH_app];refine zas ?_;refine zaa ?_;refine zm ?_;exact KE.fin je rfl jd (by first|exact ja|(simp only[arenaH_app];exact ja)) ⟨rfl,rfl⟩
end
section
variable {w0 : World} {D : HpD} {nf nk n : Nat} {y y' : CyM} {h : HpP} {s s' : CyP} {F : jb} {g : PlG} {long : Nat} {z : jq}
theorem cUsed_K (h:CpR g long y s):Call Tryz.prog w0 30 [.pointer (some ⟨y.a.b,0,none⟩)] (cycH y++F) (fun r H'=>r= .int .i64 (usedL g.L s.A:Nat)∧H'=cycH y++F):=by
 have hc:=Call.ro (w0:=w0) (A:=j7 y.a y.B.p) (H:=cycH y++F) (fun F=>arUsed_K (F:=F)) (by rw[cycH_app];exact ja)
 rw[h.A,h.eg] at hc;exact hc
theorem cAddr_K (h:CpR g long y s) (hz:g.L[n]?=some z):Call Tryz.prog w0 121 [.pointer (some ⟨y.B.p.b,0,none⟩), .int .i64 (n:Nat)] (cycH y++F) (fun r H'=>r= .tuple [.int .i64 (z.addr:Nat), .int .i64 0].toArray∧H'=cycH y++F):=
 Call.ro (w0:=w0) (A:=planH y.B.p) (H:=cycH y++F) (fun F=>Addr0_K (F:=F) h.p.bo.p (by rw[h.eg];omega)) (by rw[cycH_app];exact ja)
theorem cWord_K {i:Int} (hG:ji w0) (h:CpR g long y s) (hz:g.L[n]?=some z):Call Tryz.prog w0 202 [.pointer (some ⟨y.B.b,0,none⟩), .int .i64 (n:Nat), .int .i64 i] (cycH y++F) (fun r H'=>r= .tuple [.int .u64 (wordP s.W.x z i).1, .int .i64 (wordP s.W.x z i).2].toArray∧H'=cycH y++F):=
 Call.ro (w0:=w0) (A:=jT y.B++(jy y.B.m++planH y.B.p)) (H:=cycH y++F) (fun F=>by
  have:=bWord_K (w0:=w0) (F:=F) (i:=i) (s:=n) hG h.p.bo (by rw[h.eg];exact hz)
  simpa only [List.append_assoc] using this) (by rw[cycH_app];exact ja)
theorem cRef_K {i:Int} (hG:ji w0) (h:CpR g long y s) (hz:g.L[n]?=some z):Call Tryz.prog w0 203 [.pointer (some ⟨y.B.b,0,none⟩), .int .i64 (n:Nat), .int .i64 i] (cycH y++F) (fun r H'=>r= .tuple [.int .i64 (refP s.W.x g.slots z i).1, .int .i64 (refP s.W.x g.slots z i).2].toArray∧H'=cycH y++F):=by
 refine Call.ro (w0:=w0) (A:=jT y.B++(jy y.B.m++planH y.B.p)) (H:=cycH y++F) (fun F=>?_) (by rw[cycH_app];exact ja)
 have:=bRef_K (w0:=w0) (F:=F) (i:=i) (s:=n) hG h.p.bo (by rw[h.eg];exact hz)
 rw[h.eg] at this
 simpa only [List.append_assoc] using this
theorem cWords_K (hG:ji w0) (h:CpR g long y s) (hz:g.L[n]?=some z):Call Tryz.prog w0 212 [.pointer (some ⟨y.B.b,0,none⟩), .int .i64 (n:Nat)] (cycH y++F)
  (fun r H'=> ∃ (o:Own) (e:Int),oOk uE (jbr s.W.x z) o∧r= .tuple [oV o (jbr s.W.x z).length, .int .i64 e].toArray∧H'=oH uE 34 (jbr s.W.x z) o++(cycH y++F)):=by
 refine Call.at_ (bWords_K (w0:=w0) (s:=n) hG h.p.bo (by rw[h.eg];exact hz)) (by simp only[cycH_app];exact ja) ?_;rintro _ _ ⟨o,e,ko,rfl,rfl⟩;exact⟨_,⟨o,e,ko,rfl,rfl⟩,by simp only[cycH_app];exact ja⟩
theorem cPin2_K (h:CpR g long y s) (hn:n<g.slots):Call Tryz.prog w0 208 [.pointer (some ⟨y.N.b,0,none⟩), .int .i64 (n:Nat)] (cycH y++F)
  (fun r H'=>r= .int .i64 (if (s.W.N[n]?).getD 0<255 then 0 else 140)∧CyQ g long y 0 F {s with W:={s.W with N:=jav s.W.N n}} H'):=by
 have okg:=h.okg
 have hc:=fun A=>Pin2_K (w0:=w0) (F:=A) (s:=n) h.p.pi (by rw[h.p.eN,h.i.w.N];omega)
 rw[h.p.eN] at hc
 have hi:jw g long {s with W:={s.W with N:=jav s.W.N n}}:=by
  have:=h.i.world okg (a:=⟨6,(n:Nat),0,0,0,0⟩)
  rwa[jlQ ⟨by omega,by omega⟩] at this
 refine zh0 ?_;rintro _ _ ⟨hr,N',kN,eb,el,rfl⟩;exact zsH
theorem cUnpin2_K (h:CpR g long y s) (hn:n<g.slots):Call Tryz.prog w0 210 [.pointer (some ⟨y.N.b,0,none⟩), .int .i64 (n:Nat)] (cycH y++F)
  (fun r H'=>r= .int .i64 (if 0<(s.W.N[n]?).getD 0 then 0 else 140)∧CyQ g long y 0 F {s with W:={s.W with N:=jax s.W.N n}} H'):=by
 have okg:=h.okg
 have hc:=fun A=>Unpin2_K (w0:=w0) (F:=A) (s:=n) h.p.pi (by rw[h.p.eN,h.i.w.N];omega)
 rw[h.p.eN] at hc
 have hi:jw g long {s with W:={s.W with N:=jax s.W.N n}}:=by
  have:=h.i.world okg (a:=⟨7,(n:Nat),0,0,0,0⟩)
  rwa[jfK ⟨by omega,by omega⟩] at this
 refine zh0 ?_;rintro _ _ ⟨hr,N',kN,eb,el,rfl⟩;exact zsH
theorem cSetWord_K {i w:Int} (hG:ji w0) (h:CpR g long y s) (hn:n<g.slots) (hz:g.L[n]?=some z) (hw:0≤w∧w<18446744073709551616):Call Tryz.prog w0 205 [.pointer (some ⟨y.B.b,0,none⟩), .int .i64 (n:Nat), .int .i64 i, .int .u64 w] (cycH y++F)
  (fun r H'=>r= .int .i64 (JV s.W.x z i w).1∧CyQ g long y 0 F (jbH g s (n:Nat) i w) H'):=by
 have okg:=h.okg
 have hc:=fun A=>bSetWord_K (w0:=w0) (F:=A) (i:=i) (w:=w) hG h.p.bo (s:=n) (by rw[h.eg];exact hz)
 have hi:=jg6 (i:=i) okg h.i hn hw
 unfold jbH at hi⊢;rw[jW hz] at hi⊢;refine zh0 ?_;rintro _ _ ⟨rfl,rfl⟩;exact⟨_,⟨rfl,_,h.putx hi.w hi,J0.words,rfl⟩,by simp only[cycH_app,jho];exact ja⟩
theorem jiK (h1:HpR D nf nk y h):Call Tryz.prog w0 30 [.pointer (some ⟨D.ab,0,none⟩)] (hpH D y h++F) (fun r H'=>r= .int .i64 (usedL D.C.g.L h.s.A:Nat)∧H'=hpH D y h++F):=
 h1.lift0 fun A=>by have:=cUsed_K (w0:=w0) (F:=A) h1.p;rw [h1.a] at this;exact this
theorem jeF (h1:HpR D nf nk y h) (hz:D.C.g.L[n]?=some z):Call Tryz.prog w0 121 [.pointer (some ⟨D.pb,0,none⟩), .int .i64 (n:Nat)] (hpH D y h++F) (fun r H'=>r= .tuple [.int .i64 (z.addr:Nat), .int .i64 0].toArray∧H'=hpH D y h++F):=
 h1.lift0 fun A=>by have:=cAddr_K (w0:=w0) (F:=A) h1.p hz;rw [h1.pl] at this;exact this
theorem hyWord_K {i:Int} (hG:ji w0) (h1:HpR D nf nk y h) (hz:D.C.g.L[n]?=some z):Call Tryz.prog w0 202 [.pointer (some ⟨D.Bb,0,none⟩), .int .i64 (n:Nat), .int .i64 i] (hpH D y h++F) (fun r H'=>r= .tuple [.int .u64 (wordP h.s.W.x z i).1, .int .i64 (wordP h.s.W.x z i).2].toArray∧H'=hpH D y h++F):=
 h1.lift0 fun A=>by have:=cWord_K (w0:=w0) (F:=A) (i:=i) hG h1.p hz;rw [h1.B] at this;exact this
theorem hyRef_K {i:Int} (hG:ji w0) (h1:HpR D nf nk y h) (hz:D.C.g.L[n]?=some z):Call Tryz.prog w0 203 [.pointer (some ⟨D.Bb,0,none⟩), .int .i64 (n:Nat), .int .i64 i] (hpH D y h++F) (fun r H'=>r= .tuple [.int .i64 (refP h.s.W.x D.C.g.slots z i).1, .int .i64 (refP h.s.W.x D.C.g.slots z i).2].toArray∧H'=hpH D y h++F):=
 h1.lift0 fun A=>by have:=cRef_K (w0:=w0) (F:=A) (i:=i) hG h1.p hz;rw [h1.B] at this;exact this
theorem hyCount_K (h1:HpR D nf nk y h):Call Tryz.prog w0 209 [.pointer (some ⟨D.Nb,0,none⟩), .int .i64 (n:Nat)] (hpH D y h++F) (fun r H'=>r= .int .i64 ((h.s.W.N[n]?).getD 0)∧H'=hpH D y h++F):=
 h1.lift0 fun A=>by have:=cCount_K (w0:=w0) (F:=A) (t:=n) h1.p;rw [h1.N] at this;exact this
theorem hyWords_K (hG:ji w0) (h1:HpR D nf nk y h) (hz:D.C.g.L[n]?=some z):Call Tryz.prog w0 212 [.pointer (some ⟨D.Bb,0,none⟩), .int .i64 (n:Nat)] (hpH D y h++F)
  (fun r H'=> ∃ (o:Own) (e:Int),oOk uE (jbr h.s.W.x z) o∧r= .tuple [oV o (jbr h.s.W.x z).length, .int .i64 e].toArray∧H'=oH uE 34 (jbr h.s.W.x z) o++(hpH D y h++F)):=by
 have hc:=fun A=>cWords_K (w0:=w0) (F:=A) hG h1.p hz
 rw[h1.B] at hc;refine Call.at_ (hc _) (by simp only[hpH_app];exact ja) ?_;rintro _ _ ⟨o,e,ko,rfl,rfl⟩;exact⟨_,⟨o,e,ko,rfl,rfl⟩,by simp only[hpH_app];exact ja⟩
theorem jgJ (h1:HpR D nf nk y h) (hn:n<D.C.g.slots):Call Tryz.prog w0 204 [.pointer (some ⟨D.yb,0,none⟩), .int .i64 (n:Nat)] (hpH D y h++F) (fun r H'=>r= .int .i64 0∧HpQ D nf nk {h with s:=shdC D.C.g D.C.long h.s (n:Nat)} F H'):=
 h1.lift (n:=0) fun A=>by have:=cyShade_K (w0:=w0) (F:=A) h1.p hn;rw [h1.b] at this;exact this
theorem hyBlack_K (h1:HpR D nf nk y h) (hn:n<D.C.g.slots):Call Tryz.prog w0 198 [.pointer (some ⟨D.yb,0,none⟩), .int .i64 (n:Nat)] (hpH D y h++F) (fun r H'=>r= .int .i64 0∧HpQ D nf nk {h with s:={h.s with m:=JP h.s.m n}} F H'):=
 h1.lift (n:=0) fun A=>by have:=cyBlack_K (w0:=w0) (F:=A) h1.p hn;rw [h1.b] at this;exact this
theorem hyPin_K (h1:HpR D nf nk y h) (hn:n<D.C.g.slots):Call Tryz.prog w0 208 [.pointer (some ⟨D.Nb,0,none⟩), .int .i64 (n:Nat)] (hpH D y h++F) (fun r H'=>r= .int .i64 (if (h.s.W.N[n]?).getD 0<255 then 0 else 140)∧HpQ D nf nk {h with s:={h.s with W:={h.s.W with N:=jav h.s.W.N n}}} F H'):=
 h1.lift (n:=0) fun A=>by have:=cPin2_K (w0:=w0) (F:=A) h1.p hn;rw [h1.N] at this;exact this
theorem hyUnpin_K (h1:HpR D nf nk y h) (hn:n<D.C.g.slots):Call Tryz.prog w0 210 [.pointer (some ⟨D.Nb,0,none⟩), .int .i64 (n:Nat)] (hpH D y h++F) (fun r H'=>r= .int .i64 (if 0<(h.s.W.N[n]?).getD 0 then 0 else 140)∧HpQ D nf nk {h with s:={h.s with W:={h.s.W with N:=jax h.s.W.N n}}} F H'):=
 h1.lift (n:=0) fun A=>by have:=cUnpin2_K (w0:=w0) (F:=A) h1.p hn;rw [h1.N] at this;exact this
theorem hyDrop_K {i:Nat} {e:jl} (h1:HpR D nf nk y h) (he:h.s.W.T[i]?=some e) (h2:e.st=1):Call Tryz.prog w0 211 [.pointer (some ⟨D.Tb,0,none⟩), .int .i64 (i:Nat), .int .u32 e.gen] (hpH D y h++F) (fun r H'=>r= .tuple [.int .i64 e.slot, .int .i64 0].toArray∧HpQ D nf nk {h with s:={h.s with W:={h.s.W with T:=Jk h.s.W.T (i:Nat)}}} F H'):=
 h1.lift (n:=0) fun A=>by have:=cDrop_K (w0:=w0) (F:=A) h1.p he h2;rw [h1.T] at this;exact this
theorem hyTake_K {k:Int} (hG:ji w0) (h1:HpR D nf nk y h):Call Tryz.prog w0 195 [.pointer (some ⟨D.ab,0,none⟩), .int .i64 k] (hpH D y h++F) (fun r H'=>r= .tuple [.int .i64 (takeP D.C.g h.s.A k).1, .int .i64 (takeP D.C.g h.s.A k).2.1].toArray∧HpQ D nf nk {h with s:={h.s with A:=(takeP D.C.g h.s.A k).2.2}} F H'):=
 h1.lift (n:=0) fun A=>by have:=cTake_K (w0:=w0) (F:=A) (k:=k) hG h1.p;rw [h1.a] at this;exact this
theorem hyMake_K {hd:HdP} (hG:ji w0) (h1:HpR D nf nk y h) (hz:D.C.g.L[n]?=some z):Call Tryz.prog w0 197 [.pointer (some ⟨D.Bb,0,none⟩), .int .i64 (n:Nat),hdV hd] (hpH D y h++F) (fun r H'=>r= .int .i64 (makeP h.s.W.x z hd).1∧HpQ D nf nk {h with s:={h.s with W:={h.s.W with x:=(makeP h.s.W.x z hd).2}}} F H'):=
 h1.lift (n:=0) fun A=>by have:=cMake_K (w0:=w0) (F:=A) (hd:=hd) hG h1.p hz;rw [h1.B] at this;exact this
theorem hySetRef_K {i to:Int} (hG:ji w0) (h1:HpR D nf nk y h) (hz:D.C.g.L[n]?=some z):Call Tryz.prog w0 206 [.pointer (some ⟨D.Bb,0,none⟩), .int .i64 (n:Nat), .int .i64 i, .int .i64 to] (hpH D y h++F) (fun r H'=>r= .int .i64 (Jy h.s.W.x D.C.g.slots z i to).1∧HpQ D nf nk {h with s:={h.s with W:={h.s.W with x:=(Jy h.s.W.x D.C.g.slots z i to).2}}} F H'):=
 h1.lift (n:=0) fun A=>by have:=cSetRef_K (w0:=w0) (F:=A) (i:=i) (to:=to) hG h1.p hz;rw [h1.B] at this;exact this
theorem jmk {i w:Int} (hG:ji w0) (h1:HpR D nf nk y h) (hn:n<D.C.g.slots) (hz:D.C.g.L[n]?=some z) (hw:0≤w∧w<18446744073709551616):Call Tryz.prog w0 205 [.pointer (some ⟨D.Bb,0,none⟩), .int .i64 (n:Nat), .int .i64 i, .int .u64 w] (hpH D y h++F) (fun r H'=>r= .int .i64 (JV h.s.W.x z i w).1∧HpQ D nf nk {h with s:=jbH D.C.g h.s (n:Nat) i w} F H'):=
 h1.lift (n:=0) fun A=>by have:=cSetWord_K (w0:=w0) (F:=A) (i:=i) hG h1.p hn hz hw;rw [h1.B] at this;exact this
end
open Go.RowKit
set_option maxRecDepth 10000
section
variable {w0 : World} {D : HpD} {nf nk n : Nat} {y y' : CyM} {h : HpP} {s s' : CyP} {F : jb} {op : OpP} {z : jq}
theorem slot_ent {tn:Nat} {T:List jl} {w:Nat} {sl:Int} (h:hpSlot tn T w=some sl): ∃ e,T[capI w]?=some e∧e.st=1∧e.gen=(capG w:Nat)∧e.slot=sl∧capG w≠0:=by
 grind[hpSlot,namedT,capI]
theorem hproot_K (h1:HpR D nf nk y h) (hn:n<D.C.g.slots):Call Tryz.prog w0 156 [.pointer (some ⟨D.b,0,none⟩),opV op, .int .i64 (n:Nat)] (hpH D y h++F) (fun r H'=>r=snV (jfB h (n:Nat)).1∧HpQ D nf nk (jfB h (n:Nat)).2 F H'):=by
 have hPs:=fun A=>jiL (w0:=w0) (F:=A) h1
 have hP:=fun A=>hyPin_K (w0:=w0) (F:=A) h1 hn
 have htold:=fun A (e:Int)=>jbE (w0:=w0) (H:=A) (e:=e)
 unfold jfB;rw[Int.toNat_natCast];unfold HpQ at hP⊢;refine Call.enter3 (n:=15) (by rfl) Tryz.func156 rfl rfl rfl ?_;simp only[hpH_app];refine zlb ?_;intro b4 b6;refine zcn fun T hT=>?_;refine zqF ?_;rintro _ _ ⟨rfl,rfl⟩;refine ze ?_;clear hT T;refine zz fun T hT=>?_;refine(CallV.part (CallV.fn (hP _)) (by first|exact ja|(simp only[hpH_app];exact ja))).mono ?_;rintro _ _ ⟨rfl,y1,h2,rfl⟩;refine ze ?_;clear hT T;refine zlm ?_;exact zkX
theorem hpunroot_K (h1:HpR D nf nk y h) (hn:n<D.C.g.slots):Call Tryz.prog w0 157 [.pointer (some ⟨D.b,0,none⟩),opV op, .int .i64 (n:Nat)] (hpH D y h++F) (fun r H'=>r=snV (jbo D.C h (n:Nat)).1∧HpQ D nf nk (jbo D.C h (n:Nat)).2 F H'):=by
 have hPs:=fun A=>jiL (w0:=w0) (F:=A) h1
 have hCt:=fun A=>hyCount_K (w0:=w0) (F:=A) (n:=n) h1
 have hS:=fun A=>jgJ (w0:=w0) (F:=A) h1 hn
 have hPs2:=fun A (y1:CyM) (h2:HpR D nf nk y1 {h with s:=shdC D.C.g D.C.long h.s (n:Nat)})=>jiL (w0:=w0) (F:=A) h2
 have hU:=fun A (y1:CyM) (h2:HpR D nf nk y1 {h with s:=shdC D.C.g D.C.long h.s (n:Nat)})=>hyUnpin_K (w0:=w0) (F:=A) h2 hn
 have htold:=fun A (e:Int)=>jbE (w0:=w0) (H:=A) (e:=e)
 have hN:(shdC D.C.g D.C.long h.s (n:Nat)).W.N=h.s.W.N:=by rw[shdC_W]
 have hnn:0≤(h.s.W.N[n]?).getD 0:=by
  cases hq:h.s.W.N[n]? with
  |none=>grind
  |some v=>exact(h1.p.i.w.n v (List.mem_of_getElem? hq)).1
 unfold jbo;rw[Int.toNat_natCast];simp only[hN] at hU⊢;unfold HpQ at hS hU⊢
 by_cases h0:(h.s.W.N[n]?).getD 0=0
 ·rw[if_pos h0];refine Call.enter3 (n:=30) (by rfl) Tryz.func157 rfl rfl rfl ?_;simp only[hpH_app];refine zbc ?_;intro b4 b6;refine zbu ?_;refine zcn fun T hT=>?_;refine zqF ?_;rintro _ _ ⟨rfl,rfl⟩;refine ze ?_;clear hT T;refine zz fun T hT=>?_;refine(CallV.part (CallV.fn (hCt _)) (by first|exact ja|(simp only[hpH_app];exact ja))).mono ?_;rintro _ _ ⟨rfl,rfl⟩;refine ze ?_;clear hT T;refine zeF ?_;refine zpU ?_;exact zkY
 ·rw[if_neg h0]
  have h0':0<(h.s.W.N[n]?).getD 0:=by omega
  simp only[if_pos h0'] at hU;refine Call.enter3 (n:=30) (by rfl) Tryz.func157 rfl rfl rfl ?_;simp only[hpH_app];refine zbc ?_;intro b4 b6;refine zbu ?_;refine zcn fun T hT=>?_;refine zqF ?_;rintro _ _ ⟨rfl,rfl⟩;refine ze ?_;clear hT T;refine zz fun T hT=>?_;refine(CallV.part (CallV.fn (hCt _)) (by first|exact ja|(simp only[hpH_app];exact ja))).mono ?_;rintro _ _ ⟨rfl,rfl⟩;refine ze ?_;clear hT T;simp only[hpH_app];refine zC ?_;refine zas ?_;refine ze1 ?_;refine zz fun T hT=>?_;refine zmg ?_;rintro _ _ ⟨rfl,y1,h2,rfl⟩;refine ze ?_;clear hT T;simp only[hpH_app];refine zal ?_;refine zcn fun T hT=>?_;refine(CallV.part (CallV.fn (hPs2 _ y1 h2)) (by first|exact ja|(simp only[hpH_app];exact ja))).mono ?_;rintro _ _ ⟨rfl,rfl⟩;refine ze ?_;clear hT T;refine zz fun T hT=>?_;refine(CallV.part (CallV.fn (hU _ y1 h2)) (by first|exact ja|(simp only[hpH_app];exact ja))).mono ?_;rintro _ _ ⟨rfl,y2,h3,rfl⟩;refine ze ?_;clear hT T;refine zlm ?_;exact zqG
theorem hpdrop_K (h1:HpR D nf nk y h) (hn:n<D.C.g.slots) (hh:op.h<18446744073709551616) (hs:hpSlot D.C.tn h.s.W.T op.h=some ((n:Nat):Int)):Call Tryz.prog w0 158 [.pointer (some ⟨D.b,0,none⟩),opV op, .int .i64 (n:Nat)] (hpH D y h++F) (fun r H'=>r=snV (jfC D.C h (n:Nat) op.h).1∧HpQ D nf nk (jfC D.C h (n:Nat) op.h).2 F H'):=by
 obtain⟨e,he,e1,eg,es,hg⟩:=slot_ent hs
 have hget:=fun A=>jlF (w0:=w0) (H:=A) hh
 unfold capV at hget;simp only[if_neg hg] at hget
 have hS:=fun A=>jgJ (w0:=w0) (F:=A) h1 hn
 have hTb:=fun A (y1:CyM) (h2:HpR D nf nk y1 {h with s:=shdC D.C.g D.C.long h.s (n:Nat)})=>jgI (w0:=w0) (F:=A) h2
 have hT':(shdC D.C.g D.C.long h.s (n:Nat)).W.T=h.s.W.T:=by rw[shdC_W]
 have hDr:=fun A (y1:CyM) (h2:HpR D nf nk y1 {h with s:=shdC D.C.g D.C.long h.s (n:Nat)})=>hyDrop_K (w0:=w0) (F:=A) (i:=capI op.h) (e:=e) h2 (by grind) e1
 rw[eg] at hDr
 have htold:=fun A (e:Int)=>jbE (w0:=w0) (H:=A) (e:=e)
 unfold jfC;unfold HpQ at hS hDr⊢;unfold opV;refine Call.enter3 (n:=38) (by rfl) Tryz.func158 rfl rfl rfl ?_;refine zlb ?_;intro b4 b6;refine zrG ?_;refine zgV ?_;simp only[hpH_app];refine zhE ?_;intro b7;refine znw ?_;refine zz fun T hT=>?_;refine zmg ?_;rintro _ _ ⟨rfl,y1,h2,rfl⟩;refine ze ?_;clear hT T;simp only[hpH_app];refine za3 ?_;refine zJ ?_
 (first|refine K.seq (K.drawn _ [(0,0),(1,0),(2,0),(3,0),(5,1),(6,1),(7,1),(8,1),(4,2),(9,4),(10,0),(11,0),(12,0),(13,0),(14,0)] (by rfl) (by rfl) (by kernel_rfl) (by rfl) (by rfl) (by rfl) Part.all ?_)|refine K.seq (K.seq (K.drawn _ [(0,0),(1,0),(2,0),(3,0),(5,1),(6,1),(7,1),(8,1),(4,2),(9,4),(10,0),(11,0),(12,0),(13,0),(14,0)] (by kernel_rfl) (by kernel_rfl) (by kernel_rfl) (by kernel_rfl) (by kernel_rfl) (by kernel_rfl) Part.all ?_))|refine K.drawn _ [(0,0),(1,0),(2,0),(3,0),(5,1),(6,1),(7,1),(8,1),(4,2),(9,4),(10,0),(11,0),(12,0),(13,0),(14,0)] (by kernel_rfl) (by kernel_rfl) (by kernel_rfl) (by kernel_rfl) (by kernel_rfl) (by kernel_rfl) Part.all ?_)
 refine zfb ?_;refine zgo ?_;refine zrI ?_;refine zcb ?_;refine zk fun T hT=>?_;refine(CallV.part (CallV.fn (hTb _ y1 h2)) (by first|exact ja|(simp only[hpH_app];exact ja))).mono ?_;rintro _ _ ⟨rfl,rfl⟩;refine zaM ?_;clear hT T;refine zjb fun T hT=>?_;refine(CallV.part (CallV.fn (hDr _ y1 h2)) (by first|exact ja|(simp only[hpH_app];exact ja))).mono ?_;rintro _ _ ⟨rfl,y2,h3,rfl⟩;refine zi ?_;clear hT T;refine zeH ?_;refine zV ?_;refine zn ?_;refine zpF ?_;exact zqG
theorem hpfold_K (hG:ji w0) (h1:HpR D nf nk y h) (hz:D.C.g.L[n]?=some z) (hl:(jbr h.s.W.x z).length≤1000000):Call Tryz.prog w0 159 [.pointer (some ⟨D.b,0,none⟩),opV op, .int .i64 (n:Nat)] (hpH D y h++F) (fun r H'=>r=snV (jeV D.C h (n:Nat)).1∧HpQ D nf nk (jeV D.C h (n:Nat)).2 F H'):=by
 have hB:=fun A=>jfi (w0:=w0) (F:=A) h1
 have hW:=fun A=>hyWords_K (w0:=w0) (F:=A) hG h1 hz
 unfold jeV;rw[jW hz]
 have hSum:=fun A v (hS:Sli w0 A uE v (jbr h.s.W.x z))=>Sum_K (w0:=w0) hS hl
 unfold HpQ;refine Call.enter3 (n:=22) (by rfl) Tryz.func159 rfl rfl rfl ?_;simp only[hpH_app];refine zlb ?_;intro b4 b6;refine zcn fun T hT=>?_;refine zgU ?_;rintro _ _ ⟨rfl,rfl⟩;refine ze ?_;clear hT T;refine zz fun T hT=>?_;refine(CallV.part (CallV.fn (hW _)) (by first|exact ja|(simp only[hpH_app];exact ja))).mono ?_;rintro _ _ ⟨o,e,ko,rfl,rfl⟩;refine ze ?_;clear hT T;refine zY ?_;refine zch ?_;refine jp (hSum _ _ (Sli.own jj ko rfl)) ?_;refine zfr ?_;exact zkY
end
set_option maxRecDepth 10000
section
variable {w0 : World} {D : HpD} {nf nk n : Nat} {y y' : CyM} {h : HpP} {s s' : CyP} {F G : jb} {op : OpP} {z : jq} {b3 b10 b11 sz : Nat}
theorem jlM (hD:HpDok D) (h1:HpR D nf nk y h) (hsz:sz≤1048576):Call Tryz.prog w0 191 [.pointer (some ⟨b3,0,none⟩), .pointer (some ⟨b10,0,none⟩)] (hpH D y h++((b3,cells [.pointer (some ⟨D.b,0,none⟩)] 64)::(b10,cells [.int .i64 (sz:Nat)] 3)::G))
  (fun r H'=>r= .bool (fitsB D.C.g sz h.s)∧H'=hpH D y h++((b3,cells [.pointer (some ⟨D.b,0,none⟩)] 64)::(b10,cells [.int .i64 (sz:Nat)] 3)::G)):=by
 have hAr:=fun A=>jif (w0:=w0) (F:=A) h1
 have hUs:=fun A=>jiK (w0:=w0) (F:=A) h1
 have hub:usedL D.C.g.L h.s.A≤1048576:=by have:=jgO h1.p.oka h.s.A;rw [h1.p.eg] at this;omega
 obtain⟨q,hq,hqq⟩:=hD.t
 have hot:=hD.ot
 have hq':D.c.tn[((D.C.tn:Nat):Int).toNat]?=some q:=hq
 have hlt:=jv hq
 obtain⟨u,hu⟩: ∃ u,usedL D.C.g.L h.s.A=u:=⟨_,rfl⟩
 unfold fitsB;rw[hu] at hub⊢;simp only[hu] at hUs
 have e5:((u:Nat):Int)+((sz:Nat):Int)=((u+sz:Nat):Int):=by omega
 by_cases hc:u+sz≤D.C.g.q
 ·have hc':((u+sz:Nat):Int)≤q.quota:=by omega
  rw[decide_eq_true hc];refine Call.enter2 (n:=24) (by rfl) Tryz.func191 rfl rfl rfl ?_;simp only[hpH_app];refine zfd ?_;refine zsJ ?_;refine zcG ?_;refine zrK ?_;refine zaJ ?_;refine ziT ?_;refine zkI ?_;refine zpK ?_;refine ziT ?_;refine KD.v1 rfl rfl (Val.fieldAddr0 (k:=6) rfl rfl) ?_;refine zaJ ?_;refine KD.v1 rfl rfl (Val.idxSl rfl rfl rfl (Sli.own jj (by omega) jF) rfl jO) ?_;refine KD.v1 rfl rfl (Val.fieldSl (k:=0) rfl rfl) ?_;refine zlI ?_;refine zk fun T hT=>?_;refine(CallV.part (CallV.fn (hAr _)) (by first|exact ja|(simp only[hpH_app];exact ja))).mono ?_;rintro _ _ ⟨rfl,rfl⟩;refine zaM ?_;clear hT T;refine zk fun T hT=>?_;refine(CallV.part (CallV.fn (hUs _)) (by first|exact ja|(simp only[hpH_app];exact ja))).mono ?_;rintro _ _ ⟨rfl,rfl⟩;refine zaM ?_;clear hT T;refine zdt ?_;refine KD.v0 rfl rfl (Val.isT (Val.leq rfl rfl) jO) ?_;refine zbp ?_;exact zfL
 ·have hc': ¬((u+sz:Nat):Int)≤q.quota:=by omega
  rw[decide_eq_false hc];refine Call.enter2 (n:=24) (by rfl) Tryz.func191 rfl rfl rfl ?_;simp only[hpH_app];refine zfd ?_;refine zsJ ?_;refine zcG ?_;refine zrK ?_;refine zaJ ?_;refine ziT ?_;refine zkI ?_;refine zpK ?_;refine ziT ?_;refine KD.v1 rfl rfl (Val.fieldAddr0 (k:=6) rfl rfl) ?_;refine zaJ ?_;refine KD.v1 rfl rfl (Val.idxSl rfl rfl rfl (Sli.own jj (by omega) jF) rfl jO) ?_;refine KD.v1 rfl rfl (Val.fieldSl (k:=0) rfl rfl) ?_;refine zlI ?_;refine zk fun T hT=>?_;refine(CallV.part (CallV.fn (hAr _)) (by first|exact ja|(simp only[hpH_app];exact ja))).mono ?_;rintro _ _ ⟨rfl,rfl⟩;refine zaM ?_;clear hT T;refine zk fun T hT=>?_;refine(CallV.part (CallV.fn (hUs _)) (by first|exact ja|(simp only[hpH_app];exact ja))).mono ?_;rintro _ _ ⟨rfl,rfl⟩;refine zaM ?_;clear hT T;refine zdt ?_;refine KD.v0 rfl rfl (Val.isF (Val.leq rfl rfl) jO) ?_;refine zbp ?_;exact zfL
def fitV (b3 b10:Nat):Value:= .func (.func 191) #[] #[.pointer (some ⟨b3,0,none⟩), .pointer (some ⟨b10,0,none⟩)]
theorem alboth_K (hD:HpDok D) (h1:HpR D nf nk y h) (hsz:sz≤1048576):Call Tryz.prog w0 193 [.pointer (some ⟨b11,0,none⟩), .pointer (some ⟨b3,0,none⟩)] (hpH D y h++((b3,cells [.pointer (some ⟨D.b,0,none⟩)] 64)::(b10,cells [.int .i64 (sz:Nat)] 3)::(b11,cells [fitV b3 b10] 28)::G))
  (fun r H'=>r= .bool (fitsB D.C.g sz h.s&&Jt h.s)∧H'=hpH D y h++((b3,cells [.pointer (some ⟨D.b,0,none⟩)] 64)::(b10,cells [.int .i64 (sz:Nat)] 3)::(b11,cells [fitV b3 b10] 28)::G)):=by
 have hf:=fun A=>jlM (w0:=w0) (G:=A) (b3:=b3) (b10:=b10) hD h1 hsz
 have hfr:=fun A=>jg0 (w0:=w0) (F:=A) h1
 unfold fitV
 obtain⟨fb,hfb⟩: ∃ fb,fitsB D.C.g sz h.s=fb:=⟨_,rfl⟩
 rw[hfb];simp only[hfb] at hf
 cases fb with
 |false=>
  rw[Bool.false_and];refine Call.enter2 (n:=9) (by rfl) Tryz.func193 rfl rfl rfl ?_;refine zav ?_;refine zw ?_;refine zu fun T hT=>?_;refine zsK ?_;rintro _ _ ⟨rfl,rfl⟩;refine ze ?_;clear hT T;refine zb1 ?_;exact zq
 |true=>
  rw[Bool.true_and];refine Call.enter2 (n:=9) (by rfl) Tryz.func193 rfl rfl rfl ?_;refine zav ?_;refine zw ?_;refine zu fun T hT=>?_;refine zsK ?_;rintro _ _ ⟨rfl,rfl⟩;refine ze ?_;clear hT T;refine ziK ?_;refine zp ?_;refine jn (hfr _) ja ?_;exact zbO
end
open Go.RowKit
set_option maxRecDepth 10000
structure EqI (g:PlG) (long long1:Nat) (S0:Nat→Prop) (A0:List Bool) (z z':CyP):Prop where
 ok:jw g long z
 ok':jw g long1 z'
 p:1≤z.ph
 p':1≤z'.ph
 I:CyI g S0 A0 z
 I':CyI g S0 A0 z'
 e:EqW g (NwP S0 A0 z.A) z z'
section
variable {g : PlG} {long long1 nw : Nat} {z z' z'' s1 s1' : CyP} {x x' : List Int} {S0 : Nat → Prop} {A0 : List Bool} {t n : Nat} {y : jq}
theorem jR.symm (h:jR g x x' t):jR g x' x t:=fun y hy j hj=>(h y hy j hj).symm
theorem EqI.symm (h:EqI g long long1 S0 A0 z z'):EqI g long1 long S0 A0 z' z:=⟨h.ok',h.ok,h.p',h.p,h.I',h.I,⟨h.e.A.symm,h.e.T.symm,h.e.N.symm,fun t ht=>(h.e.x t (by rw[←h.e.A];omega)).symm,fun a ha=>(h.e.out a ha).symm⟩⟩
theorem EqI.refl (h:jw g long z) (hp:1≤z.ph) (hI:CyI g S0 A0 z):EqI g long long S0 A0 z z:=⟨h,h,hp,hp,hI,hI,⟨rfl,rfl,rfl,fun _ _=>jR.refl,fun _ _=>rfl⟩⟩
theorem EqW.step (h:EqW g (NwP S0 A0 z.A) z z') (hw:jbx g S0 A0 z' z''):EqW g (NwP S0 A0 z.A) z z'':=
 ⟨hw.A.trans h.A,hw.T.trans h.T,hw.N.trans h.N,fun t ht=>(h.x t ht).trans (hw.w t (by rw[h.A];omega)),fun a ha=>(hw.o a ha).trans (h.out a ha)⟩
theorem EqI.fin1 (ok:jg g) (h:EqI g long long1 S0 A0 z z'):EqI g long long1 S0 A0 z (finC g long1 z').2:=by
 have hr:=jfl.ok ok h.ok'
 exact⟨h.ok,hr.ok,h.p,Nat.le_trans h.p' hr.ph,h.I,hr.I h.I',h.e.step (fin_W ok h.ok' h.I')⟩
theorem EqI.fin (ok:jg g) (h:EqI g long long1 S0 A0 z z'):EqI g long long1 S0 A0 (finC g long z).2 (finC g long1 z').2:=((h.fin1 ok).symm.fin1 ok).symm
theorem jfz (t:Int):(shdC g long z t).A=z.A:=by grind[shdC]
theorem shdO_A (t:Int):(Jd g long z t).A=z.A:=by
 grind[Jd,jfz]
theorem jlo (ok:jg g) (hx:x.length=g.words) (hy:g.L[n]?=some y) {hd:HdP} {a:Nat} (ha: ¬(y.addr≤a∧a<y.addr+y.size)):wAt (makeP x y hd).2 a=wAt x a:=by
 have f1:=ok.fits hy
 grind[makeP,jaH,jbC]
theorem jjM (ok:jg g) (hy:g.L[n]?=some y) {i v:Int} {a:Nat} (ha: ¬(y.addr≤a∧a<y.addr+y.size)):wAt (Jy x g.slots y i v).2 a=wAt x a:=by
 unfold Jy
 split
 ·rfl
 ·split
  ·rename_i hf
   have:=jaq hf
   grind[jaH]
  ·rfl
theorem eq_of (h:EqI g long long1 S0 A0 z z') (a1:s1.A=z.A) (x1:s1.W.x=z.W.x) (a1':s1'.A=z'.A) (x1':s1'.W.x=z'.W.x) (hT:s1'.W.T=s1.W.T) (hN:s1'.W.N=s1.W.N):EqW g (NwP S0 A0 s1.A) s1 s1':=by
 refine⟨by rw[a1',a1];exact h.e.A,hT,hN,fun t ht=>?_,fun b hb=>?_⟩
 ·rw[a1] at ht;rw [x1,x1'];exact h.e.x t ht
 ·rw[x1,x1'];exact h.e.out b hb
theorem put_eq (ok:jg g) (h:EqI g long long1 S0 A0 z z') (a1:s1.A=z.A) (w1:s1.W=z.W) (a1':s1'.A=z'.A) (w1':s1'.W=z'.W) (hy:g.L[n]?=some y) {i to:Int}:
  EqW g (NwP S0 A0 (jcD g s1 (n:Nat) i to).A) (jcD g s1 (n:Nat) i to) (jcD g s1' (n:Nat) i to):=by
 unfold jcD;rw[jW hy,w1,w1'];refine⟨a1'.trans (h.e.A.trans a1.symm),h.e.T,h.e.N,fun t ht=>?_,fun b hb=>?_⟩
 ·have ht':NwP S0 A0 s1.A t:=ht
  rw[a1] at ht'
  by_cases e:n=t
  ·subst e;exact jmf ok h.ok.w.x h.ok'.w.x (h.e.x _ ht') hy
  ·exact(jgu ok hy e).symm.trans ((h.e.x t ht').trans (jgu ok hy e))
 ·exact(jjM ok hy (hb _ _ hy)).trans ((h.e.out b hb).trans (jjM ok hy (hb _ _ hy)).symm)
theorem EqI.sets (ok:jg g) (h:EqI g long long1 S0 A0 z z') {a:ja0}:EqW g (NwP S0 A0 (jbj g long z a).A) (jbj g long z a) (jbj g long1 z' a):=by
 have e:=h.e
 unfold jbj;rw[e.T]
 cases hs:slotT z.W.T a.n with
 |none=>omega
 |some sl=>
  dsimp only
  obtain⟨n,rfl,hn⟩:=jbG (jaG h.ok.w hs)
  obtain⟨y,hy⟩:=j9 hn
  have hPn:NwP S0 A0 z.A n:=h.I.cl.slot hs
  have hrf:refP z'.W.x g.slots (jA g (n:Nat)) a.i=refP z.W.x g.slots (jA g (n:Nat)) a.i:=by
   rw[jW hy];exact jh6 ok (e.x n hPn) hy
  grind[e,put_eq,ok,shdO_A,jei]
theorem EqI.acts (ok:jg g) (h:EqI g long long1 S0 A0 z z') {a:ja0} (ha:2≤a.w%6):EqI g long long1 S0 A0 (doesC g long z a) (doesC g long1 z' a):=by
 refine⟨jjj ok h.ok,jjj ok h.ok',by rw[jf6];exact h.p,by rw[jf6];exact h.p',h.I.does ok h.ok h.p,h.I'.does ok h.ok' h.p',?_⟩
 have e:=h.e
 unfold doesC
 ·have hn: ¬a.w%6<2:=by omega
  rw[if_neg hn,if_neg hn]
  by_cases h2:a.w%6=2
  ·rw[if_pos h2,if_pos h2];exact h.sets ok
  ·rw[if_neg h2,if_neg h2,e.T]
   cases hs:slotT z.W.T a.n with
   |none=>exact e
   |some sl=>
    dsimp only
    by_cases h3:a.w%6=3
    ·rw[if_pos h3,if_pos h3];exact eq_of h (jfz _) (by show(shdC g long z _).W.x=_;rw [shdC_W]) (jfz _) (by show(shdC g long1 z' _).W.x=_;rw [shdC_W]) (by show Jk (shdC g long1 z' _).W.T _=Jk (shdC g long z _).W.T _;rw [shdC_W,shdC_W,e.T]) (by show(shdC g long1 z' _).W.N=(shdC g long z _).W.N;rw [shdC_W,shdC_W,e.N])
    ·rw[if_neg h3,if_neg h3]
     by_cases h4:a.w%6=4
     ·rw[if_pos h4,if_pos h4];exact eq_of h rfl rfl rfl rfl e.T (by show jav z'.W.N _=jav z.W.N _;rw [e.N])
     ·rw[if_neg h4,if_neg h4];exact eq_of h (jfz _) (by show(shdC g long z _).W.x=_;rw [shdC_W]) (jfz _) (by show(shdC g long1 z' _).W.x=_;rw [shdC_W]) (by show(shdC g long1 z' _).W.T=(shdC g long z _).W.T;rw [shdC_W,shdC_W,e.T]) (by show jax (shdC g long1 z' _).W.N _=jax (shdC g long z _).W.N _;rw [shdC_W,shdC_W,e.N])
theorem bits_eq {l l':List Bool} (hl:l'.length=l.length) (h: ∀ t:Nat,l'[t]?=some true↔l[t]?=some true):l'=l:=List.ext_getElem? fun t=>by
 grind[bit_some]
theorem words_eq {x x':List Int} (hl:x'.length=x.length) (h: ∀ a,wAt x' a=wAt x a):x'=x:=List.ext_getElem? fun t=>by
 by_cases ht:t<x.length
 ·have:=h t
  grind[wAt]
 grind
theorem EqI.publish (h:EqI g long long1 S0 A0 z z') (h3:z.ph=3) (h3':z'.ph=3) (gens:Int):(publishC g gens z').A=(publishC g gens z).A∧(publishC g gens z').W=(publishC g gens z).W∧z'.D.count true=z.D.count true∧recyN gens z'.W.T=recyN gens z.W.T:=by
 have e:=h.e
 obtain⟨a,b,c⟩:=h.ok.p3 h3
 obtain⟨a',b',c'⟩:=h.ok'.p3 h3'
 have hD:z'.D=z.D:=bits_eq (h.ok'.D.trans h.ok.D.symm) fun t=>by rw[h.I.D t,h.I'.D t,h3,h3',c,c']
 have hA:(publishC g gens z').A=(publishC g gens z).A:=by show(jbp z'.A z'.D).2=(jbp z.A z.D).2;rw [e.A,hD]
 obtain⟨k1,k2⟩:=h.I.publish h.ok h3 gens
 obtain⟨k1',k2'⟩:=h.I'.publish h.ok' h3' gens
 have hpl:=(jgy h.ok h3 gens).A
 have hx:z'.W.x=z.W.x:=words_eq (h.ok'.w.x.trans h.ok.w.x.symm) fun w=>by
  by_cases hin: ∃ (t:Nat) (y:jq),g.L[t]?=some y∧y.addr≤w∧w<y.addr+y.size
  ·obtain⟨t,y,hy,w1,w2⟩:=hin
   obtain⟨j,hj⟩: ∃ j,w=y.addr+j:=⟨w-y.addr,by omega⟩
   subst hj
   have ht:t<(publishC g gens z).A.length:=by grind[jv,jdU]
   rcases bit_some ht with q|q
   ·exact e.x t ((k1 t).1 q) y hy j (by omega)
   ·rw[show wAt z'.W.x (y.addr+j)=0 from k2'.zr t (by grind) y hy j (by omega),show wAt z.W.x (y.addr+j)=0 from k2.zr t q y hy j (by omega)]
  ·exact e.out w fun t y hy hw=>hin ⟨t,y,hy,hw⟩
 refine⟨hA,?_,by grind,by rw[e.T]⟩
 show(⟨z'.W.x,j5 gens z'.W.T,z'.W.N⟩:MwP)=⟨z.W.x,j5 gens z.W.T,z.W.N⟩
 rw[e.T,e.N,hx]
end
section
variable {g : PlG} {long long1 nw : Nat} {z z' z1 : CyP} {S0 : Nat → Prop} {A0 : List Bool} {n t : Nat} {y : jq}
theorem EqI.help (ok:jg g) (h:EqI g long long1 S0 A0 z z') (hs:j8 g long z=some z1):EqI g long long1 S0 A0 z1 z':=by
 have hw:=jgo ok h.ok h.I hs
 have hp:=(jhd hs).2
 exact(EqI.mk h.ok' (jhe ok h.ok hs) h.p' (Nat.le_trans h.p hp) h.I' (h.I.help ok h.ok hs) (h.symm.e.step hw)).symm
theorem EqI.step (ok:jg g) (h:EqI g long long1 S0 A0 z z') {k u:Int} (hs:stepC g long nw z k u=some z1):EqI g long long1 S0 A0 z1 z':=by
 have hw:=jhn ok h.ok h.I hs
 have hp:=(ji4 hs).2
 exact(EqI.mk h.ok' (step_cy ok h.ok hs) h.p' (Nat.le_trans h.p hp) h.I' (h.I.step ok h.ok hs) (h.symm.e.step hw)).symm
theorem jjA (ok:jg g) {x:List Int} (hy:g.L[n]?=some y) {i v:Int} {a:Nat} (ha: ¬(y.addr≤a∧a<y.addr+y.size)):wAt (JV x y i v).2 a=wAt x a:=by
 unfold JV
 split
 ·rename_i hf
  have:=jaq hf
  grind[jaH]
 ·rfl
theorem jl0 (ok:jg g) {x x':List Int} (hx:x.length=g.words) (hx':x'.length=g.words) (h:jR g x x' t) (hy:g.L[t]?=some y) {i v:Int}:jR g (JV x y i v).2 (JV x' y i v).2 t:=fun z hz j hj=>by
 rw[hy] at hz;cases hz
 have f1:=ok.fits hy
 unfold JV;rw[jf4 ok h hy]
 split
 ·rename_i hf
  have hin:=jaq hf
  dsimp only;rw[jfW (by omega),jfW (by omega),h y hy j hj]
 ·exact h y hy j hj
theorem EqI.word (ok:jg g) (h:EqI g long long1 S0 A0 z z') {k i w:Int} (hs:slotT z.W.T k=some ((n:Nat):Int)) (hw:0≤w∧w<18446744073709551616):EqI g long long1 S0 A0 (jbH g z (n:Nat) i w) (jbH g z' (n:Nat) i w):=by
 have hs':slotT z'.W.T k=some ((n:Nat):Int):=by rw[h.e.T];omega
 have hin:=jaG h.ok.w hs
 have hn:n<g.slots:=by have:=hin.2;omega
 obtain⟨y,hy⟩:=j9 hn
 refine⟨jg6 ok h.ok hn hw,jg6 ok h.ok' hn hw,h.p,h.p',h.I.act (jhk ok h.ok h.I.cl hs),h.I'.act (jhk ok h.ok' h.I'.cl hs'),?_⟩;unfold jbH;rw[jW hy];refine⟨h.e.A,h.e.T,h.e.N,fun t ht=>?_,fun a ha=>?_⟩
 ·by_cases e:n=t
  ·subst e;exact jl0 ok h.ok.w.x h.ok'.w.x (h.e.x _ ht) hy
  ·exact(jhC ok hy e).symm.trans ((h.e.x t ht).trans (jhC ok hy e))
 ·exact(jjA ok hy (ha _ _ hy)).trans ((h.e.out a ha).trans (jjA ok hy (ha _ _ hy)).symm)
theorem EqI.read (ok:jg g) (h:EqI g long long1 S0 A0 z z') (hn:n<g.slots) (hP:NwP S0 A0 z.A n):EqI g long long1 S0 A0 (jcA g long z (n:Nat)) (jcA g long1 z' (n:Nat)):=by
 have hP':NwP S0 A0 z'.A n:=by rw[h.e.A];omega
 have a1: ∀ (lg:Nat) (q:CyP),(jcA g lg q (n:Nat)).A=q.A:=fun _ q=>jfz _
 have p1: ∀ (lg:Nat) (q:CyP),(jcA g lg q (n:Nat)).ph=q.ph:=fun _ q=>by
  show(shdC _ _ _ _).ph=_
  grind[shdC]
 refine⟨ji7 ok h.ok hn,ji7 ok h.ok' hn,by rw[p1];exact h.p,by rw[p1];exact h.p',h.I.act (jhr ok h.ok h.I.cl hn hP),h.I'.act (jhr ok h.ok' h.I'.cl hn hP'),?_⟩;refine eq_of h (a1 _ _) (by show(shdC _ _ _ _).W.x=_;rw [shdC_W]) (a1 _ _) (by show(shdC _ _ _ _).W.x=_;rw [shdC_W]) ?_ ?_
 ·show jH (shdC _ _ z' _).W.T _=jH (shdC _ _ z _).W.T _
  rw[shdC_W,shdC_W,h.e.T]
 ·show(shdC _ _ z' _).W.N=(shdC _ _ z _).W.N
  rw[shdC_W,shdC_W,h.e.N]
theorem EqI.make (ok:jg g) (h:EqI g long long1 S0 A0 z z') {k:Int} {hd:HdP} (ht:(takeP g z.A k).2.1=0):EqI g long long1 S0 A0 (mkC g z k hd) (mkC g z' k hd):=by
 have e:=h.e
 have ht':(takeP g z'.A k).2.1=0:=by rw[e.A];omega
 obtain⟨j,ej,hm⟩:=mk_N ok h.ok (hd:=hd) ht
 obtain⟨j',ej',hm'⟩:=mk_N ok h.ok' (hd:=hd) ht'
 refine⟨mk_cy ok h.ok ht,mk_cy ok h.ok' ht',by rw[hm.ph];exact h.p,by rw[hm'.ph];exact h.p',h.I.make ok h.ok h.p hm,h.I'.make ok h.ok' h.p' hm',?_⟩
 obtain⟨k',i,_,_,hf,et,_⟩:=jew ht
 obtain⟨_,_,h3,_⟩:=jdY hf
 have hl:=jv h3
 rw[h.ok.A] at hl
 obtain⟨y,hy⟩:=j9 hl
 have hz:=h.I.zr i h3
 have hz':=h.I'.zr i (by rw[e.A];omega)
 have hs:jR g z.W.x z'.W.x i:=fun q hq j hj=>by rw[hz' q hq j hj,hz q hq j hj]
 unfold mkC;rw[e.A,e.T,et];dsimp only;rw[jW hy];refine⟨rfl,rfl,e.N,fun t ht=>?_,fun b hb=>?_⟩
 ·by_cases etj:t=i
  ·subst etj;exact(make_cong ok h.ok.w.x h.ok'.w.x hs hy).2
  ·have hP:NwP S0 A0 z.A t:=by
    rcases ht with q|⟨q1,q2⟩
    ·exact .inl q
    ·have q1':(z.A.set i true)[t]?=some true:=q1
     rw[List.getElem?_set_ne (by omega)] at q1';exact .inr ⟨q1',q2⟩
   exact(jez ok h.ok.w.x hy _ (fun e=>etj e.symm)).symm.trans ((e.x t hP).trans (jez ok h.ok'.w.x hy _ (fun e=>etj e.symm)))
 ·exact(jlo ok h.ok'.w.x hy (hb _ _ hy)).trans ((e.out b hb).trans (jlo ok h.ok.w.x hy (hb _ _ hy)).symm)
end
def HpC.alt (C:HpC) (lg nw ai:Nat):HpC:=⟨C.g,lg,nw,C.gn,C.tn,C.tr,ai,C.caps⟩
structure HpE (C:HpC) (lg nw ai:Nat) (h h':HpP):Prop where
 I:HeI C h
 I':HeI (C.alt lg nw ai) h'
 si:h'.p.since=h.p.since
 cy:h'.p.cyc=h.p.cyc
 ac:h'.p.act=h.p.act
 r:(h.s.ph=0∧h'.s.ph=0∧h'.s.A=h.s.A∧h'.s.W=h.s.W)∨ ∃ S0 A0,EqI C.g C.long lg S0 A0 h.s h'.s
section
variable {C : HpC} {lg nw ai : Nat} {h h' : HpP} {s s' : CyP} {n t : Nat}
theorem HpE.symm (e:HpE C lg nw ai h h'):HpE (C.alt lg nw ai) C.long C.nw C.ast h' h:=⟨e.I',e.I,e.si.symm,e.cy.symm,e.ac.symm,by
 rcases e.r with⟨a,b,c,d⟩|⟨S0,A0,a⟩
 ·grind
 ·exact .inr ⟨S0,A0,a.symm⟩⟩
theorem HpE.A (e:HpE C lg nw ai h h'):h'.s.A=h.s.A:=by
 rcases e.r with⟨a,b,c,d⟩|⟨S0,A0,a⟩
 ·omega
 ·exact a.e.A
theorem HpE.T (e:HpE C lg nw ai h h'):h'.s.W.T=h.s.W.T:=by
 rcases e.r with⟨a,b,c,d⟩|⟨S0,A0,a⟩
 ·rw[d]
 ·exact a.e.T
theorem HpE.N (e:HpE C lg nw ai h h'):h'.s.W.N=h.s.W.N:=by
 rcases e.r with⟨a,b,c,d⟩|⟨S0,A0,a⟩
 ·rw[d]
 ·exact a.e.N
theorem HpE.x (e:HpE C lg nw ai h h') (ht:RchM C.g h.s.W t):jR C.g h.s.W.x h'.s.W.x t:=by
 rcases e.r with⟨a,b,c,d⟩|⟨S0,A0,a⟩
 ·grind[jR.refl]
 ·exact a.e.x t (a.I.cl.rch ht)
theorem HpE.wk (e:HpE C lg nw ai h h') (n n':Nat):HpE C lg nw ai {h with wk:=n} {h' with wk:=n'}:=⟨⟨e.I.ok,e.I.t0,e.I.i1,e.I.pa,e.I.pb,e.I.e,e.I.n⟩,⟨e.I'.ok,e.I'.t0,e.I'.i1,e.I'.pa,e.I'.pb,e.I'.e,e.I'.n⟩,e.si,e.cy,e.ac,e.r⟩
theorem HpE.ph (e:HpE C lg nw ai h h'):h.s.ph=0↔h'.s.ph=0:=by
 rcases e.r with⟨a,b,c,d⟩|⟨S0,A0,a⟩
 ·omega
 ·have:=a.p;have:=a.p';omega
theorem HpE.one (hC:HpCk C) (hK:HpCk (C.alt lg nw ai)) (e:HpE C lg nw ai h h') {p:PaP} {wk:Nat} (hs:j8 C.g C.long h.s=some s∨ ∃ k u,stepC C.g C.long C.nw h.s k u=some s) (h1:p.since=h.p.since) (h2:p.cyc=h.p.cyc) (h3:p.act=h.p.act) (hb:PaB p):HpE C lg nw ai ⟨s,p,wk⟩ h':=by
 have m:Jh C true h ⟨s,p,wk⟩:=by
  rcases hs with hs|⟨k,u,hs⟩
  ·exact(HpMv.one (.help hs)).tail (.free (h:={h with s:=s}) h3 fun _=>hb)
  ·exact(HpMv.one (.step hs)).tail (.free (h:={h with s:=s}) h3 fun _=>hb)
 refine⟨e.I.mvs hC m,e.I',e.si.trans h1.symm,e.cy.trans h2.symm,e.ac.trans h3.symm,?_⟩
 rcases e.r with⟨a,_⟩|⟨S0,A0,a⟩
 ·grind[jfu,jfq]
 ·rcases hs with hs|⟨k,u,hs⟩
  ·exact .inr ⟨S0,A0,a.help hC.g hs⟩
  ·exact .inr ⟨S0,A0,a.step hC.g hs⟩
theorem HpE.stp (hC:HpCk C) (hK:HpCk (C.alt lg nw ai)) (e:HpE C lg nw ai h h') (k u:Int):HpE C lg nw ai (hpStep C h k u).2 h':=by
 unfold hpStep
 split
 ·cases hs:stepC C.g C.long C.nw h.s k u with
  |none=>omega
  |some s=>exact e.one hC hK (.inr ⟨k,u,hs⟩) rfl rfl rfl e.I.pb
 omega
theorem HpE.begin (hC:HpCk C) (hK:HpCk (C.alt lg nw ai)) (e:HpE C lg nw ai h h') (h0:h.s.ph=0):HpE C lg nw ai (jbq C h) (jbq (C.alt lg nw ai) h'):=by
 have h0':=e.ph.1 h0
 have hI:=e.I.mv hC (wr:=true) (.begin h0)
 have hI':=e.I'.mv hK (wr:=true) (.begin h0')
 rcases e.r with⟨_,_,c,d⟩|⟨S0,A0,a⟩
 ·have i1:=CyI.begin e.I.ok h0 (e.I.t0 h0)
  have i2:=CyI.begin e.I'.ok h0' (e.I'.t0 h0')
  rw[d,c] at i2;refine⟨hI,hI',?_,?_,?_, .inr ⟨_,_,⟨hI.ok,hI'.ok,Nat.le_refl 1,Nat.le_refl 1,i1,i2,⟨c,by show h'.s.W.T=h.s.W.T;rw [d],by show h'.s.W.N=h.s.W.N;rw [d],fun t _=>by show jR _ h.s.W.x h'.s.W.x t;rw [d];exact jR.refl,fun b _=>by show wAt h'.s.W.x b=wAt h.s.W.x b;rw [d]⟩⟩⟩⟩
  all_goals
   unfold jbq ja7;dsimp only;rw[e.ac]
   split
   ·first|exact e.si|exact e.cy|exact e.ac
   ·first|rfl|exact e.cy
 ·have:=a.p;omega
theorem HpE.end_ (hC:HpCk C) (hK:HpCk (C.alt lg nw ai)) (e:HpE C lg nw ai h h') (h0:h.s.ph≠0):HpE C lg nw ai (jbl C h) (jbl (C.alt lg nw ai) h'):=by
 have h0':h'.s.ph≠0:=fun q=>h0 (e.ph.2 q)
 have hI:=e.I.mvs hC (jfv (wr:=true) hC e.I h0)
 have hI':=e.I'.mvs hK (jfv (wr:=true) hK e.I' h0')
 rcases e.r with⟨a,_⟩|⟨S0,A0,a⟩
 ·exact absurd a h0
 ·have f:=a.fin hC.g
  obtain⟨q1,q2,_⟩:=f.publish (jgf hC.g e.I.ok h0) (jgf hC.g e.I'.ok h0') C.gn
  refine⟨hI,hI',?_,?_,?_, .inl ⟨rfl,rfl,q1,q2⟩⟩
  all_goals
   unfold jbl ja7;dsimp only;rw[e.ac]
   split
   ·first|exact e.si|exact e.cy|exact e.ac
   ·first|rfl|(rw [e.cy])
def IsS (is:CyP→Bool):Prop:= ∀ s s':CyP,s'.A=s.A→s'.W.T=s.W.T→is s'=is s
theorem HpE.room1 (hC:HpCk C) (hK:HpCk (C.alt lg nw ai)) {is:CyP→Bool} (hi:IsS is) (e:HpE C lg nw ai h h'):HpE C lg nw ai (ja5 C is h) (ja5 (C.alt lg nw ai) is h'):=by
 unfold ja5;rw[hi _ _ e.A e.T]
 by_cases c:is h.s=false∧h.s.ph≠0
 ·rw[if_pos c,if_pos ⟨c.1,fun q=>c.2 (e.ph.2 q)⟩];exact e.end_ hC hK c.2
 ·rw[if_neg c,if_neg fun q=>c ⟨q.1,fun w=>q.2 (e.ph.1 w)⟩];omega
theorem HpE.room (hC:HpCk C) (hK:HpCk (C.alt lg nw ai)) {is:CyP→Bool} (hi:IsS is) (e:HpE C lg nw ai h h'):HpE C lg nw ai (jaQ C is h) (jaQ (C.alt lg nw ai) is h'):=by
 have e1:=e.room1 hC hK hi
 unfold jaQ;rw[hi _ _ e1.A e1.T]
 split
 ·omega
 ·rename_i c
  have h0:=jgT c
  exact(e1.begin hC hK h0).end_ hC hK (by show(1:Nat)≠0;decide)
theorem HpE.pays1 (hC:HpCk C) (hK:HpCk (C.alt lg nw ai)): ∀ (d:Nat) {h:HpP},HpE C lg nw ai h h'→d≤M62→HpE C lg nw ai (jaR C d h) h'
 |0,h,e,_=>e
 |d+1,h,e,hd=>by
  unfold jaR
  cases hh:j8 C.g C.long h.s with
  |none=>omega
  |some s'=>
   have hb:=e.I.pb
   exact HpE.pays1 hC hK d (e.one hC hK (.inl hh) (p:={h.p with debt:=d}) rfl rfl rfl ⟨hb.s,hb.t,by grind,hb.c⟩) (by omega)
theorem HpE.pays (hC:HpCk C) (hK:HpCk (C.alt lg nw ai)) {d d':Nat} (hd:d≤M62) (hd':d'≤M62) (e:HpE C lg nw ai h h'):HpE C lg nw ai (jaR C d h) (jaR (C.alt lg nw ai) d' h'):=(HpE.pays1 hK hC d' (e.pays1 hC hK d hd).symm hd').symm
theorem HpE.paced (hC:HpCk C) (hK:HpCk (C.alt lg nw ai)) (e:HpE C lg nw ai h h'):HpE C lg nw ai (jdf C n h) (jdf (C.alt lg nw ai) n h'):=by
 have hd:(Jz C.tr ai n h'.p).1=(Jz C.tr C.ast n h.p).1:=by unfold Jz;dsimp only;rw [e.si,e.ac]
 have e1:HpE C lg nw ai {h with p:=(Jz C.tr C.ast n h.p).2} {h' with p:=(Jz C.tr ai n h'.p).2}:=by
  refine⟨e.I.mv hC (wr:=true) (.free rfl fun hb=>hb.ask _ _ _),e.I'.mv hK (wr:=true) (.free rfl fun hb=>hb.ask _ _ _),?_,e.cy,e.ac,e.r⟩;unfold Jz;dsimp only;rw [e.si]
 have b1:=e1.I.pb.d
 have b2:=e1.I'.pb.d
 have e2:=e1.pays hC hK b1 b2
 have ha:(jaR C (Jz C.tr C.ast n h.p).2.debt {h with p:=(Jz C.tr C.ast n h.p).2}).p.act=h.p.act:=(jf0 _ _).trans rfl
 have hp:=e2.I.pa
 rw[ha] at hp;unfold jdf je1
 have hd2:(Jz (C.alt lg nw ai).tr (C.alt lg nw ai).ast n h'.p).1=(Jz C.tr C.ast n h.p).1:=hd
 rw[hd2]
 split
 ·rename_i c
  rw[jfx.1 c] at hp;exact e2.begin hC hK (Classical.byContradiction fun q=>by grind)
 ·split
  ·rename_i c
   rw[jfx.2 c] at hp;exact e2.end_ hC hK (of_decide_eq_true hp.symm)
  ·exact e2
theorem jgZ:IsS Jt:=fun s s' _ hT=>by grind[Jt]
theorem jls {sz:Nat}:IsS (fitsB C.g sz):=fun s s' hA _=>by grind[fitsB]
theorem isS_both {sz:Nat}:IsS (fun s=>fitsB C.g sz s&&Jt s):=fun s s' hA hT=>by dsimp only;rw [jls (C:=C) s s' hA hT,jgZ s s' hA hT]
theorem HpE.act (hC:HpCk C) (hK:HpCk (C.alt lg nw ai)) (e:HpE C lg nw ai h h') (m:HpMv C true h {h with s:=s}) (m':HpMv (C.alt lg nw ai) true h' {h' with s:=s'})
  (h1:h.s.ph=0→s.ph=0∧s'.ph=0∧s'.A=s.A∧s'.W=s.W) (h2: ∀ S0 A0,EqI C.g C.long lg S0 A0 h.s h'.s→EqI C.g C.long lg S0 A0 s s'):HpE C lg nw ai {h with s:=s} {h' with s:=s'}:=
 ⟨e.I.mv hC m,e.I'.mv hK m',e.si,e.cy,e.ac,by
  rcases e.r with⟨a,_⟩|⟨S0,A0,a⟩
  ·grind
  grind⟩
end
open Go.RowKit
set_option maxRecDepth 10000
theorem jhV: ∀ {l:List jq} {A A':List Bool},(∀ t:Nat,A'[t]?=some true→A[t]?=some true)→usedL l A'≤usedL l A
 | [],A,A',_=>by simp[usedL]
 |p::l,A,[],_=>by simp[usedL]
 |p::l,[],b::A',h=>by
  have h0:=h 0
  have ih:=jhV (l:=l) (A:=[]) (A':=A') fun t ht=>by have:=h (t+1) (by grind);grind
  have e:usedL l []=0:=by cases l<;>rfl
  grind[usedL]
 |p::l,a::A,b::A',h=>by
  have h0:=h 0
  have ih:=jhV (l:=l) (A:=A) (A':=A') fun t ht=>by have:=h (t+1) (by grind);grind
  grind[usedL]
section
variable {C : HpC} {wr : Bool} {h h' : HpP} {s s' : CyP} {n : Nat}
def UsI (C:HpC) (h:HpP):Prop:=usedL C.g.L h.s.A≤C.g.q
theorem UsI.mv (hC:HpCk C) (hI:HeI C h) (m:HpMv C wr h h') (hu:UsI C h):UsI C h':=by
 have ok:=hC.g
 unfold UsI at hu⊢
 cases m with
 |free _ _=>omega
 |help h1=>rw [show _=h.s.A from(jda hI.ok ok h1).1];omega
 |step h1=>rw [show _=h.s.A from step_A ok hI.ok h1];omega
 |begin _=>exact hu
 |publish h3=>
  obtain⟨S0,A0,hi⟩:=hI.i1 (by omega)
  exact Nat.le_trans (jhV fun t ht=>hi.pA (((hi.publish hI.ok h3 C.gn).1 t).1 ht)) hu
 |acts h2 _=>grind[does_A,h2]
 |word _ _ _=>exact hu
 | @read _ t _ _ _ _ _=>
  show usedL C.g.L (shdC C.g C.long h.s (t:Nat)).A≤C.g.q
  grind[shdC]
 |make _ _ hu' _=>exact hu'
theorem UsI.mvs (hC:HpCk C) (hI:HeI C h) (m:Jh C wr h h') (hw:UsI C h):UsI C h':=
 (m.ind (I:=fun q=>HeI C q∧UsI C q) (fun _ _ m i=>⟨i.1.mv hC m,i.2.mv hC i.1 m⟩) ⟨hI,hw⟩).2
theorem jme {g:PlG} {x:List Int} (ok:jg g) {y z:jq} {t:Nat} {i v:Int} (hy:g.L[n]?=some y) (hz:g.L[t]?=some z):wAt (Jy x g.slots y i v).2 z.addr=wAt x z.addr:=by
 have f1:=ok.fits hy
 have f2:=ok.fits hz
 unfold Jy
 split
 ·rfl
 ·split
  ·rename_i hf
   have hin:=jaq hf
   dsimp only;refine jaH ?_
   by_cases e:n=t
   ·grind
   ·have:=ok.apart hy hz e;omega
  ·rfl
theorem acts_head {g:PlG} {long:Nat} (ok:jg g) (hc:jw g long s) {a:ja0} (h2:2≤a.w%6) {t:Nat} {y:jq} (hy:g.L[t]?=some y):headP (doesC g long s a).W.x y=headP s.W.x y:=by
 unfold doesC;rw[if_neg (by omega)]
 split
 ·unfold jbj
  cases hs:slotT s.W.T a.n with
  |none=>rfl
  |some sl=>
   obtain⟨n,rfl,hn⟩:=jbG (jaG hc.w hs)
   obtain⟨z,hz⟩:=j9 hn
   dsimp only
   split
   ·rfl
   ·split
    ·rfl
    ·show headP (Jy (Jd g long (Jd g long s _) _).W.x g.slots (jA g (n:Nat)) _ _).2 y=_
     grind[jW,jfI,jme,jei]
 grind[headP,shdC]
def HdI (C:HpC) (h:HpP):Prop:= ∀ t,RchM C.g h.s.W t→ ∃ y,C.g.L[t]?=some y∧headP h.s.W.x y≠none
theorem HdI.same (hC:HpCk C) (hd:HdI C h) (hr: ∀ t,RchM C.g s'.W t→RchM C.g h.s.W t) (hx: ∀ t,RchM C.g h.s.W t→jR C.g h.s.W.x s'.W.x t):HdI C {h with s:=s'}:=fun t ht=>by
 obtain⟨y,hy,hh⟩:=hd t (hr t ht)
 exact⟨y,hy,by rw[jfQ hC.g (hx t (hr t ht)) hy];omega⟩
theorem jlb (hC:HpCk C) (hT:s'.W.T=s.W.T) (hN:s'.W.N=s.W.N) (hx: ∀ t,RchM C.g s.W t→jR C.g s.W.x s'.W.x t) {t:Nat} (h:RchM C.g s'.W t):RchM C.g s.W t:=by
 induction h with
 |root a b=>exact .root (by rw[←hT];exact a) (by grind[ji6])
 |edge a b ih=>exact .edge ih (by rw[←jcF hC.g (hx _ ih)];exact b)
theorem HdI.mv (hC:HpCk C) (hI:HeI C h) (m:HpMv C wr h h') (hd:HdI C h):HdI C h':=by
 have ok:=hC.g
 cases m with
 |free _ _=>exact hd
 | @help s' h1=>
  have h0:h.s.ph≠0:=fun e=>by grind[jfu,h1]
  obtain⟨S0,A0,hi⟩:=hI.i1 h0
  have hw:=jgo ok hI.ok hi h1
  have hx: ∀ t,RchM C.g h.s.W t→jR C.g h.s.W.x s'.W.x t:=fun t ht=>hw.w t (hi.cl.rch ht)
  exact hd.same hC (fun t ht=>jlb hC hw.T hw.N hx ht) hx
 | @step s' k u h1=>
  have h0:h.s.ph≠0:=fun e=>by grind[jfq,h1]
  obtain⟨S0,A0,hi⟩:=hI.i1 h0
  have hw:=jhn ok hI.ok hi h1
  have hx: ∀ t,RchM C.g h.s.W t→jR C.g h.s.W.x s'.W.x t:=fun t ht=>hw.w t (hi.cl.rch ht)
  exact hd.same hC (fun t ht=>jlb hC hw.T hw.N hx ht) hx
 |begin _=>exact hd
 |publish h3=>
  intro t ht
  have hcl:Cls C.g {h.s.W with T:=j5 C.gn h.s.W.T} (RchM C.g h.s.W):=jcr.recy C.gn
  exact hd t (hcl.rch ht)
 | @acts a h2 _=>
  have hN:=jhy ok hI.ok (jcr (W:=h.s.W)) (a:=a) (by omega)
  intro t ht
  have ht':RchM C.g h.s.W t:=hN.cl.rch ht
  obtain⟨y,hy,hh⟩:=hd t ht'
  exact⟨y,hy,fun e=>hh (by rw[←acts_head ok hI.ok h2 hy];omega)⟩
 | @word n k i w _ h1 h2=>
  have hN:=jhk ok hI.ok (jcr (W:=h.s.W)) h1 (i:=i) (w:=w)
  have hin:=jaG hI.ok.w h1
  obtain⟨z,hz⟩:=j9 (g:=C.g) (i:=n) (by have:=hin.2;omega)
  intro t ht
  obtain⟨y,hy,hh⟩:=hd t (hN.cl.rch ht)
  refine⟨y,hy,fun e=>hh ?_⟩
  have e2:headP (JV h.s.W.x (jA C.g (n:Nat)) i w).2 y=none:=e
  grind[jW,jfI,jhD]
 | @read n t k i h1 h2 _=>
  have hN:=jhr ok hI.ok (jcr (W:=h.s.W)) (jha h2) (.edge (jcr.slot h1) h2)
  intro q hq
  obtain⟨y,hy,hh⟩:=hd q (hN.cl.rch hq)
  refine⟨y,hy,?_⟩
  show headP (shdC C.g C.long h.s (t:Nat)).W.x y≠none
  grind[shdC_W]
 | @make k hd' h1 _ _ hl=>
  obtain⟨j,ej,hm⟩:=mk_N ok hI.ok (hd:=hd') h1
  have hz:=hI.zr hm.jf
  have hj:=jv hm.jf
  rw[hI.ok.A] at hj
  obtain⟨z,hzL⟩:=j9 hj
  intro q hq
  rcases(hm.cl _ jcr hz).rch hq with e|e
  ·obtain⟨y,hy,hh⟩:=hd q e
   refine⟨y,hy,?_⟩
   have hqj:q≠j:=fun e2=>by
    grind[jkA]
   show headP (mkC C.g h.s k hd').W.x y≠none
   rw[jfQ ok (hm.w q hqj) hy];omega
  ·subst e;refine⟨z,hzL,?_⟩
   show headP (makeP h.s.W.x (jA C.g (takeP C.g h.s.A k).1) hd').2 z≠none
   rw[ej,jW hzL] at hl⊢;rw[(make_new ok hI.ok.w.x hzL hz hl).2.1]
   grind
theorem HdI.mvs (hC:HpCk C) (hI:HeI C h) (m:Jh C wr h h') (hw:HdI C h):HdI C h':=
 (m.ind (I:=fun q=>HeI C q∧HdI C q) (fun _ _ m i=>⟨i.1.mv hC m,i.2.mv hC i.1 m⟩) ⟨hI,hw⟩).2
structure PnI (C:HpC) (t:Nat) (y:jq) (w:Int) (h:HpP):Prop where
 yL:C.g.L[t]?=some y
 n:0<(h.s.W.N[t]?).getD 0
 w:wAt h.s.W.x (y.addr+1)=w
theorem PnI.rch {t:Nat} {y:jq} {w:Int} (hI:HeI C h) (hp:PnI C t y w h):RchM C.g h.s.W t:=by
 have ht:=jv hp.yL
 rw[jdU] at ht;refine .root (r:=h.s.W.T.length+t) (by omega) ?_;unfold jU;rw[List.getElem?_eq_none (by omega)];dsimp only;rw[show h.s.W.T.length+t-h.s.W.T.length=t by omega,if_pos hp.n]
 rfl
theorem PnI.same {t:Nat} {y:jq} {w:Int} (hC:HpCk C) (hp:PnI C t y w h) (hN:0<(s'.W.N[t]?).getD 0) (hx:jR C.g h.s.W.x s'.W.x t):PnI C t y w {h with s:=s'}:=by
 have hf:=hC.g.fits hp.yL
 exact⟨hp.yL,hN,by show wAt s'.W.x _=w;rw [hx y hp.yL 1 (by omega)];exact hp.w⟩
theorem PnI.mv {t:Nat} {y:jq} {w:Int} (hC:HpCk C) (hI:HeI C h) (m:HpMv C false h h') (hp:PnI C t y w h):PnI C t y w h':=by
 have ok:=hC.g
 have hr:=hp.rch hI
 cases m with
 |free _ _=>exact⟨hp.yL,hp.n,hp.w⟩
 | @help s' h1=>
  have h0:h.s.ph≠0:=fun e=>by grind[jfu,h1]
  obtain⟨S0,A0,hi⟩:=hI.i1 h0
  have hw:=jgo ok hI.ok hi h1
  exact hp.same hC (by rw[hw.N];exact hp.n) (hw.w t (hi.cl.rch hr))
 | @step s' k u h1=>
  have h0:h.s.ph≠0:=fun e=>by grind[jfq,h1]
  obtain⟨S0,A0,hi⟩:=hI.i1 h0
  have hw:=jhn ok hI.ok hi h1
  exact hp.same hC (by rw[hw.N];exact hp.n) (hw.w t (hi.cl.rch hr))
 |begin _=>exact⟨hp.yL,hp.n,hp.w⟩
 |publish h3=>exact⟨hp.yL,hp.n,hp.w⟩
 | @acts a h2 h3=>
  have hc:=h3 rfl
  have hNx:(0<((doesC C.g C.long h.s a).W.N[t]?).getD 0)∧(doesC C.g C.long h.s a).W.x=h.s.W.x:=by
   unfold doesC;rw[if_neg (by omega),if_neg (by omega)]
   split
   ·exact⟨hp.n,rfl⟩
   ·split
    ·refine⟨?_,?_⟩
     ·show 0<((shdC C.g C.long h.s _).W.N[t]?).getD 0
      rw[shdC_W];exact hp.n
     grind[shdC]
    ·rw[if_pos (by omega)];exact⟨jiB hp.n,rfl⟩
  exact hp.same hC hNx.1 (by grind[jR.refl])
 |word hw _ _=>grind
 | @read n q k i h1 h2 _=>
  refine hp.same hC ?_ ?_
  ·show 0<((shdC C.g C.long h.s _).W.N[t]?).getD 0
   rw[shdC_W];exact hp.n
  ·show jR _ _ (shdC C.g C.long h.s _).W.x t
   grind[shdC_W,jR.refl]
 | @make k hd' h1 _ _ hl=>
  obtain⟨j,ej,hm⟩:=mk_N ok hI.ok (hd:=hd') h1
  exact hp.same hC hp.n (hm.w t fun e=>by
   have:=hI.rch hr
   rw[e,hm.jf] at this;grind)
theorem PnI.mvs {t:Nat} {y:jq} {w:Int} (hC:HpCk C) (hI:HeI C h) (m:Jh C false h h') (hp:PnI C t y w h):PnI C t y w h':=
 (m.ind (I:=fun q=>HeI C q∧PnI C t y w q) (fun _ _ m i=>⟨i.1.mv hC m,i.2.mv hC i.1 m⟩) ⟨hI,hp⟩).2
end
end Go.Proofs.YtebiafomiemgbaaGreatDoor.Sw
