/-The walker and the contracts that the law needs,part 21. -/
import Derived.Test.YtebiafomiemgbaaGreatDoorJ19
import Derived.Test.YtebiafomiemgbaaGreatDoorJ20
set_option linter.unusedVariables false set_option linter.unusedSimpArgs false set_option linter.unusedVariables false
set_option linter.unusedSimpArgs false
namespace Go.Proofs.YtebiafomiemgbaaGreatDoor.Sw
set_option maxHeartbeats 8000000
open Go.Proofs.YtebiafomiemgbaaGreatDoor renaming lo → qL, hi → qH
open Go.RowKit
set_option maxRecDepth 10000
section
variable {w0 : World} {F : jb} {B : BoM} {x : List Int} {s : Nat} {y : jq}
theorem bat_K {ref:Bool} {i:Int} {g:FuncId} {cap:List Value} {B1:jb} (hG:ji w0) (ok:jaD B x) (hy:B.p.g.L[s]?=some y)
  (hdo:fldP x y ref i=0→ ∀ A,CallV Tryz.prog w0 (.func (.func g) #[] cap.toArray) [.int .i64 (fAt y i:Nat)] (A++(jT B++(jy B.m++(planH B.p++F)))) (fun r H'=>r= .tuple #[]∧H'=A++B1)):
  Call Tryz.prog w0 309 [.pointer (some ⟨B.b,0,none⟩), .bool ref, .int .i64 (s:Nat), .int .i64 i, .func (.func g) #[] cap.toArray] (jT B++(jy B.m++(planH B.p++F)))
   (fun r H'=>r= .int .i64 (fldP x y ref i)∧H'=if fldP x y ref i=0 then B1 else jT B++(jy B.m++(planH B.p++F))):=by
 obtain⟨f1,f2,f3,_⟩:=ok.p.g.fits hy
 have hfl:fldP x y ref i=match headP x y with|none=>5|some h=>if 0≤i∧i<h.r+h.w∧decide (i<h.r)=ref then 0 else 110:=rfl
 have hwords:=ok.p.g.words
 have hhm: ∀ h,headP x y=some h→JT h=true:=fun h e=>(jdI (jfk e).2).1
 have hin:=fun(e:fldP x y ref i=0)=>jaq e
 refine Call.enter5 (n:=53) (by rfl) Tryz.func309 rfl rfl rfl ?_;refine zc6 ?_;refine zu fun T hT=>?_;refine(CallV.part (CallV.fn (jeX hG ok hy)) ja).mono ?_;rintro _ _ ⟨rfl,rfl⟩;unfold headV
 cases hh:headP x y with
 |none=>
  rw[hh] at hfl;dsimp only at hfl;unfold hdV;dsimp only;refine ze ?_;clear hT T;rw[hfl,if_neg (by decide)];refine zb4 ?_;intro b11;refine zM ?_;refine zbP ?_;exact zaL
 |some h=>
  rw[hh] at hfl;dsimp only at hfl
  have hm:=hhm h hh
  have hF:=fun A=>jlw (w0:=w0) (H:=A) (h:=h) (i:=i)
  have hfd:jbZ h i=if i<0∨i≥h.r+h.w then(false,110) else(decide (i<h.r),0):=by grind[jbZ]
  obtain⟨c,r,w⟩:=h
  unfold hdV at*;dsimp only at*;clear hhm
  by_cases h1:i<0∨i≥r+w
  ·rw[if_pos h1] at hfd;rw[if_neg (by omega)] at hfl;simp only[hfd] at hF;refine ze ?_;clear hT T;rw[hfl,if_neg (by decide)];refine zb4 ?_;intro b11;refine zaj ?_;refine za6 ?_;refine zg8 ?_;refine jp (hF _) ?_;refine zY ?_;refine zap ?_;refine zM ?_;refine zem ?_;refine zbh ?_;exact zaL
  ·rw[if_neg h1] at hfd;simp only[hfd] at hF
   by_cases h2:decide (i<r)=ref
   ·rw[if_pos ⟨by omega,by omega,h2⟩] at hfl
    obtain⟨q1,q2,q3⟩:=hin hfl
    have had:((y.addr:Nat):Int)+1+i=(fAt y i:Nat):=by grind[fAt]
    subst h2;refine ze ?_;clear hT T;rw[hfl,if_pos rfl];refine zb4 ?_;intro b11;refine zaj ?_;refine za6 ?_;refine zau ?_;refine zz fun T hT=>?_;refine(CallV.fn (hF _)).mono ?_;rintro _ _ ⟨rfl,rfl⟩
    have hdo1:=hdo hfl [(b11,cells [.int .i64 c, .int .i64 r, .int .i64 w] 233)]
    have hbn:(decide (i<r) !=decide (i<r))=false:=by simp
    refine ze ?_;clear hT T;refine zY ?_;refine zbR ?_;refine ze3 ?_;refine zi8 ?_;refine zx ?_;refine za3 ?_;rw[hbn];refine K.condF rfl (K.skip (KE.next (K.seq (K.region ?_))));refine zbq ?_;refine zi7 ?_;refine zil ?_;refine zay ?_;refine zaB ?_;refine zle ?_;refine zu fun T hT=>?_;rw[had];refine(CallV.part hdo1 ja).mono ?_;rintro _ _ ⟨rfl,rfl⟩;refine ze ?_;clear hT T;refine zal ?_;exact zq
   ·rw[if_neg (by grind)] at hfl
    have hbn:(decide (i<r) !=ref)=true:=by
     grind
    refine ze ?_;clear hT T;rw[hfl,if_neg (by decide)];refine zb4 ?_;intro b11;refine zaj ?_;refine za6 ?_;refine zg8 ?_;refine jp (hF _) ?_;refine zY ?_;refine zbR ?_;refine ze3 ?_;refine zi8 ?_;refine zx ?_;refine za3 ?_;rw[hbn];refine K.condT rfl (K.seq (K.region ?_));exact zaL
theorem jlH {ref:Bool} {i w:Int} (hG:ji w0) (ok:jaD B x) (hy:B.p.g.L[s]?=some y):
  Call Tryz.prog w0 267 [.pointer (some ⟨B.b,0,none⟩), .bool ref, .int .i64 (s:Nat), .int .i64 i, .int .u64 w] (jT B++(jy B.m++(planH B.p++F)))
   (fun r H'=>r= .int .i64 (fldP x y ref i)∧H'=jT B++(jy (jaB B.m B.t (if fldP x y ref i=0 then x.set (fAt y i) w else x))++(planH B.p++F))):=by
 have okm:=ok.m
 have hr:=ok.r
 obtain⟨f1,f2,f3,_⟩:=ok.p.g.fits hy
 have hin:=fun(e:fldP x y ref i=0)=>jaq e
 have hn:=ok.n
 have hself:=jgF hr
 refine Call.enter5 (n:=17) (by rfl) Tryz.func267 rfl rfl rfl ?_;refine zew ?_;intro b5 b9;refine zgs ?_;refine zB ?_;refine zj ?_;refine zbk fun T hT=>?_
 refine(CallV.part (CallV.fn (bat_K (F:=(b5,cells [.pointer (some ⟨B.b,0,none⟩)] 122)::(b9,cells [.int .u64 w] 34)::F) (ref:=ref) (i:=i) (g:=311) (cap:=[.pointer (some ⟨b5,0,none⟩), .pointer (some ⟨b9,0,none⟩)])
  (B1:=jT B++(jy (jaB B.m B.t (x.set (fAt y i) w))++(planH B.p++((b5,cells [.pointer (some ⟨B.b,0,none⟩)] 122)::(b9,cells [.int .u64 w] 34)::F)))) hG ok hy ?_)) ja).mono ?_
 ·intro e A
  obtain⟨q1,q2,q3⟩:=hin e
  refine CallV.clo (cap:=[.pointer (some ⟨b5,0,none⟩), .pointer (some ⟨b9,0,none⟩)]) ?_;refine Call.enter3 (n:=15) (by rfl) Tryz.func311 rfl rfl rfl ?_;rw[jbn];refine zlW ?_;refine zcG ?_;refine zet ?_;refine zcG ?_;refine zdA ?_;refine zo ?_;refine zan ?_;refine zk fun T hT=>?_;refine(CallV.part (CallV.fn (Store_K (t:=B.t) (a:=fAt y i) (x:=x) (w:=w) okm hr (by omega))) ja).mono ?_;rintro _ _ ⟨rfl,rfl⟩;rw[jk6 hr];refine zi ?_;clear hT T;refine zam ?_;exact KE.finN je rfl jd (by rw[jbn];exact ja) ⟨rfl,rfl⟩
 ·rintro _ _ ⟨rfl,rfl⟩
  by_cases e:fldP x y ref i=0
  ·rw[if_pos e];refine ze ?_;clear hT T;rw[if_pos e];exact zq
  ·rw[if_neg e];refine ze ?_;clear hT T;rw[if_neg e,hself];exact zq
theorem jmd {i w:Int}:JV x y i w=(fldP x y false i,if fldP x y false i=0 then x.set (fAt y i) w else x):=by
 grind[JV]
theorem bSetWord_K {i w:Int} (hG:ji w0) (ok:jaD B x) (hy:B.p.g.L[s]?=some y):
  Call Tryz.prog w0 205 [.pointer (some ⟨B.b,0,none⟩), .int .i64 (s:Nat), .int .i64 i, .int .u64 w] (jT B++(jy B.m++(planH B.p++F)))
   (fun r H'=>r= .int .i64 (JV x y i w).1∧H'=jT B++(jy (jaB B.m B.t (JV x y i w).2)++(planH B.p++F))):=by
 rw[jmd];dsimp only;refine Call.enter4 (n:=14) (by rfl) Tryz.func205 rfl rfl rfl ?_;refine zc6 ?_;refine zbq ?_;refine jn (jlH hG ok hy) ja ?_;exact zq
end
set_option maxRecDepth 10000
section
variable {w0 : World} {F : jb} {k : MkM} {p : jZ}
theorem mktouch_K {s:Nat} {c:Int} {g:FuncId} {cap:List Value} {R:jb→Prop} (ok:MkOk k p) (hc:(tiC k.c)[s]?=some c)
  (hdo:k.act=true→CallV Tryz.prog w0 (.func (.func g) #[] cap.toArray) [.int .i64 (s:Nat)] (jt k p++F) (fun r H'=>r= .tuple #[]∧R H')):
  Call Tryz.prog w0 301 [.pointer (some ⟨k.b,0,none⟩), .int .i64 (s:Nat), .func (.func g) #[] cap.toArray] (jt k p++F) (fun r H'=>r= .int .i64 0∧(k.act=true→R H')∧(k.act=false→H'=jt k p++F)):=by
 cases ha:k.act with
 |true=>
  have h1:=hdo ha
  refine zof ?_;refine zde ?_;refine jp (jek ok hc) ?_;rw[js,ha];refine zbi ?_;refine zO ?_;refine zaY ?_;refine zc4 ?_;refine zl ?_;refine zw ?_;refine zA ?_;refine zak ?_;refine za9 fun T hT=>?_;refine(CallV.part h1 (by rw[js,ha];exact ja)).mono ?_;rintro _ H' ⟨rfl,hR⟩;refine ze ?_;clear hT T;refine zeJ ?_;exact KE.fin je rfl jd ja ⟨rfl,fun _=>hR,fun h=>by grind⟩
 |false=>
  refine zof ?_;refine zde ?_;refine jp (jek ok hc) ?_;rw[js,ha];refine zbi ?_;refine zO ?_;refine zaY ?_;refine zc4 ?_;refine zl ?_;refine zw ?_;refine zA ?_;refine zba ?_;refine zm ?_;exact KE.fin (H':=jt k p++F) je rfl jd (by rw[js,ha];exact ja) ⟨rfl,fun h=>(by grind),fun _=>by grind[js]⟩
theorem mkBlack_K {s:Nat} (ok:MkOk k p) (hs:s<p.g.slots):Call Tryz.prog w0 257 [.pointer (some ⟨k.b,0,none⟩), .int .i64 (s:Nat)] (jt k p++F)
  (fun r H'=>r= .int .i64 0∧ ∃ c',MkOk {k with c:=c'} p∧c'.f=k.c.f∧tiC c'=(if k.act=true then(tiC k.c).set s 2 else tiC k.c)∧H'=jt {k with c:=c'} p++F):=by
 have okc:=ok.c
 obtain⟨c,hc⟩:=jfo ok hs
 have hsl:s<k.c.l.length:=by rw[ok.n];omega
 refine Call.enter2 (n:=9) (by rfl) Tryz.func257 rfl rfl rfl ?_;refine zbN ?_;intro b2;refine zw ?_;refine zj ?_;refine zbk fun T hT=>?_
 refine(CallV.part (CallV.fn (mktouch_K (F:=(b2,cells [.pointer (some ⟨k.b,0,none⟩)] 125)::F) (g:=302) (cap:=[.pointer (some ⟨b2,0,none⟩)])
  (R:=fun H'=> ∃ c',MkOk {k with c:=c'} p∧c'.f=k.c.f∧tiC c'=(tiC k.c).set s 2∧H'=jt {k with c:=c'} p++((b2,cells [.pointer (some ⟨k.b,0,none⟩)] 125)::F)) ok hc ?_)) ja).mono ?_
 ·intro ha;refine zql ?_;refine Call.enter2 (n:=9) (by rfl) Tryz.func302 rfl rfl rfl ?_;rw[js];refine zeU ?_;refine za0 ?_;refine zdg ?_;refine zn ?_;refine jB (jhW okc hsl) ja ?_;rintro _ _ ⟨rfl,c',kc,cb,cf,cc,rfl⟩;refine zR ?_;rw[←cb]
  have hcn:c'.l.length=p.g.slots:=by have:=congrArg List.length cc;rw [jbD,List.length_set,jbD,ok.n] at this;omega
  exact KE.finN (H':=jt {k with c:=c'} p++((b2,cells [.pointer (some ⟨k.b,0,none⟩)] 125)::F)) je rfl jd (by rw[js];exact ja) ⟨rfl,c',⟨kc,ok.g,hcn,ok.o,ok.hs⟩,cf,cc,rfl⟩
 ·rintro _ H' ⟨rfl,h1,h2⟩
  cases ha:k.act with
  |true=>
   obtain⟨c',kc,cf,cc,rfl⟩:=h1 ha
   refine ze ?_;clear hT T;refine zm ?_;exact KE.fin je rfl jd ja ⟨rfl,c',kc,cf,by grind,rfl⟩
  |false=>
   obtain rfl:=h2 ha
   refine ze ?_;clear hT T;refine zm ?_;exact KE.fin je rfl jd ja ⟨rfl,k.c,ok,rfl,by grind,rfl⟩
end
theorem mkNew_K {w0:World} {F:jb} {B:BoM} {x:List Int} {T:TbM} {N:PiM} {nw long:Nat} (hG:ji w0) (ok:jaD B x) (okT:TbOk T) (okN:PiOk N) (hN:N.l.length=B.p.g.slots) (hw:nw≤8) (hl:1≤long∧long≤64):
  Call Tryz.prog w0 114 [.pointer (some ⟨B.b,0,none⟩), .pointer (some ⟨B.p.b,0,none⟩), .pointer (some ⟨T.b,0,none⟩), .pointer (some ⟨N.b,0,none⟩), .int .i64 (nw:Nat), .int .i64 (long:Nat)] (jT B++(jy B.m++(planH B.p++(jK T++(JX N++F)))))
   (fun r H'=> ∃ k,MkOk k B.p∧MkNil k B.p∧k.act=false∧k.c.f=1∧k.bb=B.b∧k.tb=T.b∧k.nb=N.b∧k.hs.length=nw+1∧k.g.ring.length=long∧r= .tuple [.pointer (some ⟨k.b,0,none⟩), .int .i64 0].toArray∧H'=jt k B.p++(jT B++(jy B.m++(planH B.p++(jK T++(JX N++F)))))):=by
 have okp:=ok.p
 have hs:=okp.g.slots
 obtain⟨y,hy⟩:=j9 (g:=B.p.g) (i:=0) (by omega)
 have hne: ¬((B.p.g.slots:Nat):Int)=0:=by omega
 have hT:=okT.n
 have hne2: ¬((T.l.length:Nat):Int)=0:=by omega
 have hne3: ¬((N.l.length:Nat):Int)≠(B.p.g.slots:Nat):=by omega
 have hgt: ¬((nw:Nat):Int)>8:=by omega
 have he:((nw:Nat):Int)+1=((nw+1:Nat):Int):=by omega
 have hhead:=fun A=>jeX (w0:=w0) (F:=A) (s:=0) hG ok hy
 have hhv: ∃ c r w e,headV (headP x y)= .tuple [.agg [.int .i64 c, .int .i64 r, .int .i64 w].toArray, .int .i64 e].toArray∧e≠1:=by
  unfold headV
  cases headP x y with
  |none=>exact⟨0,0,0,5,rfl,by decide⟩
  |some h=>exact⟨h.c,h.r,h.w,0,rfl,by decide⟩
 obtain⟨c,r,w,e,hev,hen⟩:=hhv
 simp only[hev] at hhead
 have hen': ¬e=1:=hen
 refine Call.enter6 (n:=83) (by kernel_rfl) Tryz.func114 rfl rfl rfl ?_;refine zL ?_;refine zch ?_;refine jn (hhead _) ja ?_;refine zbd ?_;intro b14;refine zns ?_;refine zj ?_;refine zC ?_;refine zev ?_;refine zfG ?_;refine zl ?_;refine zC ?_;refine zx ?_;refine zev ?_;refine jn (ji0 okT) ja ?_;refine zl ?_;refine zC ?_;refine zx ?_;refine zev ?_;refine jB (piCopy_K okN) ja ?_;rintro _ _ ⟨N',_,_,rfl,rfl⟩;refine zl ?_;refine zcq ?_;refine zx ?_;refine zck ?_;refine zfw ?_;refine zev ?_;refine jn (piLen_K okN) ja ?_;refine ziJ ?_;refine zfG ?_;refine zl ?_;refine zcz ?_;refine zbA ?_;refine zbq ?_;refine jB (grNew_K okp hl) ja ?_;rintro _ _ ⟨g,kg,gn,gl,rfl,rfl⟩;refine zbM ?_;refine zrP ?_;refine zfG ?_;refine zp ?_;refine JY (tiNew_K (n:=B.p.g.slots) (by omega)) ?_;rintro _ _ ⟨t,kt,tf,tc,rfl,rfl⟩;refine zY ?_;refine zht ?_;refine zB ?_;refine zB ?_;refine zj ?_;refine zqm ?_;rw[he];refine KL.e rfl (Eff.makeR (E:=jbf) (x0:=⟨0,0,false⟩) rfl rfl rfl rfl rfl rfl (by omega)) ?_;rintro _ _ ⟨o79,ok79,rfl,rfl⟩;refine zci ?_;intro b81;refine zj ?_;refine zab ?_
 have hcn:t.l.length=B.p.g.slots:=by have:=congrArg List.length tc;rw [jbD,List.length_replicate] at this;exact this
 exact KE.fin (H':=jt ⟨b81,t,g,List.replicate (nw+1) ⟨0,0,false⟩,o79,0,false,0,B.b,T.b,N.b⟩ B.p++(jT B++(jy B.m++(planH B.p++(jK T++(JX N++F)))))) je rfl jd (by simp only[js,List.length_replicate];exact ja)
  ⟨⟨b81,t,g,List.replicate (nw+1) ⟨0,0,false⟩,o79,0,false,0,B.b,T.b,N.b⟩,⟨kt,kg,hcn,ok79,by simp;omega⟩,⟨tc,gn,by simp,rfl,rfl⟩,rfl,tf,rfl,rfl,rfl,by simp,gl,rfl,rfl⟩
open Go.RowKit
set_option maxRecDepth 10000
theorem Page0_K {w0:World} {F:jb} {p:jZ} {s:Nat} {x:jq} (ok:jaS p) (hx:p.g.L[s]?=some x):
  Call Tryz.prog w0 335 [.pointer (some ⟨p.b,0,none⟩), .int .i64 (s:Nat)] (planH p++F) (fun r H'=>r= .tuple [.int .i64 (x.page:Nat), .int .i64 0].toArray∧H'=planH p++F):=by
 have hpp:=ok.g.pages.2
 have hpb:=(jfH ok.g hx).1
 obtain⟨k,d,hk,hd,hs,rfl⟩:=L_at hx
 have hper:=ok.g.per hk
 have hnk:=ok.g.n hk
 have hal:=Nat.div_le_self d (p.g.per k)
 have ho:=ok.o
 have hpl:p.g.parts.length=p.g.m:=jdW
 have hkl:k<p.g.parts.length:=by omega
 have hx:p.g.parts[k]?=some (p.g.pt k):=jey hk
 simp only[PlG.sl] at hpb⊢
 obtain⟨pt,hpt⟩: ∃ pt,pt=p.g.pt k:=⟨_,rfl⟩
 have hp1:p.g.page k=pt.page:=by rw[hpt];rfl
 have hp2:p.g.per k=pt.per:=by rw[hpt];rfl
 rw[hp1,hp2] at hpb⊢;rw[hp2] at hper hal;rw[←hpt] at hx;clear hpt
 obtain⟨a,ha⟩: ∃ a,a=d/pt.per:=⟨_,rfl⟩
 have e1:((d:Nat):Int)/((pt.per:Nat):Int)=(a:Nat):=by omega
 rw[←ha] at hpb hal⊢
 have e2:((pt.page:Nat):Int)+((a:Nat):Int)=((pt.page+a:Nat):Int):=by omega
 have hpe: ¬((pt.per:Nat):Int)=0:=by omega
 have hpn: ¬((pt.per:Nat):Int)= -1:=by omega
 refine Call.enter2 (n:=38) (by rfl) Tryz.func335 rfl rfl rfl ?_;refine zp4 ?_;simp only[Jm];refine zfv ?_;refine zaj ?_;refine zb8 ?_;refine zsa ?_;refine zhC ?_;refine zcI ?_;refine KD.v0 rfl rfl (Val.fieldSl (k:=3) rfl rfl) ?_;refine zlR ?_;refine zo ?_;refine zhC ?_;refine zcI ?_;refine KD.v0 rfl rfl (Val.fieldSl (k:=4) rfl rfl) ?_;refine zlR ?_;refine ziX ?_;refine zdt ?_;refine zgF ?_;rw[e1,e2];exact zqn
theorem pin_K {w0:World} {F:jb} {p:jZ} {c j:Nat} (ok:jaS p) (hc:c<p.g.m) (hj:j<p.g.pgs c):
  Call Tryz.prog w0 319 [.pointer (some ⟨p.b,0,none⟩), .int .i64 (p.g.page c+j:Nat)] (planH p++F) (fun r H'=>r= .tuple [.agg (jeo (p.g.pt c)).toArray, .int .i64 ((j*p.g.per c:Nat))].toArray∧H'=planH p++F):=by
 have hm:=ok.g.m
 have hpl:p.g.parts.length=p.g.m:=jdW
 have ho:=ok.o
 have hpc:=ok.g.page (Nat.le_of_lt hc)
 have hper:=ok.g.per hc
 have hn:=ok.g.n hc
 have hjn:=(ji9 ok.g hc).1 hj
 have hpb:=ok.g.pages
 have hpp:=jdu (n:=p.g.pgs) hc
 obtain⟨s,hs⟩: ∃ s,s=p.g.page c+j:=⟨_,rfl⟩
 rw[←hs]
 have hsb:s<p.g.pages:=by show s<jE p.g.pgs p.g.m;have:jE p.g.pgs c=p.g.page c:=rfl;omega
 have hx:p.g.parts[c]?=some (p.g.pt c):=jey hc
 obtain⟨pt,hpt⟩: ∃ pt,pt=p.g.pt c:=⟨_,rfl⟩
 have hp1:p.g.page c=pt.page:=by rw[hpt];rfl
 have hp2:p.g.per c=pt.per:=by rw[hpt];rfl
 rw[←hpt] at hx⊢;rw[hp2] at hper hjn⊢;rw[hp1] at hs hpc;unfold jeo;clear hpt
 have hq: ∀ i,decide (p.g.page i≤s)=decide (((p.g.page i:Nat):Int)≤(s:Nat)):=fun i=>decide_eq_decide.2 (by omega)
 refine Call.enter2 (n:=23) (by rfl) Tryz.func319 rfl rfl rfl ?_;simp only[Jm];refine zbc ?_;intro b3 b4;refine zdK ?_;refine K.drawn _ [(0,1),(1,1),(2,1),(3,1),(4,0),(5,0),(6,2),(7,0),(8,0),(9,2)] (by rfl) (by rfl) (by kernel_rfl) (by rfl) (by rfl) (by rfl) (Part.drop Part.all) ?_;refine zeP ?_;refine zcX ?_;refine zo ?_;refine zlX ?_;refine zk fun T hT=>?_;refine(CallV.part (CallV.fn (last_K (F:=(b3,cells [.int .i64 (s:Nat)] 3)::(b4,cells [.int .i64 0, .int .i64 0, .int .i64 0, .int .i64 0, .int .i64 0] 217)::F) (g:=337) (cap:=[.pointer (some ⟨b3,0,none⟩)]) (q:=fun i=>decide (p.g.page i≤s)) ok ?_ ?_)) (by first|exact ja|(simp only[Jm];exact ja))).mono ?_
 ·intro i j h1 h2 h3
  have h4:p.g.page i≤p.g.page j:=jii h1
  grind
 ·intro H' i hp hi;refine CallV.clo (cap:=[.pointer (some ⟨b3,0,none⟩)]) ?_
  have hsee:jJ w0 H' ⟨b3,0,none⟩ (.int .i64 (s:Nat)):=(jJ.cell (H:=planH p++((b3,cells [.int .i64 (s:Nat)] 3)::(b4,cells [.int .i64 0, .int .i64 0, .int .i64 0, .int .i64 0, .int .i64 0] 217)::F)) ju rfl).more hp
  rw[hq];unfold jeo PlG.pt;dsimp only;refine Call.enter2 (n:=8) (by rfl) Tryz.func337 rfl rfl rfl ?_;refine zbN ?_;intro b2;refine zby ?_;refine KL.v rfl (Val.loadP rfl rfl (jJ.more (by assumption) ja)) ?_;refine KL.v rfl (Val.leq rfl rfl) ?_;exact zq
 ·rintro _ _ ⟨i,hi,h1,h2,rfl,rfl⟩
  have hf0:p.g.page 0=0:=rfl
  have hi1:1≤i:=by
   grind
  have hik:i=c+1:=by
   have e1:c<i:=by
    grind
   rcases Nat.lt_or_ge (c+1) i with h|h
   ·have h3:=of_decide_eq_true (h1 (c+1) h)
    have h4:p.g.page (c+1)=p.g.page c+p.g.pgs c:=rfl
    omega
   omega
  have he:(i:Int)-1=((c:Nat):Int):=by omega
  have hj':((s:Nat):Int)-((pt.page:Nat):Int)=((j:Nat):Int):=by omega
  have hmul:(((s:Nat):Int)-((pt.page:Nat):Int))*((pt.per:Nat):Int)=((j*pt.per:Nat):Int):=by grind
  rw[he];refine zi ?_;clear hT T;simp only[Jm];refine zcI ?_;refine zhR ?_;refine zlJ ?_;refine zfU ?_;refine zbC ?_;refine K.drawn _ [(0,0),(1,1),(2,0),(3,0),(4,1),(5,0),(6,0),(7,1),(8,2),(9,0)] (by rfl) (by rfl) (by kernel_rfl) (by rfl) (by rfl) (by rfl) (Part.drop Part.all) ?_;refine zlY ?_;refine zaJ ?_;refine znF ?_;refine KD.v1 rfl rfl (Val.sub rfl rfl (by grind[qL,qH])) ?_;refine zd7 ?_;refine KD.v1 rfl rfl (Val.mul rfl rfl (by grind[qL,qH])) ?_;refine zfs ?_;rw[hmul];exact zqn
theorem In_K {w0:World} {F:jb} {p:jZ} {k:Nat} (ok:jaS p) (hk:k<p.g.pages):
  Call Tryz.prog w0 288 [.pointer (some ⟨p.b,0,none⟩), .int .i64 (k:Nat)] (planH p++F) (fun r H'=>r= .tuple [.int .i64 (p.g.fp k:Nat), .int .i64 (p.g.mp k:Nat), .int .i64 0].toArray∧H'=planH p++F):=by
 have hpb:=ok.g.pages
 have hmb:=jeU ok.g hk
 obtain⟨c,j,hc,hj,hkj⟩:=jg2 (n:=p.g.pgs) hk
 have hkj':k=p.g.page c+j:=hkj
 have hin:=fun A=>pin_K (w0:=w0) (F:=A) ok hc hj
 have hper:=ok.g.per hc
 have hn:=ok.g.n hc
 have hfc:=ok.g.first (Nat.le_of_lt hc)
 have hjn:=(ji9 ok.g hc).1 hj
 have h1:=fp_at hc hj
 have h2:=mp_at hc hj
 rw[←hkj'] at h1 h2 hin
 have hge: ¬((k:Nat):Int)≥(p.g.pages:Nat):=by omega
 obtain⟨pt,hpt⟩: ∃ pt,pt=p.g.pt c:=⟨_,rfl⟩
 have hp1:pt.first=p.g.first c:=by rw[hpt];rfl
 have hp2:pt.many=p.g.n c:=by rw[hpt];rfl
 have hp3:pt.per=p.g.per c:=by rw[hpt];rfl
 rw[←hpt] at hin;rw[←hp1] at h1 hfc;rw[←hp2] at h2 hn hjn;rw[←hp3] at h1 h2 hper hjn hin
 obtain⟨sz,fi,ma,pa,pe⟩:=pt
 unfold jeo at hin;dsimp only at hin h1 h2 hn hjn hper hfc
 obtain⟨q,hq⟩: ∃ q,q=j*pe:=⟨_,rfl⟩
 rw[←hq] at hin h1 h2 hjn
 have e1:((fi:Nat):Int)+((q:Nat):Int)=((p.g.fp k:Nat):Int):=by omega
 have e2:((ma:Nat):Int)-((q:Nat):Int)=((ma-q:Nat):Int):=by omega
 have e3:(if ((ma:Nat):Int)-((q:Nat):Int)<((pe:Nat):Int) then((ma:Nat):Int)-((q:Nat):Int) else((pe:Nat):Int))=((p.g.mp k:Nat):Int):=by omega
 clear hpt hp1 hp2 hp3 hq;refine Call.enter2 (n:=40) (by rfl) Tryz.func288 rfl rfl rfl ?_;refine zL ?_;refine zt ?_;refine zd8 ?_;refine zi5 ?_;simp only[Jm];refine zck ?_;refine zc9 ?_;refine zc8 ?_;refine zcS ?_;refine zbA ?_;refine za9 fun T hT=>?_;refine(CallV.part (CallV.fn (hin _)) (by first|exact ja|(simp only[Jm];exact ja))).mono ?_;rintro _ _ ⟨rfl,rfl⟩;refine ze ?_;clear hT T;refine zbd ?_;intro b7;refine zdK ?_;refine zn9 ?_;refine zdA ?_;refine zo ?_;refine zdt ?_;refine zd7 ?_;refine znC ?_;refine zo ?_;refine zkF ?_;refine KD.v0 rfl rfl (Val.min rfl rfl) ?_;refine ziW ?_;refine zgF ?_;rw[e1,e3];exact zqn
set_option maxRecDepth 10000
structure je6 (ring:List Int) (first many:Nat) (q:List Nat):Prop where
 n:q.length=many
 le:many≤ring.length
 lt:first<ring.length
 at_: ∀ i:Nat,i<many→ring[(first+i)%ring.length]?=(q[i]?).map fun n=>((n:Nat):Int)
theorem mod_inj {f l i j:Nat} (hi:i<l) (hj:j<l) (h:(f+i)%l=(f+j)%l):i=j:=by
 have h1:=Nat.div_add_mod (f+i) l
 have h2:=Nat.div_add_mod (f+j) l
 rw[h] at h1
 rcases Nat.lt_trichotomy ((f+i)/l) ((f+j)/l) with hh|hh|hh
 ·have:=Nat.mul_le_mul_left l (show(f+i)/l+1≤(f+j)/l from hh)
  grind
 ·grind
 ·have:=Nat.mul_le_mul_left l (show(f+j)/l+1≤(f+i)/l from hh)
  grind
theorem je6.put {ring:List Int} {first many:Nat} {q:List Nat} (h:je6 ring first many q) (hl:many<ring.length) (s:Nat):
  je6 (ring.set ((first+many)%ring.length) (s:Nat)) first (many+1) (q++ [s]):=by
 have hlt:=Nat.mod_lt (first+many) (show 0<ring.length by omega)
 refine⟨by simp[h.n],by grind,by simpa using h.lt,fun i hi=>?_⟩;simp only[List.length_set]
 have hqn:=h.n
 have hfl:=h.lt
 by_cases hm:i=many
 ·grind
 ·rw[List.getElem?_set_ne,List.getElem?_append_left (by omega)]
  ·exact h.at_ i (by omega)
  ·intro e;exact hm (mod_inj (by omega) hl e.symm)
theorem je6.next {ring:List Int} {first many:Nat} {s:Nat} {q:List Nat} (h:je6 ring first many (s::q)):
  ring[first]?=some ((s:Nat):Int)∧je6 ring ((first+1)%ring.length) (many-1) q:=by
 have hn:=h.n
 have hlt:=h.lt
 have hle:=h.le
 simp at hn
 constructor
 ·have:=h.at_ 0 (by omega)
  rw[Nat.add_zero,Nat.mod_eq_of_lt hlt] at this
  grind
 ·refine⟨by omega,by omega,Nat.mod_lt _ (by omega),fun i hi=>?_⟩
  have:=h.at_ (i+1) (by omega)
  rw[show((first+1)%ring.length+i)%ring.length=(first+(i+1))%ring.length by rw[Nat.mod_add_mod];grind]
  grind
structure GrR (r:GrM) (g:PlG) (G:GyP):Prop where
 ow:r.ow.bs=G.ow
 di:r.di.bs=G.di
 q:je6 r.ring r.first r.many G.q
 pg:match G.pg with
  |none=>r.at_=r.end_
  |some k=>r.at_=g.fp k+G.at_∧r.end_=g.fp k+g.mp k
 lo:r.end_≤g.slots
section
variable {w0 : World} {F : jb} {p : jZ} {r : GrM} {G : GyP}
theorem owe_K {s k:Nat} (ok:GrOk r p) (hs:s<p.g.slots) (hk:k<p.g.pages):
  Call Tryz.prog w0 336 [.agg [.pointer (some ⟨r.ow.b,0,none⟩), .pointer (some ⟨r.di.b,0,none⟩)].toArray, .int .i64 (s:Nat), .int .i64 (k:Nat)] (jN r.ow++(jN r.di++F))
   (fun v H'=>v= .tuple #[]∧H'=jN (JR r.ow s true)++(jN (JR r.di k true)++F)):=by
 have k1:=ok.ow
 have k2:=ok.di
 have h1:s<r.ow.bs.length:=by rw[ok.n1];omega
 have h2:k<r.di.bs.length:=by rw[ok.n2];omega
 refine Call.enter3 (n:=14) (by rfl) Tryz.func336 rfl rfl rfl ?_;refine zbY ?_;intro b3;refine zal ?_;refine ziS ?_;refine jn (je5 (v:=true) k1 h1) ja ?_;refine zed ?_;refine zae ?_;refine zn ?_;refine jn (je5 (v:=true) k2 h2) ja ?_;refine zR ?_;exact zog
theorem pay_K {s:Nat} (ok:GrOk r p) (hs:s<p.g.slots):
  Call Tryz.prog w0 289 [.agg [.pointer (some ⟨r.ow.b,0,none⟩), .pointer (some ⟨r.di.b,0,none⟩)].toArray, .int .i64 (s:Nat)] (jN r.ow++(jN r.di++F))
   (fun v H'=>v= .bool ((r.ow.bs[s]?).getD false)∧H'=jN (JR r.ow s false)++(jN r.di++F)):=by
 have k1:=ok.ow
 have k2:=ok.di
 have h1:s<r.ow.bs.length:=by rw[ok.n1];omega
 have hg:getB r.ow.bs (s:Nat)=(r.ow.bs[s]?).getD false:=jhh
 refine Call.enter2 (n:=15) (by rfl) Tryz.func289 rfl rfl rfl ?_;refine ziQ ?_;intro b2;refine zz fun T hT=>?_;refine(CallV.part (CallV.fn (Get_K (i:=(s:Nat)) k1)) ja).mono ?_;rintro _ _ ⟨rfl,rfl⟩;rw[hg];refine ze ?_;clear hT T;refine zah ?_;refine ziS ?_;refine jn (je5 (v:=false) k1 h1) ja ?_;refine zcg ?_;exact zq
theorem grPut_K {s:Nat} (ok:GrOk r p) (hR:GrR r p.g G) (hs:s<p.g.slots):
  Call Tryz.prog w0 318 [.pointer (some ⟨r.b,0,none⟩), .int .i64 (s:Nat)] (J4 r p++(planH p++F))
   (fun v H'=>v= .int .i64 0∧ ∃ r',GrOk r' p∧r'.b=r.b∧r'.ring.length=r.ring.length∧GrR r' p.g (jaL p.g r.ring.length G s)∧H'=J4 r' p++(planH p++F)):=by
 obtain⟨y,hy⟩:=j9 (g:=p.g) hs
 have hpg:=jgc hy
 have hpb:=(jfH ok.pl.g hy).1
 have okp:=ok.pl
 have ho:=ok.o
 have hl:=ok.l
 have hq:=hR.q.n
 have hle:=hR.q.le
 have hlt:=hR.q.lt
 by_cases hfull:r.many=r.ring.length
 ·have hput:jaL p.g r.ring.length G s={G with ow:=G.ow.set s true,di:=G.di.set y.page true}:=by
   grind[jaL]
  have hf:((r.many:Nat):Int)=(r.ring.length:Nat):=by omega
  refine Call.enter2 (n:=68) (by rfl) Tryz.func318 rfl rfl rfl ?_;refine zaf ?_;refine zkJ ?_;simp only[JQ];refine zas ?_;refine zaa ?_;refine zn ?_;refine jn (Page0_K okp hy) ja ?_;refine zeI ?_;refine zt ?_;refine zob ?_;refine zhS ?_;refine zaW ?_;refine zfI ?_;refine zan ?_;refine zgD ?_;refine zoh ?_;refine zkK ?_;refine zcv ?_;refine KE.next (K.condT rfl (K.region ?_));refine zeM ?_;refine zgz ?_;refine jn (owe_K ok hs hpb) ja ?_;refine zR ?_;refine zaw ?_;refine zdf ?_
  have hd:r=⟨r.b,r.ow,r.di,r.ring,r.o,r.first,r.many,r.at_,r.end_⟩:=rfl
  exact KE.fin (H':=J4 ⟨r.b,JR r.ow s true,JR r.di y.page true,r.ring,r.o,r.first,r.many,r.at_,r.end_⟩ p++(planH p++F)) je rfl jd (by simp only[JQ];exact ja)
   ⟨rfl,⟨r.b,JR r.ow s true,JR r.di y.page true,r.ring,r.o,r.first,r.many,r.at_,r.end_⟩,⟨okp,jeL ok.ow _ _,jeL ok.di _ _,ho,by simpa [JR] using ok.n1,by simpa [JR] using ok.n2,hl⟩,rfl,rfl,by
    rw[hput];exact⟨by show(r.ow.bs.set s true)=_;rw [hR.ow],by show(r.di.bs.set y.page true)=_;rw [hR.di],hR.q,hR.pg,hR.lo⟩,by grind[JQ]⟩
 ·have hput:jaL p.g r.ring.length G s={G with q:=G.q++ [s]}:=by
   grind[jaL]
  have hf: ¬((r.many:Nat):Int)=(r.ring.length:Nat):=by omega
  have hml:=Nat.mod_lt (r.first+r.many) (show 0<r.ring.length by omega)
  have he:(((r.first:Nat):Int)+((r.many:Nat):Int))%((r.ring.length:Nat):Int)=(((r.first+r.many)%r.ring.length:Nat):Int):=rfl
  obtain⟨a,ha⟩: ∃ a,(r.first+r.many)%r.ring.length=a:=⟨_,rfl⟩
  have hring:=hR.q.put (by omega) s
  rw[ha] at hml he hring
  have hn0: ¬((r.ring.length:Nat):Int)=0:=by omega
  have hn1: ¬((r.ring.length:Nat):Int)= -1:=by omega
  obtain⟨z0,hz0⟩:=jh hml
  have e1:((r.many:Nat):Int)+1=((r.many+1:Nat):Int):=by omega
  refine Call.enter2 (n:=68) (by rfl) Tryz.func318 rfl rfl rfl ?_;refine zaf ?_;refine zkJ ?_;simp only[JQ];refine zas ?_;refine zaa ?_;refine zn ?_;refine jn (Page0_K okp hy) ja ?_;refine zeI ?_;refine zt ?_;refine zob ?_;refine zhS ?_;refine zaW ?_;refine zfI ?_;refine zan ?_;refine zgD ?_;refine zoh ?_;refine zkL ?_;refine zcv ?_;refine KE.next (K.condF rfl (K.seq ?_));refine K.drawn [] [(0,0),(1,0),(2,0),(3,0),(4,0),(5,0),(6,0),(7,0),(8,0),(9,0),(10,0),(11,0),(12,0),(13,0),(14,0),(15,0),(16,0),(17,0),(18,0),(19,0),(20,0),(21,2)] (by rfl) (by rfl) (by kernel_rfl) (by rfl) (by rfl) (by rfl) Part.nil ?_;refine zgD ?_;refine zaW ?_;refine zd7 ?_;refine zaW ?_;refine zfI ?_;refine zan ?_;refine zdt ?_;refine zgD ?_;refine zoh ?_;refine zlE ?_;refine zo ?_;refine KD.v0 rfl rfl (Val.idxSlZ rfl rfl rfl (Sli.own jj (by omega) jF) rfl (by omega)) ?_;rw[he];refine zlF ?_;refine zfU ?_;refine zks ?_;refine zF ?_;refine zdi ?_;refine zaB ?_;refine zS ?_;refine zc2 ?_;refine zrs ?_;refine zdf ?_;rw[Int.toNat_natCast]
  skip
  exact KE.fin (H':=J4 ⟨r.b,r.ow,r.di,r.ring.set a (s:Nat),r.o,r.first,r.many+1,r.at_,r.end_⟩ p++(planH p++F)) je rfl jd (by simp only[JQ,List.length_set];exact ja)
   ⟨rfl,⟨r.b,r.ow,r.di,r.ring.set a (s:Nat),r.o,r.first,r.many+1,r.at_,r.end_⟩,⟨okp,ok.ow,ok.di,ho.set _ _,ok.n1,ok.n2,by grind⟩,rfl,by simp,by
    rw[hput];exact⟨hR.ow,hR.di,hring,hR.pg,hR.lo⟩,by grind[JQ]⟩
theorem grNext_K (ok:GrOk r p) (hR:GrR r p.g G):
  Call Tryz.prog w0 237 [.pointer (some ⟨r.b,0,none⟩)] (J4 r p++F)
   (fun v H'=>(G.q=[]∧v= .tuple [.int .i64 0, .bool false].toArray∧H'=J4 r p++F)∨ ∃ s q r',G.q=s::q∧v= .tuple [.int .i64 (s:Nat), .bool true].toArray∧GrOk r' p∧r'.b=r.b∧r'.ring.length=r.ring.length∧GrR r' p.g {G with q:=q}∧H'=J4 r' p++F):=by
 have ho:=ok.o
 have hl:=ok.l
 have hn:=hR.q.n
 have hlt:=hR.q.lt
 have hle:=hR.q.le
 cases hq:G.q with
 |nil=>
  rw[hq] at hn
  simp at hn
  have hm0:((r.many:Nat):Int)=0:=by omega
  refine Call.enter1 (n:=47) (by rfl) Tryz.func237 rfl rfl rfl ?_;refine zhx ?_;refine zkJ ?_;simp only[JQ];refine zaY ?_;refine zc2 ?_;refine zaD ?_;refine zO ?_;refine za8 ?_;refine zcW ?_;exact KE.fin je rfl jd (by first|exact ja|(simp only[JQ];exact ja)) (.inl ⟨trivial,rfl,rfl⟩)
 |cons s q=>
  have hRq:=hR.q
  rw[hq] at hRq
  obtain⟨hx,hnx⟩:=hRq.next
  rw[hq] at hn
  simp at hn
  have hm0: ¬((r.many:Nat):Int)=0:=by omega
  have hml:=Nat.mod_lt (r.first+1) (show 0<r.ring.length by omega)
  obtain⟨a,ha⟩: ∃ a,(r.first+1)%r.ring.length=a:=⟨_,rfl⟩
  have he:(((r.first:Nat):Int)+1)%((r.ring.length:Nat):Int)=((a:Nat):Int):=by grind
  have e1:((r.many:Nat):Int)-1=((r.many-1:Nat):Int):=by omega
  rw[ha] at hnx hml
  have hn0: ¬((r.ring.length:Nat):Int)=0:=by omega
  refine Call.enter1 (n:=47) (by rfl) Tryz.func237 rfl rfl rfl ?_;refine zhx ?_;refine zkJ ?_;simp only[JQ];refine zaY ?_;refine zc2 ?_;refine zaD ?_;refine zC ?_;refine zx ?_;refine zb8 ?_;refine zhS ?_;refine zgD ?_;refine zaW ?_;refine zd7 ?_;refine zcI ?_;refine zfA ?_;refine zcv ?_;refine zbC ?_;refine K.drawn _ [(0,0),(1,1),(2,0),(3,0),(4,0),(5,0),(6,0),(7,0),(8,0),(9,0),(10,0),(11,0),(12,0),(13,0),(14,0),(15,0),(16,0),(17,1),(18,0),(19,0),(20,2),(21,0),(22,0),(23,2)] (by rfl) (by rfl) (by kernel_rfl) (by rfl) (by rfl) (by rfl) (Part.drop Part.all) ?_;refine zo ?_;refine zP ?_;refine zaW ?_;refine zd7 ?_;refine zdt ?_;refine zgD ?_;refine zoh ?_;refine zlE ?_;refine zaW ?_;refine zfI ?_;refine zan ?_;refine KD.v1 rfl rfl (Val.sub rfl rfl (by grind[qL,qH])) ?_;refine zhJ ?_;refine zsb ?_;refine zkt ?_;refine zcp ?_;refine zhJ ?_;refine zfI ?_;refine zcl ?_;refine zbw ?_;refine zab ?_;rw[he,e1];exact KE.fin (H':=J4 ⟨r.b,r.ow,r.di,r.ring,r.o,a,r.many-1,r.at_,r.end_⟩ p++F) je rfl jd (by simp only[JQ];exact ja)
   (.inr ⟨s,q,⟨r.b,r.ow,r.di,r.ring,r.o,a,r.many-1,r.at_,r.end_⟩,rfl,rfl,⟨ok.pl,ok.ow,ok.di,ho,ok.n1,ok.n2,hl⟩,rfl,rfl,⟨hR.ow,hR.di,hnx,hR.pg,hR.lo⟩,by grind[JQ]⟩)
structure GwA where
 r:GrM
 k:Nat
 G:GyP
theorem walk_no {g:PlG} (h1:G.pg=none) (h2:G.q≠ []∨nextB G.di 0 true=none):walkG g G=none:=by
 grind[walkG,jbv]
set_option maxHeartbeats 4000000 in
theorem grWalk_K (hG:ji w0) (ok:GrOk r p) (hR:GrR r p.g G) (hok:jbO p.g r.ring.length G):
  Call Tryz.prog w0 241 [.pointer (some ⟨r.b,0,none⟩)] (J4 r p++(planH p++F))
   (fun v H'=>(walkG p.g G=none∧v= .tuple [.int .i64 0, .bool false, .bool false].toArray∧H'=J4 r p++(planH p++F))∨ ∃ o G' r',walkG p.g G=some (o,G')∧v= .tuple [.int .i64 (nxI o), .bool o.isSome, .bool true].toArray∧GrOk r' p∧r'.b=r.b∧r'.ring.length=r.ring.length∧GrR r' p.g G'∧H'=J4 r' p++(planH p++F)):=by
 have okp:=ok.pl
 have ho:=ok.o
 have hl:=ok.l
 have k1:=ok.ow
 have k2:=ok.di
 have hqn:=hR.q.n
 have hsl:=okp.g.slots
 refine Call.enter1 (n:=85) (by kernel_rfl) Tryz.func241 rfl rfl rfl ?_;refine zL ?_;refine zt ?_;refine ze2 ?_;refine zkJ ?_;simp only[JQ];refine zax ?_;refine K.cutT (σ:=GwA) [(0,_)] jc (fun s kp_=>kp_) (fun s=>J4 s.r p++(planH p++F)) (fun s=>GrOk s.r p∧GrR s.r p.g s.G∧jbO p.g r.ring.length s.G∧s.G.pg=some s.k∧jbv G=some (s.k,s.G)∧s.r.b=r.b∧s.r.ring.length=r.ring.length) ?_ ?_
 ·cases hp:G.pg with
  |some k=>
   have hpg:=hR.pg
   rw[hp] at hpg
   obtain⟨a1,a2⟩:=hpg
   have hlt:=(hok.pg k hp).2
   have hne: ¬((r.at_:Nat):Int)=(r.end_:Nat):=by omega
   refine K.seq ?_;refine zsd ?_;refine zaW ?_;refine KD.v0 rfl rfl (Val.fieldAddr0 (k:=6) rfl rfl) ?_;refine zan ?_;refine zgj ?_;refine zkL ?_;refine zhl ?_;exact KE.meet ⟨r,k,G⟩ jc (by first|exact ja|(simp only[JQ];exact ja)) ⟨ok,hR,hok,hp,by unfold jbv;rw [hp],rfl,rfl⟩
  |none=>
   have hpg:=hR.pg
   rw[hp] at hpg;dsimp only at hpg
   have hne:((r.at_:Nat):Int)=(r.end_:Nat):=by omega
   refine K.seq ?_;refine zsd ?_;refine zaW ?_;refine KD.v0 rfl rfl (Val.fieldAddr0 (k:=6) rfl rfl) ?_;refine zan ?_;refine zgj ?_;refine zkK ?_;refine zcV ?_;refine zeM ?_;refine zae ?_;refine zu fun T hT=>?_;refine(CallV.part (CallV.fn (jhz (k:=0) (v:=true) k2 hG (by omega))) ja).mono ?_;rintro _ _ ⟨rfl,rfl⟩;rw[hR.di];refine ze ?_;clear hT T
   cases hq:G.q with
   |cons s q=>
    rw[hq] at hqn
    simp at hqn
    have hm:((r.many:Nat):Int)>0:=by omega
    refine zbi ?_;refine zS ?_;refine zdi ?_;refine zaG ?_;refine zcN ?_;refine zbh ?_;refine zli ?_;refine zaE ?_;refine zaS ?_;exact KE.fin je rfl jd (by first|exact ja|(simp only[JQ];exact ja)) (.inl ⟨walk_no hp (.inl (by rw[hq];simp)),rfl,rfl⟩)
   |nil=>
    rw[hq] at hqn
    simp at hqn
    have hm: ¬((r.many:Nat):Int)>0:=by omega
    cases hn:nextB G.di 0 true with
    |none=>
     unfold nxI;dsimp only[Option.isSome,Option.getD];refine zbi ?_;refine zS ?_;refine zdi ?_;refine zaA ?_;refine zX ?_;refine zag ?_;refine za8 ?_;refine zli ?_;refine zaE ?_;refine zaS ?_;exact KE.fin je rfl jd (by first|exact ja|(simp only[JQ];exact ja)) (.inl ⟨walk_no hp (.inr hn),rfl,rfl⟩)
    |some j=>
     obtain⟨n1,n2,n3,n4⟩:=jd4 hn
     have hj:j<p.g.pages:=by rw[←hok.di];exact n1
     have hj2:j<r.di.bs.length:=by rw[ok.n2];exact hj
     obtain⟨b1,b2,b3⟩:=jeU okp.g hj
     have e1:((p.g.fp j:Nat):Int)+((p.g.mp j:Nat):Int)=((p.g.fp j+p.g.mp j:Nat):Int):=by omega
     have hop:jbv G=some (j,{G with di:=G.di.set j false,pg:=some j,at_:=0}):=by unfold jbv;rw [hp,hq];dsimp only;rw [hn]
     have hok1:=(jh9 okp.g hok hop).1
     unfold nxI;dsimp only[Option.isSome,Option.getD];refine zbi ?_;refine zS ?_;refine zdi ?_;refine zaA ?_;refine zX ?_;refine zy ?_;refine zx ?_;refine zas ?_;refine zcJ ?_;refine zae ?_;refine zn ?_;refine jn (je5 (v:=false) k2 hj2) ja ?_;refine zal ?_;refine zF ?_;refine zaa ?_;refine zn ?_;refine jn (In_K okp hj) ja ?_;refine zil ?_;refine zfi ?_;refine zB ?_;refine zB ?_;refine zeo ?_;refine zS ?_;refine zhT ?_;refine zaq ?_;refine zS ?_;refine zc3 ?_;refine zdW ?_;rw[e1];exact KE.meet ⟨⟨r.b,r.ow,JR r.di j false,r.ring,r.o,r.first,r.many,p.g.fp j,p.g.fp j+p.g.mp j⟩,j,{G with di:=G.di.set j false,pg:=some j,at_:=0}⟩ jc (by first|exact ja|(simp only[JQ];exact ja))
      ⟨⟨okp,k1,jeL k2 _ _,ho,ok.n1,by simpa [JR] using ok.n2,hl⟩,⟨hR.ow,by show r.di.bs.set j false=_;rw [hR.di],by rw[hq];have:=hR.q;rwa[hq] at this,⟨rfl,rfl⟩,by show p.g.fp j+p.g.mp j≤_;omega⟩,hok1,rfl,hop,rfl,rfl⟩
 ·rintro⟨r1,k,G1⟩ ⟨ok1,hR1,hok1,hk1,hop,hb1,hl1⟩;dsimp only at ok1 hR1 hok1 hk1 hop hb1 hl1⊢
  have hpg:=hR1.pg
  rw[hk1] at hpg
  obtain⟨a1,a2⟩:=hpg
  obtain⟨c1,c2⟩:=hok1.pg k hk1
  obtain⟨b1,b2,b3⟩:=jeU okp.g c1
  have ho1:=ok1.o
  have hs:r1.at_<p.g.slots:=by omega
  have e1:((r1.at_:Nat):Int)+1=((r1.at_+1:Nat):Int):=by omega
  have hsl1:r1.at_<r1.ow.bs.length:=by rw[ok1.n1];exact hs
  obtain⟨wb,hwb⟩:=jh hsl1
  have hwG:(G1.ow[p.g.fp k+G1.at_]?).getD false=wb:=by rw[←hR1.ow,←a1,hwb];rfl
  have hw:walkG p.g G=some (walk1 p.g k G1):=by unfold walkG;rw [hop];rfl
  have hn1:GrOk ⟨r1.b,JR r1.ow r1.at_ false,r1.di,r1.ring,r1.o,r1.first,r1.many,r1.at_+1,r1.end_⟩ p:=⟨okp,jeL ok1.ow _ _,ok1.di,ho1,by simpa [JR] using ok1.n1,ok1.n2,ok1.l⟩
  have hn2:GrR ⟨r1.b,JR r1.ow r1.at_ false,r1.di,r1.ring,r1.o,r1.first,r1.many,r1.at_+1,r1.end_⟩ p.g (walk1 p.g k G1).2:=by
   refine⟨by show r1.ow.bs.set r1.at_ false=_;rw [hR1.ow,a1];rfl,hR1.di,hR1.q,?_,hR1.lo⟩;unfold walk1;dsimp only
   by_cases h:G1.at_+1=p.g.mp k
   ·rw[if_pos h];dsimp only;omega
   ·rw[if_neg h,if_neg h];dsimp only;omega
  rw[←hb1];rw[hw];unfold walk1 at hn2⊢;rw[hwG] at hn2⊢;simp only[JQ];refine zG ?_;refine zF ?_;refine zbn ?_;refine zah ?_;refine zF ?_;refine zbn ?_;refine zfk ?_;refine zhT ?_;refine zaq ?_;refine zbu ?_;refine zeM ?_;refine zau ?_;refine zz fun T hT=>?_;rw[e1];refine(CallV.part (CallV.fn (pay_K ok1 hs)) ja).mono ?_;rintro _ _ ⟨rfl,rfl⟩;rw[hwb];dsimp only[Option.getD];refine ze ?_;clear hT T
  cases wb with
  |true=>
   refine zy ?_;refine zba ?_;refine zt ?_;refine zab ?_;exact KE.fin (H':=J4 ⟨r1.b,JR r1.ow r1.at_ false,r1.di,r1.ring,r1.o,r1.first,r1.many,r1.at_+1,r1.end_⟩ p++(planH p++F)) je rfl jd (by simp only[JQ];exact ja)
    (.inr ⟨_,_,⟨r1.b,JR r1.ow r1.at_ false,r1.di,r1.ring,r1.o,r1.first,r1.many,r1.at_+1,r1.end_⟩,rfl,by simp only[if_true,nxI,Option.isSome,Option.getD,a1];rfl,hn1,rfl,hl1,hn2,by simp only[JQ]⟩)
  |false=>
   refine zaQ ?_;refine zli ?_;refine zaE ?_;exact KE.fin (H':=J4 ⟨r1.b,JR r1.ow r1.at_ false,r1.di,r1.ring,r1.o,r1.first,r1.many,r1.at_+1,r1.end_⟩ p++(planH p++F)) je rfl jd (by simp only[JQ];exact ja)
    (.inr ⟨_,_,⟨r1.b,JR r1.ow r1.at_ false,r1.di,r1.ring,r1.o,r1.first,r1.many,r1.at_+1,r1.end_⟩,rfl,by simp only[nxI,Bool.false_eq_true,if_false,Option.isSome,Option.getD];rfl,hn1,rfl,hl1,hn2,by simp only[JQ]⟩)
theorem grOwed_K (ok:GrOk r p):
  Call Tryz.prog w0 284 [.pointer (some ⟨r.b,0,none⟩)] (J4 r p++F) (fun v H'=>v= .int .i64 (r.ow.bs.count true:Nat)∧H'=J4 r p++F):=by
 have k1:=ok.ow
 refine Call.enter1 (n:=11) (by rfl) Tryz.func284 rfl rfl rfl ?_;refine zaf ?_;refine zkJ ?_;simp only[JQ];refine zas ?_;refine zcJ ?_;refine zN ?_;refine zp ?_;refine jn (Count_K k1) ja ?_;refine zm ?_;exact zlU
theorem grEmpty_K (hG:ji w0) (ok:GrOk r p) (hR:GrR r p.g G) (hok:jbO p.g r.ring.length G):
  Call Tryz.prog w0 232 [.pointer (some ⟨r.b,0,none⟩)] (J4 r p++F)
   (fun v H'=>v= .bool (jb0 G)∧H'=J4 r p++F):=by
 have hqn:=hR.q.n
 have ho:=ok.o
 have hpg:=hR.pg
 by_cases hm:r.many=0
 ·have hq:G.q=[]:=by grind
  have hm':((r.many:Nat):Int)=0:=by omega
  by_cases he:r.at_=r.end_
  ·have he':((r.at_:Nat):Int)=(r.end_:Nat):=by omega
   have hpn:G.pg=none:=by
    cases hp:G.pg with
    |none=>rfl
    |some k=>
     rw[hp] at hpg;dsimp only at hpg
     have:=(hok.pg k hp).2
     omega
   have hem:jb0 G=decide (((r.ow.bs.count true:Nat):Int)=0):=by
    unfold jb0;rw[hq,hpn,hR.ow]
    grind
   rw[hem];refine zqo ?_;refine zfd ?_;refine zqp ?_;refine zd9 fun T hT=>?_;refine(CallV.part (CallV.fn (jf3 ok)) ja).mono ?_;rintro _ _ ⟨rfl,rfl⟩;refine zi ?_;clear hT T;simp only[JQ];refine zo ?_;refine zii ?_;refine zoi ?_;refine zbV ?_;refine zlZ ?_;refine zaZ ?_;refine zqi ?_;refine zl0 ?_;refine zpT ?_;refine KD.y0 rfl rfl rfl rfl (Val.fieldAddr0 (k:=7) rfl rfl) ?_;refine zbV ?_;refine zlZ ?_;refine zi4 ?_;refine zaZ ?_;refine zdR fun T hT=>?_;refine(CallV.part (CallV.fn (grOwed_K ok)) (by first|exact ja|(simp only[JQ];exact ja))).mono ?_;rintro _ _ ⟨rfl,rfl⟩;refine zi ?_;clear hT T;refine KD.y0 rfl rfl rfl rfl (Val.eql rfl rfl) ?_;refine zi4 ?_;refine zcr ?_;refine zbp ?_;exact zlU
  ·have he': ¬((r.at_:Nat):Int)=(r.end_:Nat):=by omega
   have hem:jb0 G=false:=by
    grind[jb0]
   rw[hem];refine zqo ?_;refine zfd ?_;refine zqp ?_;refine zd9 fun T hT=>?_;refine(CallV.part (CallV.fn (jf3 ok)) ja).mono ?_;rintro _ _ ⟨rfl,rfl⟩;refine zi ?_;clear hT T;simp only[JQ];refine zo ?_;refine zii ?_;refine zoi ?_;refine zbV ?_;refine zlZ ?_;refine zaZ ?_;refine zqi ?_;refine zl0 ?_;refine zpT ?_;refine KD.y0 rfl rfl rfl rfl (Val.fieldAddr0 (k:=7) rfl rfl) ?_;refine zbV ?_;refine zqq ?_;refine zi4 ?_;refine zca ?_;refine zeg ?_;refine ziV ?_;refine zlO ?_;refine zcr ?_;refine zbp ?_;exact zlU
 ·have hm': ¬((r.many:Nat):Int)=0:=by omega
  have hem:jb0 G=false:=by
   grind[jb0]
  rw[hem];refine zqo ?_;refine zfd ?_;refine zqp ?_;refine zd9 fun T hT=>?_;refine(CallV.part (CallV.fn (jf3 ok)) ja).mono ?_;rintro _ _ ⟨rfl,rfl⟩;refine zi ?_;clear hT T;simp only[JQ];refine zo ?_;refine zii ?_;refine zoi ?_;refine zbV ?_;refine zqq ?_;refine zca ?_;refine zfV ?_;refine zfV ?_;refine zeg ?_;refine zlO ?_;refine zca ?_;refine zeg ?_;refine ziV ?_;refine zlO ?_;refine zcr ?_;refine zbp ?_;exact zlU
end
end Go.Proofs.YtebiafomiemgbaaGreatDoor.Sw
