/-The walker and the contracts that the law needs,part 31. -/
import Derived.Test.YtebiafomiemgbaaGreatDoorJ26
set_option linter.unusedVariables false set_option linter.unusedSimpArgs false set_option linter.unusedVariables false
set_option linter.unusedSimpArgs false
namespace Go.Proofs.YtebiafomiemgbaaGreatDoor.Sw
set_option maxHeartbeats 8000000
open Go.Proofs.YtebiafomiemgbaaGreatDoor renaming lo → qL, hi → qH
open Go.RowKit
set_option maxRecDepth 10000
structure ScS where
 k:MkM
structure ScB where
 b:Nat
section
variable {w0 : World} {F : jb} {k : MkM} {B : BoM} {T : TbM} {N : PiM} {W : MwP} {m : MaP}
theorem refO_eq {g:PlG} {x:List Int} {s:Nat} {i:Int} {y:jq} (hy:g.L[s]?=some y):refO g x (s:Nat) i=if (refP x g.slots y i).2=0∧0≤(refP x g.slots y i).1 then some (refP x g.slots y i).1 else none:=by
 grind[refO,jW]
set_option maxHeartbeats 2000000 in
theorem mkscan_K {i:Nat} {h:jaw} (hG:ji w0) (hp:MpR k B T N W) (ok:MkOk k B.p) (hR:MkR k B.p m) (hm:jL B.p.g k.g.ring.length W m) (hh:k.hs[i]?=some h) (his:h.is=true):
  Call Tryz.prog w0 239 [.pointer (some ⟨k.b,0,none⟩), .pointer (some (adr (oV k.o k.hs.length) (i*jbf.sz)))] (jt k B.p++(planH B.p++(seenH B T N++F)))
   (fun r H'=>r= .bool true∧ ∃ m' k',scanM B.p.g k.g.ring.length W m i=some m'∧MkOk k' B.p∧MkTo k k'∧MkR k' B.p m'∧H'=jt k' B.p++(planH B.p++(seenH B T N++F))):=by
 have okp:=hp.bo.p
 have okb:=hp.bo
 have hsl:=okp.g.slots
 have eb:=hp.bb
 have ho:=ok.o
 have hil:=jv hh
 have hhs:=hR.hs
 have hmh:m.hs[i]?=some h:=by rw[←hhs];exact hh
 obtain⟨s,hs,hsb,hf0,hfb⟩: ∃ s:Nat,h.slot=s∧s<B.p.g.slots∧0≤h.field∧(h.field=0∨h.field<refsN W.x (jA B.p.g h.slot)):=by
  rcases hm.h i h hmh with⟨a1,a2,a3,a4,a5⟩|e
  ·exact⟨h.slot.toNat,by omega,by omega,a4,a5⟩
  ·rw[e] at his;cases his
 obtain⟨y,hy⟩:=j9 (g:=B.p.g) hsb
 have hya:=jW hy
 have hfit:=okp.g.fits hy
 have href:=refO_eq (x:=W.x) (i:=h.field) hy
 have hrn:refsN W.x y=match headP W.x y with|some h=>h.r|none=>0:=rfl
 have hhead:=fun A=>jeX (w0:=w0) (F:=A) hG okb hy
 have hrf:=fun A=>bRef_K (w0:=w0) (F:=A) (i:=h.field) hG okb hy
 simp only[←eb] at hhead hrf
 have hsc:scanM B.p.g k.g.ring.length W m i=if h.field+1<refsN W.x y then some {J8 B.p.g k.g.ring.length m (refO B.p.g W.x (s:Nat) h.field) with hs:=m.hs.set i ⟨(s:Nat),h.field+1,true⟩}
  else some {J8 B.p.g k.g.ring.length m (refO B.p.g W.x (s:Nat) h.field) with hs:=m.hs.set i jaj,C:=(J8 B.p.g k.g.ring.length m (refO B.p.g W.x (s:Nat) h.field)).C.set s 2}:=by
  unfold scanM;rw[jbR hmh,his,if_pos rfl,hs,hya]
  rfl
 obtain⟨o,hod⟩: ∃ o,o=refO B.p.g W.x (s:Nat) h.field:=⟨_,rfl⟩
 have hoin: ∀ q:Int,o=some q→0≤q∧q<(B.p.g.slots:Nat):=fun q hq=>by
  have:=jeM (hod.symm.trans hq) hp.w.w
  exact⟨this.1,this.2.1⟩
 rw[←hod] at hsc href;rw[hs,hya] at hfb
 obtain⟨hsl',hfi,hi'⟩:=h
 dsimp only at hs his hf0 hfb href hsc hrf hod;subst hs his
 obtain⟨rt,hrt⟩: ∃ rt,refP W.x B.p.g.slots y hfi=rt:=⟨_,rfl⟩
 simp only[hrt] at hrf href
 obtain⟨rn,hrnd⟩: ∃ rn,refsN W.x y=rn:=⟨_,rfl⟩
 rw[hrnd] at hrn hsc
 obtain⟨hc,hr,hw,he,hhv,hcond⟩: ∃ hc hr hw he,headV (headP W.x y)= .tuple [.agg [.int .i64 hc, .int .i64 hr, .int .i64 hw].toArray, .int .i64 he].toArray∧((he=0∧hr=rn)∨(he≠0∧rn=0)):=by
  unfold headV hdV
  cases hq:headP W.x y with
  |none=>rw [hq] at hrn;exact⟨0,0,0,5,rfl, .inr ⟨by decide,hrn⟩⟩
  |some q=>rw [hq] at hrn;exact⟨q.c,q.r,q.w,0,rfl, .inl ⟨rfl,hrn.symm⟩⟩
 simp only[hhv] at hhead;refine Call.enter2 (n:=76) (by kernel_rfl) Tryz.func239 rfl rfl rfl ?_;simp only[js,seenH_app];refine zg4 ?_;refine K.cutT (σ:=ScB) [(0,_),(1,_)] jc (fun s kp_=>(5, .pointer (some ⟨s.b,0,none⟩))::(6, .int .i64 he)::kp_) (fun s=>jt k B.p++(planH B.p++(seenH B T N++((s.b,cells [.int .i64 hc, .int .i64 hr, .int .i64 hw] 233)::F)))) (fun s=>True) ?_ ?_
 ·skip
  refine zJ ?_;refine K.drawn ((k.b,cells [.pointer (some ⟨k.bb,0,none⟩), .pointer (some ⟨B.p.b,0,none⟩), .pointer (some ⟨k.tb,0,none⟩), .pointer (some ⟨k.nb,0,none⟩), .pointer (some ⟨k.c.b,0,none⟩), .pointer (some ⟨k.g.b,0,none⟩),oV k.o k.hs.length, .int .i64 (k.root:Nat), .bool k.act, .int .i64 (k.steps:Nat)] 245)::(oH jbf 280 k.hs k.o++ [])) [(0,1),(1,1),(2,1),(3,1),(4,1),(5,1),(6,1),(7,1),(8,3),(9,1),(10,1),(11,1),(12,2),(13,2),(14,0)] (by kernel_rfl) (by kernel_rfl) (by kernel_rfl) (by kernel_rfl) (by kernel_rfl) (by kernel_rfl) ja ?_;refine zpJ ?_;refine zpJ ?_;refine KD.fork2 (x:=8) (y:=12) (o1:=[(9,1),(10,1),(11,1),(12,2),(13,2),(14,0)]) (o2:=[(8,2),(9,0),(10,0),(11,1),(13,2),(14,0)]) (by kernel_rfl) rfl rfl (by kernel_rfl) (by kernel_rfl) ?_ ?_
  ·refine zT fun T hT=>?_;refine(CallV.part (CallV.fn (hhead _)) ja).mono ?_;rintro _ _ ⟨rfl,rfl⟩;refine zi ?_;clear hT T;refine znx ?_;intro b5;exact zsv
  ·(refine jP.e rfl (Eff.alloc rfl) ?_;rintro _ _ ⟨b5,rfl,rfl⟩;refine⟨ja,?_⟩)
   refine zk fun T hT=>?_;refine(CallV.part (CallV.fn (hhead _)) ja).mono ?_;rintro _ _ ⟨rfl,rfl⟩;refine zi ?_;clear hT T;refine ze7 ?_;exact zsv
 ·rintro⟨b5⟩ _;dsimp only;refine zj8 ?_;refine K.drawn [] [(0,0),(1,0),(2,0),(3,0),(4,0),(5,0),(6,0),(7,0),(8,0),(9,0),(10,0),(11,0),(12,2),(13,0),(14,0),(15,0),(16,0),(17,0)] (by kernel_rfl) (by kernel_rfl) (by kernel_rfl) (by kernel_rfl) (by kernel_rfl) (by kernel_rfl) Part.nil ?_;refine zcT ?_;refine zfn ?_;refine zi9 ?_;refine zaW ?_;refine KD.v0 rfl rfl (Val.fieldSl (k:=1) rfl rfl) ?_;refine zqz ?_;refine zk fun T hT=>?_;refine(CallV.part (CallV.fn (hrf _)) (by first|exact ja|(simp only[js,seenH_app];exact ja))).mono ?_;rintro _ _ ⟨rfl,rfl⟩;refine zi ?_;clear hT T
  obtain⟨to,f⟩:=rt
  dsimp only at href⊢;refine zeH ?_;refine zb9 ?_;refine K.cutE (σ:=ScS) [(0,_),(1,_),(5,_),(6,_)] jc (fun s kp_=>kp_) (fun s=>jt s.k B.p++(planH B.p++(seenH B T N++((b5,cells [.int .i64 hc, .int .i64 hr, .int .i64 hw] 233)::F)))) (fun s=>MkOk s.k B.p∧MkTo k s.k∧MkR s.k B.p (J8 B.p.g k.g.ring.length m o)) ?_ ?_
  ·by_cases h2:f=0
   ·by_cases h1:0≤to
    ·rw[if_pos ⟨h2,h1⟩] at href
     have hin:=hoin to href
     obtain⟨q,rfl⟩: ∃ q:Nat,to=q:=⟨to.toNat,by omega⟩
     have hsh:=fun A=>jia (w0:=w0) (F:=A) ok hR (s:=q) (by omega)
     have hge:((q:Nat):Int)≥0:=by omega
     rw[href];refine zaH ?_;refine zg7 ?_;refine zac ?_;refine zA ?_;refine zak ?_;refine za9 fun T hT=>?_;refine(CallV.part (CallV.fn (hsh _)) (by first|exact ja|(simp only[js,seenH_app];exact ja))).mono ?_;rintro _ _ ⟨rfl,k',kok,kto,kR,rfl⟩;refine ze ?_;clear hT T;refine zR ?_;exact KE.meet ⟨k'⟩ jc (by first|exact ja|(simp only[js,seenH_app];exact ja)) ⟨kok,kto,kR⟩
    ·rw[if_neg (by rintro⟨_,h⟩;exact h1 h)] at href
     have hge: ¬to≥0:=h1
     rw[href];refine zaH ?_;refine zg7 ?_;refine zbS ?_;refine zA ?_;refine zat ?_;exact zsw
   ·rw[if_neg (by rintro⟨h,_⟩;exact h2 h)] at href;rw[href];refine zaH ?_;refine zC ?_;refine zb1 ?_;refine zat ?_;exact zsw
  ·rintro⟨k1⟩ ⟨kok,kto,kR⟩;dsimp only at kok kto kR⊢
   obtain⟨h1s,h1r,h1a,h1t⟩:=jfN (g:=B.p.g) (long:=k.g.ring.length) (m:=m) o
   have hh1:k1.hs[i]?=some ⟨(s:Nat),hfi,true⟩:=by rw[kR.hs,h1s];exact hmh
   have ho1:=kok.o
   have okc:=kok.c
   have hil1:=jv hh1
   have hslc:s<k1.c.l.length:=by rw[kok.n];exact hsb
   have hrs:=jke okp.g hsb W.x
   have hzb:=ji2 okp.g hsb
   rw[hya,hrnd] at hrs
   have hfb2:hfi≤64:=by rcases hfb with e|e<;>omega
   have ho2:oOk jbf (k1.hs.set i ⟨(s:Nat),hfi+1,true⟩) k1.o:=ho1.set _ _
   have he2:(k1.hs.set i (⟨(s:Nat),hfi+1,true⟩:jaw))[i]?=some ⟨(s:Nat),hfi+1,true⟩:=List.getElem?_set_self hil1
   rw[←kto.o,←kto.n,←kto.b];simp only[js,seenH_app]
   skip
   refine zZ ?_;refine zbW ?_;refine zja ?_;refine zhM ?_;refine zqm ?_;refine zbW ?_;refine zja ?_;refine KL.eN (Eff.stSl (j:=1) (x1:=(⟨(s:Nat),hfi+1,true⟩:jaw)) rfl rfl rfl rfl jj ho1 hh1 rfl rfl) ?_;rintro _ _ rfl;refine zR ?_
   rcases hcond with⟨hc1,hc2⟩|⟨hc1,hc2⟩
   ·by_cases hlt:hfi+1<rn
    ·have hge: ¬hfi+1≥hr:=by omega
     rw[if_pos hlt] at hsc;refine zbC ?_;refine zqA ?_;refine zo ?_;refine zfK ?_;refine zo ?_;refine zii ?_;refine zl7 ?_;refine ze0 ?_;refine zqj ?_;refine zbV ?_;refine KD.y0 rfl rfl rfl rfl (Val.isF (Val.geq rfl rfl) jO) ?_;refine zbr ?_;refine zgP ?_;refine zm ?_;exact KE.fin (H':=jt {k1 with hs:=k1.hs.set i ⟨(s:Nat),hfi+1,true⟩} B.p++(planH B.p++(seenH B T N++F))) je rfl jd (by simp only[js,seenH_app,List.length_set];exact ja)
      ⟨rfl,_,{k1 with hs:=k1.hs.set i ⟨(s:Nat),hfi+1,true⟩},hsc,⟨kok.c,kok.g,kok.n,ho2,by simpa using kok.hs⟩,⟨⟨kto.b,kto.bb,kto.tb,kto.nb,by show(k1.hs.set i _).length=_;rw [List.length_set];exact kto.n,kto.l⟩,kto.f,kto.cb,kto.gb,kto.o⟩,
       ⟨kR.C,kR.G,by show k1.hs.set i _=_;rw [kR.hs,h1s],kR.root,kR.act,kR.steps⟩,by simp only[js,seenH_app]⟩
    ·have hge:hfi+1≥hr:=by omega
     rw[if_neg hlt] at hsc;refine zbC ?_;refine zqA ?_;refine zo ?_;refine zfK ?_;refine zo ?_;refine zii ?_;refine zl7 ?_;refine ze0 ?_;refine zqj ?_;refine zbV ?_;refine KD.y0 rfl rfl rfl rfl (Val.isT (Val.geq rfl rfl) jO) ?_;refine zbr ?_;refine KE.next (K.condT rfl (K.seq ?_));refine zow ?_;refine zaW ?_;refine zd7 ?_;refine zfn ?_;refine zi9 ?_;refine zk fun T hT=>?_;refine(CallV.part (CallV.fn (jhW okc hslc)) ja).mono ?_;rintro _ _ ⟨rfl,c',kc,cb,cf,cc,rfl⟩;refine zi ?_;clear hT T;refine zam ?_;refine zb9 ?_;refine zZ ?_;refine zbb ?_;refine zbW ?_;refine KL.eN (Eff.stSlA (x1:=jaj) rfl rfl rfl rfl jj ho2 he2) ?_;rintro _ _ rfl;refine zR ?_;rw[List.set_set];refine zdf ?_;rw[←cb]
     have hcn:c'.l.length=B.p.g.slots:=by have:=congrArg List.length cc;rw [jbD,List.length_set,jbD,kok.n] at this;exact this
     exact KE.fin (H':=jt {k1 with c:=c',hs:=k1.hs.set i jaj} B.p++(planH B.p++(seenH B T N++F))) je rfl jd (by simp only[js,seenH_app,List.length_set];exact ja)
      ⟨rfl,_,{k1 with c:=c',hs:=k1.hs.set i jaj},hsc,⟨kc,kok.g,hcn,kok.o.set _ _,by simpa using kok.hs⟩,⟨⟨kto.b,kto.bb,kto.tb,kto.nb,by show(k1.hs.set i jaj).length=_;rw [List.length_set];exact kto.n,kto.l⟩,cf.trans kto.f,cb.trans kto.cb,kto.gb,kto.o⟩,
       ⟨by show tiC c'=_;rw [cc,kR.C],kR.G,by show k1.hs.set i jaj=_;rw [kR.hs,h1s],kR.root,kR.act,kR.steps⟩,by simp only[js,seenH_app]⟩
   ·have hlt: ¬hfi+1<rn:=by omega
    rw[if_neg hlt] at hsc;refine zbC ?_;refine zqA ?_;refine zo ?_;refine zkS ?_;refine zfl ?_;refine zgk ?_;refine zbD ?_;refine zam ?_;refine KE.next (K.condT rfl (K.seq ?_));refine zow ?_;refine zaW ?_;refine zd7 ?_;refine zfn ?_;refine zi9 ?_;refine zk fun T hT=>?_;refine(CallV.part (CallV.fn (jhW okc hslc)) ja).mono ?_;rintro _ _ ⟨rfl,c',kc,cb,cf,cc,rfl⟩;refine zi ?_;clear hT T;refine zam ?_;refine zb9 ?_;refine zZ ?_;refine zbb ?_;refine zbW ?_;refine KL.eN (Eff.stSlA (x1:=jaj) rfl rfl rfl rfl jj ho2 he2) ?_;rintro _ _ rfl;refine zR ?_;rw[List.set_set];refine zdf ?_;rw[←cb]
    have hcn:c'.l.length=B.p.g.slots:=by have:=congrArg List.length cc;rw [jbD,List.length_set,jbD,kok.n] at this;exact this
    exact KE.fin (H':=jt {k1 with c:=c',hs:=k1.hs.set i jaj} B.p++(planH B.p++(seenH B T N++F))) je rfl jd (by simp only[js,seenH_app,List.length_set];exact ja)
     ⟨rfl,_,{k1 with c:=c',hs:=k1.hs.set i jaj},hsc,⟨kc,kok.g,hcn,kok.o.set _ _,by simpa using kok.hs⟩,⟨⟨kto.b,kto.bb,kto.tb,kto.nb,by show(k1.hs.set i jaj).length=_;rw [List.length_set];exact kto.n,kto.l⟩,cf.trans kto.f,cb.trans kto.cb,kto.gb,kto.o⟩,
      ⟨by show tiC c'=_;rw [cc,kR.C],kR.G,by show k1.hs.set i jaj=_;rw [kR.hs,h1s],kR.root,kR.act,kR.steps⟩,by simp only[js,seenH_app]⟩
end
set_option maxRecDepth 10000
structure StB where
 b:Nat
section
variable {w0 : World} {F : jb} {k : MkM} {B : BoM} {T : TbM} {N : PiM} {W : MwP} {m : MaP}
def jby (k:MkM) (B:BoM) (T:TbM) (N:PiM) (F:jb) (m:MaP) (o:Option MaP) (r:Value) (H':jb):Prop:=
 r= .bool o.isSome∧ ∃ k',MkOk k' B.p∧MkTo k k'∧MkR k' B.p (o.getD m)∧H'=jt k' B.p++(planH B.p++(seenH B T N++F))
set_option maxHeartbeats 4000000 in
theorem mkStep1_K {i:Nat} (hG:ji w0) (hp:MpR k B T N W) (ok:MkOk k B.p) (hR:MkR k B.p m) (hm:jL B.p.g k.g.ring.length W m) (hst:m.steps≤1000000000) (hact:k.act=true) (hil:i<k.hs.length):
  Call Tryz.prog w0 147 [.pointer (some ⟨k.b,0,none⟩), .int .i64 (i:Nat), .int .u8 1] (jt k B.p++(planH B.p++(seenH B T N++F))) (jby k B T N F m ((jay B.p.g k.g.ring.length W m i 1).map upM)):=by
 have okp:=hp.bo.p
 have ho:=ok.o
 obtain⟨h,hkh⟩:=jh hil
 have hmh:m.hs[i]?=some h:=by rw[←hR.hs];exact hkh
 have hih:i<m.hs.length:=jv hmh
 have hac:=fun A=>jeu (w0:=w0) (F:=A) (k:=k) (p:=B.p)
 simp only[hact] at hac
 have hge: ¬((i:Nat):Int)≥(k.hs.length:Nat):=by omega
 have hstp: ∀ m1:MaP,jay B.p.g k.g.ring.length W m i 1=some m1→m1.steps≤1000000000:=fun m1 h=>by
  have:=(jf1 okp.g hm hih h).2.2.1
  omega
 unfold jby
 have hmc:jay B.p.g k.g.ring.length W m i 1=jb5 B.p.g k.g.ring.length W m:=rfl
 rw[hmc];refine zoA ?_;refine zhu ?_;refine zio ?_;refine zeN ?_;refine zhB ?_;refine zct ?_;refine zl ?_;refine zcS ?_;refine zh9 ?_;refine zfw ?_;refine zax ?_;refine K.cutT (σ:=StB) [(0,_)] jc (fun s kp_=>(7, .pointer (some (adr (oV k.o k.hs.length) (i*jbf.sz))))::(8, .pointer (some ⟨s.b,0,none⟩))::kp_) (fun s=>jt k B.p++(planH B.p++(seenH B T N++((s.b,cells [.bool false, .bool true, .func (.func 235) #[] #[]] 283)::F)))) (fun s=>True) ?_ ?_
 ·skip
  refine zJ ?_;refine zoB ?_;refine zg6 ?_;refine zoC ?_;refine zeK ?_;refine zoD ?_;refine zP ?_;refine KD.fork2 (x:=6) (y:=9) (o1:=[(8,1),(9,2),(10,0),(11,2)]) (o2:=[(6,2),(8,0),(10,0),(11,2)]) (by kernel_rfl) rfl rfl (by kernel_rfl) (by kernel_rfl) ?_ ?_
  ·refine zT fun T hT=>?_;refine zhY ?_;rintro _ _ ⟨rfl,rfl⟩;unfold jdd;refine zi ?_;clear hT T;refine zoE ?_;refine ze4 ?_;intro b8;exact ziL
  ·(refine jP.e rfl (Eff.alloc rfl) ?_;rintro _ _ ⟨b8,rfl,rfl⟩;refine⟨ja,?_⟩)
   refine zk fun T hT=>?_;refine zhY ?_;rintro _ _ ⟨rfl,rfl⟩;unfold jdd;refine zi ?_;clear hT T;refine zoF ?_;exact ziL
 ·rintro⟨b8⟩ _;dsimp only
  have hsk:=fun A=>mkseek_K (w0:=w0) (F:=A) (hv:= .pointer (some (adr (oV k.o k.hs.length) (i*jbf.sz)))) hp ok hR hm
  cases hrm:jb5 B.p.g k.g.ring.length W m with
  |none=>
   simp only[hrm,Option.isSome,Option.getD,Option.map] at hsk⊢;refine zlT ?_;refine ziM ?_;refine KD.v0 rfl rfl (Val.notT rfl) ?_;refine zfl ?_;refine zgk ?_;refine zcr ?_;refine zo ?_;refine zl8 ?_;refine zbV ?_;refine zaZ ?_;refine zdR fun T hT=>?_;refine zsx ?_;rintro _ _ ⟨rfl,k',kok,kto,kR,rfl⟩;refine zi ?_;clear hT T;refine zon ?_;refine zbr ?_;refine zhP ?_;refine zaE ?_;exact KE.fin (H':=jt k' B.p++(planH B.p++(seenH B T N++F))) je rfl jd (by first|exact ja|(simp only[js,seenH_app];exact ja)) ⟨rfl,k',kok,kto,kR,by simp only[js,seenH_app]⟩
  |some m1=>
   have hst1:=hstp m1 (hmc.trans hrm)
   simp only[hrm,Option.isSome,Option.getD,Option.map] at hsk⊢;refine zlT ?_;refine ziM ?_;refine KD.v0 rfl rfl (Val.notT rfl) ?_;refine zfl ?_;refine zgk ?_;refine zcr ?_;refine zo ?_;refine zl8 ?_;refine zbV ?_;refine zaZ ?_;refine zdR fun T hT=>?_;refine zsx ?_;rintro _ _ ⟨rfl,k',kok,kto,kR,rfl⟩;refine zi ?_;clear hT T;rw[←kto.b]
   have e5:((k'.steps:Nat):Int)+1=((k'.steps+1:Nat):Int):=by omega
   have hks:k'.steps≤1000000000:=by rw[kR.steps];exact hst1
   simp only[js,seenH_app];refine zl9 ?_;refine zbr ?_;refine zgP ?_;refine zF ?_;refine zbE ?_;refine zw ?_;refine zfk ?_;refine zbE ?_;refine zgn ?_;rw[e5];exact KE.fin (H':=jt {k' with steps:=k'.steps+1} B.p++(planH B.p++(seenH B T N++F))) je rfl jd (by simp only[js,seenH_app];exact ja)
    ⟨rfl,{k' with steps:=k'.steps+1},⟨kok.c,kok.g,kok.n,kok.o,kok.hs⟩,⟨⟨kto.b,kto.bb,kto.tb,kto.nb,kto.n,kto.l⟩,kto.f,kto.cb,kto.gb,kto.o⟩,⟨kR.C,kR.G,kR.hs,kR.root,kR.act,by show k'.steps+1=_+1;rw [kR.steps]⟩,by simp only[js,seenH_app]⟩
set_option maxHeartbeats 4000000 in
theorem mkStep2_K {i:Nat} (hG:ji w0) (hp:MpR k B T N W) (ok:MkOk k B.p) (hR:MkR k B.p m) (hm:jL B.p.g k.g.ring.length W m) (hst:m.steps≤1000000000) (hact:k.act=true) (hil:i<k.hs.length):
  Call Tryz.prog w0 147 [.pointer (some ⟨k.b,0,none⟩), .int .i64 (i:Nat), .int .u8 2] (jt k B.p++(planH B.p++(seenH B T N++F))) (jby k B T N F m ((jay B.p.g k.g.ring.length W m i 2).map upM)):=by
 have okp:=hp.bo.p
 have ho:=ok.o
 obtain⟨h,hkh⟩:=jh hil
 have hmh:m.hs[i]?=some h:=by rw[←hR.hs];exact hkh
 have hih:i<m.hs.length:=jv hmh
 have hac:=fun A=>jeu (w0:=w0) (F:=A) (k:=k) (p:=B.p)
 simp only[hact] at hac
 have hge: ¬((i:Nat):Int)≥(k.hs.length:Nat):=by omega
 have hstp: ∀ m1:MaP,jay B.p.g k.g.ring.length W m i 2=some m1→m1.steps≤1000000000:=fun m1 h=>by
  have:=(jf1 okp.g hm hih h).2.2.1
  omega
 unfold jby
 have hmc:jay B.p.g k.g.ring.length W m i 2=jcz m i:=rfl
 rw[hmc];refine zoA ?_;refine zhu ?_;refine zio ?_;refine zeN ?_;refine zhB ?_;refine zct ?_;refine zl ?_;refine zcS ?_;refine zh9 ?_;refine zfw ?_;refine zax ?_;refine K.cutT (σ:=StB) [(0,_)] jc (fun s kp_=>(7, .pointer (some (adr (oV k.o k.hs.length) (i*jbf.sz))))::(8, .pointer (some ⟨s.b,0,none⟩))::kp_) (fun s=>jt k B.p++(planH B.p++(seenH B T N++((s.b,cells [.bool false, .bool false, .func (.func 236) #[] #[]] 283)::F)))) (fun s=>True) ?_ ?_
 ·skip
  refine zJ ?_;refine zoB ?_;refine zg6 ?_;refine zoC ?_;refine zeK ?_;refine zoD ?_;refine zP ?_;refine KD.fork2 (x:=6) (y:=9) (o1:=[(8,1),(9,2),(10,0),(11,2)]) (o2:=[(6,2),(8,0),(10,0),(11,2)]) (by kernel_rfl) rfl rfl (by kernel_rfl) (by kernel_rfl) ?_ ?_
  ·refine zT fun T hT=>?_;refine zhY ?_;rintro _ _ ⟨rfl,rfl⟩;unfold jdd;refine zi ?_;clear hT T;refine zoE ?_;refine ze4 ?_;intro b8;exact ziL
  ·(refine jP.e rfl (Eff.alloc rfl) ?_;rintro _ _ ⟨b8,rfl,rfl⟩;refine⟨ja,?_⟩)
   refine zk fun T hT=>?_;refine zhY ?_;rintro _ _ ⟨rfl,rfl⟩;unfold jdd;refine zi ?_;clear hT T;refine zoF ?_;exact ziL
 ·rintro⟨b8⟩ _;dsimp only
  obtain⟨hsl,hfi,hi⟩:=h
  cases hi with
  |true=>
   have hmn:jcz m i=none:=by unfold jcz;rw [jbR hmh];rfl
   rw[hmn];simp only[Option.isSome,Option.getD,Option.map];refine zj8 ?_;refine ziM ?_;refine zi1 ?_;refine zhk ?_;refine zkT ?_;refine ze0 ?_;refine zkU ?_;refine zbD ?_;refine zfl ?_;refine ziV ?_;refine zbD ?_;refine zcV ?_;refine zaE ?_;exact zkP
  |false=>
   refine zj8 ?_;refine ziM ?_;refine zi1 ?_;refine zhk ?_;refine zkT ?_;refine ze0 ?_;refine zkU ?_;refine zbD ?_;refine zo ?_;refine zl8 ?_;refine zbV ?_;refine zaZ ?_;refine zdR fun T hT=>?_;refine(CallV.part (CallV.fn (mktake_K ok hR hil)) (by first|exact ja|(simp only[js,seenH_app];exact ja))).mono ?_;rintro _ _ (⟨hq,rfl,rfl⟩|⟨s,q,k',hq,rfl,kok,kto,kR,rfl⟩)
   ·have hmn:jcz m i=none:=by unfold jcz;rw [jbR hmh,if_neg (by simp),hq]
    refine zi ?_;clear hT T;rw[hmn];simp only[Option.isSome,Option.getD,Option.map];refine zon ?_;refine zbr ?_;refine zhP ?_;refine zaE ?_;exact zkP
   ·have hmn:jcz m i=some {m with G:={m.G with q:=q},hs:=m.hs.set i ⟨(s:Nat),0,true⟩}:=by unfold jcz;rw [jbR hmh,if_neg (by simp),hq]
    have hst1:=hstp _ (hmc.trans hmn)
    refine zi ?_;clear hT T;rw[hmn];simp only[Option.isSome,Option.getD,Option.map];rw[←kto.b]
    have e5:((k'.steps:Nat):Int)+1=((k'.steps+1:Nat):Int):=by omega
    have hks:k'.steps≤1000000000:=by rw[kR.steps];exact hst1
    simp only[js];refine zl9 ?_;refine zbr ?_;refine zgP ?_;refine zF ?_;refine zbE ?_;refine zw ?_;refine zfk ?_;refine zbE ?_;refine zgn ?_;rw[e5];exact KE.fin (H':=jt {k' with steps:=k'.steps+1} B.p++(planH B.p++(seenH B T N++F))) je rfl jd (by simp only[js,seenH_app];exact ja)
     ⟨rfl,{k' with steps:=k'.steps+1},⟨kok.c,kok.g,kok.n,kok.o,kok.hs⟩,⟨⟨kto.b,kto.bb,kto.tb,kto.nb,kto.n,kto.l⟩,kto.f,kto.cb,kto.gb,kto.o⟩,⟨kR.C,kR.G,kR.hs,kR.root,kR.act,by show k'.steps+1=_+1;rw [kR.steps]⟩,by simp only[js,seenH_app]⟩
set_option maxHeartbeats 4000000 in
theorem mkStep3_K {i:Nat} (hG:ji w0) (hp:MpR k B T N W) (ok:MkOk k B.p) (hR:MkR k B.p m) (hm:jL B.p.g k.g.ring.length W m) (hst:m.steps≤1000000000) (hact:k.act=true) (hil:i<k.hs.length):
  Call Tryz.prog w0 147 [.pointer (some ⟨k.b,0,none⟩), .int .i64 (i:Nat), .int .u8 3] (jt k B.p++(planH B.p++(seenH B T N++F))) (jby k B T N F m ((jay B.p.g k.g.ring.length W m i 3).map upM)):=by
 have okp:=hp.bo.p
 have ho:=ok.o
 obtain⟨h,hkh⟩:=jh hil
 have hmh:m.hs[i]?=some h:=by rw[←hR.hs];exact hkh
 have hih:i<m.hs.length:=jv hmh
 have hac:=fun A=>jeu (w0:=w0) (F:=A) (k:=k) (p:=B.p)
 simp only[hact] at hac
 have hge: ¬((i:Nat):Int)≥(k.hs.length:Nat):=by omega
 have hstp: ∀ m1:MaP,jay B.p.g k.g.ring.length W m i 3=some m1→m1.steps≤1000000000:=fun m1 h=>by
  have:=(jf1 okp.g hm hih h).2.2.1
  omega
 unfold jby
 have hmc:jay B.p.g k.g.ring.length W m i 3=scanM B.p.g k.g.ring.length W m i:=rfl
 rw[hmc];refine zoA ?_;refine zhu ?_;refine zio ?_;refine zeN ?_;refine zhB ?_;refine zct ?_;refine zl ?_;refine zcS ?_;refine zh9 ?_;refine zfw ?_;refine zax ?_;refine K.cutT (σ:=StB) [(0,_)] jc (fun s kp_=>(7, .pointer (some (adr (oV k.o k.hs.length) (i*jbf.sz))))::(8, .pointer (some ⟨s.b,0,none⟩))::kp_) (fun s=>jt k B.p++(planH B.p++(seenH B T N++((s.b,cells [.bool true, .bool false, .func (.func 239) #[] #[]] 283)::F)))) (fun s=>True) ?_ ?_
 ·skip
  refine zJ ?_;refine zoB ?_;refine zg6 ?_;refine zoC ?_;refine zeK ?_;refine zoD ?_;refine zP ?_;refine KD.fork2 (x:=6) (y:=9) (o1:=[(8,1),(9,2),(10,0),(11,2)]) (o2:=[(6,2),(8,0),(10,0),(11,2)]) (by kernel_rfl) rfl rfl (by kernel_rfl) (by kernel_rfl) ?_ ?_
  ·refine zT fun T hT=>?_;refine zhY ?_;rintro _ _ ⟨rfl,rfl⟩;unfold jdd;refine zi ?_;clear hT T;refine zoE ?_;refine ze4 ?_;intro b8;exact ziL
  ·(refine jP.e rfl (Eff.alloc rfl) ?_;rintro _ _ ⟨b8,rfl,rfl⟩;refine⟨ja,?_⟩)
   refine zk fun T hT=>?_;refine zhY ?_;rintro _ _ ⟨rfl,rfl⟩;unfold jdd;refine zi ?_;clear hT T;refine zoF ?_;exact ziL
 ·rintro⟨b8⟩ _;dsimp only
  obtain⟨hsl,hfi,hi⟩:=h
  cases hi with
  |false=>
   have hmn:scanM B.p.g k.g.ring.length W m i=none:=by unfold scanM;rw [jbR hmh];rfl
   rw[hmn];simp only[Option.isSome,Option.getD,Option.map];refine zj8 ?_;refine ziM ?_;refine zi1 ?_;refine zhk ?_;refine zkT ?_;refine ze0 ?_;refine zkU ?_;refine zbD ?_;refine zfl ?_;refine ziV ?_;refine zbD ?_;refine zcV ?_;refine zaE ?_;exact zkP
  |true=>
   refine zj8 ?_;refine ziM ?_;refine zi1 ?_;refine zhk ?_;refine zkT ?_;refine ze0 ?_;refine zkU ?_;refine zbD ?_;refine zo ?_;refine zl8 ?_;refine zbV ?_;refine zaZ ?_;refine zdR fun T hT=>?_;refine(CallV.part (CallV.fn (mkscan_K hG hp ok hR hm hkh rfl)) (by first|exact ja|(simp only[js,seenH_app];exact ja))).mono ?_;rintro _ _ ⟨rfl,m1,k',hmn,kok,kto,kR,rfl⟩
   have hst1:=hstp _ (hmc.trans hmn)
   refine zi ?_;clear hT T;rw[hmn];simp only[Option.isSome,Option.getD,Option.map];rw[←kto.b]
   have e5:((k'.steps:Nat):Int)+1=((k'.steps+1:Nat):Int):=by omega
   have hks:k'.steps≤1000000000:=by rw[kR.steps];exact hst1
   simp only[js,seenH_app];refine zl9 ?_;refine zbr ?_;refine zgP ?_;refine zF ?_;refine zbE ?_;refine zw ?_;refine zfk ?_;refine zbE ?_;refine zgn ?_;rw[e5];exact KE.fin (H':=jt {k' with steps:=k'.steps+1} B.p++(planH B.p++(seenH B T N++F))) je rfl jd (by simp only[js,seenH_app];exact ja)
    ⟨rfl,{k' with steps:=k'.steps+1},⟨kok.c,kok.g,kok.n,kok.o,kok.hs⟩,⟨⟨kto.b,kto.bb,kto.tb,kto.nb,kto.n,kto.l⟩,kto.f,kto.cb,kto.gb,kto.o⟩,⟨kR.C,kR.G,kR.hs,kR.root,kR.act,by show k'.steps+1=_+1;rw [kR.steps]⟩,by simp only[js,seenH_app]⟩
set_option maxHeartbeats 4000000 in
theorem mkStep4_K {i:Nat} (hG:ji w0) (hp:MpR k B T N W) (ok:MkOk k B.p) (hR:MkR k B.p m) (hm:jL B.p.g k.g.ring.length W m) (hst:m.steps≤1000000000) (hact:k.act=true) (hil:i<k.hs.length):
  Call Tryz.prog w0 147 [.pointer (some ⟨k.b,0,none⟩), .int .i64 (i:Nat), .int .u8 4] (jt k B.p++(planH B.p++(seenH B T N++F))) (jby k B T N F m ((jay B.p.g k.g.ring.length W m i 4).map upM)):=by
 have okp:=hp.bo.p
 have ho:=ok.o
 obtain⟨h,hkh⟩:=jh hil
 have hmh:m.hs[i]?=some h:=by rw[←hR.hs];exact hkh
 have hih:i<m.hs.length:=jv hmh
 have hac:=fun A=>jeu (w0:=w0) (F:=A) (k:=k) (p:=B.p)
 simp only[hact] at hac
 have hge: ¬((i:Nat):Int)≥(k.hs.length:Nat):=by omega
 have hstp: ∀ m1:MaP,jay B.p.g k.g.ring.length W m i 4=some m1→m1.steps≤1000000000:=fun m1 h=>by
  have:=(jf1 okp.g hm hih h).2.2.1
  omega
 unfold jby
 have hmc:jay B.p.g k.g.ring.length W m i 4=jbI B.p.g m i:=rfl
 rw[hmc];refine zoA ?_;refine zhu ?_;refine zio ?_;refine zeN ?_;refine zhB ?_;refine zct ?_;refine zl ?_;refine zcS ?_;refine zh9 ?_;refine zfw ?_;refine zax ?_;refine K.cutT (σ:=StB) [(0,_)] jc (fun s kp_=>(7, .pointer (some (adr (oV k.o k.hs.length) (i*jbf.sz))))::(8, .pointer (some ⟨s.b,0,none⟩))::kp_) (fun s=>jt k B.p++(planH B.p++(seenH B T N++((s.b,cells [.bool false, .bool false, .func (.func 240) #[] #[]] 283)::F)))) (fun s=>True) ?_ ?_
 ·skip
  refine zJ ?_;refine zoB ?_;refine zg6 ?_;refine zoC ?_;refine zeK ?_;refine zoD ?_;refine zP ?_;refine KD.fork2 (x:=6) (y:=9) (o1:=[(8,1),(9,2),(10,0),(11,2)]) (o2:=[(6,2),(8,0),(10,0),(11,2)]) (by kernel_rfl) rfl rfl (by kernel_rfl) (by kernel_rfl) ?_ ?_
  ·refine zT fun T hT=>?_;refine zhY ?_;rintro _ _ ⟨rfl,rfl⟩;unfold jdd;refine zi ?_;clear hT T;refine zoE ?_;refine ze4 ?_;intro b8;exact ziL
  ·(refine jP.e rfl (Eff.alloc rfl) ?_;rintro _ _ ⟨b8,rfl,rfl⟩;refine⟨ja,?_⟩)
   refine zk fun T hT=>?_;refine zhY ?_;rintro _ _ ⟨rfl,rfl⟩;unfold jdd;refine zi ?_;clear hT T;refine zoF ?_;exact ziL
 ·rintro⟨b8⟩ _;dsimp only
  obtain⟨hsl,hfi,hi⟩:=h
  cases hi with
  |true=>
   have hmn:jbI B.p.g m i=none:=by unfold jbI;rw [jbR hmh];rfl
   rw[hmn];simp only[Option.isSome,Option.getD,Option.map];refine zj8 ?_;refine ziM ?_;refine zi1 ?_;refine zhk ?_;refine zkT ?_;refine ze0 ?_;refine zkU ?_;refine zbD ?_;refine zfl ?_;refine ziV ?_;refine zbD ?_;refine zcV ?_;refine zaE ?_;exact zkP
  |false=>
   refine zj8 ?_;refine ziM ?_;refine zi1 ?_;refine zhk ?_;refine zkT ?_;refine ze0 ?_;refine zkU ?_;refine zbD ?_;refine zo ?_;refine zl8 ?_;refine zbV ?_;refine zaZ ?_;refine zdR fun T hT=>?_;refine(CallV.part (CallV.fn (mkwalk_K hG ok hR hm hil)) (by first|exact ja|(simp only[js,seenH_app];exact ja))).mono ?_;rintro _ _ (⟨hq,rfl,rfl⟩|⟨o,G',k',hq,rfl,kok,kto,kR,rfl⟩)
   ·have hmn:jbI B.p.g m i=none:=walkM_no hq
    refine zi ?_;clear hT T;rw[hmn];simp only[Option.isSome,Option.getD,Option.map];refine zon ?_;refine zbr ?_;refine zhP ?_;refine zaE ?_;exact zkP
   ·have hmn:jbI B.p.g m i=some (wtM m i o G'):=jms (by rw[jbR hmh]) hq
    have hst1:=hstp _ (hmc.trans hmn)
    refine zi ?_;clear hT T;rw[hmn];simp only[Option.isSome,Option.getD,Option.map];rw[←kto.b]
    have e5:((k'.steps:Nat):Int)+1=((k'.steps+1:Nat):Int):=by omega
    have hks:k'.steps≤1000000000:=by rw[kR.steps];exact hst1
    simp only[js];refine zl9 ?_;refine zbr ?_;refine zgP ?_;refine zF ?_;refine zbE ?_;refine zw ?_;refine zfk ?_;refine zbE ?_;refine zgn ?_;rw[e5];exact KE.fin (H':=jt {k' with steps:=k'.steps+1} B.p++(planH B.p++(seenH B T N++F))) je rfl jd (by simp only[js,seenH_app];exact ja)
     ⟨rfl,{k' with steps:=k'.steps+1},⟨kok.c,kok.g,kok.n,kok.o,kok.hs⟩,⟨⟨kto.b,kto.bb,kto.tb,kto.nb,kto.n,kto.l⟩,kto.f,kto.cb,kto.gb,kto.o⟩,⟨kR.C,kR.G,kR.hs,kR.root,kR.act,by show k'.steps+1=_+1;rw [kR.steps]⟩,by simp only[js,seenH_app]⟩
theorem mkStep_no {hd:Int} {u:Nat} (ok:MkOk k B.p) (hR:MkR k B.p m) (hu:u<256) (hno: ¬(k.act=true∧0≤hd∧hd<(k.hs.length:Nat)∧1≤u∧u≤4)):
  Call Tryz.prog w0 147 [.pointer (some ⟨k.b,0,none⟩), .int .i64 hd, .int .u8 (u:Nat)] (jt k B.p++(planH B.p++(seenH B T N++F))) (jby k B T N F m none):=by
 have ho:=ok.o
 have hac:=fun A=>jeu (w0:=w0) (F:=A) (k:=k) (p:=B.p)
 unfold jby;simp only[Option.isSome,Option.getD]
 cases ha:k.act with
 |false=>
  simp only[ha] at hac;refine zma ?_;refine zhu ?_;simp only[js,seenH_app];refine zag ?_;refine zcH ?_;refine zdJ ?_;refine zA ?_;refine zcH ?_;refine zcN ?_;refine zgv ?_;exact zmb
 |true=>
  simp only[ha] at hac
  have hno':hd<0∨(¬hd<0∧hd≥(k.hs.length:Nat))∨(¬hd<0∧ ¬hd≥(k.hs.length:Nat)∧((u:Nat):Int)<1)∨(¬hd<0∧ ¬hd≥(k.hs.length:Nat)∧ ¬((u:Nat):Int)<1∧((u:Nat):Int)>4):=by
   grind
  rcases hno' with c1|⟨c1,c2⟩|⟨c1,c2,c3⟩|⟨c1,c2,c3,c4⟩
  ·refine zma ?_;refine zhu ?_;refine zio ?_;refine zgq ?_;refine zdJ ?_;refine zA ?_;refine zcH ?_;refine zcN ?_;refine zgv ?_;exact zmb
  ·refine zma ?_;refine zhu ?_;refine zio ?_;refine zeN ?_;refine zhB ?_;refine ze9 ?_;refine zac ?_;refine zx ?_;refine zcH ?_;refine zcN ?_;refine zgv ?_;exact zmb
  ·refine zma ?_;refine zhu ?_;refine zio ?_;refine zeN ?_;refine zhB ?_;refine zfo ?_;refine zgq ?_;refine zcN ?_;refine zgv ?_;exact zmb
  ·refine zma ?_;refine zhu ?_;refine zio ?_;refine zeN ?_;refine zhB ?_;refine zfo ?_;refine zh9 ?_;refine zX ?_;refine zaG ?_;refine za8 ?_;refine zaE ?_;exact zmb
theorem mkStep_K {hd:Int} {u:Nat} (hG:ji w0) (hp:MpR k B T N W) (ok:MkOk k B.p) (hR:MkR k B.p m) (hm:jL B.p.g k.g.ring.length W m) (hst:m.steps≤1000000000) (hu:u<256):
  Call Tryz.prog w0 147 [.pointer (some ⟨k.b,0,none⟩), .int .i64 hd, .int .u8 (u:Nat)] (jt k B.p++(planH B.p++(seenH B T N++F))) (jby k B T N F m (j0 B.p.g k.g.ring.length W m hd (u:Nat))):=by
 have hact:=hR.act
 have hhs:=hR.hs
 by_cases hy:k.act=true∧0≤hd∧hd<(k.hs.length:Nat)∧1≤u∧u≤4
 ·obtain⟨h1,h2,h3,h4,h5⟩:=hy
  obtain⟨i,rfl⟩: ∃ i:Nat,hd=i:=⟨hd.toNat,by omega⟩
  have hs: ∀ q:Int,j0 B.p.g k.g.ring.length W m (i:Nat) q=(jay B.p.g k.g.ring.length W m i q).map upM:=fun q=>by
   grind[j0]
  rw[hs]
  rcases(show u=1∨u=2∨u=3∨u=4 by omega) with rfl|rfl|rfl|rfl
  ·exact mkStep1_K hG hp ok hR hm hst h1 (by omega)
  ·exact mkStep2_K hG hp ok hR hm hst h1 (by omega)
  ·exact mkStep3_K hG hp ok hR hm hst h1 (by omega)
  ·exact mkStep4_K hG hp ok hR hm hst h1 (by omega)
 ·have hs:j0 B.p.g k.g.ring.length W m hd (u:Nat)=none:=by
   grind[j0,jay]
  rw[hs];exact mkStep_no ok hR hu hy
end
end Go.Proofs.YtebiafomiemgbaaGreatDoor.Sw
