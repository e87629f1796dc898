/-The walker and the contracts that the law needs,part 33. -/
import Derived.Test.YtebiafomiemgbaaGreatDoorJ28
import Derived.Test.YtebiafomiemgbaaGreatDoorJ29
import Derived.Test.YtebiafomiemgbaaGreatDoorJ31
import Derived.Test.YtebiafomiemgbaaGreatDoorJ32
set_option linter.unusedVariables false set_option linter.unusedSimpArgs false set_option linter.unusedVariables false
set_option linter.unusedSimpArgs false
namespace Go.Proofs.YtebiafomiemgbaaGreatDoor.Sw
set_option maxHeartbeats 8000000
open Go.Proofs.YtebiafomiemgbaaGreatDoor renaming lo → qL, hi → qH
open Go.RowKit
set_option maxRecDepth 10000
section
variable {w0 : World} {F : jb} {k : MkM} {B : BoM} {T : TbM} {N : PiM} {W : MwP} {m : MaP}
theorem jku {hd v:Int} (hG:ji w0) (hp:MpR k B T N W) (ok:MkOk k B.p) (hR:MkR k B.p m) (hm:jL B.p.g k.g.ring.length W m) (hst:m.steps≤1000000000) (hv:0≤v∧v<256):
  Call Tryz.prog w0 147 [.pointer (some ⟨k.b,0,none⟩), .int .i64 hd, .int .u8 v] (jt k B.p++(planH B.p++(seenH B T N++F))) (jby k B T N F m (j0 B.p.g k.g.ring.length W m hd v)):=by
 obtain⟨u,rfl⟩: ∃ u:Nat,v=u:=⟨v.toNat,by omega⟩
 exact mkStep_K hG hp ok hR hm hst (by omega)
set_option maxHeartbeats 4000000 in
theorem mkHelp_K (hG:ji w0) (hp:MpR k B T N W) (ok:MkOk k B.p) (hR:MkR k B.p m) (hm:jL B.p.g k.g.ring.length W m) (hst:m.steps≤1000000000):
  Call Tryz.prog w0 148 [.pointer (some ⟨k.b,0,none⟩)] (jt k B.p++(planH B.p++(seenH B T N++F))) (jby k B T N F m (jaA B.p.g k.g.ring.length W m)):=by
 have hac:=fun A=>jeu (w0:=w0) (F:=A) (k:=k) (p:=B.p)
 have hact:=hR.act
 have hhs:=hR.hs
 have hl9:=ok.hs
 have ho:=ok.o
 have hml:m.hs.length=k.hs.length:=by rw[hhs]
 have hstep:=fun A (k':MkM) (i:Nat) (u:Int) (hu:0≤u∧u<256) (kok:MkOk k' B.p) (kto:MkTo k k') (kR:MkR k' B.p m)=>jku (w0:=w0) (F:=A) (hd:=(i:Nat)) hG (hp.to kto) kok kR (by rw[kto.l];exact hm) hst hu
 have hlen: ∀ k':MkM,MkTo k k'→k'.g.ring.length=k.g.ring.length:=fun k' h=>h.l
 unfold jby at hstep⊢
 cases ha:k.act with
 |false=>
  have hn:jaA B.p.g k.g.ring.length W m=none:=help_idle (by rw[←hact];exact ha)
  rw[hn];simp only[Option.isSome,Option.getD];simp only[ha] at hac;refine Call.enter1 (n:=33) (by kernel_rfl) Tryz.func148 rfl rfl rfl ?_;refine zbc ?_;intro b1 b2;refine zbu ?_;refine zaI ?_;refine zl3 ?_;refine zaQ ?_;refine zdB ?_;refine zaS ?_;exact KE.fin (H':=jt k B.p++(planH B.p++(seenH B T N++F))) je rfl jd (by first|exact ja|(simp only[js,seenH_app];exact ja)) ⟨rfl,k,ok,MkTo.refl k,hR,rfl⟩
 |true=>
  simp only[ha] at hac
  have hown:((k.hs.length:Nat):Int)-1=((k.hs.length-1:Nat):Int):=by omega
  obtain⟨own,hod⟩: ∃ own:Nat,own=k.hs.length-1:=⟨_,rfl⟩
  rw[←hod] at hown
  have hhm:jaA B.p.g k.g.ring.length W m=match fullM m with
   |some i=>j0 B.p.g k.g.ring.length W m (i:Nat) 3
   |none=>match j0 B.p.g k.g.ring.length W m (own:Nat) 2 with
    |some m'=>some m'
    |none=>match j0 B.p.g k.g.ring.length W m (own:Nat) 1 with
     |some m'=>some m'
     |none=>j0 B.p.g k.g.ring.length W m (own:Nat) 4:=by
   rw[hod,←hml];rfl
  refine Call.enter1 (n:=33) (by kernel_rfl) Tryz.func148 rfl rfl rfl ?_;refine zbc ?_;intro b1 b2;refine zbu ?_;refine zaI ?_;refine zl3 ?_;refine zy ?_;refine za6 ?_;refine zaI ?_;refine JY jll ?_;rintro _ _ ⟨bl,rfl,rfl⟩;refine zc1 ?_;refine K.rangeFunc (lb:=[.pointer (some ⟨bl,0,none⟩)]) rfl
   (fun D G=>fullM m=none∧G=(D, .deferred (some []))::(b2,cells [.bool false] 4)::(b1,cells [.pointer (some ⟨k.b,0,none⟩)] 125)::(jt k B.p++(planH B.p++(seenH B T N++F))))
   (fun D c G=>c= .ret∧ ∃ i k',fullM m=some i∧MkOk k' B.p∧MkTo k k'∧MkR k' B.p ((j0 B.p.g k.g.ring.length W m (i:Nat) 3).getD m)∧G=(D, .deferred (some []))::(b2,cells [.bool (j0 B.p.g k.g.ring.length W m (i:Nat) 3).isSome] 4)::(b1,cells [.pointer (some ⟨k.b,0,none⟩)] 125)::(jt k' B.p++(planH B.p++(seenH B T N++F)))) ?_ ?_ ?_
  ·intro l D rc hyl
   refine(Call.part (jkt (F:=planH B.p++(seenH B T N++F)) (bl:=bl) ok hR.hs
    (fun H'=> ∃ i k',fullM m=some i∧MkOk k' B.p∧MkTo k k'∧MkR k' B.p ((j0 B.p.g k.g.ring.length W m (i:Nat) 3).getD m)∧H'=(l, .loop (rc .done (some .ret)))::((D, .deferred (some []))::(b2,cells [.bool (j0 B.p.g k.g.ring.length W m (i:Nat) 3).isSome] 4)::(b1,cells [.pointer (some ⟨k.b,0,none⟩)] 125)::(bl,cells [.pointer (some ⟨k.b,0,none⟩)] 125)::(jt k' B.p++(planH B.p++(seenH B T N++F)))))
    (A0:=(l, .loop (rc .ready none))::(D, .deferred (some []))::(b2,cells [.bool false] 4)::(b1,cells [.pointer (some ⟨k.b,0,none⟩)] 125)::[]) ?_) (by simp only[List.cons_append,List.nil_append];exact ja)).mono ?_
   ·intro i hf
    have hs3:=fun A=>hstep A k i 3 (by decide) ok (MkTo.refl k) hR
    simp only[List.cons_append,List.nil_append];refine zou ?_;refine za4 ?_;refine zlx ?_;refine K.block (K.seq (K.region ?_));refine zw ?_;refine zn ?_;refine jB (hs3 _) ja ?_;rintro _ _ ⟨rfl,k',kok,kto,kR,rfl⟩;refine zdB ?_;refine zef ?_;refine KE.part ((l, .loop (rc .busy none))::((D, .deferred (some []))::(b2,cells [.bool (j0 B.p.g k.g.ring.length W m (i:Nat) 3).isSome] 4)::(b1,cells [.pointer (some ⟨k.b,0,none⟩)] 125)::(bl,cells [.pointer (some ⟨k.b,0,none⟩)] 125)::(jt k' B.p++(planH B.p++(seenH B T N++F))))) ja ?_;exact KE.roundR jI.head ⟨rfl,i,k',hf,kok,kto,kR,rfl⟩
   ·rintro _ _ (⟨hno,rfl⟩|⟨i,k',hf,kok,kto,kR,rfl⟩)
    ·refine .inl ⟨_,?_,hno,rfl⟩;exact zlk
    ·exact .inr ⟨.ret,_,ja,rfl,i,k',hf,kok,kto,kR,rfl⟩
  ·rintro D G ⟨hf,rfl⟩;rw[hf] at hhm;dsimp only at hhm
   have hs2:=fun A=>hstep A k own 2 (by decide) ok (MkTo.refl k) hR
   rw[hhm];simp only[js,seenH_app];refine zaw ?_;refine zV ?_;refine za0 ?_;refine zbn ?_;refine zct ?_;refine zn3 ?_;refine zU ?_;rw[hown]
   cases h2:j0 B.p.g k.g.ring.length W m (own:Nat) 2 with
   |some m2=>
    simp only[h2,Option.isSome,Option.getD] at hs2⊢;refine zG ?_;refine zw ?_;refine zz fun T hT=>?_;refine zsB ?_;rintro _ _ ⟨rfl,k2,kok,kto,kR,rfl⟩;refine ze ?_;clear hT T;refine zhc ?_;refine zhc ?_;refine zdB ?_;exact KE.fin (H':=jt k2 B.p++(planH B.p++(seenH B T N++F))) je rfl jd (by first|exact ja|(simp only[js,seenH_app];exact ja)) ⟨rfl,k2,kok,kto,kR,by simp only[js,seenH_app]⟩
   |none=>
    simp only[h2,Option.isSome,Option.getD] at hs2⊢;refine zG ?_;refine zw ?_;refine zz fun T hT=>?_;refine zsB ?_;rintro _ _ ⟨rfl,k2,kok2,kto2,kR2,rfl⟩
    have hs1:=fun A=>hstep A k2 own 1 (by decide) kok2 kto2 kR2
    simp only[hlen k2 kto2,kto2.b] at hs1;refine ze ?_;clear hT T
    cases h1:j0 B.p.g k.g.ring.length W m (own:Nat) 1 with
    |some m1=>
     simp only[h1,Option.isSome,Option.getD] at hs1⊢;refine ziK ?_;refine zQ ?_;refine zu fun T hT=>?_;refine zsC ?_;rintro _ _ ⟨rfl,k1,kok,kto,kR,rfl⟩;refine ze ?_;clear hT T;refine zx ?_;refine zhc ?_;refine zdB ?_;exact KE.fin (H':=jt k1 B.p++(planH B.p++(seenH B T N++F))) je rfl jd (by first|exact ja|(simp only[js,seenH_app];exact ja)) ⟨rfl,k1,kok,kto2.trans kto,kR,by simp only[js,seenH_app]⟩
    |none=>
     simp only[h1,Option.isSome,Option.getD] at hs1⊢;refine ziK ?_;refine zQ ?_;refine zu fun T hT=>?_;refine zsC ?_;rintro _ _ ⟨rfl,k1,kok1,kto1,kR1,rfl⟩
     have kto12:=kto2.trans kto1
     have hs4:=fun A=>hstep A k1 own 4 (by decide) kok1 kto12 kR1
     simp only[hlen k1 kto12,kto12.b] at hs4;refine ze ?_;clear hT T;refine zx ?_;refine ziK ?_;refine zQ ?_;refine zu fun T hT=>?_;refine(CallV.part (CallV.fn (hs4 _)) (by first|exact ja|(simp only[js,seenH_app];exact ja))).mono ?_;rintro _ _ ⟨rfl,k4,kok,kto,kR,rfl⟩;refine ze ?_;clear hT T;refine zx ?_;refine zdB ?_;exact KE.fin (H':=jt k4 B.p++(planH B.p++(seenH B T N++F))) je rfl jd (by first|exact ja|(simp only[js,seenH_app];exact ja)) ⟨rfl,k4,kok,kto12.trans kto,kR,by simp only[js,seenH_app]⟩
  ·rintro D c G ⟨rfl,i,k',hf,kok,kto,kR,rfl⟩;rw[hf] at hhm;dsimp only at hhm;rw[hhm];refine ziP ?_;exact KE.fin je rfl jd ja ⟨rfl,k',kok,kto,kR,rfl⟩
theorem jmN {s:Nat} {c:Int} {g:FuncId} {fi:List Value} {R:jb→Prop} (ok:MkOk k B.p) (hc:(tiC k.c)[s]?=some c)
  (hdo:k.act=true→CallV Tryz.prog w0 (.func (.func g) fi.toArray #[]) [.int .i64 (s:Nat)] (jt k B.p++F) (fun r H'=>r= .tuple #[]∧R H')):
  Call Tryz.prog w0 301 [.pointer (some ⟨k.b,0,none⟩), .int .i64 (s:Nat), .func (.func g) fi.toArray #[]] (jt k B.p++F) (fun r H'=>r= .int .i64 0∧(k.act=true→R H')∧(k.act=false→H'=jt k B.p++F)):=by
 cases ha:k.act with
 |true=>
  have h1:=hdo ha
  refine zof ?_;refine zde ?_;refine jp (jek ok hc) ?_;rw[js,ha];refine zbi ?_;refine zO ?_;refine zaY ?_;refine zc4 ?_;refine zl ?_;refine zw ?_;refine zA ?_;refine zak ?_;refine za9 fun T hT=>?_;refine(CallV.part h1 (by rw[js,ha];exact ja)).mono ?_;rintro _ H' ⟨rfl,hR⟩;refine ze ?_;clear hT T;refine zeJ ?_;exact KE.fin je rfl jd ja ⟨rfl,fun _=>hR,fun h=>by grind⟩
 |false=>
  refine zof ?_;refine zde ?_;refine jp (jek ok hc) ?_;rw[js,ha];refine zbi ?_;refine zO ?_;refine zaY ?_;refine zc4 ?_;refine zl ?_;refine zw ?_;refine zA ?_;refine zba ?_;refine zm ?_;exact KE.fin (H':=jt k B.p++F) je rfl jd (by rw[js,ha];exact ja) ⟨rfl,fun h=>(by grind),fun _=>by grind[js]⟩
theorem mkShade_K {s:Nat} (ok:MkOk k B.p) (hR:MkR k B.p m) (hs:s<B.p.g.slots):
  Call Tryz.prog w0 266 [.pointer (some ⟨k.b,0,none⟩), .int .i64 (s:Nat)] (jt k B.p++(planH B.p++F))
   (fun r H'=>r= .int .i64 0∧ ∃ k',MkOk k' B.p∧MkTo k k'∧MkR k' B.p (shdM B.p.g k.g.ring.length m (s:Nat))∧H'=jt k' B.p++(planH B.p++F)):=by
 obtain⟨c,hc⟩:=jfo ok hs
 have hact:=hR.act
 unfold shdM;rw[←hact];refine Call.enter2 (n:=10) (by rfl) Tryz.func266 rfl rfl rfl ?_;refine zc6 ?_;refine zj ?_;refine zbk fun T hT=>?_;refine(CallV.fn (jmN (fi:=[.pointer (some ⟨k.b,0,none⟩)]) (R:=fun H'=> ∃ k',MkOk k' B.p∧MkTo k k'∧MkR k' B.p (J9 B.p.g k.g.ring.length m (s:Nat))∧H'=jt k' B.p++(planH B.p++F)) ok hc fun _=>CallV.bound (first:=[.pointer (some ⟨k.b,0,none⟩)]) (jia ok hR hs))).mono ?_;rintro _ H' ⟨rfl,h1,h2⟩
 cases ha:k.act with
 |true=>
  obtain⟨k',kok,kto,kR,rfl⟩:=h1 ha
  refine ze ?_;clear hT T;rw[ha];refine zm ?_;exact KE.fin je rfl jd ja ⟨rfl,k',kok,kto,kR,rfl⟩
 |false=>
  obtain rfl:=h2 ha
  refine ze ?_;clear hT T;rw[ha];refine zm ?_;exact KE.fin je rfl jd ja ⟨rfl,k,ok,MkTo.refl k,hR,rfl⟩
theorem mkStop_K (ha:k.act=true):Call Tryz.prog w0 322 [.pointer (some ⟨k.b,0,none⟩)] (jt k B.p++F) (fun r H'=>r= .int .i64 0∧H'=jt {k with act:=false} B.p++F):=by
 refine Call.enter1 (n:=5) (by rfl) Tryz.func322 rfl rfl rfl ?_;refine zbL ?_;refine jp (jlk (p:=B.p) (v:=false) ha) ?_;exact zq
end
theorem nil_R {k:MkM} {p:jZ} {nw:Nat} {b:Bool} (h:MkNil k p) (hr:1≤k.g.ring.length) (ha:k.act=b) (hl:k.hs.length=nw+1):MkR k p (jam p.g nw b):=
 ⟨h.c,⟨h.g.ow,h.g.di,by rw[h.g.first,h.g.many];exact⟨rfl,Nat.zero_le _,hr,fun i hi=>absurd hi (Nat.not_lt_zero _)⟩,by show k.g.at_=k.g.end_;rw [h.g.at_,h.g.end_],by rw[h.g.end_];omega⟩,by rw[h.hs,hl];rfl,h.root,ha,h.steps⟩
set_option maxRecDepth 10000
section
variable {w0 : World} {F : jb} {y : CyM} {s : CyP} {g : PlG} {long : Nat}
def bndV (f:FuncId) (b:Nat):Value:= .func (.func f) [.pointer (some ⟨b,0,none⟩)].toArray #[]
theorem cywork1_K (e1:y.ph=1):Call Tryz.prog w0 117 [.pointer (some ⟨y.b,0,none⟩)] (cycH y++F)
  (fun r H'=>r= .agg [bndV 147 y.k.b,bndV 148 y.k.b].toArray∧H'=cycH y++F):=by
 have hph:=fun A=>jgL (w0:=w0) (F:=A) (y:=y)
 obtain⟨yb,B,a,T,N,k,sp,nw,ph,st⟩:=y
 dsimp only at*;subst e1;refine zqD ?_;refine zbc ?_;intro b1 b2;refine zbu ?_;refine zaI ?_;refine jn (hph _) ja ?_;simp only[cycH_app];refine zeh ?_;refine zg3 ?_;refine zhZ ?_;refine zsf ?_;refine zcG ?_;refine zfI ?_;refine zan ?_;refine zlX ?_;refine zcG ?_;refine zfI ?_;refine zan ?_;refine zlX ?_;refine zbT ?_;refine zlJ ?_;refine zfU ?_;refine zjY ?_;refine zbG ?_;exact zei
theorem cywork2_K (e1:y.ph=2):Call Tryz.prog w0 117 [.pointer (some ⟨y.b,0,none⟩)] (cycH y++F)
  (fun r H'=> ∃ bl,r= .agg [.func (.func 149) #[] [.pointer (some ⟨bl,0,none⟩)].toArray,bndV 150 y.s.b].toArray∧H'=(bl,cells [.pointer (some ⟨y.b,0,none⟩)] 63)::(cycH y++F)):=by
 have hph:=fun A=>jgL (w0:=w0) (F:=A) (y:=y)
 obtain⟨yb,B,a,T,N,k,sp,nw,ph,st⟩:=y
 dsimp only at*;subst e1;refine zqD ?_;refine zbc ?_;intro b1 b2;refine zbu ?_;refine zaI ?_;refine jn (hph _) ja ?_;simp only[cycH_app];refine zeh ?_;refine zfS ?_;refine zg3 ?_;refine zao ?_;refine za5 ?_;refine za0 ?_;refine zbn ?_;refine za5 ?_;refine zfr ?_;refine zbG ?_;exact KE.fin je rfl jd (by first|exact ja|(simp only[cycH_app,seenH_app];exact ja)) ⟨b1,rfl,rfl⟩
theorem jkG (e1:y.ph≠1) (e2:y.ph≠2):Call Tryz.prog w0 117 [.pointer (some ⟨y.b,0,none⟩)] (cycH y++F)
  (fun r H'=>r= .agg [.func (.func 151) #[] #[], .func (.func 152) #[] #[]].toArray∧H'=cycH y++F):=by
 have hph:=fun A=>jgL (w0:=w0) (F:=A) (y:=y)
 have h1: ¬((y.ph:Nat):Int)=1:=by omega
 have h2: ¬((y.ph:Nat):Int)=2:=by omega
 refine zqD ?_;refine zbc ?_;intro b1 b2;refine zbu ?_;refine zaI ?_;refine jn (hph _) ja ?_;refine zeh ?_;refine zfS ?_;refine zC ?_;refine zbA ?_;refine zfr ?_;exact zei
theorem CpM.made (h:CpM y s):CpM (jdQ y (madeC g s).ph (madeC g s).sa) (madeC g s):=by
 obtain⟨a,b,c,d,e⟩:=jdX (g:=g) (s:={s with st:=s.st+1})
 have f:(madeC g s).st=s.st+1:=jge (s:={s with st:=s.st+1})
 refine⟨?_,h.ok,?_,h.oka,?_,⟨h.oks.d,h.oks.dn,h.oks.at_⟩,rfl,?_,?_,h.ab,h.bb,h.mb,rfl,?_,h.nw⟩
 ·show MpR y.k y.B y.T y.N (Js g {s with st:=s.st+1}).W;rw [a];exact h.p
 ·show MkR y.k y.B.p (Js g {s with st:=s.st+1}).m;rw [b];exact h.R
 ·show y.a.r.bs=(Js g {s with st:=s.st+1}).A;rw [c];exact h.A
 ·show y.s.at_=(Js g {s with st:=s.st+1}).at_;rw [d];exact h.at_
 ·show y.s.d.bs=(Js g {s with st:=s.st+1}).D;rw [e];exact h.D
 ·show y.st+1=(madeC g s).st;rw [f,h.st]
theorem CpM.mark {k':MkM} {m':MaP} (h:CpM y s) (kok:MkOk k' y.B.p) (kto:MkTo y.k k') (kR:MkR k' y.B.p m'):CpM {y with k:=k'} {s with m:=m'}:=
 ⟨h.p.to kto,kok,kR,h.oka,h.A,h.oks,h.sa,h.at_,h.D,h.ab,h.bb,h.mb.trans kto.b.symm,h.ph,h.st,by show k'.hs.length=_;rw [kto.n];exact h.nw⟩
theorem jje:(madeC g s).W=s.W:=(jdX (g:=g) (s:={s with st:=s.st+1})).1
theorem CpR.mark {k':MkM} {m':MaP} {hd v:Int} (h:CpR g long y s) (h1:s.ph=1) (hm:j0 g long s.W s.m hd v=some m') (hle:jae g (madeC g {s with m:=m'})) (kok:MkOk k' y.B.p) (kto:MkTo y.k k') (kR:MkR k' y.B.p m'):
  CpR g long (jdQ {y with k:=k'} (madeC g {s with m:=m'}).ph (madeC g {s with m:=m'}).sa) (madeC g {s with m:=m'}):=
 have okg:jg g:=by rw[←h.eg];exact h.p.bo.p.g
 ⟨(h.toCpM.mark kok kto kR).made,h.eg,kto.l.trans h.el,jfs okg (jeN okg h.i h1 hm),hle⟩
theorem mark_to {k':MkM} {m':MaP} (h:CpR g long y s) (kto:MkTo y.k k') {ph:Nat} {sa:Bool}:J0 y (jdQ {y with k:=k'} ph sa) (madeC g {s with m:=m'}).W.x 0:=by
 refine⟨rfl,?_,rfl,rfl,rfl,rfl,kto.toMkAs,kto.f,rfl,rfl⟩;rw[jje];exact(jcn h.p.bo).symm
def jcK (y:CyM) (x:List Int) (gone:Bool):CyM:={y with B:=jbK y.B x,s:={y.s with d:=if gone then JR y.s.d y.s.at_ true else y.s.d,at_:=y.s.at_+1}}
theorem jho (B:BoM) (x:List Int):jT (jbK B x)=jT B∧(jbK B x).m=jaB B.m B.t x∧(jbK B x).p=B.p:=⟨rfl,rfl,rfl⟩
theorem CpM.sweep {s':CyP} {x:List Int} {b:Bool} (h:CpM y s) (hw:jad y.B.p.g {s.W with x:=x}) (hl:y.s.at_+1≤y.B.p.g.slots) (e1:s'={s with W:={s.W with x:=x},D:=(if b then s.D.set s.at_ true else s.D),at_:=s.at_+1}):CpM (jcK y x b) s':=by
 subst e1;refine⟨⟨setB_ok h.p.bo (by rw[hw.x,h.p.w.x]) hw.w,h.p.tb,h.p.pi,h.p.eT,h.p.eN,h.p.bb,h.p.tbb,h.p.nb,hw⟩,h.ok,h.R,h.oka,h.A,?_,h.sa,by show y.s.at_+1=_;rw [h.at_],?_,h.ab,h.bb,h.mb,h.ph,h.st,h.nw⟩
 ·cases b
  ·exact⟨h.oks.d,h.oks.dn,hl⟩
  ·exact⟨jeL h.oks.d _ _,by show(y.s.d.bs.set _ _).length=_;rw [List.length_set];exact h.oks.dn,hl⟩
 ·cases b
  ·exact h.D
  ·show y.s.d.bs.set _ _=s.D.set _ _
   rw[h.D,h.at_]
def SwQ (w0:World) (g:PlG) (y:CyM) (s:CyP):Prop:= ∃ s' b,sweepC g s=some s'∧CpM (jcK y s'.W.x b) s'∧ ∀ F,Call Tryz.prog w0 150 [.pointer (some ⟨y.s.b,0,none⟩)] (cycH y++F) (fun r H'=>r= .bool true∧H'=cycH (jcK y s'.W.x b)++F)
set_option maxHeartbeats 1000000 in
theorem jkH (h:CpR g long y s) (h2:s.ph=2):SwQ w0 g y s:=by
 have okg:jg g:=by rw[←h.eg];exact h.p.bo.p.g
 have hlt:=h.i.lt h2
 obtain⟨p1,p2,p3⟩:=h.i.p2 h2
 obtain⟨yy,hy⟩:=j9 (g:=y.B.p.g) (i:=y.s.at_) (by rw[h.at_,h.eg];exact hlt)
 obtain⟨c,hc⟩:=jfo h.ok (s:=y.s.at_) (by rw[h.at_,h.eg];exact hlt)
 have hstep:=fun A=>spStep_K (w0:=w0) (F:=A) h.oks h.oka h.p.bo h.ok (h.sa.trans p2) hy hc h.ab h.bb h.mb
 have hmc:s.m.C[s.at_]?=some c:=by rw[←h.R.C,←h.at_];exact hc
 have hgone:goneC y.a y.s.at_ c=decide (s.A[s.at_]?=some true∧s.m.C[s.at_]?=some 0):=by
  unfold goneC;rw[h.A,h.at_,hmc]
  obtain⟨v,hv⟩:=jh (l:=s.A) (k:=s.at_) (by rw[h.i.A];exact hlt)
  rw[hv]
  cases v<;>simp
 rw[hgone] at hstep
 have hyA:jA g (s.at_:Nat)=yy:=by rw[←h.eg,←h.at_];exact jW hy
 by_cases hg:s.A[s.at_]?=some true∧s.m.C[s.at_]?=some 0
 ·have hsw:sweepC g s=some {s with W:={s.W with x:=J6 s.W.x yy},D:=s.D.set s.at_ true,at_:=s.at_+1}:=by
   unfold sweepC;rw [if_pos ⟨p2,hlt⟩,if_pos hg,hyA]
  obtain⟨w1,w2,w3⟩:=h.i.toCyPre.wipe okg h2 hlt
  rw[hyA] at w1;refine⟨_,true,hsw,h.toCpM.sweep (by rw[h.eg];exact w1) (by rw[h.at_,h.eg];exact hlt) rfl,fun F=>?_⟩;simp only[decide_eq_true hg,if_true] at hstep;refine Call.at_ (hstep _) (by simp only[cycH_app];exact ja) ?_;rintro _ _ ⟨rfl,rfl⟩;exact⟨_,⟨rfl,rfl⟩,by unfold jcK;simp only[cycH_app,jho];exact ja⟩
 ·have hsw:sweepC g s=some {s with W:={s.W with x:=s.W.x},D:=s.D,at_:=s.at_+1}:=by
   unfold sweepC;rw [if_pos ⟨p2,hlt⟩,if_neg hg]
  refine⟨_,false,hsw,h.toCpM.sweep h.p.w (by rw[h.at_,h.eg];exact hlt) rfl,fun F=>?_⟩;simp only[decide_eq_false hg,if_neg Bool.false_ne_true] at hstep;refine Call.at_ (hstep _) (by simp only[cycH_app];exact ja) ?_;rintro _ _ ⟨rfl,rfl⟩
  have hb:jbK y.B s.W.x=y.B:=jcn h.p.bo
  exact⟨_,⟨rfl,rfl⟩,by unfold jcK;dsimp only;rw [hb];simp only[cycH_app,if_neg Bool.false_ne_true];exact ja⟩
theorem CpR.sweep {s':CyP} {b:Bool} (h:CpR g long y s) (h2:s.ph=2) (hs:sweepC g s=some s') (hm:CpM (jcK y s'.W.x b) s') (hle:jae g (madeC g s')):
  CpR g long (jdQ (jcK y s'.W.x b) (madeC g s').ph (madeC g s').sa) (madeC g s'):=
 have okg:jg g:=by rw[←h.eg];exact h.p.bo.p.g
 ⟨hm.made,h.eg,h.el,jfs okg (jdw okg h.i h2 hs).1,hle⟩
theorem jkX {x:List Int} {b:Bool} {ph:Nat} {sa:Bool}:J0 y (jdQ (jcK y x b) ph sa) x 0:=⟨rfl,rfl,rfl,rfl,rfl,rfl,⟨rfl,rfl,rfl,rfl,rfl,rfl⟩,rfl,rfl,rfl⟩
theorem CpR.refl (h:CpR g long y s):CyQ g long y 0 F s (cycH y++F):=⟨y,h,J0.refl h.toCpM,rfl⟩
theorem cysw1_K {hd v:Int} {bl:Nat} (hv:v=5∧0≤hd∧hd≤((y.nw:Nat):Int)) {x:List Int} {b:Bool} (hc: ∀ F,Call Tryz.prog w0 150 [.pointer (some ⟨y.s.b,0,none⟩)] (cycH y++F) (fun r H'=>r= .bool true∧H'=cycH (jcK y x b)++F)):
  Call Tryz.prog w0 149 [.int .i64 hd, .int .u8 v, .pointer (some ⟨bl,0,none⟩)] ((bl,cells [.pointer (some ⟨y.b,0,none⟩)] 63)::(cycH y++F)) (fun r H'=>r= .bool true∧H'=cycH (jcK y x b)++F):=by
 obtain⟨rfl,h1,h2⟩:=hv
 have h1':hd≥0:=h1
 refine zoH ?_;simp only[cycH_app];refine zfT ?_;refine zg7 ?_;refine zac ?_;refine zcx ?_;refine znm ?_;refine zlc ?_;refine zc3 ?_;refine zaD ?_;refine zec ?_;refine zbH ?_;refine znm ?_;refine zlc ?_;refine zhT ?_;refine zhj fun T hT=>?_;refine(CallV.part (CallV.fn (hc _)) (by simp only[cycH_app];exact ja)).mono ?_;rintro _ _ ⟨rfl,rfl⟩;refine ze ?_;clear hT T;refine zdh ?_;exact zso
theorem cysw1_E {hd v:Int} {bl:Nat} (hv: ¬(v=5∧0≤hd∧hd≤((y.nw:Nat):Int))):
  Call Tryz.prog w0 149 [.int .i64 hd, .int .u8 v, .pointer (some ⟨bl,0,none⟩)] ((bl,cells [.pointer (some ⟨y.b,0,none⟩)] 63)::(cycH y++F)) (fun r H'=>r= .bool false∧H'=cycH y++F):=by
 by_cases h5:v=5
 ·subst h5
  by_cases h0:hd≥0
  ·have h2: ¬hd≤((y.nw:Nat):Int):=fun e=>hv ⟨rfl,h0,e⟩
   refine zoH ?_;simp only[cycH_app];refine zfT ?_;refine zg7 ?_;refine zac ?_;refine zcx ?_;refine znm ?_;refine zlc ?_;refine zc3 ?_;refine zaD ?_;refine zhN ?_;refine zA ?_;refine zcD ?_;refine zcA ?_;exact zei
  ·refine zoH ?_;simp only[cycH_app];refine zfT ?_;refine zg7 ?_;refine zbS ?_;refine zA ?_;refine zhi ?_;refine zcD ?_;refine zcA ?_;exact zei
 ·refine zoH ?_;simp only[cycH_app];refine zfT ?_;refine zC ?_;refine zb1 ?_;refine zhi ?_;refine zcD ?_;refine zcA ?_;exact zei
theorem cyw2_K {hd v:Value} {H:jb}:Call Tryz.prog w0 151 [hd,v] H (fun r H'=>r= .bool false∧H'=H):=by
 refine Call.enter2 (n:=5) (by rfl) Tryz.func151 rfl rfl rfl ?_;refine zav ?_;exact zq
theorem cyw3_K {H:jb}:Call Tryz.prog w0 152 [] H (fun r H'=>r= .bool false∧H'=H):=by
 refine Call.enter0 (n:=1) (by rfl) Tryz.func152 rfl rfl rfl ?_;refine zav ?_;exact zq
set_option maxHeartbeats 4000000 in
theorem cyStep_K {hd v:Int} (hG:ji w0) (h:CpR g long y s) (hv:0≤v∧v<256):
  Call Tryz.prog w0 84 [.pointer (some ⟨y.b,0,none⟩), .int .i64 hd, .int .u8 v] (cycH y++F) (fun r H'=>r= .bool (stepC g long y.nw s hd v).isSome∧CyQ g long y 0 F ((stepC g long y.nw s hd v).getD s) H'):=by
 have okg:jg g:=by rw[←h.eg];exact h.p.bo.p.g
 have hls:=h.le.s
 have hlm:=h.le.m
 have hst:s.st≤100000000:=by omega
 have hmst:s.m.steps≤1000000000:=by omega
 by_cases h1:s.ph=1
 ·have hss:stepC g long y.nw s hd v=(j0 g long s.W s.m hd v).map fun m'=>madeC g {s with m:=m'}:=by unfold stepC;rw [if_pos h1]
  have hstep:=fun A=>jku (w0:=w0) (F:=A) (hd:=hd) (v:=v) hG h.p h.ok h.R (by rw[h.eg,h.el];exact h.i.m) hmst hv
  unfold jby at hstep;rw[h.eg,h.el] at hstep;simp only[seenH_app] at hstep
  cases hm:j0 g long s.W s.m hd v with
  |some m'=>
   have hle:=h.le.step (nw:=y.nw) okg h.i (k:=hd) (u:=v) (s':=madeC g {s with m:=m'}) (by rw[hss,hm];rfl)
   rw[hss];simp only[hm,Option.map_some,Option.isSome_some,Option.getD_some] at hstep⊢
   have hmk:=fun A k' kok kto kR=>jg1 (w0:=w0) (F:=A) hG (h.toCpM.mark (k':=k') (m':=m') kok kto kR) h.eg (by show CyPre g k'.g.ring.length _;rw [kto.l,h.el];exact jeN okg h.i h1 hm) hst
   have hR:=fun k' kok kto kR=>h.mark (k':=k') h1 hm hle kok kto kR
   have hT:=fun k' kto=>mark_to (k':=k') (m':=m') (ph:=(madeC g {s with m:=m'}).ph) (sa:=(madeC g {s with m:=m'}).sa) h kto
   unfold CyQ
   obtain⟨s',hs'⟩: ∃ s',madeC g {s with m:=m'}=s':=⟨_,rfl⟩
   simp only[hs'] at hmk hR hT⊢;refine zme ?_;refine zde ?_;refine zoI ?_;unfold bndV;refine zkW ?_;refine za9 fun T hT=>?_;refine zoJ ?_;rintro _ _ ⟨rfl,k',kok,kto,kR,rfl⟩;refine ze ?_;clear hT T;refine zu fun T hT=>?_;refine(CallV.part (CallV.fn (hmk _ k' kok kto kR)) (by simp only[cycH_app,kto.b];exact ja)).mono ?_;rintro _ _ ⟨rfl,rfl⟩;refine ze ?_;clear hT T;refine zm ?_;exact KE.fin je rfl jd ja ⟨rfl,_,hR k' kok kto kR,hT k' kto,rfl⟩
  |none=>
   rw[hss];simp only[hm,Option.map_none,Option.isSome_none,Option.getD_none] at hstep⊢
   have hR:=fun k' kok kto kR=>CpR.mk (h.toCpM.mark (k':=k') (m':=s.m) kok kto kR) h.eg (kto.l.trans h.el) h.i h.le
   have hT:=fun k' (kto:MkTo y.k k')=>(⟨rfl,(jcn h.p.bo).symm,rfl,rfl,rfl,rfl,kto.toMkAs,kto.f,rfl,rfl⟩:J0 y {y with k:=k'} s.W.x 0)
   unfold CyQ;refine zme ?_;refine zde ?_;refine zoI ?_;unfold bndV;refine zkW ?_;refine za9 fun T hT=>?_;refine zoJ ?_;rintro _ _ ⟨rfl,k',kok,kto,kR,rfl⟩;refine ze ?_;clear hT T;refine znQ ?_;refine zm ?_;exact zsD
 ·by_cases h2:s.ph=2
  ·by_cases hc:v=5∧0≤hd∧hd≤((y.nw:Nat):Int)
   ·obtain⟨s',b,hs,hM,hcall⟩:=jkH (w0:=w0) h h2
    have hss:stepC g long y.nw s hd v=some (madeC g s'):=by unfold stepC;rw [if_neg h1,if_pos ⟨h2,hc⟩,hs];rfl
    have hle:=h.le.step (nw:=y.nw) okg h.i (k:=hd) (u:=v) hss
    have hcy:=jdw okg h.i h2 hs
    rw[hss];simp only[Option.isSome_some,Option.getD_some]
    have hmk:=fun A=>jg1 (w0:=w0) (F:=A) hG hM h.eg (by show CyPre g y.k.g.ring.length _;rw [h.el];exact hcy.1) (by rw[hcy.2.2.2.2.2.2.2];exact hst)
    have hR:=h.sweep h2 hs hM hle
    have hT:J0 y (jdQ (jcK y s'.W.x b) (madeC g s').ph (madeC g s').sa) (madeC g s').W.x 0:=by rw[jje];exact jkX
    unfold CyQ
    obtain⟨q,hq⟩: ∃ q,madeC g s'=q:=⟨_,rfl⟩
    rw[hq] at hmk hR hT⊢;refine zme ?_;refine zrW ?_;rintro _ _ ⟨bl,rfl,rfl⟩;unfold bndV;refine zkW ?_;refine za9 fun T hT=>?_;refine(CallV.part (CallV.clo (cap:=[.pointer (some ⟨bl,0,none⟩)]) (cysw1_K hc hcall)) ja).mono ?_;rintro _ _ ⟨rfl,rfl⟩;refine ze ?_;clear hT T;refine zp ?_;refine jn (hmk _) ja ?_;refine zm ?_;exact KE.fin je rfl jd ja ⟨rfl,_,hR,hT,rfl⟩
   ·have hss:stepC g long y.nw s hd v=none:=by unfold stepC;rw [if_neg h1,if_neg (fun e=>hc e.2)]
    rw[hss];simp only[Option.isSome_none,Option.getD_none]
    have hQ:=fun A=>CpR.refl (F:=A) h
    refine zme ?_;refine zrW ?_;rintro _ _ ⟨bl,rfl,rfl⟩;unfold bndV;refine zkW ?_;refine za9 fun T hT=>?_;refine(CallV.part (CallV.clo (cap:=[.pointer (some ⟨bl,0,none⟩)]) (cysw1_E hc)) ja).mono ?_;rintro _ _ ⟨rfl,rfl⟩;refine ze ?_;clear hT T;refine znQ ?_;exact zrU
  ·have hss:stepC g long y.nw s hd v=none:=by unfold stepC;rw [if_neg h1,if_neg (fun e=>h2 e.1)]
   rw[hss];simp only[Option.isSome_none,Option.getD_none]
   have hQ:=fun A=>CpR.refl (F:=A) h
   refine zme ?_;refine zde ?_;refine jn (jkG (by rw[h.ph];exact h1) (by rw[h.ph];exact h2)) ja ?_;refine zkW ?_;refine zbq ?_;refine jp cyw2_K ?_;refine znQ ?_;exact zrU
end
open Go.RowKit
set_option maxRecDepth 10000
section
variable {w0 : World} {F : jb} {y : CyM} {s : CyP} {g : PlG} {long : Nat}
set_option maxHeartbeats 4000000 in
theorem jlC (hG:ji w0) (h:CpR g long y s):
  Call Tryz.prog w0 262 [.pointer (some ⟨y.b,0,none⟩)] (cycH y++F) (fun r H'=>r= .bool (j8 g long s).isSome∧CyQ g long y 0 F ((j8 g long s).getD s) H'):=by
 have okg:jg g:=by rw[←h.eg];exact h.p.bo.p.g
 have hls:=h.le.s
 have hlm:=h.le.m
 have hst:s.st≤100000000:=by omega
 have hmst:s.m.steps≤1000000000:=by omega
 by_cases h1:s.ph=1
 ·have hss:j8 g long s=(jaA g long s.W s.m).map fun m'=>madeC g {s with m:=m'}:=by unfold j8;rw [if_pos h1]
  have hstep:=fun A=>mkHelp_K (w0:=w0) (F:=A) hG h.p h.ok h.R (by rw[h.eg,h.el];exact h.i.m) hmst
  unfold jby at hstep;rw[h.eg,h.el] at hstep;simp only[seenH_app] at hstep
  cases hm:jaA g long s.W s.m with
  |some m'=>
   obtain⟨hk,hu,hku⟩:=jeA hm
   have hle:=h.le.help okg h.i (s':=madeC g {s with m:=m'}) (by rw[hss,hm];rfl)
   rw[hss];simp only[hm,Option.map_some,Option.isSome_some,Option.getD_some] at hstep⊢
   have hmk:=fun A k' kok kto kR=>jg1 (w0:=w0) (F:=A) hG (h.toCpM.mark (k':=k') (m':=m') kok kto kR) h.eg (by show CyPre g k'.g.ring.length _;rw [kto.l,h.el];exact jeN okg h.i h1 hku) hst
   have hR:=fun k' kok kto kR=>h.mark (k':=k') h1 hku hle kok kto kR
   have hT:=fun k' kto=>mark_to (k':=k') (m':=m') (ph:=(madeC g {s with m:=m'}).ph) (sa:=(madeC g {s with m:=m'}).sa) h kto
   unfold CyQ
   obtain⟨s',hs'⟩: ∃ s',madeC g {s with m:=m'}=s':=⟨_,rfl⟩
   simp only[hs'] at hmk hR hT⊢;refine zoK ?_;refine zde ?_;refine zoI ?_;unfold bndV;refine zoL ?_;refine zu fun T hT=>?_;refine zoJ ?_;rintro _ _ ⟨rfl,k',kok,kto,kR,rfl⟩;refine ze ?_;clear hT T;refine zu fun T hT=>?_;refine(CallV.part (CallV.fn (hmk _ k' kok kto kR)) (by simp only[cycH_app,kto.b];exact ja)).mono ?_;rintro _ _ ⟨rfl,rfl⟩;refine ze ?_;clear hT T;refine zm ?_;exact KE.fin je rfl jd ja ⟨rfl,_,hR k' kok kto kR,hT k' kto,rfl⟩
  |none=>
   rw[hss];simp only[hm,Option.map_none,Option.isSome_none,Option.getD_none] at hstep⊢
   have hR:=fun k' kok kto kR=>CpR.mk (h.toCpM.mark (k':=k') (m':=s.m) kok kto kR) h.eg (kto.l.trans h.el) h.i h.le
   have hT:=fun k' (kto:MkTo y.k k')=>(⟨rfl,(jcn h.p.bo).symm,rfl,rfl,rfl,rfl,kto.toMkAs,kto.f,rfl,rfl⟩:J0 y {y with k:=k'} s.W.x 0)
   unfold CyQ;refine zoK ?_;refine zde ?_;refine zoI ?_;unfold bndV;refine zoL ?_;refine zu fun T hT=>?_;refine zoJ ?_;rintro _ _ ⟨rfl,k',kok,kto,kR,rfl⟩;refine ze ?_;clear hT T;refine znQ ?_;refine zm ?_;exact zsD
 ·by_cases h2:s.ph=2
  ·obtain⟨s',b,hs,hM,hcall⟩:=jkH (w0:=w0) h h2
   have hss:j8 g long s=some (madeC g s'):=by unfold j8;rw [if_neg h1,if_pos h2,hs];rfl
   have hle:=h.le.help okg h.i hss
   have hcy:=jdw okg h.i h2 hs
   rw[hss];simp only[Option.isSome_some,Option.getD_some]
   have hmk:=fun A=>jg1 (w0:=w0) (F:=A) hG hM h.eg (by show CyPre g y.k.g.ring.length _;rw [h.el];exact hcy.1) (by rw[hcy.2.2.2.2.2.2.2];exact hst)
   have hR:=h.sweep h2 hs hM hle
   have hT:J0 y (jdQ (jcK y s'.W.x b) (madeC g s').ph (madeC g s').sa) (madeC g s').W.x 0:=by rw[jje];exact jkX
   unfold CyQ
   obtain⟨q,hq⟩: ∃ q,madeC g s'=q:=⟨_,rfl⟩
   rw[hq] at hmk hR hT⊢;refine zoK ?_;refine zrW ?_;rintro _ _ ⟨bl,rfl,rfl⟩;unfold bndV;refine zoL ?_;refine zu fun T hT=>?_;refine(CallV.part (CallV.bound (first:=[.pointer (some ⟨y.s.b,0,none⟩)]) (hcall _)) ja).mono ?_;rintro _ _ ⟨rfl,rfl⟩;refine ze ?_;clear hT T;refine zp ?_;refine jn (hmk _) ja ?_;refine zm ?_;exact KE.fin je rfl jd ja ⟨rfl,_,hR,hT,rfl⟩
  ·have hss:j8 g long s=none:=by unfold j8;rw [if_neg h1,if_neg h2]
   rw[hss];simp only[Option.isSome_none,Option.getD_none]
   have hQ:=fun A=>CpR.refl (F:=A) h
   refine zoK ?_;refine zde ?_;refine jn (jkG (by rw[h.ph];exact h1) (by rw[h.ph];exact h2)) ja ?_;refine zoL ?_;refine zp ?_;refine jp cyw3_K ?_;refine znQ ?_;exact zrU
structure HpS where
 n:Nat
 y:CyM
 s:CyP
theorem cyFinish_K {z:CyP} (hG:ji w0) (h:CpR g long y z) (h0:z.ph≠0):
  Call Tryz.prog w0 291 [.pointer (some ⟨y.b,0,none⟩)] (cycH y++F) (fun r H'=> ∃ (n:Nat) (s':CyP),r= .tuple [.int .i64 (n:Nat), .int .i64 0].toArray∧jba g long z n s'∧j8 g long s'=none∧s'.ph=3∧CyQ g long y 0 F s' H'):=by
 have okg:jg g:=by rw[←h.eg];exact h.p.bo.p.g
 have h0': ¬((y.ph:Nat):Int)=0:=by rw[h.ph];omega
 have hh:=fun A (y':CyM) (s':CyP) (h:CpR g long y' s')=>jlC (w0:=w0) (F:=A) hG h
 refine Call.enter1 (n:=18) (by rfl) Tryz.func291 rfl rfl rfl ?_;refine zL ?_;refine zd8 ?_;refine jn (cynone_K (y:=y)) ja ?_;simp only[cycH_app];refine zcw ?_;refine zcF ?_;refine zC ?_;refine zdX ?_;refine KE.next (K.seq (K.block ?_));refine K.loopT (σ:=HpS) [(0,_)] (fun s kp_=>(2, .int .i64 (s.n:Nat))::kp_) (fun s=>cycH s.y++F) (fun s=>CpR g long s.y s.s∧J0 y s.y s.s.W.x 0∧jba g long z s.n s.s) (fun s=>Jo g s.s) (⟨0,y,z⟩) jc (by first|exact ja|(simp only[cycH_app,seenH_app];exact ja)) (⟨h,J0.refl h.toCpM, .refl⟩) ?_;rintro⟨n,y1,z1⟩ ⟨h1,t1,hp⟩;dsimp only at h1 t1 hp⊢
 have hst:=(hp.ok okg h.i).st
 have hph:=(hp.ok okg h.i).ph
 have hls:=h1.le.s
 have hn8:n≤100000000:=by omega
 have hh1:=fun A=>hh A y1 z1 h1
 rw[t1.b] at hh1
 cases hs:j8 g long z1 with
 |some z2=>
  rw[hs] at hh1;simp only[Option.isSome_some,Option.getD_some] at hh1
  have hm:=jfj okg h1.i hs
  refine zdo ?_;refine zn ?_;refine jB (hh1 _) ja ?_;rintro _ _ ⟨rfl,y2,h2,t2,rfl⟩;refine KL.nil (KE.next (K.condT rfl (K.skip (KE.next (K.block (K.region ?_))))));refine zlh ?_;refine zaw ?_;exact KE.again ⟨n+1,y2,z2⟩ jc ja ⟨h2,t1.trans t2, .snoc hp hs⟩ hm
 |none=>
  rw[hs] at hh1;simp only[Option.isSome_none,Option.getD_none] at hh1
  have h3:=jkz okg h1.i (by omega) hs
  refine zdo ?_;refine zn ?_;refine jB (hh1 _) ja ?_;rintro _ _ ⟨rfl,y2,h2,t2,rfl⟩;refine zdx ?_;refine zbw ?_;refine zab ?_;exact KE.fin je rfl jd ja ⟨n,z1,rfl,hp,hs,h3,y2,h2,t1.trans t2,rfl⟩
end
set_option maxRecDepth 10000
section
variable {w0 : World} {F : jb} {y : CyM} {s : CyP} {g : PlG} {long : Nat}
theorem CpR.okg (h:CpR g long y s):jg g:=by rw[←h.eg];exact h.p.bo.p.g
theorem CpR.T1024 (h:CpR g long y s):s.W.T.length≤1024:=by rw[←h.p.eT];exact h.p.tb.n.2
theorem cyBegin_K (h:CpR g long y s) (h0:s.ph=0) (hf:y.k.c.f≤1000000):
  Call Tryz.prog w0 294 [.pointer (some ⟨y.b,0,none⟩)] (cycH y++F) (fun r H'=>r= .int .i64 0∧CyQ g long y 1 F (beginC g s) H'):=by
 have okg:=h.okg
 have hlg:=h.ok.g.l
 have hno:=fun A=>cynone_K (w0:=w0) (F:=A) (y:=y)
 have hac:=(h.i.p0 h0).1
 have hms:=fun A=>mkStart_K (w0:=w0) (F:=A) h.ok (h.R.act.trans hac) hf
 have hle:=jae.begin (s:=s) okg h.T1024
 have hl1:1≤long:=by rw[←h.el];omega
 have hcy:=jiT okg hl1 h.i h0
 have hR: ∀ k',MkOk k' y.B.p→MkNil k' y.B.p→MkAs y.k k'→k'.act=true→CpR g long {y with k:=k',ph:=1,st:=0} (beginC g s):=fun k' kok kn ka kt=>by
  refine⟨⟨⟨h.p.bo,h.p.tb,h.p.pi,h.p.eT,h.p.eN,ka.bb.trans h.p.bb,ka.tb.trans h.p.tbb,ka.nb.trans h.p.nb,h.p.w⟩,kok,?_,h.oka,h.A,h.oks,h.sa,h.at_,h.D,h.ab,h.bb,h.mb.trans ka.b.symm,rfl,rfl,by show k'.hs.length=_;rw [ka.n];exact h.nw⟩,h.eg,ka.l.trans h.el,hcy,hle⟩
  show MkR k' y.B.p (jam g (s.m.hs.length-1) true)
  rw[←h.eg];exact nil_R kn (by rw[ka.l];omega) kt (by have:=h.R.hs;rw [ka.n,h.nw,←this,h.nw];rfl)
 have hT: ∀ k',MkAs y.k k'→k'.c.f=y.k.c.f+1→J0 y {y with k:=k',ph:=1,st:=0} (beginC g s).W.x 1:=fun k' ka kf=>⟨rfl,(jcn h.p.bo).symm,rfl,rfl,rfl,rfl,ka,kf,rfl,rfl⟩
 have e0:y.ph=0:=h.ph.trans h0
 unfold CyQ
 obtain⟨s',hs'⟩: ∃ s',beginC g s=s':=⟨_,rfl⟩
 rw[hs'] at hR hT;rw[hs'];clear hs' hle hcy h hac h0 hf
 obtain⟨yb,B,a,T,N,k,sp,nw,ph,st⟩:=y
 dsimp only at*;subst e0;refine Call.enter1 (n:=23) (by rfl) Tryz.func294 rfl rfl rfl ?_;refine zL ?_;refine zdl ?_;refine zn ?_;refine zhW ?_;simp only[cycH_app];refine zcw ?_;refine zcF ?_;refine zaj ?_;refine zbA ?_;refine zb6 ?_;refine zc4 ?_;refine zaq ?_;refine zS ?_;refine zbE ?_;refine zcO ?_;refine zF ?_;refine zc2 ?_;refine zaI ?_;refine jB (hms _) ja ?_;rintro _ _ ⟨rfl,k',kok,kn,ka,kt,kf,rfl⟩;refine zm ?_;exact KE.fin (H':=cycH ⟨yb,B,a,T,N,k',sp,nw,1,0⟩++F) je rfl jd (by simp only[cycH_app,ka.b];exact ja) ⟨rfl,_,hR k' kok kn ka kt,hT k' ka kf,by grind[cycH_app]⟩
set_option maxHeartbeats 1000000 in
theorem jmp (hG:ji w0) (h:CpR g long y s) (h3:s.ph=3):
  Call Tryz.prog w0 292 [.pointer (some ⟨y.b,0,none⟩)] (cycH y++F) (fun r H'=>r= .tuple [.int .i64 (s.D.count true:Nat), .int .i64 (recyN y.T.gens s.W.T:Nat), .int .i64 0].toArray∧CyQ g long y 0 F (publishC g y.T.gens s) H'):=by
 have okg:=h.okg
 obtain⟨p1,p2,p3⟩:=h.i.p3 h3
 have hno:=fun A=>cynone_K (w0:=w0) (F:=A) (y:=y)
 have hdone:jcN y.s=true:=by
  unfold jcN;rw[h.sa,p2,h.oks.dn,h.at_,p3,h.eg];simp
 have hst:=fun A=>spStop_K (w0:=w0) (F:=A) hG h.oks h.oka hdone h.ab
 have hrc:=fun A=>jl8 (w0:=w0) (F:=A) h.p.tb
 have hmk:=fun A=>mkStop_K (w0:=w0) (F:=A) (B:=y.B) (h.R.act.trans p1)
 have hcy:=jgy h.i h3 y.T.gens
 have hle:=h.le.publish y.T.gens
 rw[h.D] at hst;rw[h.p.eT] at hrc
 have hR: ∀ (a':ArM) (s':SpM),TbOk ⟨y.T.b,j5 y.T.gens s.W.T,y.T.gens,y.T.o⟩→jaE a' y.B.p→a'.b=y.a.b→a'.r.bs=(jbp y.a.r.bs s.D).2→SpOk s' y.B.p.g.slots→s'.ab=y.s.ab→s'.bb=y.s.bb→s'.mb=y.s.mb→s'.at_=0→s'.act=false→s'.d.bs=List.replicate y.B.p.g.slots false→
   CpR g long {y with a:=a',s:=s',T:=⟨y.T.b,j5 y.T.gens s.W.T,y.T.gens,y.T.o⟩,k:={y.k with act:=false},ph:=0} (publishC g y.T.gens s):=fun a' s' kT ka ab abs ks e1 e2 e3 e4 e5 e6=>by
  refine⟨⟨⟨h.p.bo,kT,h.p.pi,rfl,h.p.eN,h.p.bb,h.p.tbb,h.p.nb,by rw[h.eg];exact hcy.w⟩,⟨h.ok.c,h.ok.g,h.ok.n,h.ok.o,h.ok.hs⟩,⟨h.R.C,h.R.G,h.R.hs,h.R.root,rfl,h.R.steps⟩,ka,?_,ks,e5,e4,?_,e1.trans (h.ab.trans ab.symm),e2.trans h.bb,e3.trans h.mb,rfl,h.st,h.nw⟩,h.eg,h.el,hcy,hle⟩
  ·show a'.r.bs=(jbp s.A s.D).2;rw [abs,h.A]
  ·show s'.d.bs=List.replicate g.slots false;rw [e6,h.eg]
 have hT: ∀ (a':ArM) (s':SpM),a'.b=y.a.b→s'.b=y.s.b→J0 y {y with a:=a',s:=s',T:=⟨y.T.b,j5 y.T.gens s.W.T,y.T.gens,y.T.o⟩,k:={y.k with act:=false},ph:=0} (publishC g y.T.gens s).W.x 0:=fun a' s' ab sb=>⟨rfl,(jcn h.p.bo).symm,ab,rfl,rfl,rfl,⟨rfl,rfl,rfl,rfl,rfl,rfl⟩,rfl,sb,rfl⟩
 have e0:y.ph=3:=h.ph.trans h3
 unfold CyQ
 obtain⟨s2,hs'⟩: ∃ s2,publishC g y.T.gens s=s2:=⟨_,rfl⟩
 rw[hs'] at hR hT;rw[hs'];clear hs' hle hcy hdone
 obtain⟨yb,B,a,T,N,k,sp,nw,ph,st⟩:=y
 dsimp only at*;subst e0;refine Call.enter1 (n:=37) (by kernel_rfl) Tryz.func292 rfl rfl rfl ?_;refine zL ?_;refine zt ?_;refine zd8 ?_;refine zhW ?_;simp only[cycH_app];refine zcw ?_;refine zcF ?_;refine zaj ?_;refine zbA ?_;refine zF ?_;refine zbn ?_;refine zp ?_;refine zqE ?_;rintro _ _ ⟨rfl,a',s',ka,ab,arb,abs,ks,sb,e1,e2,e3,e4,e5,e6,rfl⟩;refine zbF ?_;refine zah ?_;refine zF ?_;refine zbU ?_;refine zaI ?_;refine jB (hrc _) ja ?_;rintro _ _ ⟨rfl,kT,rfl⟩;refine zah ?_;refine zF ?_;refine zc2 ?_;refine zaI ?_;refine jn (hmk _) ja ?_;refine zal ?_;refine zF ?_;refine zc4 ?_;refine zcO ?_;refine zB ?_;refine zt ?_;refine zab ?_;exact KE.fin (H':=cycH ⟨yb,B,a',⟨T.b,j5 T.gens s.W.T,T.gens,T.o⟩,N,{k with act:=false},s',nw,0,st⟩++F) je rfl jd (by simp only[cycH_app,ab,sb];exact ja) ⟨rfl,_,hR a' s' kT ka ab abs ks e1 e2 e3 e4 e5 e6,hT a' s' ab sb,by simp only[cycH_app]⟩
theorem CpR.shade {k':MkM} {t:Nat} (h:CpR g long y s) (h1:s.ph=1) (ht:t<g.slots) (kok:MkOk k' y.B.p) (kto:MkTo y.k k') (kR:MkR k' y.B.p (shdM g long s.m (t:Nat))):CpR g long {y with k:=k'} (shdC g long s (t:Nat)):=by
 have e:shdC g long s (t:Nat)={s with m:=shdM g long s.m (t:Nat)}:=by
  unfold shdC Jl;rw [if_pos h1,if_pos ⟨by omega,by omega⟩]
 have h1:=h.i.shd h.okg (t:Nat)
 have h2:=h.le.shd h.okg h.i (t:Nat)
 rw[e] at h1 h2⊢;exact⟨h.toCpM.mark kok kto kR,h.eg,kto.l.trans h.el,h1,h2⟩
theorem cyShade_K {t:Nat} (h:CpR g long y s) (ht:t<g.slots):Call Tryz.prog w0 204 [.pointer (some ⟨y.b,0,none⟩), .int .i64 (t:Nat)] (cycH y++F) (fun r H'=>r= .int .i64 0∧CyQ g long y 0 F (shdC g long s (t:Nat)) H'):=by
 obtain⟨c,hc⟩:=jfo h.ok (s:=t) (by rw[h.eg];omega)
 have hsh:=fun A=>mkShade_K (w0:=w0) (F:=A) h.ok h.R (by rw[h.eg];exact ht)
 rw[h.eg,h.el] at hsh
 by_cases h1:s.ph=1
 ·have e0:y.ph=1:=h.ph.trans h1
  have hR:=fun k' kok kto kR=>h.shade (k':=k') h1 ht kok kto kR
  have hW:(shdC g long s (t:Nat)).W=s.W:=shdC_W _
  have hT: ∀ k',MkTo y.k k'→J0 y {y with k:=k'} (shdC g long s (t:Nat)).W.x 0:=fun k' kto=>⟨rfl,by rw[hW];exact(jcn h.p.bo).symm,rfl,rfl,rfl,rfl,kto.toMkAs,kto.f,rfl,rfl⟩
  unfold CyQ
  obtain⟨s2,hs'⟩: ∃ s2,shdC g long s (t:Nat)=s2:=⟨_,rfl⟩
  rw[hs'] at hR hT;rw[hs']
  have hno:=fun A=>cynone_K (w0:=w0) (F:=A) (y:=y)
  have hof:=fun A=>jek (w0:=w0) (F:=A) h.ok hc
  clear hs' hW h
  obtain⟨yb,B,a,T,N,k,sp,nw,ph,st⟩:=y
  dsimp only at*;subst e0;refine Call.enter2 (n:=34) (by kernel_rfl) Tryz.func204 rfl rfl rfl ?_;refine zaf ?_;refine zhW ?_;simp only[cycH_app];refine za6 ?_;refine zF ?_;refine zdi ?_;refine zn ?_;refine jn (hof _) ja ?_;refine zY ?_;refine zbR ?_;refine zaY ?_;refine zc4 ?_;refine zaD ?_;refine zcz ?_;refine zas ?_;refine zdi ?_;refine zn ?_;refine jB (hsh _) ja ?_;rintro _ _ ⟨rfl,k',kok,kto,kR,rfl⟩;refine zm ?_;exact KE.fin (H':=cycH ⟨yb,B,a,T,N,k',sp,nw,1,st⟩++F) je rfl jd (by simp only[cycH_app,kto.b];exact ja) ⟨rfl,_,hR k' kok kto kR,hT k' kto,by simp only[cycH_app]⟩
 ·have h1':((y.ph:Nat):Int)≠1:=by rw[h.ph];omega
  have e:shdC g long s (t:Nat)=s:=by unfold shdC;rw [if_neg h1]
  rw[e];unfold CyQ;refine Call.enter2 (n:=34) (by kernel_rfl) Tryz.func204 rfl rfl rfl ?_;refine zaf ?_;refine jn (cynone_K (y:=y)) ja ?_;simp only[cycH_app];refine za6 ?_;refine zF ?_;refine zdi ?_;refine zn ?_;refine jn (jek h.ok hc) ja ?_;refine zY ?_;refine zbR ?_;refine zaY ?_;refine zc4 ?_;refine zaD ?_;refine zM ?_;refine za8 ?_;refine zrx ?_;exact KE.fin je rfl jd (by first|exact ja|(simp only[cycH_app,seenH_app];exact ja)) ⟨rfl,y,h,J0.refl h.toCpM,rfl⟩
theorem CpR.black {c':TiM} {t:Nat} (h:CpR g long y s) (kok:MkOk {y.k with c:=c'} y.B.p) (cc:tiC c'=(if y.k.act=true then(tiC y.k.c).set t 2 else tiC y.k.c)):CpR g long {y with k:={y.k with c:=c'}} {s with m:=JP s.m t}:=by
 obtain⟨a,b,c,d,e⟩:=jfJ s.m t
 refine⟨⟨⟨h.p.bo,h.p.tb,h.p.pi,h.p.eT,h.p.eN,h.p.bb,h.p.tbb,h.p.nb,h.p.w⟩,kok,⟨?_,by rw[a];exact h.R.G,by rw[b];exact h.R.hs,by rw[c];exact h.R.root,by rw[d];exact h.R.act,by rw[e];exact h.R.steps⟩,h.oka,h.A,h.oks,h.sa,h.at_,h.D,h.ab,h.bb,h.mb,h.ph,h.st,h.nw⟩,h.eg,h.el,h.i.black t,h.le.black h.i t⟩
 show tiC c'=(JP s.m t).C
 rw[cc,h.R.C,h.R.act]
 grind[JP]
theorem cyBlack_K {t:Nat} (h:CpR g long y s) (ht:t<g.slots):Call Tryz.prog w0 198 [.pointer (some ⟨y.b,0,none⟩), .int .i64 (t:Nat)] (cycH y++F) (fun r H'=>r= .int .i64 0∧CyQ g long y 0 F {s with m:=JP s.m t} H'):=by
 have hbl:=fun A=>mkBlack_K (w0:=w0) (F:=A) h.ok (s:=t) (by rw[h.eg];exact ht)
 have hR:=fun c' kok cc=>h.black (c':=c') (t:=t) kok cc
 have hT: ∀ c',c'.f=y.k.c.f→J0 y {y with k:={y.k with c:=c'}} s.W.x 0:=fun c' cf=>⟨rfl,(jcn h.p.bo).symm,rfl,rfl,rfl,rfl,⟨rfl,rfl,rfl,rfl,rfl,rfl⟩,cf,rfl,rfl⟩
 unfold CyQ;refine Call.enter2 (n:=13) (by kernel_rfl) Tryz.func198 rfl rfl rfl ?_;refine zaf ?_;refine jn (cynone_K (y:=y)) ja ?_;refine zkg ?_;refine zdi ?_;refine zn ?_;refine jB (hbl _) ja ?_;rintro _ _ ⟨rfl,c',kok,cf,cc,rfl⟩;refine zm ?_;exact KE.fin (H':=cycH {y with k:={y.k with c:=c'}}++F) je rfl jd (by simp only[cycH_app];exact ja) ⟨rfl,_,hR c' kok cc,hT c' cf,by simp only[cycH_app]⟩
end
open Go.RowKit
set_option maxRecDepth 10000
def newC (g:PlG) (caps nw:Nat):CyP:=⟨⟨List.replicate g.words 0,List.replicate caps ⟨0,0,1⟩,List.replicate g.slots 0⟩,jam g nw false,List.replicate g.slots false,false,0,List.replicate g.slots false,0,0⟩
section
variable {g : PlG} {long caps nw : Nat}
theorem jix (n t:Nat):wAt (List.replicate n 0) t=0:=by
 grind[wAt]
theorem newC_w:jad g (newC g caps nw).W:=by
 refine⟨List.length_replicate ..,jac.rep _,List.length_replicate ..,fun v hv=>?_,fun e he h1=>?_⟩
 ·rw[(List.mem_replicate.1 hv).2];decide
 ·rw[(List.mem_replicate.1 he).2] at h1;grind
theorem newC_ok (hl:1≤long) (hn:nw≤8):jw g long (newC g caps nw):=by
 refine⟨⟨newC_w,fun s y hy j hj=>?_,new_ok hl hn,new_in,List.length_replicate ..,List.length_replicate ..,fun _=>⟨rfl,rfl,rfl,rfl⟩,fun e=>(by cases e),fun e=>(by cases e),fun e=>(by cases e),Nat.zero_le _,fun e=>absurd (show 2≤0 from e) (by decide)⟩,fun e=>(by cases e),fun e=>(by rfl)⟩
 show wAt (List.replicate g.words 0) _≤_
 grind[jix]
theorem newC_t (ok:jg g):CyT g (newC g caps nw):=by
 refine⟨⟨fun{r s} hr h=>?_,fun{s t} {i} ha h=>?_⟩,fun t ht y hy j hj=>jix _ _⟩
 ·grind[jU,newC]
 ·have h':refO g (List.replicate g.words 0) (s:Nat) i=some ((t:Nat):Int):=h
  grind[jh7,jix]
theorem newC_le (ok:jg g) (hc:caps≤1024):jae g (newC g caps nw):=by
 have h1:=jhK (W:=(newC g caps nw).W) ok nw
 have h2:=ok.words
 have h3:(newC g caps nw).W.T.length=caps:=List.length_replicate ..
 refine⟨?_,?_⟩
 ·grind[jV,newC,jam]
 ·rw[jiF (.inl rfl)];exact Nat.zero_le _
end
structure CyNew (g:PlG) (long caps nw:Nat) (gens:Int) (t:Nat) (m:Ju) (y:CyM):Prop where
 R:CpR g long y (newC g caps nw)
 m:y.B.m=m
 t:y.B.t=t
 G:y.T.gens=gens
 nw:y.nw=nw
 f:y.k.c.f=1
theorem cynew_rel {g:PlG} {long caps nw t b:Nat} {gens:Int} {B:BoM} {a:ArM} {T:TbM} {N:PiM} {k:MkM} {sp:SpM} (okg:jg g) (hpg:B.p.g=g) (okB:jaD B (List.replicate g.words 0)) (ht:B.t=t) (hc:caps≤1024) (hnw:nw≤8) (hl:1≤long)
  (oka:jaE a B.p) (hA:a.r.bs=List.replicate B.p.g.slots false) (okT:TbOk T) (eT:T.l=List.replicate caps ⟨0,0,1⟩) (eG:T.gens=gens) (okN:PiOk N) (eN:N.l=List.replicate B.p.g.slots 0) (okk:MkOk k B.p) (knil:MkNil k B.p) (kact:k.act=false) (kf:k.c.f=1) (kb:k.bb=B.b) (kt:k.tb=T.b) (kn:k.nb=N.b) (kh:k.hs.length=nw+1) (kl:k.g.ring.length=long)
  (oks:SpOk sp B.p.g.slots) (e1:sp.ab=a.b) (e2:sp.bb=B.b) (e3:sp.mb=k.b) (e4:sp.at_=0) (e5:sp.act=false) (e6:sp.d.bs=List.replicate B.p.g.slots false):
  CyNew g long caps nw gens t B.m ⟨b,B,a,T,N,k,sp,nw,0,0⟩:=by
 subst hpg;refine⟨⟨⟨⟨okB,okT,okN,eT,eN,kb,kt,kn,newC_w⟩,okk,nil_R knil (by grind) kact kh,oka,hA,oks,e5,e4,e6,e1,e2,e3,rfl,rfl,kh⟩,rfl,kl,newC_ok hl hnw,newC_le okg hc⟩,rfl,ht,eG,rfl,kf⟩
set_option maxHeartbeats 4000000 in
theorem cyNew_K {w0:World} {F:jb} {c:Cfg} {vc vt:Value} {t:Nat} {m:Ju} {tn:Tn} (hG:ji w0) (hR:Jc w0 F c vc vt) (hc:jz c=true) (ht0:c.tn[t]?=some tn) (okm:jak m) (hm:m.R[t]?=some (List.replicate (gOf c t).words 0)):
  Call Tryz.prog w0 82 [jr c vc vt, .int .i64 (t:Nat), .pointer (some ⟨m.b,0,none⟩)] (jy m++F)
   (fun r H'=> ∃ y,CyNew (gOf c t) c.grey.toNat tn.caps.toNat c.workers.toNat c.gens t m y∧r= .tuple [.pointer (some ⟨y.b,0,none⟩), .int .i64 0].toArray∧H'=cycH y++F):=by
 have hcfg:=Jf hc
 have hten:=hcfg.ten tn (List.mem_of_getElem? ht0)
 have htl:=jv ht0
 have ht:JB c t 0=true:=jcH (i:=t) (j:=0) hc htl (by have:=hcfg.cl;omega)
 have ga:=g_at ht
 have okg:=ga.ok
 have hreg:ja4 c (t:Nat)=((((gOf c t).words:Nat):Int),0):=ga.region
 have hwk:=hcfg.workers
 have hgy:=hcfg.grey
 have hgn:=hcfg.gens
 have hrg:=fun A (hp:Part A F)=>jlT (t:=(t:Nat)) (hR.part hp)
 have hpn:=fun A (hp:Part A F)=>pNew_K (t:=(t:Nat)) (hR.part hp) ht
 simp only[hreg] at hrg
 obtain⟨g,hg⟩: ∃ g,g=gOf c t:=⟨_,rfl⟩
 simp only[←hg] at hpn okg hm hrg⊢
 have hall:=fun A=>All_K (w0:=w0) (F:=A) okm
 have hne:m.R.flatten.length≠0:=by
  have h1:=jdJ hm
  have h2:=okg.slots
  obtain⟨y0,hy0⟩:=j9 (g:=g) (i:=0) (by omega)
  have:=okg.fits hy0
  have h3:(List.replicate g.words (0:Int)).length=g.words:=List.length_replicate ..
  intro e
  have h4:m.R.flatten=[]:=List.length_eq_zero_iff.1 e
  have h5:=List.flatten_eq_nil_iff.1 h4 _ (List.mem_of_getElem? hm)
  rw[h5] at h3
  simp at h3;omega
 clear hg ga hreg
 obtain⟨hS,hT,o1,o2,l1,l2⟩:=hR
 obtain⟨cl,page,tns,workers,grey,gens⟩:=c
 obtain⟨x1,x2,x3,x4⟩:=tn
 dsimp only at hS hT l1 l2 ht0 hten hwk hgy hgn htl⊢
 obtain⟨caps,rfl⟩: ∃ caps:Nat,x3=caps:=⟨x3.toNat,by omega⟩
 obtain⟨nw,rfl⟩: ∃ nw:Nat,workers=nw:=⟨workers.toNat,by omega⟩
 obtain⟨long,rfl⟩: ∃ long:Nat,grey=long:=⟨grey.toNat,by omega⟩
 simp only[Int.toNat_natCast];simp only[jr,jG,prV] at hrg hpn⊢
 have hslots:=okg.slots
 refine Call.enter3 (n:=143) (by kernel_rfl) Tryz.func82 rfl rfl rfl ?_;refine zes ?_;intro b3;refine zad ?_;refine zu fun T hT=>?_;refine(CallV.part (CallV.fn (hall _)) ja).mono ?_;rintro _ _ ⟨oa,oka,rfl,rfl⟩
 obtain⟨ob,rfl⟩: ∃ ob,oa=some ob:=by
  cases oa with
  |none=>exact absurd (congrArg List.length oka) hne
  |some ob=>exact⟨ob,rfl⟩
 refine ze ?_;clear hT T;refine zgO ?_;refine za6 ?_;refine zg8 ?_;refine jp (hrg _ ja) ?_;refine zY ?_;refine zbR ?_;refine zK ?_;refine zby ?_;refine zci ?_;intro b27;refine zap ?_;refine zg8 ?_;refine JY (hpn _ ja) ?_;rintro _ _ ⟨p,okp,hpg,rfl,rfl⟩;refine zbF ?_;refine zS ?_;refine zdY ?_;refine zeD ?_;refine zb6 ?_;refine zN ?_;refine zp ?_;refine jB (bNew_K (t:=t) (x:=List.replicate g.words 0) okm hm okp (by rw[hpg,List.length_replicate]) (jac.rep _)) ja ?_;rintro _ _ ⟨B,okB,rfl,hBt,rfl,rfl,rfl⟩;refine zbF ?_;refine zS ?_;refine zaz ?_;refine zaq ?_;refine zbR ?_;refine zK ?_;refine zb6 ?_;refine zN ?_;refine zp ?_;refine jB (aNew_K okp) ja ?_;rintro _ _ ⟨a,oka2,habs,rfl,rfl⟩;refine zbF ?_;refine zS ?_;refine zdQ ?_;refine zaq ?_;refine zi2 ?_;refine K.drawn _ [(0,1),(1,0),(2,0),(3,0),(4,0),(5,0),(6,0),(7,0),(8,0),(9,2),(10,0),(11,0),(12,1),(13,0),(14,0),(15,2)] (by kernel_rfl) (by kernel_rfl) (by kernel_rfl) (by kernel_rfl) (by kernel_rfl) (by kernel_rfl) (Part.drop Part.all) ?_;refine zP ?_;refine znC ?_;refine zo ?_;refine zfB ?_;refine zor ?_;refine zi3 ?_;refine zfI ?_;refine zan ?_;refine zk fun T hT=>?_;refine(CallV.fn (tbNew_K (n:=caps) (gens:=gens) (by omega) hgn)).mono ?_;rintro _ _ ⟨tb,oktb,htbl,htbg,rfl,rfl⟩;refine zi ?_;clear hT T;refine zlf ?_;refine zhJ ?_;refine zr8 ?_;refine zcl ?_;refine zV ?_;refine zb6 ?_;refine zN ?_;refine zp ?_;refine zfG ?_;refine zp ?_;refine JY (piNew_K (n:=B.p.g.slots) (by rw[hpg];omega)) ?_;rintro _ _ ⟨pi,okpi,hpil,rfl,rfl⟩;refine zbF ?_;refine zS ?_;refine zds ?_;refine zaq ?_;refine zi2 ?_;refine K.drawn _ [(0,1),(1,0),(2,0),(3,0),(4,0),(5,0),(6,0),(7,0),(8,0),(9,0),(10,0),(11,0),(12,0),(13,0),(14,0),(15,0),(16,0),(17,0),(18,0),(19,0),(20,0),(21,2),(22,0),(23,0),(24,1),(25,0),(26,0),(27,2)] (by kernel_rfl) (by kernel_rfl) (by kernel_rfl) (by kernel_rfl) (by kernel_rfl) (by kernel_rfl) (Part.drop Part.all) ?_;refine zP ?_;refine zgA ?_;refine zcT ?_;refine zgD ?_;refine zaW ?_;refine zd7 ?_;refine znF ?_;refine zd7 ?_;refine zk fun T hT=>?_;refine(CallV.part (CallV.fn (mkNew_K (nw:=nw) (long:=long) hG okB oktb okpi (by rw[hpil,List.length_replicate]) (by omega) (by omega))) ja).mono ?_;rintro _ _ ⟨k,okk,hkn,hka,hkf,hkb,hkt,hkp,hkh,hkr,rfl,rfl⟩;refine zi ?_;clear hT T;refine zlf ?_;refine zhJ ?_;refine zfI ?_;refine zcl ?_;refine zbC ?_;refine K.drawn _ [(0,1),(1,0),(2,0),(3,0),(4,0),(5,0),(6,0),(7,0),(8,0),(9,0),(10,0),(11,0),(12,0),(13,0),(14,0),(15,0),(16,0),(17,2),(18,0),(19,0),(20,1),(21,0),(22,0),(23,2),(24,0)] (by kernel_rfl) (by kernel_rfl) (by kernel_rfl) (by kernel_rfl) (by kernel_rfl) (by kernel_rfl) (Part.drop Part.all) ?_;refine zP ?_;refine zcT ?_;refine zgE ?_;refine zgA ?_;refine zaW ?_;refine zfI ?_;refine zan ?_;refine zk fun T hT=>?_;refine(CallV.part (CallV.fn (spNew_K hG oka2 okB okk)) ja).mono ?_;rintro _ _ ⟨sp,oks,e1,e2,e3,e4,e5,e6,rfl,rfl⟩;refine zi ?_;clear hT T;refine zlf ?_;refine zhJ ?_;refine KD.v0 rfl rfl (Val.fieldAddr0 (k:=6) rfl rfl) ?_;refine zkt ?_;refine zcp ?_;refine zcv ?_;refine zV ?_;refine zB ?_;refine zab ?_
 have hrel:=cynew_rel (b:=b27) okg hpg okB hBt (by omega) (by omega) (by omega) oka2 habs oktb htbl htbg okpi hpil okk hkn hka hkf hkb hkt hkp hkh hkr oks e1 e2 e3 e4 e5 e6
 exact KE.fin (H':=cycH ⟨b27,B,a,tb,pi,k,sp,nw,0,0⟩++F) je rfl jd (by simp only[cycH_app];exact ja) ⟨_,hrel,rfl,rfl⟩
open Go.RowKit
set_option maxRecDepth 10000
section
variable {w0 : World} {F : jb} {y : CyM} {s : CyP} {g : PlG} {long : Nat}
theorem jw.words (h:jw g long s) {x':List Int} (hw:jad g {s.W with x:=x'}) (hr:jbA g x') (hf: ∀ t:Nat,t<g.slots→0<refsN s.W.x (jA g (t:Nat))→refsN x' (jA g (t:Nat))=refsN s.W.x (jA g (t:Nat))):jw g long {s with W:={s.W with x:=x'}}:=
 ⟨⟨hw,hr,h.m.world rfl hf,h.i,h.A,h.D,h.p0,h.p1,h.p2,h.p3,h.ph,h.dn⟩,h.lt,fun e=>(jhT rfl).trans (h.go e)⟩
theorem CpR.putx {x':List Int} (h:CpR g long y s) (hw:jad g {s.W with x:=x'}) (hi:jw g long {s with W:={s.W with x:=x'}}):CpR g long {y with B:=jbK y.B x'} {s with W:={s.W with x:=x'}}:=
 ⟨⟨⟨setB_ok h.p.bo (by rw[hw.x,h.p.w.x,h.eg]) hw.w,h.p.tb,h.p.pi,h.p.eT,h.p.eN,h.p.bb,h.p.tbb,h.p.nb,by show jad y.B.p.g _;rw [h.eg];omega⟩,h.ok,h.R,h.oka,h.A,h.oks,h.sa,h.at_,h.D,h.ab,h.bb,h.mb,h.ph,h.st,h.nw⟩,h.eg,h.el,hi,h.le.world rfl⟩
theorem CpR.tab {T':TbM} {l':List jl} (h:CpR g long y s) (ok:TbOk T') (eb:T'.b=y.T.b) (el:T'.l=l') (hl:l'.length=s.W.T.length) (hi:jw g long {s with W:={s.W with T:=l'}}):CpR g long {y with T:=T'} {s with W:={s.W with T:=l'}}:=
 ⟨⟨⟨h.p.bo,ok,h.p.pi,el,h.p.eN,h.p.bb,h.p.tbb.trans eb.symm,h.p.nb,by rw[h.eg];exact hi.w⟩,h.ok,h.R,h.oka,h.A,h.oks,h.sa,h.at_,h.D,h.ab,h.bb,h.mb,h.ph,h.st,h.nw⟩,h.eg,h.el,hi,h.le.world hl⟩
theorem CpR.pin {N':PiM} {l':List Int} (h:CpR g long y s) (ok:PiOk N') (eb:N'.b=y.N.b) (el:N'.l=l') (hi:jw g long {s with W:={s.W with N:=l'}}):CpR g long {y with N:=N'} {s with W:={s.W with N:=l'}}:=
 ⟨⟨⟨h.p.bo,h.p.tb,ok,h.p.eT,el,h.p.bb,h.p.tbb,h.p.nb.trans eb.symm,by rw[h.eg];exact hi.w⟩,h.ok,h.R,h.oka,h.A,h.oks,h.sa,h.at_,h.D,h.ab,h.bb,h.mb,h.ph,h.st,h.nw⟩,h.eg,h.el,hi,h.le.world rfl⟩
theorem CpR.take {a':ArM} {A':List Bool} (h:CpR g long y s) (ok:jaE a' y.B.p) (eb:a'.b=y.a.b) (eA:a'.r.bs=A') (hl:A'.length=s.A.length):CpR g long {y with a:=a'} {s with A:=A'}:=
 ⟨⟨h.p,h.ok,h.R,ok,eA,h.oks,h.sa,h.at_,h.D,h.ab.trans eb.symm,h.bb,h.mb,h.ph,h.st,h.nw⟩,h.eg,h.el,h.i.take hl,⟨h.le.m,h.le.s⟩⟩
theorem J0.words {x':List Int}:J0 y {y with B:=jbK y.B x'} x' 0:=⟨rfl,rfl,rfl,rfl,rfl,rfl,⟨rfl,rfl,rfl,rfl,rfl,rfl⟩,rfl,rfl,rfl⟩
theorem takeP_len {A:List Bool} {k:Int}:(takeP g A k).2.2.length=A.length:=by
 grind[takeP,hi]
theorem cTake_K {k:Int} (hG:ji w0) (h:CpR g long y s):Call Tryz.prog w0 195 [.pointer (some ⟨y.a.b,0,none⟩), .int .i64 k] (cycH y++F)
  (fun r H'=>r= .tuple [.int .i64 (takeP g s.A k).1, .int .i64 (takeP g s.A k).2.1].toArray∧CyQ g long y 0 F {s with A:=(takeP g s.A k).2.2} H'):=by
 have hc:=fun A=>Take_K (w0:=w0) (F:=A) (k:=k) hG h.oka
 rw[h.A,h.eg] at hc;refine zh0 ?_;rintro _ _ ⟨rfl,a',ka,ab,arb,abs,rfl⟩;exact⟨_,⟨rfl,_,h.take ka ab abs takeP_len,⟨rfl,(jcn h.p.bo).symm,ab,rfl,rfl,rfl,⟨rfl,rfl,rfl,rfl,rfl,rfl⟩,rfl,rfl,rfl⟩,rfl⟩,by simp only[cycH_app,ab];exact ja⟩
theorem cMint_K {n:Nat} (h:CpR g long y s) (hn:n<g.slots):Call Tryz.prog w0 258 [.pointer (some ⟨y.T.b,0,none⟩), .int .i64 (n:Nat)] (cycH y++F)
  (fun r H'=>r= .tuple [.int .i64 (jbd s.W.T).1, .int .u32 (jbd s.W.T).2.1, .int .i64 (jbd s.W.T).2.2].toArray∧CyQ g long y 0 F {s with W:={s.W with T:=jH s.W.T (n:Nat)}} H'):=by
 have okg:=h.okg
 have hsl:=okg.slots
 have hc:=fun A=>tbMint_K (w0:=w0) (F:=A) (s:=n) h.p.tb (by omega)
 rw[h.p.eT] at hc
 have hi:jw g long {s with W:={s.W with T:=jH s.W.T (n:Nat)}}:=by
  have:=h.i.world okg (a:=⟨4,(n:Nat),0,0,0,0⟩)
  rwa[jeB ⟨by omega,by omega⟩] at this
 refine zh0 ?_;rintro _ _ ⟨T',kT,eb,eG,el,rfl,rfl⟩;exact⟨_,⟨rfl,_,h.tab kT eb el jcG hi,⟨rfl,(jcn h.p.bo).symm,rfl,eb,eG,rfl,⟨rfl,rfl,rfl,rfl,rfl,rfl⟩,rfl,rfl,rfl⟩,rfl⟩,by simp only[cycH_app,eb];exact ja⟩
theorem cDrop_K {i:Nat} {e:jl} (h:CpR g long y s) (he:s.W.T[i]?=some e) (h1:e.st=1):Call Tryz.prog w0 211 [.pointer (some ⟨y.T.b,0,none⟩), .int .i64 (i:Nat), .int .u32 e.gen] (cycH y++F)
  (fun r H'=>r= .tuple [.int .i64 e.slot, .int .i64 0].toArray∧CyQ g long y 0 F {s with W:={s.W with T:=Jk s.W.T (i:Nat)}} H'):=by
 have okg:=h.okg
 have he':y.T.l[i]?=some e:=by rw[h.p.eT];omega
 have hc:=fun A=>tbDrop_K (w0:=w0) (F:=A) h.p.tb he' h1
 have hb:=h.p.tb.e e (List.mem_of_getElem? he')
 have hd:Jk s.W.T (i:Nat)=s.W.T.set i ⟨2,e.slot,e.gen⟩:=by
  grind[Jk]
 have hi:jw g long {s with W:={s.W with T:=Jk s.W.T (i:Nat)}}:=by
  have:=h.i.world okg (a:=⟨5,0,(i:Nat),0,0,0⟩)
  grind[jfU]
 refine zh0 ?_;rintro _ _ ⟨rfl,rfl⟩;exact⟨_,⟨rfl,_,h.tab (T':=⟨y.T.b,y.T.l.set i ⟨2,e.slot,e.gen⟩,y.T.gens,y.T.o⟩) (jfy h.p.tb (by grind)) rfl (by rw[hd,h.p.eT]) jfd hi,⟨rfl,(jcn h.p.bo).symm,rfl,rfl,rfl,rfl,⟨rfl,rfl,rfl,rfl,rfl,rfl⟩,rfl,rfl,rfl⟩,rfl⟩,by simp only[cycH_app];exact ja⟩
theorem cMake_K {n:Nat} {z:jq} {hd:HdP} (hG:ji w0) (h:CpR g long y s) (hz:g.L[n]?=some z):Call Tryz.prog w0 197 [.pointer (some ⟨y.B.b,0,none⟩), .int .i64 (n:Nat),hdV hd] (cycH y++F)
  (fun r H'=>r= .int .i64 (makeP s.W.x z hd).1∧CyQ g long y 0 F {s with W:={s.W with x:=(makeP s.W.x z hd).2}} H'):=by
 have okg:=h.okg
 have hc:=fun A=>Make_K (w0:=w0) (F:=A) (h:=hd) hG h.p.bo (s:=n) (by rw[h.eg];exact hz)
 have hf:=okg.fits hz
 have hw:jad g {s.W with x:=(makeP s.W.x z hd).2}:=⟨by show(makeP s.W.x z hd).2.length=_;rw [jiG (by rw[h.i.w.x];omega)];exact h.i.w.x,jjd h.i.w.w,h.i.w.N,h.i.w.n,h.i.w.t⟩
 have hi:=h.i.words hw (jjc okg h.i.w.x h.i.rf hz hd) fun t ht hp=>jib okg h.i.w.x hz hd ht hp
 refine zh0 ?_;rintro _ _ ⟨rfl,rfl⟩;exact⟨_,⟨rfl,_,h.putx hw hi,J0.words,rfl⟩,by simp only[cycH_app,jho];exact ja⟩
theorem cSetRef_K {n:Nat} {z:jq} {i to:Int} (hG:ji w0) (h:CpR g long y s) (hz:g.L[n]?=some z):Call Tryz.prog w0 206 [.pointer (some ⟨y.B.b,0,none⟩), .int .i64 (n:Nat), .int .i64 i, .int .i64 to] (cycH y++F)
  (fun r H'=>r= .int .i64 (Jy s.W.x g.slots z i to).1∧CyQ g long y 0 F {s with W:={s.W with x:=(Jy s.W.x g.slots z i to).2}} H'):=by
 have okg:=h.okg
 have hsl:=okg.slots
 have hc:=fun A=>bSetRef_K (w0:=w0) (F:=A) (i:=i) (to:=to) hG h.p.bo (s:=n) (by rw[h.eg];exact hz)
 rw[h.eg] at hc
 have hw:jad g {s.W with x:=(Jy s.W.x g.slots z i to).2}:=⟨by show(Jy s.W.x _ z i to).2.length=_;rw [jjN];exact h.i.w.x,jj9 h.i.w.w (by omega),h.i.w.N,h.i.w.n,h.i.w.t⟩
 have hi:=h.i.words hw (set_rf okg h.i.w.x h.i.rf hz) fun t ht hp=>jk5 okg hz ht
 refine zh0 ?_;rintro _ _ ⟨rfl,rfl⟩;exact⟨_,⟨rfl,_,h.putx hw hi,J0.words,rfl⟩,by simp only[cycH_app,jho];exact ja⟩
end
end Go.Proofs.YtebiafomiemgbaaGreatDoor.Sw
